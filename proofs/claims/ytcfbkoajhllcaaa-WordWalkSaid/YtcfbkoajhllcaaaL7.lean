/-
  WordWalk: the beginnings gathered; the statement.
-/
import Derived.Test.YtcfbkoajhllcaaaL6
set_option linter.unusedVariables false
set_option linter.unusedSimpArgs false
namespace Go.Ink
open Go Go.Proofs

/-- What holds at the head: those gathered; all places; they lie apart. -/
structure WwI (W : World) (l : List (List Int)) (f : Ps → Bool) (ap : Addr) (s : Nat × Option Addr × Nat) (b : World) : Prop where
  og : Og kPs W b (MK []) (fun _ => False) (.slice s.2.1 (wnt f (pl l) (s.1 - 1)).length s.2.2) (wnt f (pl l) (s.1 - 1))
  ld : ∀ u q, (pl l)[u]? = some q → ∀ j z, [Value.int .i64 q.1, .int .i64 q.2][j]? = some z → b.cell? ((ap.add (u * 2)).add j) = some z
  ne : ∀ k, (Value.slice s.2.1 (wnt f (pl l) (s.1 - 1)).length s.2.2).ownBlock = some k → k ≠ ap.block
  lt : ap.block < b.heap.size
theorem WwI.move {W b w : World} {S K : Nat → Prop} {M : Mm} {l : List (List Int)} {f : Ps → Bool} {ap : Addr} {s : Nat × Option Addr × Nat} (h : WwI W l f ap s b) (hw : Lw W S b K M w) (hK : ¬ K ap.block) (hO : ∀ k, (Value.slice s.2.1 (wnt f (pl l) (s.1 - 1)).length s.2.2).ownBlock = some k → ¬ K k) : WwI W l f ap s w := by
  refine ⟨?_, fun u q hq j z hz => hw.cellB (h.ld u q hq j z hz) (by rw [add_block, add_block]; exact hK), h.ne, by have := hw.kp.size; have := h.lt; omega⟩
  obtain ⟨cells, h1, h2, h3⟩ := h.og
  refine ⟨cells, h1.sc, h2, h3.imp id ?_⟩
  rintro ⟨g, o, cap, cur, e, e1, hg, hh, h4⟩
  exact ⟨g, o, cap, cur, e, e1, hg, hw.kp.blk hh (hO g (by rw [e1]; rfl)), h4⟩
section
variable {W B0 : World} {l : List (List Int)} {A Ap : Option Addr} {c cp : Nat} {ad ap : Addr} {rV : Nat → Option Addr} {rc : Nat → Nat} {ra : Nat → Addr} {big : Bool} {kk : List Item} {R : Value → World → Prop}
set_option maxHeartbeats 8000000 in
theorem ww_collect (hR : Rws (fun _ => True) W A c l ad rV rc ra) (h0 : l ≠ []) (hAp : Ap = some ap) (hn : (pl l).length ≤ 4000) (hP0 : ∀ w, Lw W (fun _ => False) B0 (MK []) [] w → WwI W l (edgeM l big (-1)) ap (1, none, 0) w) (hat : ∀ q, At l q → P64 q)
    (done : ∀ b Aw cw, WwI W l (edgeM l big (-1)) ap ((pl l).length, Aw, cw) b → ∀ σ', SubB σ' [(0, .slice A l.length c), (1, .bool big), (5, .slice Aw (wnt (edgeM l big (-1)) (pl l) ((pl l).length - 1)).length cw)] → ∀ M', WL Try.prog Try.f4 kk σ' W (fun _ => False) b (MK []) M' R) :
    ∀ σ', SubB σ' [(0, .slice A l.length c), (1, .bool big), (5, .slice none 0 0), (6, .slice Ap (pl l).length cp), (7, .int .i64 (1 : Nat))] → ∀ M',
      WL Try.prog Try.f4 (.code (.loop (bodyC Try.f4 [1, 1, 1, 1, 0, 1, 0, 0])) :: .inBlock 0 :: kk) σ' W (fun _ => False) B0 (MK []) M' R := by
  intro σ' hs M'
  refine WL.sub hs .nil ?_
  have hlp := (lastM_get h0).2
  have hmv : ∀ w', Kn W w' → ∃ ad' rV' rc' ra', Rws (fun _ => True) w' A c l ad' rV' rc' ra' := fun w' hw => by
    obtain ⟨A', c', ad', rV', rc', ra', he, hR'⟩ := (Kn.sl hw hR.sl).rws
    cases he
    exact ⟨_, _, _, _, hR'⟩
  refine l_whileB (fun s : Nat × Option Addr × Nat => (pl l).length - s.1) (fun s => [(0, .slice A l.length c), (1, .bool big), (5, .slice s.2.1 (wnt (edgeM l big (-1)) (pl l) (s.1 - 1)).length s.2.2), (6, .slice Ap (pl l).length cp), (7, .int .i64 (s.1 : Int))]) (fun _ => [])
    (fun s b => (1 ≤ s.1 ∧ s.1 ≤ (pl l).length) ∧ WwI W l (edgeM l big (-1)) ap s b) (1, none, 0) (by repeat (first | exact SubB.nil | refine SubB.cons rfl ?_)) (by repeat(first|exact MSub.refl|refine MSub.keep rfl ?_|exact MSub.nil|apply MSub.drop)) (fun w hw => ⟨⟨Nat.le_refl _, hlp⟩, hP0 w hw⟩) ?_
  rintro ⟨i, Aw, cw⟩ b ⟨⟨hi1, hi2⟩, hI⟩ hkb ih
  simp only at hi1 hi2
  by_cases hlt : i < (pl l).length
  · obtain ⟨q, hq⟩ : ∃ q, (pl l)[i]? = some q := ⟨_, List.getElem?_eq_getElem hlt⟩
    have hqd : (pl l).getD i (0, 0) = q := by rw [List.getD_eq_getElem?_getD, hq]; rfl
    have hqa := get_at hq
    have hqp := hat q hqa
    have hP1 : ∀ {p : Prop}, (p → Ap = some ap ∧ True) := fun _ => ⟨hAp, trivial⟩
    have hP2 := hI.ld
    have hnk : ∀ {p : Prop}, p → ∀ j, ¬ MK [] (ap.add j).block := fun _ _ => mk_nil
    have hwl := wnt_len (f := edgeM l big (-1)) (P := pl l) (i - 1)
    have hws : wnt (edgeM l big (-1)) (pl l) i = wnt (edgeM l big (-1)) (pl l) (i - 1) ++ if edgeM l big (-1) q = true then [q] else [] := by
      obtain ⟨i, rfl⟩ : ∃ t, i = t + 1 := ⟨i - 1, by omega⟩
      rw [wnt_succ, Nat.add_sub_cancel, hqd]
    repeat(first|refine lrun_ ?_|(refine lo_boxA rfl rfl ?_;intro _ _ _)|(refine lo_box1 rfl rfl rfl ?_;intro _ _ _)|(refine lo_alloc rfl ?_;intro _ _ _))
    refine l_yes rfl (by omega) ?_
    repeat(first|refine lrun_ ?_|(refine lo_boxA rfl rfl ?_;intro _ _ _)|(refine lo_box1 rfl rfl rfl ?_;intro _ _ _)|(refine lo_alloc rfl ?_;intro _ _ _))
    refine lo_call (n_call rfl) rfl (fun w hw => by obtain ⟨_, _, _, _, hR'⟩ := hmv w hw.org; exact begins_calls (big := big) hR' hqa) ?_
    cases hb : edgeM l big (-1) q with
    | false =>
      rw [hb] at hws
      simp only [Bool.false_eq_true, if_false, List.append_nil] at hws
      have hI' : WwI W l (edgeM l big (-1)) ap (i + 1, Aw, cw) b := ⟨by simpa only [Nat.add_sub_cancel, hws] using hI.og, hI.ld, by simpa only [Nat.add_sub_cancel, hws] using hI.ne, hI.lt⟩
      repeat(first|refine lrun_ ?_|(refine lo_boxA rfl rfl ?_;intro _ _ _)|(refine lo_box1 rfl rfl rfl ?_;intro _ _ _)|(refine lo_alloc rfl ?_;intro _ _ _))
      refine l_false rfl ?_
      repeat(first|refine lrun_ ?_|(refine lo_boxA rfl rfl ?_;intro _ _ _)|(refine lo_box1 rfl rfl rfl ?_;intro _ _ _)|(refine lo_alloc rfl ?_;intro _ _ _))
      exact ih (i + 1, Aw, cw) b _ ⟨⟨by simp only; omega, hlt⟩, hI'⟩ (by simp only; omega) _ _ (by simp only [Nat.add_sub_cancel]; rw [hws]; exact (by repeat (first | exact SubB.nil | refine SubB.cons rfl ?_))) .nil (fun w' hw' => ⟨⟨by simp only; omega, hlt⟩, hI'.move hw' mk_nil fun _ _ => mk_nil⟩)
    | true =>
      rw [hb] at hws
      simp only [if_true] at hws
      repeat(first|refine lrun_ ?_|(refine lo_boxA rfl rfl ?_;intro _ _ _)|(refine lo_box1 rfl rfl rfl ?_;intro _ _ _)|(refine lo_alloc rfl ?_;intro _ _ _))
      refine l_true rfl ?_
      repeat(first|refine lrun_ ?_|(refine lo_boxA rfl rfl ?_;intro _ _ _)|(refine lo_box1 rfl rfl rfl ?_;intro _ _ _)|(refine lo_alloc rfl ?_;intro _ _ _))
      refine lo_lit (cs := [.int .i64 q.1, .int .i64 q.2]) rfl (by decide) (by kernel_rfl) rfl ?_
      intro g _ hg
      refine lo_appendS (d := kPs) (ys := [q]) (F2 := fun k => k = g) rfl rfl hI.og (fun w hw => sl_blk (d := kPs) (xs := [q]) (cells := [.int .i64 q.1, .int .i64 q.2]) (hw.mem g _ (by(repeat(first|exact MIn.hd|refine MIn.tl ?_));done)) ⟨_, [], rfl, ps_R hqp.1 hqp.2, rfl⟩ rfl (show 1 * 16 ≤ 140737488355328 by decide))
        (fun k hk ho => by have := (hI.og.block k ho).2; omega) (by show ((wnt (edgeM l big (-1)) (pl l) (i - 1)).length + 1) * 16 ≤ 140737488355328; omega) rfl rfl rfl rfl ?_
      intro w A' n' w' hw hk1 hk2 hown hog
      have hna : ap.block ≠ g := by have := hI.lt; omega
      have hI' : WwI W l (edgeM l big (-1)) ap (i + 1, A', n') w' := by
        have hne : ∀ k, (Value.slice A' (wnt (edgeM l big (-1)) (pl l) (i + 1 - 1)).length n').ownBlock = some k → k ≠ ap.block := fun k hk => by
          rw [Nat.add_sub_cancel, hws] at hk
          rcases hown k hk with h1 | h1
          · exact hI.ne k h1
          · have := hI.lt; omega
        refine ⟨?_, fun u q' hq' j z hz => hk2.cell (hI.ld u q' hq' j z hz) ?_, hne, ?_⟩
        · simp only [Nat.add_sub_cancel, hws]
          exact hog.mono (fun k hk _ => ⟨hk.1, mk_nil⟩) fun k hk _ => hk
        · rintro (h1 | h1)
          · exact mk_nil h1
          · rw [add_block, add_block] at h1; exact hI.ne _ h1 rfl
        · have := hk2.size; have := hI.lt; omega
      have hnM : ∀ k, MK [(g, cb [.int .i64 q.1, .int .i64 q.2] 24)] k → k = g := fun k ⟨o, hm⟩ => by
        cases hm with
        | hd => rfl
        | tl h => cases h
      repeat(first|refine lrun_ ?_|(refine lo_boxA rfl rfl ?_;intro _ _ _)|(refine lo_box1 rfl rfl rfl ?_;intro _ _ _)|(refine lo_alloc rfl ?_;intro _ _ _))
      refine ih (i + 1, A', n') w' _ ⟨⟨by simp only; omega, hlt⟩, hI'⟩ (by simp only; omega) _ _ (by simp only [Nat.add_sub_cancel]; rw [hws]; exact (by repeat (first | exact SubB.nil | refine SubB.cons rfl ?_))) .nil (fun w'' hw'' => ⟨⟨by simp only; omega, hlt⟩, hI'.move hw'' (fun h => hna (hnM _ h)) fun k hk h => ?_⟩)
      have h1 := hnM k h
      subst h1
      have h2 := hog.block k (by simpa only [Nat.add_sub_cancel, hws] using hk)
      exact h2.1.2 h
  · obtain rfl : i = (pl l).length := by omega
    repeat(first|refine lrun_ ?_|(refine lo_boxA rfl rfl ?_;intro _ _ _)|(refine lo_box1 rfl rfl rfl ?_;intro _ _ _)|(refine lo_alloc rfl ?_;intro _ _ _))
    refine l_no rfl (by omega) ?_
    refine l_go (.exit rfl) ?_
    exact done b Aw cw hI _ (by repeat (first | exact SubB.nil | refine SubB.cons rfl ?_)) _
end
theorem cell_lt {w : World} {p : Addr} {v : Value} (h : w.cell? p = some v) : p.block < w.heap.size := by
  refine Nat.not_le.1 fun hle => ?_
  have e : w.heap[p.block]? = none := Array.getElem?_eq_none hle
  unfold World.cell? at h
  rw [e] at h
  cases h
set_option maxHeartbeats 8000000 in
theorem law_WordWalk {W : World} {u : Value} {l : List (List Int)} (h : Sl kRow (fun _ => True) W u l) (big : Bool) :
    CallsR Try.prog 4 #[u, .bool big] W fun r w' => r = .bool true ∧ Kn W w' := by
  obtain ⟨A, c, ad, rV, rc, ra, rfl, hR⟩ := h.rws
  have hlen := hR.len
  refine l_enter (fun _ => False) Try.func4 rfl rfl ?_
  repeat(first|refine lrun_ ?_|(refine lo_boxA rfl rfl ?_;intro _ _ _)|(refine lo_box1 rfl rfl rfl ?_;intro _ _ _)|(refine lo_alloc rfl ?_;intro _ _ _))
  refine lo_callP (n_call rfl) rfl (fun w hw => small_calls (Kn.sl hw.org h)) ?_
  cases hs : smallM l with
  | false =>
    repeat(first|refine lrun_ ?_|(refine lo_boxA rfl rfl ?_;intro _ _ _)|(refine lo_box1 rfl rfl rfl ?_;intro _ _ _)|(refine lo_alloc rfl ?_;intro _ _ _))
    refine l_true rfl ?_
    repeat(first|refine lrun_ ?_|(refine lo_boxA rfl rfl ?_;intro _ _ _)|(refine lo_box1 rfl rfl rfl ?_;intro _ _ _)|(refine lo_alloc rfl ?_;intro _ _ _))
    refine lo_call (n_call rfl) rfl (fun w hw => awake_calls) ?_
    repeat(first|refine lrun_ ?_|(refine lo_boxA rfl rfl ?_;intro _ _ _)|(refine lo_box1 rfl rfl rfl ?_;intro _ _ _)|(refine lo_alloc rfl ?_;intro _ _ _))
    exact l_ret1 rfl rfl fun w hw => ⟨rfl, hw.org⟩
  | true =>
    have hs0 := small_room hs
    by_cases hl0 : l = []
    · have e : l.length = 0 := by rw [hl0]; rfl
      repeat(first|refine lrun_ ?_|(refine lo_boxA rfl rfl ?_;intro _ _ _)|(refine lo_box1 rfl rfl rfl ?_;intro _ _ _)|(refine lo_alloc rfl ?_;intro _ _ _))
      refine l_yes rfl (by omega) ?_
      repeat(first|refine lrun_ ?_|(refine lo_boxA rfl rfl ?_;intro _ _ _)|(refine lo_box1 rfl rfl rfl ?_;intro _ _ _)|(refine lo_alloc rfl ?_;intro _ _ _))
      refine lo_call (n_call rfl) rfl (fun w hw => awake_calls) ?_
      repeat(first|refine lrun_ ?_|(refine lo_boxA rfl rfl ?_;intro _ _ _)|(refine lo_box1 rfl rfl rfl ?_;intro _ _ _)|(refine lo_alloc rfl ?_;intro _ _ _))
      exact l_ret1 rfl rfl fun w hw => ⟨rfl, hw.org⟩
    have hll := List.length_pos_iff.2 hl0
    have hat : ∀ q, At l q → P64 q := fun q hq => at_P64 hlen hR.rl hq
    have hn : (pl l).length ≤ 4000 := by
      have := placesTo_le (l := l) l.length (Nat.le_refl _)
      rw [List.take_length] at this
      unfold pl
      omega
    have hlp := (lastM_get hl0).2
    repeat(first|refine lrun_ ?_|(refine lo_boxA rfl rfl ?_;intro _ _ _)|(refine lo_box1 rfl rfl rfl ?_;intro _ _ _)|(refine lo_alloc rfl ?_;intro _ _ _))
    refine l_no rfl (by omega) ?_
    repeat(first|refine lrun_ ?_|(refine lo_boxA rfl rfl ?_;intro _ _ _)|(refine lo_box1 rfl rfl rfl ?_;intro _ _ _)|(refine lo_alloc rfl ?_;intro _ _ _))
    refine lo_callM (n_call rfl) rfl (fun w hw => places_calls (Kn.sl hw.org h) hs0) ?_
    rintro w0 _ w1 hw0 kn1 kp1 ⟨Ap, cp, rfl, hO⟩
    obtain ⟨ap, hp1, hp2⟩ := pss hO (fun _ h => h)
    obtain ⟨hAp, -⟩ := hp1 hlp
    have hlt1 : ap.block < w1.heap.size := by
      have := cell_lt (hp2 0 (0, 0) (first_get hl0) 0 _ rfl)
      rwa [add_block, add_block] at this
    repeat(first|refine lrun_ ?_|(refine lo_boxA rfl rfl ?_;intro _ _ _)|(refine lo_box1 rfl rfl rfl ?_;intro _ _ _)|(refine lo_alloc rfl ?_;intro _ _ _))
    refine ww_collect hR hl0 hAp hn (fun w hw => ⟨Ow.nil _ _ _ _, fun u q hq j z hz => hw.cellB (hp2 u q hq j z hz) mk_nil, fun k hk => (by cases hk), by have := hw.kp.size; omega⟩) hat (fun b Aw cw hI σ' hs' M' => ?_) _ (by repeat (first | exact SubB.nil | refine SubB.cons rfl ?_)) _
    refine WL.sub hs' .nil ?_
    obtain ⟨aw, hw1, hw2⟩ := pss hI.og (fun _ h => h)
    have hwn := wnt_len (f := edgeM l big (-1)) (P := pl l) ((pl l).length - 1)
    have hnext := fun (t : Nat) (p : Ps) (ht : (pl l)[t]? = some p) (hc : (wnt (edgeM l big (-1)) (pl l) t).length = (wnt (edgeM l big (-1)) (pl l) ((pl l).length - 1)).length) (w' : World) (hk : Kn W w') =>
      (next_calls (p := p) (big := big) hs0 (Kn.sl hk h) (hat p (get_at ht))).mono fun u w'' hu => (⟨hu.1, by
        obtain ⟨-, q, hu, hq⟩ := hu
        rcases walk_on hl0 ht hc hq with ⟨v, -, hget, -⟩ | ⟨-, rfl⟩
        · have := (List.getElem?_eq_some_iff.1 hget).1; omega
        · exact hu⟩ : Kn w' w'' ∧ u = posV (lastM l))
    have hprev := fun (t : Nat) (p : Ps) (ht : (pl l)[t]? = some p) (hc : (wnt (edgeM l big (-1)) (pl l) (t - 1)).length = 0) (w' : World) (hk : Kn W w') =>
      (prev_calls (p := p) (big := big) hs0 (Kn.sl hk h) (hat p (get_at ht))).mono fun u w'' hu => (⟨hu.1, by
        obtain ⟨-, q, hu, hq⟩ := hu
        rcases walk_back hl0 ht hc hq with ⟨j, v, hj, -⟩ | ⟨-, rfl⟩
        · omega
        · exact hu⟩ : Kn w' w'' ∧ u = posV (0, 0))
    clear hp1 hp2 hO hw0 hAp
    repeat(first|refine lrun_ ?_|(refine lo_boxA rfl rfl ?_;intro _ _ _)|(refine lo_box1 rfl rfl rfl ?_;intro _ _ _)|(refine lo_alloc rfl ?_;intro _ _ _))
    rename_i g8 _ _
    refine ww_on (P := wnt (edgeM l big (-1)) (pl l) ((pl l).length - 1)) (fun h0 => ⟨(hw1 h0).1, trivial⟩) hw2 (fun _ _ => mk_nil) (by omega) hs0 h hl0 rfl hat (fun t p ht hc σ' hs' M' hM' => ?_) _ (by repeat (first | exact SubB.nil | refine SubB.cons rfl ?_)) _ (by repeat(first|exact MSub.refl|refine MSub.keep rfl ?_|exact MSub.nil|apply MSub.drop))
    refine WL.sub hs' hM' ?_
    repeat(first|refine lrun_ ?_|(refine lo_boxA rfl rfl ?_;intro _ _ _)|(refine lo_box1 rfl rfl rfl ?_;intro _ _ _)|(refine lo_alloc rfl ?_;intro _ _ _))
    refine lo_call (n_call rfl) rfl (fun w hw => lastR_calls hs0 (Kn.sl hw.org h)) ?_
    repeat(first|refine lrun_ ?_|(refine lo_boxA rfl rfl ?_;intro _ _ _)|(refine lo_box1 rfl rfl rfl ?_;intro _ _ _)|(refine lo_alloc rfl ?_;intro _ _ _))
    rename_i g10 _ _
    refine l_draw [(0, 0), (1, 0), (2, 0), (4, 0), (3, 1), (5, 0)] (by kernel_rfl) (by kernel_rfl) rfl (by kernel_rfl) ?_
    repeat(first|refine lrund_ ?_|(refine ld_open rfl ?_;first|(refine ld_boxA rfl wy_ rfl ?_;intro _ _ _)|(refine ld_box1 rfl rfl wy_ rfl ?_;intro _ _ _)|(refine ld_alloc wy_ rfl ?_;intro _ _ _)))
    refine ld_open rfl ?_; refine ld_call (n_call rfl) wy_ rfl (fun w hw => hnext t p ht hc w hw.org) ?_
    repeat(first|refine lrund_ ?_|(refine ld_open rfl ?_;first|(refine ld_boxA rfl wy_ rfl ?_;intro _ _ _)|(refine ld_box1 rfl rfl wy_ rfl ?_;intro _ _ _)|(refine ld_alloc wy_ rfl ?_;intro _ _ _)))
    refine l_no rfl (fun h => h ⟨rfl, rfl⟩) ?_
    repeat(first|refine lrun_ ?_|(refine lo_boxA rfl rfl ?_;intro _ _ _)|(refine lo_box1 rfl rfl rfl ?_;intro _ _ _)|(refine lo_alloc rfl ?_;intro _ _ _))
    refine ww_back (P := wnt (edgeM l big (-1)) (pl l) ((pl l).length - 1)) (fun h0 => ⟨(hw1 h0).1, trivial⟩) hw2 (fun _ _ => mk_nil) (by omega) hs0 h hl0 rfl hat (fun t p ht hc σ' hs' M' hM' => ?_) _ (by repeat (first | exact SubB.nil | refine SubB.cons rfl ?_)) _ (by repeat(first|exact MSub.refl|refine MSub.keep rfl ?_|exact MSub.nil|apply MSub.drop))
    refine WL.sub hs' hM' ?_
    repeat(first|refine lrun_ ?_|(refine lo_boxA rfl rfl ?_;intro _ _ _)|(refine lo_box1 rfl rfl rfl ?_;intro _ _ _)|(refine lo_alloc rfl ?_;intro _ _ _))
    refine lo_call (n_call rfl) rfl (fun w hw => hprev t p ht hc w hw.org) ?_
    repeat(first|refine lrun_ ?_|(refine lo_boxA rfl rfl ?_;intro _ _ _)|(refine lo_box1 rfl rfl rfl ?_;intro _ _ _)|(refine lo_alloc rfl ?_;intro _ _ _))
    refine lo_call (n_call rfl) rfl (fun w hw => awake_calls) ?_
    repeat(first|refine lrun_ ?_|(refine lo_boxA rfl rfl ?_;intro _ _ _)|(refine lo_box1 rfl rfl rfl ?_;intro _ _ _)|(refine lo_alloc rfl ?_;intro _ _ _))
    exact l_ret1 rfl rfl fun w hw => ⟨rfl, hw.org⟩
end Go.Ink
