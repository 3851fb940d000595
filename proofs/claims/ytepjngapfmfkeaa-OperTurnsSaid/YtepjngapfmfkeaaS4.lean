/-
  OperTakes.
-/
import Derived.Test.YtepjngapfmfkeaaR1
import Derived.Test.YtepjngapfmfkeaaR3
import Derived.Test.YtepjngapfmfkeaaS1
import Derived.Test.YtepjngapfmfkeaaRead
set_option linter.unusedVariables false
set_option linter.unusedSimpArgs false
namespace Go.Ink
open Go Go.Proofs Go.RowKit

section
variable {F : Nat → Prop} {w B : World} {v tv : Value} {l : List (List Int)} {r : Rg} {A Al : Option Addr} {n c cl g6 N0 : Nat} {us : List Value} {kd : Int}
/-- What the loops keep. -/
structure Fil (N0 g6 n : Nat) (A : Option Addr) (c : Nat) (us : List Value) (tv : Value) (l : List (List Int)) (rows : List (List Int)) (b : World) : Prop where
  len : rows.length = n
  t : Tab (fun k => N0 ≤ k ∧ k ≠ g6) (fun _ => True) b (.slice A n c) us rows
  h : ∃ F : Nat → Prop, Sl kRow F b tv l ∧ ∀ k, F k → k < N0
theorem om_K {k : Nat} : MK [(g6, cb [.int .i64 kd, .slice A n c] 30)] k ↔ k = g6 := by rw [MK_iff]; simp
theorem Fil.now {O b w' : World} {S : Nat → Prop} {rows : List (List Int)} (h : Fil N0 g6 n A c us tv l rows b) (h6 : N0 ≤ g6) (hw : Kp (MK [(g6, cb [.int .i64 kd, .slice A n c] 30)]) b w') : Fil N0 g6 n A c us tv l rows w' := by
  obtain ⟨h1, h2, F, h3, h4⟩ := h
  exact ⟨h1, h2.kp hw fun k hk hm => hk.2 (om_K.1 hm), F, Kp.sl hw h3 fun k hk hm => by have := om_K.1 hm; have := h4 k hk; omega, h4⟩
/-- One rune is 7 now. -/
theorem Fil.set {w1 w2 : World} {rows : List (List Int)} {i y : Nat} {u : Value} (h : Fil N0 g6 n A c us tv l rows w1) (hu : us[i]? = some u) (hi : i < n) (kp : Kp (fun k => u.ownBlock = some k) w1 w2) (hO : Ow kRune (fun _ => True) (fun _ => False) w2 u ((rows.getD i []).set y 7)) : Fil N0 g6 n A c us tv l (rows.set i ((rows.getD i []).set y 7)) w2 := by
  obtain ⟨h1, h2, F, h3, h4⟩ := h
  obtain ⟨u', hu', hOu⟩ := h2.at_ (j := i) trivial (by omega)
  obtain rfl : u = u' := by rw [hu] at hu'; exact Option.some.inj hu'
  have hb := hOu.block
  refine ⟨by rw [List.length_set]; exact h1, ?_, F, Kp.sl kp h3 fun k hk hm => by have := (hb k hm).1.1.1; have := h4 k hk; omega, h4⟩
  have h5 := (h2.take (j := i) trivial hu).kp kp fun k hk e => hk.2 e
  refine (h5.back (u := u) (j := i) (x' := (rows.getD i []).set y 7) (G' := fun k => N0 ≤ k ∧ k ≠ g6) hu (fun k hk _ => hk.1) (fun hk => hk.2 rfl) (hO.nE.mono (fun k hk _ => (hb k hk.2).1) fun _ h _ => h) fun i' u2 k hi' hu2 hk hk2 => ?_).all fun j hj => by
    by_cases e : j = i
    · exact .inr e
    · exact .inl ⟨trivial, e⟩
  exact hi'.2 (h2.apart i' i u2 u k trivial trivial hu2 hu hk hk2)
set_option maxHeartbeats 8000000 in
theorem fil_loop {kk : List Item} {R : Value → World → Prop} {rows : List (List Int)} (h0 : Fil N0 g6 n A c us tv l rows B) (h6 : N0 ≤ g6) (hw0 : w.heap.size ≤ N0)
    (done : ∀ (bw : World) (rows : List (List Int)), Fil N0 g6 n A c us tv l rows bw → ∀ σ', SubB σ' [(0, .slice Al l.length cl), (5, tv), (6, .pointer (some ⟨g6, 0, none⟩))] → ∀ M', MSub [(g6, cb [.int .i64 kd, .slice A n c] 30)] M' → WL Try.prog Try.f3 kk σ' w (fun _ => False) bw (MK [(g6, cb [.int .i64 kd, .slice A n c] 30)]) M' R) :
    ∀ σ', SubB σ' [(0, .slice Al l.length cl), (5, tv), (6, .pointer (some ⟨g6, 0, none⟩)), (10, .int .i64 ((0 : Nat) : Int))] → ∀ M', MSub [(g6, cb [.int .i64 kd, .slice A n c] 30)] M' →
      WL Try.prog Try.f3 (.code (.loop (bodyC Try.f3 [1, 1, 1, 1, 1, 1, 0, 1, 0, 0])) :: .inBlock 0 :: kk) σ' w (fun _ => False) B (MK [(g6, cb [.int .i64 kd, .slice A n c] 30)]) M' R := by
  intro σ' hs M' hM
  refine WL.sub hs hM ?_
  refine l_whileB (fun s : Nat × List (List Int) => n - s.1) (fun s => [(0, .slice Al l.length cl), (5, tv), (6, .pointer (some ⟨g6, 0, none⟩)), (10, .int .i64 (s.1 : Int))]) (fun _ => [(g6, cb [.int .i64 kd, .slice A n c] 30)])
    (fun s bw => s.1 ≤ n ∧ Fil N0 g6 n A c us tv l s.2 bw) (0, rows) (by repeat (first | exact SubB.nil | refine SubB.cons rfl ?_)) (by repeat(first|exact MSub.refl|refine MSub.keep rfl ?_|exact MSub.nil|apply MSub.drop)) (fun w' hw => ⟨Nat.zero_le _, h0.now (O := w) (S := fun _ => False) h6 hw.kp⟩) ?_
  rintro ⟨i, rs⟩ b ⟨hin, hf⟩ hkb ih
  simp only at hin hf
  dsimp only
  have hcap := hf.t.form
  obtain ⟨_, _, _, _, hn24⟩ := hcap
  rw [hf.len] at hn24
  by_cases hlt : i < n
  · obtain ⟨ad, rfl⟩ := hf.t.ad (by rw [hf.len]; omega)
    obtain ⟨u, hu, hOu⟩ := hf.t.at_ (j := i) trivial (by rw [hf.len]; exact hlt)
    obtain ⟨m, hm⟩ : ∃ m, (rs.getD i []).length = m := ⟨_, rfl⟩
    obtain ⟨As, cs, rfl, _, hfit⟩ := hOu.form
    rw [hm] at hu hfit
    have hfit' : m * 4 ≤ 140737488355328 := hfit
    repeat(first|refine lrun_ ?_|(refine lo_boxA rfl rfl ?_;intro _ _ _)|(refine lo_box1 rfl rfl rfl ?_;intro _ _ _)|(refine lo_alloc rfl ?_;intro _ _ _))
    refine l_yes rfl (by omega) ?_
    repeat(first|refine lrun_ ?_|(refine lo_boxA rfl rfl ?_;intro _ _ _)|(refine lo_box1 rfl rfl rfl ?_;intro _ _ _)|(refine lo_alloc rfl ?_;intro _ _ _))
    refine l_whileB (fun s : Nat × List (List Int) => m - s.1) (fun s => [(0, .slice Al l.length cl), (5, tv), (6, .pointer (some ⟨g6, 0, none⟩)), (10, .int .i64 (i : Int)), (11, .int .i64 (s.1 : Int))]) (fun _ => [(g6, cb [.int .i64 kd, .slice (some ad) n c] 30)])
      (fun s bw => s.1 ≤ m ∧ (s.2.getD i []).length = m ∧ Fil N0 g6 n (some ad) c us tv l s.2 bw) (0, rs) (by repeat (first | exact SubB.nil | refine SubB.cons rfl ?_)) (by repeat(first|exact MSub.refl|refine MSub.keep rfl ?_|exact MSub.nil|apply MSub.drop)) (fun w' hw => ⟨Nat.zero_le _, hm, hf.now (O := w) (S := fun _ => False) h6 hw.kp⟩) ?_
    clear hOu hm
    rintro ⟨y, rq⟩ b2 ⟨hym, hm, hg⟩ hkb2 ih2
    simp only at hym hg hm
    dsimp only
    have hcell := hg.t.cell hu
    have hab := hg.t.t.block ad.block rfl
    have hnk : ¬ MK [(g6, cb [.int .i64 kd, .slice (some ad) n c] 30)] (ad.add (i * 1)).block := fun h => by rw [add_block] at h; exact hab.1.2 (om_K.1 h)
    by_cases hlt2 : y < m
    · obtain ⟨u', hu', hOu⟩ := hg.t.at_ (j := i) trivial (by rw [hg.len]; exact hlt)
      obtain rfl : Value.slice As m cs = u' := by rw [hu] at hu'; exact Option.some.inj hu'
      obtain ⟨ad2, rfl⟩ : ∃ ad2, As = some ad2 := by
        obtain ⟨_, _, _, h⟩ := hOu
        rcases h with ⟨_, h⟩ | ⟨_, _, _, _, _, h, _⟩
        · rw [h] at hm; simp at hm; omega
        · cases h; exact ⟨_, rfl⟩
      have hOg : Og kRune w b2 (MK [(g6, cb [.int .i64 kd, .slice (some ad) n c] 30)]) (fun _ => False) (.slice (some ad2) m cs) (rq.getD i []) := hOu.mono (fun k hk _ => ⟨by have := hk.1.1; omega, fun h => hk.1.2 (om_K.1 h)⟩) fun _ h _ => h
      repeat(first|refine lrun_ ?_|(refine lo_boxA rfl rfl ?_;intro _ _ _)|(refine lo_box1 rfl rfl rfl ?_;intro _ _ _)|(refine lo_alloc rfl ?_;intro _ _ _))
      refine lo_index rfl rfl rfl hlt rfl rfl ?_
      refine lo_loadB rfl hcell hnk rfl ?_
      repeat(first|refine lrun_ ?_|(refine lo_boxA rfl rfl ?_;intro _ _ _)|(refine lo_box1 rfl rfl rfl ?_;intro _ _ _)|(refine lo_alloc rfl ?_;intro _ _ _))
      refine l_yes rfl (by omega) ?_
      repeat(first|refine lrun_ ?_|(refine lo_boxA rfl rfl ?_;intro _ _ _)|(refine lo_box1 rfl rfl rfl ?_;intro _ _ _)|(refine lo_alloc rfl ?_;intro _ _ _))
      refine lo_index rfl rfl rfl hlt rfl rfl ?_
      refine lo_loadB rfl hcell hnk rfl ?_
      repeat(first|refine lrun_ ?_|(refine lo_boxA rfl rfl ?_;intro _ _ _)|(refine lo_box1 rfl rfl rfl ?_;intro _ _ _)|(refine lo_alloc rfl ?_;intro _ _ _))
      refine lo_index rfl rfl rfl hlt2 rfl rfl ?_
      refine lo_setM (d := kRune) (F := fun _ => False) (xs := rq.getD i []) (q := 7) (j := y) rfl rfl hOg (fun _ h => h.elim) (by rw [hm]; exact hlt2) (fun w' hw => ⟨rfl, by decide, by decide⟩) rfl rfl ?_
      intro w1 w2 hw1 ko kp hog
      have hg1 := hg.now (O := w) (S := fun _ => False) h6 hw1.kp
      have hg2 := hg1.set (y := y) hu hlt (kp.mono fun k _ e => by rw [e]; rfl) (hog.mono (fun _ _ _ => trivial) fun _ h _ => h)
      refine lo_nil ?_
      repeat(first|refine lrun_ ?_|(refine lo_boxA rfl rfl ?_;intro _ _ _)|(refine lo_box1 rfl rfl rfl ?_;intro _ _ _)|(refine lo_alloc rfl ?_;intro _ _ _))
      refine ih2 (y + 1, rq.set i ((rq.getD i []).set y 7)) w2 _ ⟨hlt2, ?_, hg2⟩ (by simp only; omega) _ _ (by repeat (first | exact SubB.nil | refine SubB.cons rfl ?_)) (by repeat(first|exact MSub.refl|refine MSub.keep rfl ?_|exact MSub.nil|apply MSub.drop)) fun w' hw' => ⟨hlt2, ?_, hg2.now (O := w) (S := fun _ => False) h6 hw'.kp⟩
      all_goals
        simp only
        rw [List.getD_eq_getElem?_getD, List.getElem?_set_self (by rw [hg.len]; exact hlt), Option.getD_some, List.length_set]
        exact hm
    · obtain rfl : y = m := by omega
      repeat(first|refine lrun_ ?_|(refine lo_boxA rfl rfl ?_;intro _ _ _)|(refine lo_box1 rfl rfl rfl ?_;intro _ _ _)|(refine lo_alloc rfl ?_;intro _ _ _))
      refine lo_index rfl rfl rfl hlt rfl rfl ?_
      refine lo_loadB rfl hcell hnk rfl ?_
      repeat(first|refine lrun_ ?_|(refine lo_boxA rfl rfl ?_;intro _ _ _)|(refine lo_box1 rfl rfl rfl ?_;intro _ _ _)|(refine lo_alloc rfl ?_;intro _ _ _))
      refine l_no rfl (by omega) ?_
      refine l_go (.exit rfl) ?_
      repeat(first|refine lrun_ ?_|(refine lo_boxA rfl rfl ?_;intro _ _ _)|(refine lo_box1 rfl rfl rfl ?_;intro _ _ _)|(refine lo_alloc rfl ?_;intro _ _ _))
      exact ih (i + 1, rq) b2 _ ⟨hlt, hg⟩ (by simp only; omega) _ _ (by repeat (first | exact SubB.nil | refine SubB.cons rfl ?_)) (by repeat(first|exact MSub.refl|refine MSub.keep rfl ?_|exact MSub.nil|apply MSub.drop)) fun w' hw' => ⟨hlt, hg.now (O := w) (S := fun _ => False) h6 hw'.kp⟩
  · obtain rfl : i = n := by omega
    repeat(first|refine lrun_ ?_|(refine lo_boxA rfl rfl ?_;intro _ _ _)|(refine lo_box1 rfl rfl rfl ?_;intro _ _ _)|(refine lo_alloc rfl ?_;intro _ _ _))
    refine l_no rfl (by omega) ?_
    refine l_go (.exit rfl) ?_
    exact done b _ hf _ (by repeat (first | exact SubB.nil | refine SubB.cons rfl ?_)) _ (by repeat(first|exact MSub.refl|refine MSub.keep rfl ?_|exact MSub.nil|apply MSub.drop))
end
section
variable {F : Nat → Prop} {w : World} {v : Value} {l : List (List Int)} {r : Rg}
set_option maxHeartbeats 8000000 in
theorem takes_calls (h : Sl kRow F w v l) (hr : RgP r) :
    CallsR Try.prog 3 #[v, rgV r] w fun u w' => Kn w w' ∧ u = .bool true := by
  obtain ⟨A, c, e⟩ : ∃ A c, v = .slice A l.length c := by obtain ⟨A, c, e, _⟩ := h.form; exact ⟨A, c, e⟩
  subst e
  refine l_enter (fun _ => False) Try.func3 rfl rfl ?_
  repeat(first|refine lrun_ ?_|(refine lo_boxA rfl rfl ?_;intro _ _ _)|(refine lo_box1 rfl rfl rfl ?_;intro _ _ _)|(refine lo_alloc rfl ?_;intro _ _ _))
  rename_i g3 _ _
  refine lo_call (n_call rfl) rfl (fun w' hw => fit_calls (Kn.sl hw.org h)) ?_
  cases hf : fitB l with
  | false =>
    repeat(first|refine lrun_ ?_|(refine lo_boxA rfl rfl ?_;intro _ _ _)|(refine lo_box1 rfl rfl rfl ?_;intro _ _ _)|(refine lo_alloc rfl ?_;intro _ _ _))
    refine l_true rfl ?_
    repeat(first|refine lrun_ ?_|(refine lo_boxA rfl rfl ?_;intro _ _ _)|(refine lo_box1 rfl rfl rfl ?_;intro _ _ _)|(refine lo_alloc rfl ?_;intro _ _ _))
    exact l_ret1 rfl rfl fun w' hw => ⟨hw.org, rfl⟩
  | true =>
  obtain ⟨⟨hll, hlr⟩, hpl⟩ := fit_iff.1 hf
  have hsum : (l.map List.length).sum = runesM l := rfl
  repeat(first|refine lrun_ ?_|(refine lo_boxA rfl rfl ?_;intro _ _ _)|(refine lo_box1 rfl rfl rfl ?_;intro _ _ _)|(refine lo_alloc rfl ?_;intro _ _ _))
  refine l_false rfl ?_
  refine l_go .skip ?_
  repeat(first|refine lrun_ ?_|(refine lo_boxA rfl rfl ?_;intro _ _ _)|(refine lo_box1 rfl rfl rfl ?_;intro _ _ _)|(refine lo_alloc rfl ?_;intro _ _ _))
  refine lo_callM (n_call rfl) rfl (fun w' hw => twinT_calls (Kn.sl hw.org h)) ?_
  rintro w3 tv w4 hw3 kn3 ko3 ⟨us3, hT3⟩
  have ht := Hd.of (hT3.ow fun _ _ => trivial) hw3
  obtain ⟨At, ct, rfl, _, _⟩ := hT3.form
  clear hT3
  repeat(first|refine lrun_ ?_|(refine lo_boxA rfl rfl ?_;intro _ _ _)|(refine lo_box1 rfl rfl rfl ?_;intro _ _ _)|(refine lo_alloc rfl ?_;intro _ _ _))
  refine lo_callM (n_call rfl) rfl (fun w' hw => takeT_calls (ht.now hw) hr (by omega)) ?_
  rintro w5 _ w6 hw5 kn5 ko5 ⟨s, us, rfl, hT5⟩
  have hTs := Hd.of (hT5.ow fun _ _ => trivial) hw5
  obtain ⟨Ft, hS, hFt⟩ := ht
  have hs5 := hw5.kp.size
  have hs5o := hw5.org.size
  have hS6 := Kn.sl kn5 (Kp.sl hw5.kp hS fun k hk => (hFt k hk).1)
  have hT6 := hT5.bound
  have hk3 : ∀ k, MK [(g3, cb [.int .i64 r.fr.1, .int .i64 r.fr.2, .int .i64 r.to.1, .int .i64 r.to.2, .int .i64 r.kind] 26)] k → k < w5.heap.size := fun k hm => hw5.lt hm
  obtain ⟨A5, c5, rfl, _, _⟩ := hT5.form
  clear hT5
  repeat(first|refine lrun_ ?_|(refine lo_boxA rfl rfl ?_;intro _ _ _)|(refine lo_box1 rfl rfl rfl ?_;intro _ _ _)|(refine lo_alloc rfl ?_;intro _ _ _))
  rename_i g6 _ hg6
  refine lo_callM (n_call rfl) rfl (fun w' hw => takeR_calls (Kn.sl hw.org h) hr (by omega) (fun j => Nat.le_trans (runes_getD _ j) (by omega))) ?_
  rintro w7 _ w8 hw7 kn7 ko7 ⟨s8, rfl, hO8⟩
  have hTs := hTs.next hw7 kn7
  have hT8 := (hT6.kp hw7.kp fun k hk hm => by have := hk3 k hm; have := hk.1; unfold noB at this; omega).kn kn7
  have hS8 := Kn.sl kn7 (Kp.sl hw7.kp hS6 fun k hk hm => hw5.apart (hFt k hk).1 (hFt k hk).2 hm)
  have hR8 := Hd.of hO8 hw7
  obtain ⟨A8, c8, rfl, _, _⟩ := hO8.form
  clear hO8
  repeat(first|refine lrun_ ?_|(refine lo_boxA rfl rfl ?_;intro _ _ _)|(refine lo_box1 rfl rfl rfl ?_;intro _ _ _)|(refine lo_alloc rfl ?_;intro _ _ _))
  rw [show decide (thereR l r ≠ thereR l r) = false from decide_eq_false fun h => h rfl]
  repeat(first|refine lrun_ ?_|(refine lo_boxA rfl rfl ?_;intro _ _ _)|(refine lo_box1 rfl rfl rfl ?_;intro _ _ _)|(refine lo_alloc rfl ?_;intro _ _ _))
  refine lo_call (n_call rfl) rfl (fun w' hw => sameG_calls (hTs.now hw) (hR8.now hw)) ?_
  rw [decide_eq_true (⟨rfl, rfl⟩ : _ ∧ takeM l r = takeM l r)]
  repeat(first|refine lrun_ ?_|(refine lo_boxA rfl rfl ?_;intro _ _ _)|(refine lo_box1 rfl rfl rfl ?_;intro _ _ _)|(refine lo_alloc rfl ?_;intro _ _ _))
  refine l_false rfl ?_
  refine l_go .skip ?_
  repeat(first|refine lrun_ ?_|(refine lo_boxA rfl rfl ?_;intro _ _ _)|(refine lo_box1 rfl rfl rfl ?_;intro _ _ _)|(refine lo_alloc rfl ?_;intro _ _ _))
  generalize hkd : (if thereR l r = 0 then r.kind else 0) = kd at *
  refine l_baseM (M3 := [(g6, cb [.int .i64 kd, .slice A5 (takeM l r).length c5] 30)]) (by repeat(first|exact MSub.refl|refine MSub.keep rfl ?_|exact MSub.nil|apply MSub.drop)) fun w9 hw9 => ?_
  have hk8 : ∀ k, MK [(g6, cb [.int .i64 kd, .slice A5 (takeM l r).length c5] 30), (g3, cb [.int .i64 r.fr.1, .int .i64 r.fr.2, .int .i64 r.to.1, .int .i64 r.to.2, .int .i64 r.kind] 26)] k → k = g6 ∨ k = g3 := fun k hm => by rw [MK_iff] at hm; simpa using hm
  have hg3 : g3 < w5.heap.size := hk3 g3 ⟨_, .hd⟩
  have hg65 : w5.heap.size ≤ g6 := by have := hw5.lt (k := g3) ⟨_, .hd⟩; have := kn5.size; omega
  have hF0 : Fil w5.heap.size g6 (takeM l r).length A5 c5 us (.slice At l.length ct) l (takeM l r) w9 := by
    refine ⟨rfl, (hT8.kp hw9.kp fun k hk hm => ?_).mono fun k hk _ => ⟨hk.1, by have := hk.2; omega⟩, Ft, Kp.sl hw9.kp hS8 fun k hk hm => ?_, fun k hk => by have := (hFt k hk).2; omega⟩
    · have h1 := hk.1
      have h2 := hk.2
      unfold noB at h1
      rcases hk8 k hm with e | e <;> omega
    · have h1 := hFt k hk
      rcases hk8 k hm with e | e
      · omega
      · subst e; exact h1.1 ⟨_, .hd⟩
  refine fil_loop hF0 hg65 (by omega) ?_ _ (by repeat (first | exact SubB.nil | refine SubB.cons rfl ?_)) _ (by repeat(first|exact MSub.refl|refine MSub.keep rfl ?_|exact MSub.nil|apply MSub.drop))
  intro bw rows hf9 σ' hs M' hM
  refine WL.sub hs hM ?_
  obtain ⟨_, _, F9, hS9, hF9⟩ := hf9
  repeat(first|refine lrun_ ?_|(refine lo_boxA rfl rfl ?_;intro _ _ _)|(refine lo_box1 rfl rfl rfl ?_;intro _ _ _)|(refine lo_alloc rfl ?_;intro _ _ _))
  refine lo_call (n_call rfl) rfl (fun w' hw => same04_calls (Kp.sl hw.kp hS9 fun k hk hm => by have := om_K.1 hm; have := hF9 k hk; omega) (Kn.sl hw.org h)) ?_
  rw [decide_eq_true (rfl : l = l)]
  repeat(first|refine lrun_ ?_|(refine lo_boxA rfl rfl ?_;intro _ _ _)|(refine lo_box1 rfl rfl rfl ?_;intro _ _ _)|(refine lo_alloc rfl ?_;intro _ _ _))
  refine lo_call (n_call (args := []) rfl) rfl (fun w' hw => awake_calls) ?_
  repeat(first|refine lrun_ ?_|(refine lo_boxA rfl rfl ?_;intro _ _ _)|(refine lo_box1 rfl rfl rfl ?_;intro _ _ _)|(refine lo_alloc rfl ?_;intro _ _ _))
  exact l_ret1 rfl rfl fun w' hw => ⟨hw.org, rfl⟩
end
abbrev kRg : Kd Rg := kIso (kPair kPs (kPair kPs kI64)) (fun r => (r.fr, r.to, r.kind)) 40 (by decide)
instance : StrucT Try.prog 26 [24, 24, 3] := ⟨by kernel_rfl, by kernel_rfl⟩
instance : RdT Try.prog 26 kRg := rd_struct (g := fun a => ⟨a.1, a.2.1, a.2.2⟩) inferInstance inferInstance (fun _ => rfl) (by kernel_rfl) (by kernel_rfl)
theorem rg_form {F : Nat → Prop} {w : World} {r : Rg} {cs : List Value} (h : kRg.R F w r cs) : (Value.agg cs.toArray = rgV r) ∧ RgP r := by
  obtain ⟨c1, c2, rfl, h1, c3, c4, rfl, h2, ⟨rfl, h3⟩⟩ := h
  obtain ⟨rfl, h1'⟩ := ps_form h1
  obtain ⟨rfl, h2'⟩ := ps_form h2
  exact ⟨rfl, h1', h2', h3⟩
theorem law_OperTakes {W : World} {u : Value} {l : List (List Int)} {r : Rg} {cs : List Value} (h : Sl kRow (fun _ => True) W u l) (hr : kRg.R (fun _ => True) W r cs) :
    CallsR Try.prog 3 #[u, .agg cs.toArray] W fun r w' => r = .bool true ∧ Kn W w' := by
  obtain ⟨e, hr'⟩ := rg_form hr
  rw [e]
  exact (takes_calls h hr').mono fun r w' ⟨h1, h2⟩ => ⟨h2, h1⟩
end Go.Ink
