/-
  Push: the walk.
-/
import Derived.Test.YtbmjcjlenbgpkaaB6
set_option linter.unusedVariables false
set_option linter.unusedSimpArgs false
namespace Go.Ink
open Go Go.Proofs Go.RowKit

theorem pushF_ne {ms : List Mg} {f n : Nat} {x out : List Int} (hx : x ≠ []) : pushF ms (f + 1) x n out = if ms.any (openM x) then some (out, 0, x) else match ms.findIdx? (fun m => begM x m.1) with
    | none => pushF ms f (x.drop 1) n (out ++ [x.getD 0 0])
    | some i => if 20 < n + 1 then some (out, 35, []) else pushF ms f ((ms.getD i ([], [])).2 ++ x.drop (ms.getD i ([], [])).1.length) (n + 1) out := by
  cases x with
  | nil => exact absurd rfl hx
  | cons c t => rfl
section
variable {D Gm Fm Gw : Nat → Prop} {g g6 : Nat} {w B : World} {vm vw : Value} {ms : List Mg} {x : List Int} {res : List Int × Int × List Int}
set_option maxHeartbeats 16000000 in
theorem push_loop {f0 : Nat} (hF : PuF D Gm Fm Gw g g6 w) (hto : ∀ m ∈ ms, m.2.length ≤ 64) (hI : PuI D Gm Fm Gw g g6 w B vm vw (.slice none 0 0) ms x []) (hres : pushF ms f0 x 0 [] = some res) (hx : x.length ≤ 100) :
    ∀ σ', SubB σ' [(0, .pointer (some ⟨g, 0, none⟩)), (6, .pointer (some ⟨g6, 0, none⟩)), (7, .slice none 0 0), (8, .int .i64 0)] → ∀ M', MSub [(g6, cb [vw] 27), (g, cb [vm, .slice none 0 0] 60)] M' →
      WL Try.prog Try.f11 (.code (bodyC Try.f11 [1, 1, 1, 1, 1, 0, 1, 0]) :: .inBlock 0 :: .code (bodyC Try.f11 [1, 1, 1, 1, 1, 1]) :: []) σ' w D B (MK [(g6, cb [vw] 27), (g, cb [vm, .slice none 0 0] 60)]) M' (PushQ D g w ms res) := by
  intro σ' hs M' hM
  refine WL.sub hs hM ?_
  obtain ⟨Am, cm, rfl, hcm, hfm⟩ := hI.m.form
  have hml := hfm.len
  have hne6 : g6 ≠ g := fun e => by have := hF.g6; have := hF.gw; omega
  refine l_whileB (fun s : Nat × List Int × Nat × List Int × Value × Option Addr × Nat => s.1) (fun s => [(0, .pointer (some ⟨g, 0, none⟩)), (6, .pointer (some ⟨g6, 0, none⟩)), (7, .slice s.2.2.2.2.2.1 s.2.2.2.1.length s.2.2.2.2.2.2), (8, .int .i64 (s.2.2.1 : Int))]) (fun s => [(g6, cb [s.2.2.2.2.1] 27), (g, cb [.slice Am ms.length cm, .slice none 0 0] 60)])
    (fun s b => (pushF ms s.1 s.2.1 s.2.2.1 s.2.2.2.1 = some res ∧ s.2.2.2.1.length + s.2.1.length ≤ 100 + 64 * s.2.2.1 ∧ s.2.2.1 ≤ 20) ∧ PuI D Gm Fm Gw g g6 w b (.slice Am ms.length cm) s.2.2.2.2.1 (.slice s.2.2.2.2.2.1 s.2.2.2.1.length s.2.2.2.2.2.2) ms s.2.1 s.2.2.2.1) (f0, x, 0, [], vw, none, 0) (by repeat (first | exact SubB.nil | refine SubB.cons rfl ?_)) (by repeat(first|exact MSub.refl|refine MSub.keep rfl ?_|exact MSub.nil|apply MSub.drop)) (fun w' hw => ⟨⟨hres, by simpa using hx, Nat.zero_le _⟩, hI.kp hF hw.kp fun k hk => (mk_two hk).symm⟩) ?_
  rintro ⟨f, x, n, out, vx, Ao, co⟩ b ⟨⟨hres, hlen, hn⟩, hI⟩ hkb ih
  simp only at hres hlen hn hI ih
  dsimp only
  obtain ⟨Ax, cx, rfl, hcx, hfx⟩ := hI.x.form
  have hxl := hfx.len
  cases f with
  | zero => cases hres
  | succ f =>
  have hkk : ∀ {b' w' : World} {M'}, (∀ k, MK M' k → k = g ∨ k = g6) → ∀ {K : Nat → Prop}, (∀ k, K k → k = g ∨ k = g6) → True := fun _ _ _ => trivial
  have K2 : ∀ {o o' : Obj} (k : Nat), MK [(g6, o), (g, o')] k → k = g ∨ k = g6 := fun k hk => (mk_two hk).symm
  by_cases hx0 : x = []
  · subst hx0
    have e : res = (out, 0, []) := by simpa [pushF] using hres.symm
    subst e
    repeat(first|refine lrun_ ?_|(refine lo_boxA rfl rfl ?_;intro _ _ _)|(refine lo_box1 rfl rfl rfl ?_;intro _ _ _)|(refine lo_alloc rfl ?_;intro _ _ _))
    refine l_no rfl (by simp) ?_
    refine l_go (.exit rfl) ?_
    repeat(first|refine lrun_ ?_|(refine lo_boxA rfl rfl ?_;intro _ _ _)|(refine lo_box1 rfl rfl rfl ?_;intro _ _ _)|(refine lo_alloc rfl ?_;intro _ _ _))
    exact l_retR2 rfl (by repeat(first|exact LRes.nil|refine LRes.tmp rfl ?_|refine LRes.agg rfl (by(repeat(first|exact MIn.hd|refine MIn.tl ?_));done) (by rfl) (by rfl) ?_|refine LRes.one rfl (by(repeat(first|exact MIn.hd|refine MIn.tl ?_));done) (by rfl) ?_)) fun w' hw => (hI.nilX.kp hF hw.kp K2).fin hF hw.org (hw.mem g _ (by(repeat(first|exact MIn.hd|refine MIn.tl ?_));done))
  have hx00 := List.length_pos_iff.2 hx0
  rw [pushF_ne hx0] at hres
  repeat(first|refine lrun_ ?_|(refine lo_boxA rfl rfl ?_;intro _ _ _)|(refine lo_box1 rfl rfl rfl ?_;intro _ _ _)|(refine lo_alloc rfl ?_;intro _ _ _))
  refine l_yes rfl (by omega) ?_
  repeat(first|refine lrun_ ?_|(refine lo_boxA rfl rfl ?_;intro _ _ _)|(refine lo_box1 rfl rfl rfl ?_;intro _ _ _)|(refine lo_alloc rfl ?_;intro _ _ _))
  refine lo_call (n_call rfl) rfl (fun w' hw => containsM_calls (cap := [.pointer (some ⟨g6, 0, none⟩)]) (P := openM x) (hI.kp hF hw.kp K2).m.sl fun w'' hk m v1 v2 h1 h2 => push1_calls h1 (hk.blk (hw.mem g6 _ .hd) id) (Kn.sl hk (hI.kp hF hw.kp K2).x.sl)) ?_
  cases hany : ms.any (openM x)
  case true =>
    rw [hany, if_pos rfl] at hres
    have e : res = (out, 0, x) := by simpa using hres.symm
    subst e
    repeat(first|refine lrun_ ?_|(refine lo_boxA rfl rfl ?_;intro _ _ _)|(refine lo_box1 rfl rfl rfl ?_;intro _ _ _)|(refine lo_alloc rfl ?_;intro _ _ _))
    refine l_true rfl ?_
    repeat(first|refine lrun_ ?_|(refine lo_boxA rfl rfl ?_;intro _ _ _)|(refine lo_box1 rfl rfl rfl ?_;intro _ _ _)|(refine lo_alloc rfl ?_;intro _ _ _))
    exact l_retR2 rfl (by repeat(first|exact LRes.nil|refine LRes.tmp rfl ?_|refine LRes.agg rfl (by(repeat(first|exact MIn.hd|refine MIn.tl ?_));done) (by rfl) (by rfl) ?_|refine LRes.one rfl (by(repeat(first|exact MIn.hd|refine MIn.tl ?_));done) (by rfl) ?_)) fun w' hw => (hI.kp hF hw.kp K2).fin hF hw.org (hw.mem g _ (by(repeat(first|exact MIn.hd|refine MIn.tl ?_));done))
  rw [hany, if_neg (by decide)] at hres
  repeat(first|refine lrun_ ?_|(refine lo_boxA rfl rfl ?_;intro _ _ _)|(refine lo_box1 rfl rfl rfl ?_;intro _ _ _)|(refine lo_alloc rfl ?_;intro _ _ _))
  refine l_false rfl ?_
  refine l_go .skip ?_
  repeat(first|refine lrun_ ?_|(refine lo_boxA rfl rfl ?_;intro _ _ _)|(refine lo_box1 rfl rfl rfl ?_;intro _ _ _)|(refine lo_alloc rfl ?_;intro _ _ _))
  refine lo_call (n_call rfl) rfl (fun w' hw => indexM_calls (cap := [.pointer (some ⟨g6, 0, none⟩)]) (P := fun m => begM x m.1) (hI.kp hF hw.kp K2).m.sl fun w'' hk m v1 v2 h1 h2 => push2_calls h1 (hk.blk (hw.mem g6 _ .hd) id) (Kn.sl hk (hI.kp hF hw.kp K2).x.sl)) ?_
  cases hidx : ms.findIdx? (fun m => begM x m.1) with
  | none =>
    rw [hidx] at hres
    simp only at hres
    unfold idxW
    repeat(first|refine lrun_ ?_|(refine lo_boxA rfl rfl ?_;intro _ _ _)|(refine lo_box1 rfl rfl rfl ?_;intro _ _ _)|(refine lo_alloc rfl ?_;intro _ _ _))
    refine l_true rfl ?_
    obtain ⟨_, _, ad, e, hX⟩ := hI.x.sl.rns
    cases e
    have hAx := hX.a hx00
    subst hAx
    have hxb := hI.x.block
    have nk : ∀ k, (Value.slice (some ad) x.length cx).ownBlock = some k → ¬ MK [(g6, cb [.slice (some ad) x.length cx] 27), (g, cb [.slice Am ms.length cm, .slice none 0 0] 60)] k := fun k hk hm => by
      have hb1 := (hxb k hk).1
      rcases K2 k hm with e | e
      · rcases hb1 with h | h
        · exact (hF.gx k h).2.1 e
        · have := hF.gw; omega
      · rcases hb1 with h | h
        · have := (hF.gx k h).2.2; have := hF.g6; omega
        · exact h.2 e
    repeat(first|refine lrun_ ?_|(refine lo_boxA rfl rfl ?_;intro _ _ _)|(refine lo_box1 rfl rfl rfl ?_;intro _ _ _)|(refine lo_alloc rfl ?_;intro _ _ _))
    refine lo_loadB rfl (hX.run _ (by omega)) (by rw [add_block]; exact nk _ rfl) rfl ?_
    refine lo_lit (cs := [.int .i32 (x.getD 0 0)]) rfl (by decide) (by kernel_rfl) rfl ?_
    intro g47 hg47 hg47'
    refine lo_append1 (d := kRune) (F := fun _ => False) (q := x.getD 0 0) rfl rfl (hI.o.mono (fun k hk _ => ⟨hk.1, fun hm => (K2 k hm).elim (fun e => by have := hF.gw; omega) hk.2⟩) fun _ h _ => h) (fun _ h => h.elim) (by(repeat(first|exact MIn.hd|refine MIn.tl ?_));done) (fun w' hw' => ⟨rfl, (hX.lo 0).1, (hX.lo 0).2⟩) (by show (out.length + 1) * 4 ≤ 140737488355328; omega) rfl rfl rfl rfl ?_
    intro w3 Ao' co' w4 hw3 ko4 kp4 hown4 hog4
    have hs3 := hw3.kp.size
    have hs4 := kp4.size
    have hob := hI.o.block
    have K3 : ∀ k, (MK [(g6, cb [.slice (some ad) x.length cx] 27), (g, cb [.slice Am ms.length cm, .slice none 0 0] 60)] k ∨ (Value.slice Ao out.length co).ownBlock = some k) → k = g ∨ k = g6 ∨ (Value.slice Ao out.length co).ownBlock = some k := fun k hk => hk.elim (fun h => (K2 k h).elim .inl fun h => .inr (.inl h)) fun h => .inr (.inr h)
    have hI4 : PuI D Gm Fm Gw g g6 w w4 (.slice Am ms.length cm) (cutV (some ad) 1 x.length cx 1) (.slice Ao' (out ++ [x.getD 0 0]).length co') ms (x.drop 1) (out ++ [x.getD 0 0]) := by
      have nb : ∀ k, k < w.heap.size → k ≠ g → ¬ (MK [(g6, cb [.slice (some ad) x.length cx] 27), (g, cb [.slice Am ms.length cm, .slice none 0 0] 60)] k ∨ (Value.slice Ao out.length co).ownBlock = some k) := fun k h1 h2 h3 => by
        rcases K3 k h3 with e | e | e
        · exact h2 e
        · have := hF.g6; omega
        · have := (hob k e).1.1; omega
      refine ⟨Kp.ow kp4 hI.m (fun k hk => nb k (hF.gm k hk).2.2.2 (hF.gm k hk).2.1) (fun k hk => nb k (hF.fm k hk).2.2.2 (hF.fm k hk).2.1), ?_, hog4.mono (fun k hk _ => ⟨hk.1, fun e => hk.2 (by rw [e]; exact ⟨_, .tl .hd⟩)⟩) fun _ h _ => h, fun k hk e => ?_⟩
      · exact (ow_suf hI.x (by omega)).keep fun k hk => kp4.block k (hI.x.block k (own_shift' hk)).2 fun e => by
          rcases e with e | e
          · exact nk k (own_shift' hk) e
          · exact hI.ne k (own_shift' hk) e
      · rcases hown4 k e with e | e
        · exact hI.ne k (own_shift' hk) e
        · have := (hI.x.block k (own_shift' hk)).2; omega
    repeat(first|refine lops_ ?_|(refine lo_boxA rfl rfl ?_;intro _ _ _)|(refine lo_box1 rfl rfl rfl ?_;intro _ _ _)|(refine lo_alloc rfl ?_;intro _ _ _))
    refine lo_nil ?_
    refine l_baseM (M3 := [(g6, cb [.slice (some ad) x.length cx] 27), (g, cb [.slice Am ms.length cm, .slice none 0 0] 60)]) (by repeat(first|exact MSub.refl|refine MSub.keep rfl ?_|exact MSub.nil|apply MSub.drop)) fun w5 hw5 => ?_
    have hI5 := hI4.kpB hF hw5.kp (fun k h1 h2 => by
      obtain ⟨o, hm⟩ := h2
      cases hm with
      | hd => omega
      | tl h => exact (K2 k ⟨_, h⟩).elim id fun e => by have := hF.g6; omega) (fun k hk h2 => by
      have h1 := (hI.x.block k (own_shift' hk)).2
      obtain ⟨o, hm⟩ := h2
      cases hm with
      | hd => omega
      | tl h => exact nk k (own_shift' hk) ⟨_, h⟩) (fun k hk => ((hog4.block k hk).1).2)
    repeat(first|refine lrun_ ?_|(refine lo_boxA rfl rfl ?_;intro _ _ _)|(refine lo_box1 rfl rfl rfl ?_;intro _ _ _)|(refine lo_alloc rfl ?_;intro _ _ _))
    refine lo_suf (j := 1) rfl rfl rfl hx00 hcx rfl ?_
    repeat(first|refine lrun_ ?_|(refine lo_boxA rfl rfl ?_;intro _ _ _)|(refine lo_box1 rfl rfl rfl ?_;intro _ _ _)|(refine lo_alloc rfl ?_;intro _ _ _))
    exact ih (f, x.drop 1, n, out ++ [x.getD 0 0], _, Ao', co') w5 _ ⟨⟨hres, by simp only [List.length_append, List.length_drop, List.length_singleton]; omega, hn⟩, hI5⟩ (by simp only; omega) _ _ (by repeat (first | exact SubB.nil | refine SubB.cons rfl ?_)) (by repeat(first|exact MSub.refl|refine MSub.keep rfl ?_|exact MSub.nil|apply MSub.drop)) fun w' hw' => ⟨⟨hres, by simp only [List.length_append, List.length_drop, List.length_singleton]; omega, hn⟩, hI5.kp hF hw'.kp K2⟩
  | some i =>
    rw [hidx] at hres
    simp only at hres
    rw [List.findIdx?_eq_some_iff_getElem] at hidx
    obtain ⟨hi, hbeg, _⟩ := hidx
    have hmi : ms.getD i ([], []) = ms[i] := by rw [List.getD_eq_getElem?_getD, List.getElem?_eq_getElem hi]; rfl
    rw [hmi] at hres
    have hm2 := hto ms[i] (List.getElem_mem hi)
    have hm1 : ms[i].1.length ≤ x.length := by
      unfold begM at hbeg
      exact (of_decide_eq_true hbeg).1
    unfold idxW
    repeat(first|refine lrun_ ?_|(refine lo_boxA rfl rfl ?_;intro _ _ _)|(refine lo_box1 rfl rfl rfl ?_;intro _ _ _)|(refine lo_alloc rfl ?_;intro _ _ _))
    refine l_no rfl (by omega) ?_
    refine l_go .skip ?_
    repeat(first|refine lrun_ ?_|(refine lo_boxA rfl rfl ?_;intro _ _ _)|(refine lo_box1 rfl rfl rfl ?_;intro _ _ _)|(refine lo_alloc rfl ?_;intro _ _ _))
    by_cases hn20 : 20 < n + 1
    · rw [if_pos hn20] at hres
      have e : res = (out, 35, []) := by simpa using hres.symm
      subst e
      refine l_yes rfl (by omega) ?_
      repeat(first|refine lrun_ ?_|(refine lo_boxA rfl rfl ?_;intro _ _ _)|(refine lo_box1 rfl rfl rfl ?_;intro _ _ _)|(refine lo_alloc rfl ?_;intro _ _ _))
      exact l_retR2 rfl (by repeat(first|exact LRes.nil|refine LRes.tmp rfl ?_|refine LRes.agg rfl (by(repeat(first|exact MIn.hd|refine MIn.tl ?_));done) (by rfl) (by rfl) ?_|refine LRes.one rfl (by(repeat(first|exact MIn.hd|refine MIn.tl ?_));done) (by rfl) ?_)) fun w' hw => (hI.nilX.kp hF hw.kp K2).fin hF hw.org (hw.mem g _ (by(repeat(first|exact MIn.hd|refine MIn.tl ?_));done))
    rw [if_neg hn20] at hres
    refine l_no rfl (by omega) ?_
    refine l_go .skip ?_
    unfold WLG
    intro w0 hw0
    have hI0 := hI.kp hF hw0.kp K2
    have hbg := hw0.mem g _ (.tl .hd)
    have hb6 := hw0.mem g6 _ .hd
    obtain ⟨ad, cs, e, hr, hcell⟩ := hI0.m.sl.at_ (List.getElem?_eq_getElem hi)
    subst e
    obtain ⟨v1, v2, rfl, h1, h2⟩ := mg_cells hr
    obtain ⟨A1, c1, rfl, hc1, hf1⟩ := h1.form
    obtain ⟨A2, c2, rfl, _⟩ := h2.form
    have hl1 := hf1.len
    generalize ms[i] = m at *
    have hs0 := hw0.kp.size
    refine k_drawQ (fun _ => False) [(0, 0), (1, 0), (2, 0), (3, 0), (4, 0), (5, 0), (6, 0), (7, 0), (8, 0), (9, 0), (10, 0), (11, 0), (12, 0), (13, 0), (14, 0), (15, 0), (16, 0), (17, 0), (18, 0), (19, 1), (20, 1), (21, 1)] (by kernel_rfl) (by kernel_rfl) rfl (by kernel_rfl) ?_
    repeat(refine runq_ ?_)
    refine q_open rfl ?_; refine q_still (v := .slice (some ad) ms.length cm) (fun w' hq => r_load rfl (hq.cell (blk_cell hbg) id)) wy_ rfl (StQ.refl _ _) ?_
    repeat(refine runq_ ?_)
    refine q_open rfl ?_; refine q_still (fun w' hq => r_indexJ (j := i) rfl rfl rfl hi rfl) wy_ rfl (StQ.refl _ _) ?_
    repeat(refine runq_ ?_)
    refine q_open rfl ?_; refine q_still (v := .slice A2 m.2.length c2) (fun w' hq => r_load rfl (hq.cell (by rw [add_add]; exact hcell 1 _ rfl) id)) wy_ rfl (StQ.refl _ _) ?_
    refine q_open rfl ?_; refine q_still (v := .slice Ax x.length cx) (fun w' hq => r_load rfl (hq.cell (blk_cell hb6) id)) wy_ rfl (StQ.refl _ _) ?_
    repeat(refine runq_ ?_)
    refine q_open rfl ?_; refine q_still (v := .slice (some ad) ms.length cm) (fun w' hq => r_load rfl (hq.cell (blk_cell hbg) id)) wy_ rfl (StQ.refl _ _) ?_
    repeat(refine runq_ ?_)
    refine q_open rfl ?_; refine q_still (fun w' hq => r_indexJ (j := i) rfl rfl rfl hi rfl) wy_ rfl (StQ.refl _ _) ?_
    repeat(refine runq_ ?_)
    refine q_open rfl ?_; refine q_still (v := .slice A1 m.1.length c1) (fun w' hq => r_load rfl (hq.cell (by rw [add_add]; exact hcell 0 _ rfl) id)) wy_ rfl (StQ.refl _ _) ?_
    repeat(refine runq_ ?_)
    refine q_open rfl ?_; refine q_still (fun w' _ => r_slice rfl m.1.length x.length cx rfl ⟨rfl, rfl⟩ ⟨_, rfl⟩ hm1 hcx (Nat.le_refl _)) wy_ rfl (StQ.refl _ _) ?_
    refine q_open rfl ?_; refine q_lit (cs := [.slice A2 m.2.length c2, cutV Ax m.1.length x.length cx 1]) rfl (by decide) (by kernel_rfl) wy_ rfl (StQ.refl _ _) (Nat.le_refl _) ?_
    intro g75 w1 nb1 hst1
    have hs1 := nb1.kn.size
    have hcut : Sl kRune (fun _ => True) w1 (cutV Ax m.1.length x.length cx 1) (x.drop m.1.length) := by
      have := Sl.cutV (Kn.sl nb1.kn hI0.x.sl) hm1 (Nat.le_refl _) hcx (Nat.le_refl _)
      rw [List.take_length] at this
      exact this.mono fun _ _ _ => trivial
    refine q_open rfl ?_; refine q_enter (n_call rfl) wy_ rfl ((concat_calls (F := fun _ => True) (xs := [m.2, x.drop m.1.length]) (sl_lines2 nb1.at_ trivial ((Kn.sl nb1.kn h2).mono fun _ _ _ => trivial) hcut) (by unfold runesM; simp; omega)).mono ?_)
    rintro u w2 ⟨kn2, hU⟩
    have hfl : [m.2, x.drop m.1.length].flatten = m.2 ++ x.drop m.1.length := by simp
    rw [hfl] at hU
    have hs2 := kn2.size
    have hst2 : StQ (fun _ => False) w0 w2 := fun k hk hq => (kn2.block k (by omega) id).trans (hst1 k hk hq)
    obtain ⟨Au, cu, rfl, hcu, _⟩ := hU.form
    refine .inl ⟨hst2, ?_⟩
    have hb62 := (hst2 g6 (blk_lt hb6) id).trans hb6
    refine q_open rfl ?_; refine q_unit (u_store rfl rfl rfl rfl hb62 (by show 0 < 1; decide)) wy_ rfl fun w3 hw3 => .inr ⟨by kernel_rfl, ?_⟩
    refine q_nil ?_
    have hbg2 := hw3.kp.blk ((hst2 g (blk_lt hbg) id).trans hbg) fun e => hne6 e.symm
    have hg6w0 := blk_lt hb6
    have hs3 := hw3.kp.size
    have ko2 : Kp D w w2 := (hw0.org.trans nb1.kn.kp).trans kn2.kp
    have ko3 : Kp D w w3 := Kp.then ko2 hw3.kp (fun _ h => h) (fun k hk e => by have := hF.g6; omega)
    have hI2 := (hI0.kn hF nb1.kn).kn hF kn2
    have hI3 : PuI D Gm Fm Gw g g6 w w3 (.slice (some ad) ms.length cm) (.slice Au (m.2 ++ x.drop m.1.length).length cu) (.slice Ao out.length co) ms (m.2 ++ x.drop m.1.length) out := by
      have hI3' := hI2.kp hF hw3.kp fun k e => .inr e
      refine ⟨hI3'.m, (hU.keep fun k hk => hw3.kp.block k (hU.block k hk).2 fun e => ?_).mono (fun k hk _ => ?_) fun _ h _ => h, hI3'.o, fun k hk e => ?_⟩
      · have := (hU.block k hk).1; unfold noB at this; omega
      · unfold noB at hk
        refine .inr ⟨by have := hw0.org.size; omega, by omega⟩
      · have h8 := (hU.block k hk).1
        have h9 := (hI.o.block k e).2
        unfold noB at h8
        omega
    refine l_close (lw_two ko3 hw3.at_ hbg2 hne6 (.inl hF.g6) (.inr hF.dg)) ?_
    repeat(first|refine lrun_ ?_|(refine lo_boxA rfl rfl ?_;intro _ _ _)|(refine lo_box1 rfl rfl rfl ?_;intro _ _ _)|(refine lo_alloc rfl ?_;intro _ _ _))
    exact ih (f, m.2 ++ x.drop m.1.length, n + 1, out, _, Ao, co) w3 _ ⟨⟨hres, by simp only [List.length_append, List.length_drop]; omega, by simp only; omega⟩, hI3⟩ (by simp only; omega) _ _ (by repeat (first | exact SubB.nil | refine SubB.cons rfl ?_)) (by repeat(first|exact MSub.refl|refine MSub.keep rfl ?_|exact MSub.nil|apply MSub.drop)) fun w' hw' => ⟨⟨hres, by simp only [List.length_append, List.length_drop]; omega, by simp only; omega⟩, hI3.kp hF hw'.kp K2⟩
end
end Go.Ink
