/-
  The reference: blanks.
-/
import Derived.Test.YtepjngapfmfkeaaS1
import Derived.Test.YtepjngapfmfkeaaS5
import Derived.Test.YtepjngapfmfkeaaQB
import Derived.Test.YtepjngapfmfkeaaW1r
set_option linter.unusedVariables false
set_option linter.unusedSimpArgs false
namespace Go.Ink
open Go Go.Proofs Go.RowKit

section
variable {F : Nat → Prop} {w : World} {v : Value} {l : List (List Int)}
set_option maxHeartbeats 4000000 in
theorem blanksR_calls {n : Int} (hn : n ≤ 4194304) : CallsR Try.prog 64 #[.int .i64 n] w fun u w' => Kn w w' ∧ Ow kRune (noB w) (fun _ => False) w' u (List.replicate n.toNat 32) := by
  refine l_enter (fun _ => False) Try.func64 rfl rfl ?_
  repeat(first|refine lrun_ ?_|(refine lo_boxA rfl rfl ?_;intro _ _ _)|(refine lo_box1 rfl rfl rfl ?_;intro _ _ _)|(refine lo_alloc rfl ?_;intro _ _ _))
  refine l_whileB (fun s : Nat × Option Addr × Nat => n.toNat - s.1) (fun s => [(0, .int .i64 n), (3, .slice s.2.1 s.1 s.2.2), (4, .int .i64 (s.1 : Int))]) (fun _ => [])
    (fun s b => s.1 ≤ n.toNat ∧ Og kRune w b (MK []) (fun _ => False) (.slice s.2.1 s.1 s.2.2) (List.replicate s.1 32)) (0, none, 0) (by repeat (first | exact SubB.nil | refine SubB.cons rfl ?_)) (by repeat(first|exact MSub.refl|refine MSub.keep rfl ?_|exact MSub.nil|apply MSub.drop)) (fun w' hw => ⟨Nat.zero_le _, Ow.nil _ _ _ _⟩) ?_
  rintro ⟨k, A1, c1⟩ b ⟨hk, hO⟩ hkb ih
  simp only at hk hO
  dsimp only
  by_cases hlt : k < n.toNat
  · repeat(first|refine lrun_ ?_|(refine lo_boxA rfl rfl ?_;intro _ _ _)|(refine lo_box1 rfl rfl rfl ?_;intro _ _ _)|(refine lo_alloc rfl ?_;intro _ _ _))
    refine l_yes rfl (by omega) ?_
    repeat(first|refine lrun_ ?_|(refine lo_boxA rfl rfl ?_;intro _ _ _)|(refine lo_box1 rfl rfl rfl ?_;intro _ _ _)|(refine lo_alloc rfl ?_;intro _ _ _))
    refine lo_lit (cs := [.int .i32 32]) rfl (by decide) (by kernel_rfl) rfl ?_
    intro g9 _ _
    refine lo_append1 (d := kRune) (q := 32) rfl rfl hO (fun _ h => h.elim) (by(repeat(first|exact MIn.hd|refine MIn.tl ?_));done) (fun w' hw => ⟨rfl, by decide, by decide⟩) (by rw [List.length_replicate]; show (k + 1) * 4 ≤ 140737488355328; omega) rfl rfl rfl rfl ?_
    intro w3 A3 c3 w4 hw3 hk3 hk4 hown hog
    have e1 : List.replicate k (32 : Int) ++ [32] = List.replicate (k + 1) 32 := by rw [List.replicate_succ']
    rw [e1] at hog hown ⊢
    simp only [List.length_replicate] at hog hown ⊢
    repeat(first|refine lops_ ?_|(refine lo_boxA rfl rfl ?_;intro _ _ _)|(refine lo_box1 rfl rfl rfl ?_;intro _ _ _)|(refine lo_alloc rfl ?_;intro _ _ _))
    refine lo_nil ?_
    refine l_baseM (M3 := []) .nil fun w5 hw5 => ?_
    have hog5 : Og kRune w w5 (MK []) (fun _ => False) (.slice A3 (k + 1) c3) (List.replicate (k + 1) 32) := (hog.now (fun _ h => h.elim) hw5).mono (fun j hj _ => ⟨hj.1, mk_nil⟩) fun _ h _ => h
    repeat(first|refine lrun_ ?_|(refine lo_boxA rfl rfl ?_;intro _ _ _)|(refine lo_box1 rfl rfl rfl ?_;intro _ _ _)|(refine lo_alloc rfl ?_;intro _ _ _))
    exact ih (k + 1, A3, c3) w5 _ ⟨hlt, hog5⟩ (by simp only; omega) _ _ (by repeat (first | exact SubB.nil | refine SubB.cons rfl ?_)) (by repeat(first|exact MSub.refl|refine MSub.keep rfl ?_|exact MSub.nil|apply MSub.drop)) fun w' hw' => ⟨hlt, hog5.now (fun _ h => h.elim) hw'⟩
  · obtain rfl : k = n.toNat := by omega
    repeat(first|refine lrun_ ?_|(refine lo_boxA rfl rfl ?_;intro _ _ _)|(refine lo_box1 rfl rfl rfl ?_;intro _ _ _)|(refine lo_alloc rfl ?_;intro _ _ _))
    refine l_no rfl (by omega) ?_
    refine l_go (.exit rfl) ?_
    repeat(first|refine lrun_ ?_|(refine lo_boxA rfl rfl ?_;intro _ _ _)|(refine lo_box1 rfl rfl rfl ?_;intro _ _ _)|(refine lo_alloc rfl ?_;intro _ _ _))
    exact l_ret1 rfl rfl fun w' hw => ⟨hw.org, (hO.now (fun _ h => h.elim) hw).mono (fun k hk _ => hk.1) fun _ h _ => h⟩
end
section
variable {F : Nat → Prop} {w B : World} {A : Option Addr} {c : Nat} {l ls : List (List Int)} {ad : Addr} {rV : Nat → Option Addr} {rc : Nat → Nat} {ra : Nat → Addr} {x0 : List Int} {g7 aN m : Nat} {kk : List Item} {R : Value → World → Prop}
theorem find_all {y : List Int} (h : ∀ t, t < y.length → classM (y.getD t 0) false = 0) : y.findIdx? (fun r => decide (classM r false ≠ 0)) = none := by
  rw [List.findIdx?_eq_none_iff]
  intro a ha
  obtain ⟨j, hj, rfl⟩ := List.mem_iff_getElem.1 ha
  have := h j hj
  rw [List.getD_eq_getElem?_getD, List.getElem?_eq_getElem hj, Option.getD_some] at this
  rw [this]
  decide
theorem find_at {y : List Int} {k : Nat} (hk : k < y.length) (hc : classM (y.getD k 0) false ≠ 0) (hb : ∀ j, j < k → classM (y.getD j 0) false = 0) : y.findIdx? (fun r => decide (classM r false ≠ 0)) = some k := by
  rw [List.findIdx?_eq_some_iff_getElem]
  refine ⟨hk, ?_, fun j hj => ?_⟩
  · rw [decide_eq_true_iff]
    rw [List.getD_eq_getElem?_getD, List.getElem?_eq_getElem hk] at hc
    exact hc
  · have hj' : j < y.length := by omega
    have := hb j hj
    rw [List.getD_eq_getElem?_getD, List.getElem?_eq_getElem hj', Option.getD_some] at this
    rw [this]
    decide
set_option maxHeartbeats 8000000 in
theorem jr_loop (hR : Rws F w A c l ad rV rc ra) (hl : l.length ≤ 4096) (hk : ∀ j, (l.getD j []).length ≤ 4194304) (hx : x0.length ≤ 4194304) (hm : 2 ≤ m) (ham : aN + m ≤ l.length) (hls : ∀ j, j < m - 1 → ls.getD j [] = l.getD (aN + 1 + j) []) (hkl : ∀ j, (ls.getD j []).length ≤ 4194304) {Ax0 : Option Addr} {cx0 : Nat} (hO : Og kRune w B (MK [(g7, cb [.int .i64 0, .int .i64 0] 24)]) (fun _ => False) (.slice Ax0 x0.length cx0) x0)
    (done : ∀ b Ax cx, Og kRune w b (MK [(g7, cb [.int .i64 0, .int .i64 0] 24)]) (fun _ => False) (.slice Ax (jnM x0 ls (m - 1)).1.length cx) (jnM x0 ls (m - 1)).1 → ∀ σ', SubB σ' [(0, .slice A l.length c), (1, .int .i64 (aN : Int)), (2, .int .i64 (m : Int)), (7, .pointer (some ⟨g7, 0, none⟩)), (9, .slice Ax (jnM x0 ls (m - 1)).1.length cx), (10, .int .i64 (jnM x0 ls (m - 1)).2)] → ∀ M', MSub [(g7, cb [.int .i64 0, .int .i64 0] 24)] M' → WL Try.prog Try.f34 kk σ' w (fun _ => False) b (MK [(g7, cb [.int .i64 0, .int .i64 0] 24)]) M' R) :
    ∀ σ', SubB σ' [(0, .slice A l.length c), (1, .int .i64 (aN : Int)), (2, .int .i64 (m : Int)), (7, .pointer (some ⟨g7, 0, none⟩)), (9, .slice Ax0 x0.length cx0), (10, .int .i64 (0 : Nat)), (11, .int .i64 ((aN + 1 + 0 : Nat) : Int))] → ∀ M', MSub [(g7, cb [.int .i64 0, .int .i64 0] 24)] M' →
      WL Try.prog Try.f34 (.code (.loop (bodyC Try.f34 [1, 1, 1, 1, 1, 0, 1, 0, 0])) :: .inBlock 0 :: kk) σ' w (fun _ => False) B (MK [(g7, cb [.int .i64 0, .int .i64 0] 24)]) M' R := by
  intro σ' hs M' hM
  refine WL.sub hs hM ?_
  have hlen := hR.len
  refine l_whileB (fun s : Nat × Option Addr × Nat => m - 1 - s.1) (fun s => [(0, .slice A l.length c), (1, .int .i64 (aN : Int)), (2, .int .i64 (m : Int)), (7, .pointer (some ⟨g7, 0, none⟩)), (9, .slice s.2.1 (jnM x0 ls s.1).1.length s.2.2), (10, .int .i64 (jnM x0 ls s.1).2), (11, .int .i64 ((aN + 1 + s.1 : Nat) : Int))]) (fun _ => [(g7, cb [.int .i64 0, .int .i64 0] 24)])
    (fun s b => s.1 ≤ m - 1 ∧ Og kRune w b (MK [(g7, cb [.int .i64 0, .int .i64 0] 24)]) (fun _ => False) (.slice s.2.1 (jnM x0 ls s.1).1.length s.2.2) (jnM x0 ls s.1).1) (0, Ax0, cx0) (by repeat (first | exact SubB.nil | refine SubB.cons rfl ?_)) (by repeat(first|exact MSub.refl|refine MSub.keep rfl ?_|exact MSub.nil|apply MSub.drop)) (fun w hw => ⟨Nat.zero_le _, hO.now (fun _ h => h.elim) hw⟩) ?_
  rintro ⟨j, Ax, cx⟩ b ⟨hj, hOb⟩ hkb ih
  simp only at hj
  have hjl := jn_len hx hkl j
  by_cases hlt : j < m - 1
  · have hil : aN + 1 + j < l.length := by omega
    have hS0 := hR.rs (aN + 1 + j) hil
    have e1 : jnM x0 ls (j + 1) = jnStep (jnM x0 ls j) (l.getD (aN + 1 + j) []) := by rw [← hls j hlt]; rfl
    have hkj := hk (aN + 1 + j)
    have hrow := hR.row (aN + 1 + j) hil
    generalize hy : l.getD (aN + 1 + j) [] = y at *
    generalize jnM x0 ls j = s at *
    obtain ⟨x, col⟩ := s
    simp only at hjl hOb
    dsimp only
    repeat(first|refine lrun_ ?_|(refine lo_boxA rfl rfl ?_;intro _ _ _)|(refine lo_box1 rfl rfl rfl ?_;intro _ _ _)|(refine lo_alloc rfl ?_;intro _ _ _))
    have J2 : ∀ (b2 : World) (q : Nat) (A' : Option Addr) (c' : Nat), q ≤ y.length → (∀ t, t < q → classM (y.getD t 0) false = 0) → (q < y.length → classM (y.getD q 0) false ≠ 0) → Sl kRune F w (.slice A' (y.drop q).length c') (y.drop q) → Og kRune w b2 (MK [(g7, cb [.int .i64 0, .int .i64 0] 24)]) (fun _ => False) (.slice Ax x.length cx) x →
        ∀ σ', SubB σ' [(0, .slice A l.length c), (1, .int .i64 (aN : Int)), (2, .int .i64 (m : Int)), (7, .pointer (some ⟨g7, 0, none⟩)), (9, .slice Ax x.length cx), (11, .int .i64 ((aN + 1 + j : Nat) : Int)), (12, .slice A' (y.drop q).length c')] → ∀ M', MSub [(g7, cb [.int .i64 0, .int .i64 0] 24)] M' →
        WL Try.prog Try.f34 (.code (bodyC Try.f34 [1, 1, 1, 1, 1, 0, 1, 0, 0, 1, 0, 0, 1, 1]) :: .inBlock 1 :: .code (bodyC Try.f34 [1, 1, 1, 1, 1, 0, 1, 0, 0, 1, 1]) :: .inLoop (bodyC Try.f34 [1, 1, 1, 1, 1, 0, 1, 0, 0]) :: .inBlock 0 :: kk) σ' w (fun _ => False) b2 (MK [(g7, cb [.int .i64 0, .int .i64 0] 24)]) M' R := by
      intro b2 q A' c' hq hbl hst hS hOx σ' hs M' hM
      refine WL.sub hs hM ?_
      have hdl : (y.drop q).length = y.length - q := List.length_drop
      have eg : (y.drop q).getD 0 0 = y.getD q 0 := by rw [List.getD_eq_getElem?_getD, List.getD_eq_getElem?_getD, List.getElem?_drop, Nat.add_zero]
      have J : ∀ (b' : World) (K' : Nat → Prop) (x' : List Int) (Ax' : Option Addr) (cx' : Nat), Og kRune w b' K' (fun _ => False) (.slice Ax' x'.length cx') x' → x'.length ≤ (j + 1) * 4194305 + 1 → jnM x0 ls (j + 1) = (x' ++ y.drop q, x.length) → (∀ k, MK [(g7, cb [.int .i64 0, .int .i64 0] 24)] k ↔ K' k) →
          ∀ σ', SubB σ' [(0, .slice A l.length c), (1, .int .i64 (aN : Int)), (2, .int .i64 (m : Int)), (7, .pointer (some ⟨g7, 0, none⟩)), (9, .slice Ax' x'.length cx'), (10, .int .i64 x.length), (11, .int .i64 ((aN + 1 + j : Nat) : Int)), (12, .slice A' (y.drop q).length c')] → ∀ M', MSub [(g7, cb [.int .i64 0, .int .i64 0] 24)] M' →
          WL Try.prog Try.f34 (.code (bodyC Try.f34 [1, 1, 1, 1, 1, 0, 1, 0, 0, 1, 0, 0, 1, 1, 1, 1]) :: .inBlock 1 :: .code (bodyC Try.f34 [1, 1, 1, 1, 1, 0, 1, 0, 0, 1, 1]) :: .inLoop (bodyC Try.f34 [1, 1, 1, 1, 1, 0, 1, 0, 0]) :: .inBlock 0 :: kk) σ' w (fun _ => False) b' K' M' R := by
        intro b' K' x' Ax' cx' hO' hx' e2 hKK σ' hs M' hM
        refine WL.sub hs hM ?_
        repeat(first|refine lrun_ ?_|(refine lo_boxA rfl rfl ?_;intro _ _ _)|(refine lo_box1 rfl rfl rfl ?_;intro _ _ _)|(refine lo_alloc rfl ?_;intro _ _ _))
        refine lo_appendS (d := kRune) (ys := y.drop q) (F2 := fun k => k < w.heap.size) rfl rfl hO' (fun w' hw => Kn.sl hw.org hS.old) (fun k hk ho => by have := (hO'.block k ho).1.1; omega) (by rw [List.length_drop]; show (x'.length + (y.length - q)) * 4 ≤ 140737488355328; omega) rfl rfl rfl rfl ?_
        intro w3 A3 c3 w4 hw3 hk3 hk4 hown hog
        repeat(first|refine lrun_ ?_|(refine lo_boxA rfl rfl ?_;intro _ _ _)|(refine lo_box1 rfl rfl rfl ?_;intro _ _ _)|(refine lo_alloc rfl ?_;intro _ _ _))
        refine ih (j + 1, A3, c3) w4 _ ⟨hlt, by simp only [e2]; exact hog⟩ (by simp only; omega) _ _ (by simp only [e2]; exact (by repeat (first | exact SubB.nil | refine SubB.cons rfl ?_))) (by repeat(first|exact MSub.refl|refine MSub.keep rfl ?_|exact MSub.nil|apply MSub.drop)) (fun w' hw' => ⟨hlt, by simp only [e2]; exact hog.now (fun _ h => h.elim) hw'⟩)
      unfold jnStep at e1
      simp only at e1
      by_cases hql : q < y.length
      case neg =>
        have hq0 : (y.drop q).length = 0 := by omega
        have hqn : y.drop q = [] := List.length_eq_zero_iff.1 hq0
        rw [find_all (fun t ht => hbl t (by omega))] at e1
        simp only at e1
        repeat(first|refine lrun_ ?_|(refine lo_boxA rfl rfl ?_;intro _ _ _)|(refine lo_box1 rfl rfl rfl ?_;intro _ _ _)|(refine lo_alloc rfl ?_;intro _ _ _))
        refine l_false rfl ?_
        refine l_go .skip ?_
        exact J b2 _ x Ax cx hOx (by omega) (by rw [e1, hqn, List.append_nil]) (fun k => Iff.rfl) _ (by repeat (first | exact SubB.nil | refine SubB.cons rfl ?_)) _ (by repeat(first|exact MSub.refl|refine MSub.keep rfl ?_|exact MSub.nil|apply MSub.drop))
      rw [find_at hql (hst hql) hbl] at e1
      simp only at e1
      obtain ⟨_, _, ad2, e, hX⟩ := hS.rns
      cases e
      have hdp : 0 < (y.drop q).length := by omega
      by_cases c1 : (y.drop q).getD 0 0 = 41
      · rw [if_neg (fun h => h.1 (eg ▸ c1))] at e1
        repeat(first|refine lrun_ ?_|(refine lo_boxA rfl rfl ?_;intro _ _ _)|(refine lo_box1 rfl rfl rfl ?_;intro _ _ _)|(refine lo_alloc rfl ?_;intro _ _ _))
        refine l_false rfl ?_
        refine l_go .skip ?_
        exact J b2 _ x Ax cx hOx (by omega) e1 (fun k => Iff.rfl) _ (by repeat (first | exact SubB.nil | refine SubB.cons rfl ?_)) _ (by repeat(first|exact MSub.refl|refine MSub.keep rfl ?_|exact MSub.nil|apply MSub.drop))
      by_cases c2 : 0 < x.length
      case neg =>
        rw [if_neg (fun h => c2 h.2.1)] at e1
        have e3 : x.length = 0 := by omega
        repeat(first|refine lrun_ ?_|(refine lo_boxA rfl rfl ?_;intro _ _ _)|(refine lo_box1 rfl rfl rfl ?_;intro _ _ _)|(refine lo_alloc rfl ?_;intro _ _ _))
        refine l_false rfl ?_
        refine l_go .skip ?_
        exact J b2 _ x Ax cx hOx (by omega) e1 (fun k => Iff.rfl) _ (by repeat (first | exact SubB.nil | refine SubB.cons rfl ?_)) _ (by repeat(first|exact MSub.refl|refine MSub.keep rfl ?_|exact MSub.nil|apply MSub.drop))
      obtain ⟨Ay, cy, ay, ey, hY⟩ := hOx.sl.rns
      cases ey
      have hAy := hY.a c2
      have hload := hY.run (x.length - 1) (by omega)
      have hyb : ¬ MK [(g7, cb [.int .i64 0, .int .i64 0] 24)] (ay.add ((x.length - 1) * 1)).block := fun h => by
        rw [add_block] at h
        exact (hOx.block ay.block (by rw [hAy]; rfl)).1.2 h
      repeat(first|refine lrun_ ?_|(refine lo_boxA rfl rfl ?_;intro _ _ _)|(refine lo_box1 rfl rfl rfl ?_;intro _ _ _)|(refine lo_alloc rfl ?_;intro _ _ _))
      refine lo_index (j := x.length - 1) rfl rfl (by omega) (by omega) hAy rfl ?_
      repeat(first|refine lrun_ ?_|(refine lo_boxA rfl rfl ?_;intro _ _ _)|(refine lo_box1 rfl rfl rfl ?_;intro _ _ _)|(refine lo_alloc rfl ?_;intro _ _ _))
      refine lo_loadB rfl hload hyb rfl ?_
      repeat(first|refine lrun_ ?_|(refine lo_boxA rfl rfl ?_;intro _ _ _)|(refine lo_box1 rfl rfl rfl ?_;intro _ _ _)|(refine lo_alloc rfl ?_;intro _ _ _))
      refine lo_callP (n_call rfl) rfl (fun w' hw => classR_calls) ?_
      by_cases c3 : classM (x.getD (x.length - 1) 0) false = 0
      · rw [if_neg (fun h => h.2.2 c3)] at e1
        repeat(first|refine lrun_ ?_|(refine lo_boxA rfl rfl ?_;intro _ _ _)|(refine lo_box1 rfl rfl rfl ?_;intro _ _ _)|(refine lo_alloc rfl ?_;intro _ _ _))
        refine l_no rfl (fun h => h c3) ?_
        refine l_go .skip ?_
        exact J b2 _ x Ax cx hOx (by omega) e1 (fun k => Iff.rfl) _ (by repeat (first | exact SubB.nil | refine SubB.cons rfl ?_)) _ (by repeat(first|exact MSub.refl|refine MSub.keep rfl ?_|exact MSub.nil|apply MSub.drop))
      · rw [if_pos ⟨fun h => c1 (eg ▸ h), c2, c3⟩] at e1
        repeat(first|refine lrun_ ?_|(refine lo_boxA rfl rfl ?_;intro _ _ _)|(refine lo_box1 rfl rfl rfl ?_;intro _ _ _)|(refine lo_alloc rfl ?_;intro _ _ _))
        refine l_yes rfl c3 ?_
        refine l_region ?_
        repeat(first|refine lops_ ?_|(refine lo_boxA rfl rfl ?_;intro _ _ _)|(refine lo_box1 rfl rfl rfl ?_;intro _ _ _)|(refine lo_alloc rfl ?_;intro _ _ _))
        refine lo_lit (cs := [.int .i32 32]) rfl (by decide) (by kernel_rfl) rfl ?_
        intro g9 _ _
        refine lo_append1 (d := kRune) (q := 32) rfl rfl hOx (fun _ h => h.elim) (by(repeat(first|exact MIn.hd|refine MIn.tl ?_));done) (fun w' hw => ⟨rfl, by decide, by decide⟩) (by show (x.length + 1) * 4 ≤ 140737488355328; omega) rfl rfl rfl rfl ?_
        intro w3 A3 c3' w4 hw3 hk3 hk4 hown hog
        repeat(first|refine lops_ ?_|(refine lo_boxA rfl rfl ?_;intro _ _ _)|(refine lo_box1 rfl rfl rfl ?_;intro _ _ _)|(refine lo_alloc rfl ?_;intro _ _ _))
        refine lo_nil ?_
        refine l_baseM (M3 := [(g7, cb [.int .i64 0, .int .i64 0] 24)]) (by repeat(first|exact MSub.refl|refine MSub.keep rfl ?_|exact MSub.nil|apply MSub.drop)) fun w5 hw5 => ?_
        have hog5 : Og kRune w w5 (MK [(g7, cb [.int .i64 0, .int .i64 0] 24)]) (fun _ => False) (.slice A3 (x ++ [32]).length c3') (x ++ [32]) := (hog.now (fun _ h => h.elim) hw5).mono (fun k hk _ => ⟨hk.1, fun ⟨o, hm⟩ => hk.2 ⟨o, .tl hm⟩⟩) fun _ h _ => h
        exact J w5 _ (x ++ [32]) A3 c3' hog5 (by rw [List.length_append]; simp; omega) e1 (fun k => Iff.rfl) _ (by repeat (first | exact SubB.nil | refine SubB.cons rfl ?_)) _ (by repeat(first|exact MSub.refl|refine MSub.keep rfl ?_|exact MSub.nil|apply MSub.drop))
    refine l_yes rfl (by omega) ?_
    repeat(first|refine lrun_ ?_|(refine lo_boxA rfl rfl ?_;intro _ _ _)|(refine lo_box1 rfl rfl rfl ?_;intro _ _ _)|(refine lo_alloc rfl ?_;intro _ _ _))
    refine l_whileB (fun s : Nat × Option Addr × Nat => y.length - s.1) (fun s => [(0, .slice A l.length c), (1, .int .i64 (aN : Int)), (2, .int .i64 (m : Int)), (7, .pointer (some ⟨g7, 0, none⟩)), (9, .slice Ax x.length cx), (11, .int .i64 ((aN + 1 + j : Nat) : Int)), (12, .slice s.2.1 (y.drop s.1).length s.2.2)]) (fun _ => [(g7, cb [.int .i64 0, .int .i64 0] 24)])
      (fun s b2 => s.1 ≤ y.length ∧ (∀ t, t < s.1 → classM (y.getD t 0) false = 0) ∧ Sl kRune F w (.slice s.2.1 (y.drop s.1).length s.2.2) (y.drop s.1) ∧ Og kRune w b2 (MK [(g7, cb [.int .i64 0, .int .i64 0] 24)]) (fun _ => False) (.slice Ax x.length cx) x) (0, rV (aN + 1 + j), rc (aN + 1 + j)) (by repeat (first | exact SubB.nil | refine SubB.cons rfl ?_)) (by repeat(first|exact MSub.refl|refine MSub.keep rfl ?_|exact MSub.nil|apply MSub.drop)) (fun w' hw => ⟨Nat.zero_le _, fun t h => absurd h (Nat.not_lt_zero _), hS0, hOb.now (fun _ h => h.elim) hw⟩) ?_
    rintro ⟨q, A', c'⟩ b2 ⟨hq, hbl, hS, hOx⟩ hkb2 ih2
    simp only at hq hbl hS hOx
    dsimp only
    have hdl : (y.drop q).length = y.length - q := List.length_drop
    have eg : (y.drop q).getD 0 0 = y.getD q 0 := by rw [List.getD_eq_getElem?_getD, List.getD_eq_getElem?_getD, List.getElem?_drop, Nat.add_zero]
    by_cases hql : q < y.length
    case neg =>
      have hq0 : (y.drop q).length = 0 := by omega
      repeat(first|refine lrun_ ?_|(refine lo_boxA rfl rfl ?_;intro _ _ _)|(refine lo_box1 rfl rfl rfl ?_;intro _ _ _)|(refine lo_alloc rfl ?_;intro _ _ _))
      refine l_false rfl ?_
      refine l_go (.exit rfl) ?_
      exact J2 b2 q A' c' hq hbl (fun h => absurd h hql) hS hOx _ (by repeat (first | exact SubB.nil | refine SubB.cons rfl ?_)) _ (by repeat(first|exact MSub.refl|refine MSub.keep rfl ?_|exact MSub.nil|apply MSub.drop))
    have hdp : 0 < (y.drop q).length := by omega
    obtain ⟨_, _, ad2, e, hX⟩ := hS.rns
    cases e
    have hcx := hX.cap
    repeat(first|refine lrun_ ?_|(refine lo_boxA rfl rfl ?_;intro _ _ _)|(refine lo_box1 rfl rfl rfl ?_;intro _ _ _)|(refine lo_alloc rfl ?_;intro _ _ _))
    refine lo_callP (n_call rfl) rfl (fun w' hw => classR_calls) ?_
    by_cases hc : classM ((y.drop q).getD 0 0) false = 0
    case neg =>
      repeat(first|refine lrun_ ?_|(refine lo_boxA rfl rfl ?_;intro _ _ _)|(refine lo_box1 rfl rfl rfl ?_;intro _ _ _)|(refine lo_alloc rfl ?_;intro _ _ _))
      refine l_no rfl hc ?_
      refine l_go (.exit rfl) ?_
      exact J2 b2 q A' c' hq hbl (fun _ => eg ▸ hc) hS hOx _ (by repeat (first | exact SubB.nil | refine SubB.cons rfl ?_)) _ (by repeat(first|exact MSub.refl|refine MSub.keep rfl ?_|exact MSub.nil|apply MSub.drop))
    repeat(first|refine lrun_ ?_|(refine lo_boxA rfl rfl ?_;intro _ _ _)|(refine lo_box1 rfl rfl rfl ?_;intro _ _ _)|(refine lo_alloc rfl ?_;intro _ _ _))
    refine l_yes rfl hc ?_
    repeat(first|refine lrun_ ?_|(refine lo_boxA rfl rfl ?_;intro _ _ _)|(refine lo_box1 rfl rfl rfl ?_;intro _ _ _)|(refine lo_alloc rfl ?_;intro _ _ _))
    have hcut := Sl.cutV hS (l := 1) (show 1 ≤ (y.drop q).length from hdp) (Nat.le_refl _) hcx (Nat.le_refl _)
    rw [List.take_length, List.drop_drop] at hcut
    obtain ⟨A3, c3, e3, _, _⟩ := hcut.form
    rw [e3] at hcut
    have e4 : cutV A' 1 (y.drop q).length c' 1 = .slice A3 (y.drop (q + 1)).length c3 := e3
    refine lo_suf (j := 1) rfl rfl rfl hdp hcx rfl ?_
    rw [e4]
    repeat(first|refine lrun_ ?_|(refine lo_boxA rfl rfl ?_;intro _ _ _)|(refine lo_box1 rfl rfl rfl ?_;intro _ _ _)|(refine lo_alloc rfl ?_;intro _ _ _))
    have hbl' : ∀ t, t < q + 1 → classM (y.getD t 0) false = 0 := fun t ht => by
      rcases Nat.lt_succ_iff_lt_or_eq.1 ht with h | rfl
      · exact hbl t h
      · exact eg ▸ hc
    exact ih2 (q + 1, A3, c3) b2 _ ⟨hql, hbl', hcut, hOx⟩ (by simp only; omega) _ _ (by repeat (first | exact SubB.nil | refine SubB.cons rfl ?_)) (by repeat(first|exact MSub.refl|refine MSub.keep rfl ?_|exact MSub.nil|apply MSub.drop)) fun w' hw' => ⟨hql, hbl', hcut, hOx.now (fun _ h => h.elim) hw'⟩
  · obtain rfl : j = m - 1 := by omega
    repeat(first|refine lrun_ ?_|(refine lo_boxA rfl rfl ?_;intro _ _ _)|(refine lo_box1 rfl rfl rfl ?_;intro _ _ _)|(refine lo_alloc rfl ?_;intro _ _ _))
    refine l_no rfl (by omega) ?_
    refine l_go (.exit rfl) ?_
    exact done b Ax cx hOb _ (by repeat (first | exact SubB.nil | refine SubB.cons rfl ?_)) _ (by repeat(first|exact MSub.refl|refine MSub.keep rfl ?_|exact MSub.nil|apply MSub.drop))
set_option maxHeartbeats 8000000 in
theorem joinR_calls {v : Value} {a n : Int} (h : Sl kRow F w v l) (ha : -9223372036854775808 ≤ a ∧ a ≤ 9223372036854775807) (hn : -9223372036854775808 ≤ n ∧ n ≤ 9223372036854775807) (hl : l.length ≤ 4096) (hk : ∀ j, (l.getD j []).length ≤ 4194304) :
    CallsR Try.prog 34 #[v, .int .i64 a, .int .i64 n] w fun u w' => Kn w w' ∧ ∃ s, u = .tuple #[s, posV (joinM l a n).2.1, .int .i64 (joinM l a n).2.2] ∧ Ow kRow (noB w) (noB w) w' s (joinM l a n).1 := by
  obtain ⟨A, c, ad, rV, rc, ra, rfl, hR⟩ := h.rws
  have hc := hR.cap
  refine l_enter (fun _ => False) Try.func34 rfl rfl ?_
  have hmx : (if (2 : Int) < n then n else 2) = (if n < 2 then 2 else n) := by split <;> split <;> omega
  by_cases h1 : a < 0
  · unfold joinM
    rw [if_pos (.inl h1)]
    repeat(first|refine lrun_ ?_|(refine lo_boxA rfl rfl ?_;intro _ _ _)|(refine lo_box1 rfl rfl rfl ?_;intro _ _ _)|(refine lo_alloc rfl ?_;intro _ _ _))
    refine l_true rfl ?_
    repeat(first|refine lrun_ ?_|(refine lo_boxA rfl rfl ?_;intro _ _ _)|(refine lo_box1 rfl rfl rfl ?_;intro _ _ _)|(refine lo_alloc rfl ?_;intro _ _ _))
    exact l_retR3 rfl (by repeat(first|exact LRes.nil|refine LRes.tmp rfl ?_|refine LRes.agg rfl (by(repeat(first|exact MIn.hd|refine MIn.tl ?_));done) (by rfl) (by rfl) ?_|refine LRes.one rfl (by(repeat(first|exact MIn.hd|refine MIn.tl ?_));done) (by rfl) ?_)) fun w hw => ⟨hw.org, .slice none 0 0, rfl, Ow.nil _ _ _ _⟩
  by_cases h2 : (l.length : Int) ≤ a
  · unfold joinM
    rw [if_pos (.inr (.inl h2))]
    repeat(first|refine lrun_ ?_|(refine lo_boxA rfl rfl ?_;intro _ _ _)|(refine lo_box1 rfl rfl rfl ?_;intro _ _ _)|(refine lo_alloc rfl ?_;intro _ _ _))
    refine l_true rfl ?_
    repeat(first|refine lrun_ ?_|(refine lo_boxA rfl rfl ?_;intro _ _ _)|(refine lo_box1 rfl rfl rfl ?_;intro _ _ _)|(refine lo_alloc rfl ?_;intro _ _ _))
    exact l_retR3 rfl (by repeat(first|exact LRes.nil|refine LRes.tmp rfl ?_|refine LRes.agg rfl (by(repeat(first|exact MIn.hd|refine MIn.tl ?_));done) (by rfl) (by rfl) ?_|refine LRes.one rfl (by(repeat(first|exact MIn.hd|refine MIn.tl ?_));done) (by rfl) ?_)) fun w hw => ⟨hw.org, .slice none 0 0, rfl, Ow.nil _ _ _ _⟩
  by_cases h3 : (l.length : Int) - a < (if n < 2 then 2 else n)
  · unfold joinM
    rw [if_pos (.inr (.inr h3))]
    repeat(first|refine lrun_ ?_|(refine lo_boxA rfl rfl ?_;intro _ _ _)|(refine lo_box1 rfl rfl rfl ?_;intro _ _ _)|(refine lo_alloc rfl ?_;intro _ _ _))
    rw [hmx]
    refine l_yes rfl h3 ?_
    repeat(first|refine lrun_ ?_|(refine lo_boxA rfl rfl ?_;intro _ _ _)|(refine lo_box1 rfl rfl rfl ?_;intro _ _ _)|(refine lo_alloc rfl ?_;intro _ _ _))
    exact l_retR3 rfl (by repeat(first|exact LRes.nil|refine LRes.tmp rfl ?_|refine LRes.agg rfl (by(repeat(first|exact MIn.hd|refine MIn.tl ?_));done) (by rfl) (by rfl) ?_|refine LRes.one rfl (by(repeat(first|exact MIn.hd|refine MIn.tl ?_));done) (by rfl) ?_)) fun w hw => ⟨hw.org, .slice none 0 0, rfl, Ow.nil _ _ _ _⟩
  unfold joinM
  rw [if_neg (fun h => h.elim h1 fun h => h.elim h2 h3)]
  have hm2 : 2 ≤ (if n < 2 then 2 else n) := by split <;> omega
  generalize hme : (if n < 2 then 2 else n) = mm at *
  obtain ⟨i, rfl⟩ : ∃ i : Nat, a = (i : Int) := ⟨a.toNat, by omega⟩
  obtain ⟨m, rfl⟩ : ∃ m : Nat, mm = (m : Int) := ⟨mm.toNat, by omega⟩
  simp only [Int.toNat_natCast]
  have hil : i < l.length := by omega
  have him : i + m ≤ l.length := by omega
  have hkl : ((l.take (i + m)).drop (i + 1)).length = m - 1 := by rw [List.length_drop, List.length_take]; omega
  have hke : ∀ j, j < m - 1 → ((l.take (i + m)).drop (i + 1)).getD j [] = l.getD (i + 1 + j) [] := fun j hj => by
    rw [List.getD_eq_getElem?_getD, List.getD_eq_getElem?_getD, List.getElem?_drop, List.getElem?_take, if_pos (by omega)]
  have hks : ∀ j, (((l.take (i + m)).drop (i + 1)).getD j []).length ≤ 4194304 := fun j => by
    by_cases hj : j < m - 1
    · rw [hke j hj]; exact hk _
    · rw [List.getD_eq_getElem?_getD, List.getElem?_eq_none (by omega)]
      exact Nat.zero_le _
  have hj := jn_len (hk i) hks (m - 1)
  repeat(first|refine lrun_ ?_|(refine lo_boxA rfl rfl ?_;intro _ _ _)|(refine lo_box1 rfl rfl rfl ?_;intro _ _ _)|(refine lo_alloc rfl ?_;intro _ _ _))
  rw [hmx]
  refine l_no rfl (by omega) ?_
  refine l_go .skip ?_
  rename_i g7 _ _
  refine l_baseM (M3 := [(g7, cb [.int .i64 0, .int .i64 0] 24)]) (by repeat(first|exact MSub.refl|refine MSub.keep rfl ?_|exact MSub.nil|apply MSub.drop)) fun w0 hw0 => ?_
  have hg70 : g7 < w0.heap.size := hw0.lt ⟨_, .hd⟩
  repeat(first|refine lrun_ ?_|(refine lo_boxA rfl rfl ?_;intro _ _ _)|(refine lo_box1 rfl rfl rfl ?_;intro _ _ _)|(refine lo_alloc rfl ?_;intro _ _ _))
  refine lo_lit (cs := []) rfl (by decide) (by kernel_rfl) rfl ?_
  intro g33 hg33 hg33'
  repeat(first|refine lrun_ ?_|(refine lo_boxA rfl rfl ?_;intro _ _ _)|(refine lo_box1 rfl rfl rfl ?_;intro _ _ _)|(refine lo_alloc rfl ?_;intro _ _ _))
  refine lo_take (M' := [(g7, cb [.int .i64 0, .int .i64 0] 24)]) (by repeat(first|exact MSub.refl|refine MSub.keep rfl ?_|exact MSub.nil|apply MSub.drop)) fun w1 hw1 => ?_
  have hs1 := hw1.kp.size
  have hg7 : g7 < g33 := by omega
  have hO2 := og_lit0 (d := kRune) (F := fun _ => False) (M' := [(g7, cb [.int .i64 0, .int .i64 0] 24)]) hw1 .hd hg33 (fun hm => by rw [MK_iff] at hm; simp at hm; omega)
  refine lo_appendS (d := kRune) (ys := l.getD i []) (F2 := fun k => k < w.heap.size) rfl rfl hO2 (fun w' hw => Kn.sl hw.org (hR.rs i hil).old) (fun j hj ho => by have h8 : g33 = j := Option.some.inj ho; omega) (by show (0 + (l.getD i []).length) * 4 ≤ 140737488355328; have := hk i; omega) rfl rfl rfl rfl ?_
  intro w3 A3 n3 w4 hw3 ko3 kp3 hown hog
  rw [List.nil_append] at hog hown ⊢
  repeat(first|refine lrun_ ?_|(refine lo_boxA rfl rfl ?_;intro _ _ _)|(refine lo_box1 rfl rfl rfl ?_;intro _ _ _)|(refine lo_alloc rfl ?_;intro _ _ _))
  rw [show (i : Int) + 1 = ((i + 1 + 0 : Nat) : Int) by omega]
  refine jr_loop hR hl hk (hk i) (by omega) him hke hks hog ?_ _ (by repeat (first | exact SubB.nil | refine SubB.cons rfl ?_)) _ (by repeat(first|exact MSub.refl|refine MSub.keep rfl ?_|exact MSub.nil|apply MSub.drop))
  intro b Ax cx hOx σ' hs M' hM
  refine WL.sub hs hM ?_
  have hjl := hj
  generalize hse : jnM (l.getD i []) ((l.take (i + m)).drop (i + 1)) (m - 1) = sx at *
  obtain ⟨x, at_⟩ := sx
  simp only at hOx hjl
  dsimp only
  have hob := hOx.block
  repeat(first|refine lrun_ ?_|(refine lo_boxA rfl rfl ?_;intro _ _ _)|(refine lo_box1 rfl rfl rfl ?_;intro _ _ _)|(refine lo_alloc rfl ?_;intro _ _ _))
  refine lo_callM (n_call rfl) rfl (fun w' hw => twinT_calls (Sl.pre (Kn.sl hw.org hR.sl) (by omega) (by omega))) ?_
  rintro w5 tv w6 hw5 kn5 ko5 ⟨us0, hT0⟩
  have hs5 := hw5.kp.size
  have hs5o := hw5.org.size
  have hlm : ∀ k, MK [(g7, cb [.int .i64 0, .int .i64 0] 24)] k → k < w5.heap.size := fun k hm => hw5.lt hm
  have htl : (l.take i).length = i := by rw [List.length_take]; omega
  have htb := hT0.t.block
  obtain ⟨At, ct, rfl, _, _⟩ := hT0.form
  have hx6 : Og kRune w w6 (MK [(g7, cb [.int .i64 0, .int .i64 0] 24)]) (fun _ => False) (.slice Ax x.length cx) x := Kp.ow kn5 (hOx.now (fun _ h => h.elim) hw5) (fun _ _ h => h) fun _ h => h.elim
  repeat(first|refine lrun_ ?_|(refine lo_boxA rfl rfl ?_;intro _ _ _)|(refine lo_box1 rfl rfl rfl ?_;intro _ _ _)|(refine lo_alloc rfl ?_;intro _ _ _))
  refine lo_lit (cs := [.slice Ax x.length cx]) rfl (by decide) (by kernel_rfl) rfl ?_
  intro g102 _ hg102
  refine lo_tabPush (r := x) rfl rfl ((hT0.mono (G' := fre w (MK [(g7, cb [.int .i64 0, .int .i64 0] 24)])) fun k hk _ => ⟨by unfold noB at hk; omega, fun hm => by have := hlm k hm; unfold noB at hk; omega⟩).less (L' := fun t => t < (l.take i).length) fun _ _ => trivial) (by(repeat(first|exact MIn.hd|refine MIn.tl ?_));done) (hx6.nW.mono (fun k hk _ => ⟨hk.1, fun e => by have := (htb k e).1; have := (hob k hk.2).2; unfold noB at *; omega⟩) fun _ h _ => h) (Nat.lt_irrefl _) (fun t u2 k ht hu hk1 hk2 => by have := (hT0.blk trivial hu hk1).1; have := (hob k hk2).2; unfold noB at *; omega) (by omega) rfl rfl ?_
  intro w7 A4 n4 w8 hw7 ko7 kp7 hT4
  have hT5 := hT4.all fun t ht => by
    rw [List.length_append] at ht
    show t < _ ∨ t = _
    simp only [List.length_cons, List.length_nil] at ht
    omega
  repeat(first|refine lops_ ?_|(refine lo_boxA rfl rfl ?_;intro _ _ _)|(refine lo_box1 rfl rfl rfl ?_;intro _ _ _)|(refine lo_alloc rfl ?_;intro _ _ _))
  refine lo_nil ?_
  refine l_baseM (M3 := [(g7, cb [.int .i64 0, .int .i64 0] 24)]) (by repeat(first|exact MSub.refl|refine MSub.keep rfl ?_|exact MSub.nil|apply MSub.drop)) fun w9 hw9 => ?_
  have hT9 := (hT5.kp hw9.kp fun k hk hm => hk.2 hm).mono (G' := fre w (MK [(g7, cb [.int .i64 0, .int .i64 0] 24)])) fun k hk _ => ⟨hk.1, fun ⟨o, hm⟩ => hk.2 ⟨o, .tl hm⟩⟩
  have hO9 : Og kRow w w9 (MK [(g7, cb [.int .i64 0, .int .i64 0] 24)]) (fre w (MK [(g7, cb [.int .i64 0, .int .i64 0] 24)])) _ (l.take i ++ [x]) := hT9.ow fun _ _ => trivial
  have hob9 := hO9.block
  have hlx : (l.take i ++ [x]).length = i + 1 := by rw [List.length_append, htl]; rfl
  repeat(first|refine lrun_ ?_|(refine lo_boxA rfl rfl ?_;intro _ _ _)|(refine lo_box1 rfl rfl rfl ?_;intro _ _ _)|(refine lo_alloc rfl ?_;intro _ _ _))
  refine lo_suf rfl rfl (by omega) him hc rfl ?_
  refine lo_callM (n_call rfl) rfl (fun w' hw => twinT_calls (Sl.cutV (d := kRow) (Kn.sl hw.org hR.sl) him (Nat.le_refl _) hc (Nat.le_refl _))) ?_
  rw [List.take_length]
  rintro wa tv2 wb hwa kna koa ⟨us2, hT2⟩
  have hsa := hwa.kp.size
  have hsao := hwa.org.size
  have hlm2 : ∀ k, MK [(g7, cb [.int .i64 0, .int .i64 0] 24)] k → k < wa.heap.size := fun k hm => hwa.lt hm
  have hOb : Og kRow w wb (MK [(g7, cb [.int .i64 0, .int .i64 0] 24)]) (fre w (MK [(g7, cb [.int .i64 0, .int .i64 0] 24)])) (.slice A4 (l.take i ++ [x]).length n4) (l.take i ++ [x]) := Kp.ow kna (Kp.ow hwa.kp hO9 (fun k hk => hk.2) fun k hk => hk.2) (fun _ _ h => h) fun _ _ h => h
  have hT2s := (hT2.ow fun _ _ => trivial).slF (F' := noB wa) (fun _ h => h) fun _ h => h
  obtain ⟨A2, c2, rfl, _, _⟩ := hT2.form
  have hdl : (l.drop (i + m)).length ≤ 4096 := by rw [List.length_drop]; omega
  refine lo_append (d := kRow) (F := fre w (MK [(g7, cb [.int .i64 0, .int .i64 0] 24)])) (F2 := noB wa) rfl rfl hOb (fun k hk => hk.2) (fun w' hw => Kp.sl hw.kp hT2s fun k hk hm => by have := hlm2 k hm; unfold noB at hk; omega) (fun k hk e => by have := (hob9 k e).2; unfold noB at hk; omega) (by show ((l.take i ++ [x]).length + (l.drop (i + m)).length) * 24 ≤ 140737488355328; omega) rfl rfl rfl rfl ?_
  intro wc v4 wd hwc koc kpc hown4 hog4
  obtain ⟨A5, c5, rfl, _, _⟩ := hog4.form
  have hO4 : Og kRow w wd (MK [(g7, cb [.int .i64 0, .int .i64 0] 24)]) (fre w (MK [(g7, cb [.int .i64 0, .int .i64 0] 24)])) (.slice A5 (l.take i ++ [x] ++ l.drop (i + m)).length c5) (l.take i ++ [x] ++ l.drop (i + m)) := hog4.mono (fun k hk _ => hk) fun k hk _ => hk.elim id fun h => ⟨by unfold noB at h; omega, fun hm => by have := hlm2 k hm; unfold noB at h; omega⟩
  repeat(first|refine lrun_ ?_|(refine lo_boxA rfl rfl ?_;intro _ _ _)|(refine lo_box1 rfl rfl rfl ?_;intro _ _ _)|(refine lo_alloc rfl ?_;intro _ _ _))
  refine lo_call (n_call rfl) rfl (fun w' hw => clipR_calls (p := ((i : Int), (at_ : Int))) (Kp.sl hw.kp hO4.sl fun k hk => hk.elim (·.2) (·.2)) ⟨by simp only; omega, by have := hjl.2; simp only; omega⟩) ?_
  repeat(first|refine lrun_ ?_|(refine lo_boxA rfl rfl ?_;intro _ _ _)|(refine lo_box1 rfl rfl rfl ?_;intro _ _ _)|(refine lo_alloc rfl ?_;intro _ _ _))
  refine l_retR3 rfl (by repeat(first|exact LRes.nil|refine LRes.tmp rfl ?_|refine LRes.agg rfl (by(repeat(first|exact MIn.hd|refine MIn.tl ?_));done) (by rfl) (by rfl) ?_|refine LRes.one rfl (by(repeat(first|exact MIn.hd|refine MIn.tl ?_));done) (by rfl) ?_)) fun w' hw => ⟨hw.org, .slice A5 (l.take i ++ [x] ++ l.drop (i + m)).length c5, rfl, ?_⟩
  exact (Kp.ow hw.kp hO4 (fun k hk => hk.2) fun k hk => hk.2).mono (fun k hk _ => hk.1) fun k hk _ => hk.1
end
end Go.Ink
