/-
  A letter that is turned; what Turn makes of a line.
  Turn.
  The reference: Turn. OperTurns.
  OperTurns.
-/
import Derived.Test.YtepjngapfmfkeaaQA
import Derived.Test.YtepjngapfmfkeaaR3
import Derived.Test.YtepjngapfmfkeaaR6
import Derived.Test.YtepjngapfmfkeaaBw
import Derived.Test.YtepjngapfmfkeaaSr
import Derived.Test.YtepjngapfmfkeaaS1
import Derived.Test.YtepjngapfmfkeaaR1
import Derived.Test.YtepjngapfmfkeaaTw
import Derived.Test.YtepjngapfmfkeaaNw
import Derived.Test.YtepjngapfmfkeaaS4
set_option linter.unusedVariables false
set_option linter.unusedSimpArgs false
namespace Go.Ink
open Go Go.Proofs Go.RowKit

def tnR (how r : Int) : Int := if (97 ≤ r ∧ r ≤ 122) ∧ how ≠ 117 then r - 32 else if (65 ≤ r ∧ r ≤ 90) ∧ how ≠ 85 then r + 32 else r
/-- The first k runes of a row, those of P turned. -/
def tnP (how : Int) (P : Nat → Bool) (x : List Int) : Nat → List Int
  | 0 => x
  | k + 1 => if P k = true then (tnP how P x k).set k (tnR how (x.getD k 0)) else tnP how P x k
section
variable {how : Int} {P Q : Nat → Bool} {x : List Int}
theorem tnP_len : ∀ k, (tnP how P x k).length = x.length
  | 0 => rfl
  | k + 1 => by
    unfold tnP
    split
    · rw [List.length_set, tnP_len k]
    · exact tnP_len k
theorem tnP_get : ∀ k j, k ≤ j → (tnP how P x k).getD j 0 = x.getD j 0
  | 0, _, _ => rfl
  | k + 1, j, h => by
    unfold tnP
    split
    · rw [List.getD_eq_getElem?_getD, List.getElem?_set_ne (by omega), ← List.getD_eq_getElem?_getD, tnP_get k j (by omega)]
    · exact tnP_get k j (by omega)
theorem tnP_ext : ∀ k, (∀ j, j < k → P j = Q j) → tnP how P x k = tnP how Q x k
  | 0, _ => rfl
  | k + 1, h => by
    unfold tnP
    rw [h k (Nat.lt_succ_self _), tnP_ext k fun j hj => h j (by omega)]
theorem tnP_skip {a : Nat} : ∀ n, (∀ j, a ≤ j → j < a + n → P j = false) → tnP how P x (a + n) = tnP how P x a
  | 0, _ => rfl
  | n + 1, h => by
    rw [← Nat.add_assoc]
    show (if P (a + n) = true then _ else _) = _
    rw [h (a + n) (by omega) (by omega), if_neg (by decide), tnP_skip n fun j h1 h2 => h j h1 (by omega)]
theorem set_same {j : Nat} (h : j < x.length) : x.set j (x.getD j 0) = x := by
  rw [List.getD_eq_getElem?_getD, List.getElem?_eq_getElem h]
  exact List.set_getElem_self _
end
abbrev orI (r : Int) : Int := IntKind.i32.wrap ((BitVec.ofInt 32 r ||| BitVec.ofInt 32 32).toNat)
abbrev anI (r : Int) : Int := IntKind.i32.wrap ((BitVec.ofInt 32 r &&& ~~~ BitVec.ofInt 32 32).toNat)
abbrev xoI (r : Int) : Int := IntKind.i32.wrap ((BitVec.ofInt 32 r ^^^ BitVec.ofInt 32 32).toNat)
theorem or_fin : ∀ r : Fin 123, (65 ≤ (r.val : Int) ∧ (r.val : Int) ≤ 90 → orI r.val = r.val + 32) ∧ (97 ≤ (r.val : Int) → orI r.val = r.val) ∧ (¬ (65 ≤ (r.val : Int) ∧ (r.val : Int) ≤ 90) → ¬ 97 ≤ (r.val : Int) → orI r.val < 97 ∨ 122 < orI r.val) := by decide +kernel
theorem an_fin : ∀ r : Fin 123, 97 ≤ (r.val : Int) → anI r.val = r.val - 32 := by decide +kernel
theorem xo_fin : ∀ r : Fin 123, (65 ≤ (r.val : Int) ∧ (r.val : Int) ≤ 90 → xoI r.val = r.val + 32) ∧ (97 ≤ (r.val : Int) → xoI r.val = r.val - 32) := by decide +kernel
theorem or_neg {r : Int} (h1 : r < 0) (h2 : -2147483648 ≤ r) : orI r < 0 := by
  have e1 : (BitVec.ofInt 32 r).toNat = (r + 4294967296).toNat := by
    rw [BitVec.toNat_ofInt]
    omega
  have h3 : (BitVec.ofInt 32 r).toNat ≤ (BitVec.ofInt 32 r ||| BitVec.ofInt 32 32).toNat := by rw [BitVec.toNat_or]; exact Nat.left_le_or
  have h4 := (BitVec.ofInt 32 r ||| BitVec.ofInt 32 32).isLt
  unfold orI
  generalize (BitVec.ofInt 32 r ||| BitVec.ofInt 32 32).toNat = m at *
  simp [IntKind.wrap, IntKind.bits, IntKind.signed]
  omega
theorem or_cases {r : Int} (h1 : -2147483648 ≤ r) (h2 : r ≤ 2147483647) : ((65 ≤ r ∧ r ≤ 90) ∧ orI r = r + 32) ∨ ((97 ≤ r ∧ r ≤ 122) ∧ orI r = r) ∨ (¬ (65 ≤ r ∧ r ≤ 90) ∧ ¬ (97 ≤ r ∧ r ≤ 122) ∧ (orI r < 97 ∨ 122 < orI r ∨ 122 < r)) := by
  by_cases h3 : r < 0
  · exact .inr (.inr ⟨by omega, by omega, .inl (by have := or_neg h3 h1; omega)⟩)
  by_cases h4 : 122 < r
  · exact .inr (.inr ⟨by omega, by omega, .inr (.inr h4)⟩)
  obtain ⟨n, rfl⟩ : ∃ n : Nat, r = (n : Int) := ⟨r.toNat, by omega⟩
  have h5 := or_fin ⟨n, by omega⟩
  simp only at h5
  by_cases c1 : 65 ≤ (n : Int) ∧ (n : Int) ≤ 90
  · exact .inl ⟨c1, h5.1 c1⟩
  by_cases c2 : 97 ≤ (n : Int)
  · exact .inr (.inl ⟨⟨c2, by omega⟩, h5.2.1 c2⟩)
  · exact .inr (.inr ⟨c1, by omega, (h5.2.2 c1 c2).imp id .inl⟩)
theorem an_eq {r : Int} (h : 97 ≤ r ∧ r ≤ 122) : anI r = r - 32 := by
  obtain ⟨n, rfl⟩ : ∃ n : Nat, r = (n : Int) := ⟨r.toNat, by omega⟩
  exact an_fin ⟨n, by omega⟩ h.1
theorem xo_eq {r : Int} : ((65 ≤ r ∧ r ≤ 90) → xoI r = r + 32) ∧ ((97 ≤ r ∧ r ≤ 122) → xoI r = r - 32) := by
  refine ⟨fun h => ?_, fun h => ?_⟩
  · obtain ⟨n, rfl⟩ : ∃ n : Nat, r = (n : Int) := ⟨r.toNat, by omega⟩
    exact (xo_fin ⟨n, by omega⟩).1 h
  · obtain ⟨n, rfl⟩ : ∃ n : Nat, r = (n : Int) := ⟨r.toNat, by omega⟩
    exact (xo_fin ⟨n, by omega⟩).2 h.1
theorem tnR_lo {how r : Int} (h : -2147483648 ≤ r ∧ r ≤ 2147483647) : -2147483648 ≤ tnR how r ∧ tnR how r ≤ 2147483647 := by
  unfold tnR
  (repeat' split) <;> omega
section
variable {F : Nat → Prop} {w : World} {u : Value} {x : List Int} {f t g5 : Nat} {how : Int}
set_option maxHeartbeats 8000000 in
theorem turn1_calls (h : Sl kRune F w u x) (hf : f ≤ t) (ht : t ≤ x.length) (hx : x.length ≤ 4194304) (hb : w.cell? ⟨g5, 0, none⟩ = some (.int .i32 how)) (hh : how = 126 ∨ how = 117 ∨ how = 85) :
    CallsR Try.prog 69 #[u, .int .i64 (f : Int), .int .i64 (t : Int), .pointer (some ⟨g5, 0, none⟩)] w fun r w' => Kn w w' ∧ Ow kRune (noB w) (fun _ => False) w' r (tnP how (fun k => decide (f ≤ k ∧ k < t)) x x.length) := by
  obtain ⟨A, c, e⟩ : ∃ A c, u = .slice A x.length c := by obtain ⟨A, c, e, _⟩ := h.form; exact ⟨A, c, e⟩
  subst e
  have hlo : ∀ j, -2147483648 ≤ x.getD j 0 ∧ x.getD j 0 ≤ 2147483647 := by obtain ⟨_, _, _, _, hX⟩ := h.rns; exact hX.lo
  refine l_enter (fun _ => False) Try.func69 rfl rfl ?_
  repeat(first|refine lrun_ ?_|(refine lo_boxA rfl rfl ?_;intro _ _ _)|(refine lo_box1 rfl rfl rfl ?_;intro _ _ _)|(refine lo_alloc rfl ?_;intro _ _ _))
  refine lo_callM (n_call rfl) rfl (fun w' hw => clone_calls (Kn.sl hw.org h)) ?_
  intro w1 v w2 hw1 kn1 ko1 hO
  obtain ⟨A1, c1, rfl, _, _⟩ := hO.form
  have hs1 := hw1.org.size
  have hog : Og kRune w w2 (MK []) (fun _ => False) (.slice A1 x.length c1) x := hO.mono (fun k hk _ => ⟨by unfold noB at hk; omega, mk_nil⟩) fun _ h _ => h
  clear hO hw1 kn1 ko1
  have hP0 : tnP how (fun k => decide (f ≤ k ∧ k < t)) x f = x := by
    have := tnP_skip (how := how) (P := fun k => decide (f ≤ k ∧ k < t)) (x := x) (a := 0) f fun j h1 h2 => decide_eq_false (by omega)
    rwa [Nat.zero_add] at this
  have hP1 : tnP how (fun k => decide (f ≤ k ∧ k < t)) x x.length = tnP how (fun k => decide (f ≤ k ∧ k < t)) x t := by
    have := tnP_skip (how := how) (P := fun k => decide (f ≤ k ∧ k < t)) (x := x) (a := t) (x.length - t) fun j h1 h2 => decide_eq_false (by omega)
    rwa [show t + (x.length - t) = x.length by omega] at this
  rw [hP1]
  repeat(first|refine lrun_ ?_|(refine lo_boxA rfl rfl ?_;intro _ _ _)|(refine lo_box1 rfl rfl rfl ?_;intro _ _ _)|(refine lo_alloc rfl ?_;intro _ _ _))
  refine l_whileB (fun j : Nat => t - f - j) (fun j => [(0, .slice A1 x.length c1), (2, .int .i64 (t : Int)), (3, .pointer (some ⟨g5, 0, none⟩)), (8, .int .i64 ((f + j : Nat) : Int))]) (fun _ => [])
    (fun j b => f + j ≤ t ∧ Og kRune w b (MK []) (fun _ => False) (.slice A1 x.length c1) (tnP how (fun k => decide (f ≤ k ∧ k < t)) x (f + j))) 0 (by repeat (first | exact SubB.nil | refine SubB.cons rfl ?_)) (by repeat(first|exact MSub.refl|refine MSub.keep rfl ?_|exact MSub.nil|apply MSub.drop)) (fun w' hw => ⟨hf, by rw [Nat.add_zero, hP0]; exact hog.now (fun _ h => h.elim) hw⟩) ?_
  clear hog
  rintro j b ⟨hj, hO⟩ hkb ih
  have hpl := tnP_len (how := how) (P := fun k => decide (f ≤ k ∧ k < t)) (x := x) (f + j)
  have hpg := tnP_get (how := how) (P := fun k => decide (f ≤ k ∧ k < t)) (x := x) (f + j) (f + j) (Nat.le_refl _)
  by_cases hlt : f + j < t
  case neg =>
    obtain rfl : f + j = t := by omega
    repeat(first|refine lrun_ ?_|(refine lo_boxA rfl rfl ?_;intro _ _ _)|(refine lo_box1 rfl rfl rfl ?_;intro _ _ _)|(refine lo_alloc rfl ?_;intro _ _ _))
    refine l_no rfl (by omega) ?_
    refine l_go (.exit rfl) ?_
    repeat(first|refine lrun_ ?_|(refine lo_boxA rfl rfl ?_;intro _ _ _)|(refine lo_box1 rfl rfl rfl ?_;intro _ _ _)|(refine lo_alloc rfl ?_;intro _ _ _))
    exact l_ret1 rfl rfl fun w' hw => ⟨hw.org, (hO.now (fun _ h => h.elim) hw).mono (fun k hk _ => hk.1) fun _ h _ => h⟩
  have hstep : tnP how (fun k => decide (f ≤ k ∧ k < t)) x (f + j + 1) = (tnP how (fun k => decide (f ≤ k ∧ k < t)) x (f + j)).set (f + j) (tnR how (x.getD (f + j) 0)) := by
    show (if decide (f ≤ f + j ∧ f + j < t) = true then _ else _) = _
    rw [if_pos (decide_eq_true ⟨by omega, hlt⟩)]
  generalize tnP how (fun k => decide (f ≤ k ∧ k < t)) x (f + j) = y at *
  have hr := hlo (f + j)
  have hrl := tnR_lo (how := how) hr
  generalize hrx : x.getD (f + j) 0 = r at *
  obtain ⟨_, _, ad, e, hX⟩ := hO.sl.rns
  rw [hpl] at e
  cases e
  have hA := hX.a (by omega)
  subst hA
  have hload := hX.run (f + j) (by omega)
  rw [hpg] at hload
  have hnk : ¬ MK [] (ad.add ((f + j) * 1)).block := mk_nil
  have J : ∀ (b' : World), Og kRune w b' (MK []) (fun _ => False) (.slice (some ad) x.length c1) (y.set (f + j) (tnR how r)) → ∀ σ', SubB σ' [(0, .slice (some ad) x.length c1), (2, .int .i64 (t : Int)), (3, .pointer (some ⟨g5, 0, none⟩)), (8, .int .i64 ((f + j : Nat) : Int))] → ∀ M',
      WL Try.prog Try.f69 [.inBlock 2, .inBlock 1, .code (bodyC Try.f69 [1, 1, 0, 1, 0, 0, 1, 1]), .inLoop (bodyC Try.f69 [1, 1, 0, 1, 0, 0]), .inBlock 0, .code (bodyC Try.f69 [1, 1, 1])] σ' w (fun _ => False) b' (MK []) M' fun r w' => Kn w w' ∧ Ow kRune (noB w) (fun _ => False) w' r (tnP how (fun k => decide (f ≤ k ∧ k < t)) x t) := by
    intro b' hO' σ' hs M'
    refine WL.sub (M' := []) hs .nil ?_
    rw [← hstep] at hO'
    repeat(first|refine lrun_ ?_|(refine lo_boxA rfl rfl ?_;intro _ _ _)|(refine lo_box1 rfl rfl rfl ?_;intro _ _ _)|(refine lo_alloc rfl ?_;intro _ _ _))
    exact ih (j + 1) b' _ ⟨by omega, hO'⟩ (by omega) _ _ (by repeat (first | exact SubB.nil | refine SubB.cons rfl ?_)) (by repeat(first|exact MSub.refl|refine MSub.keep rfl ?_|exact MSub.nil|apply MSub.drop)) fun w' hw' => ⟨by omega, hO'.now (fun _ h => h.elim) hw'⟩
  repeat(first|refine lrun_ ?_|(refine lo_boxA rfl rfl ?_;intro _ _ _)|(refine lo_box1 rfl rfl rfl ?_;intro _ _ _)|(refine lo_alloc rfl ?_;intro _ _ _))
  refine l_yes rfl (by omega) ?_
  repeat(first|refine lrun_ ?_|(refine lo_boxA rfl rfl ?_;intro _ _ _)|(refine lo_box1 rfl rfl rfl ?_;intro _ _ _)|(refine lo_alloc rfl ?_;intro _ _ _))
  refine lo_loadB rfl hload hnk rfl ?_
  refine lo_rn (fun _ => r_or (c := orI r) rfl rfl rfl) rfl ?_
  have hor := or_cases hr.1 hr.2
  have han := fun h => an_eq (r := r) h
  have hxo := xo_eq (r := r)
  have hskip : tnR how r = r → Og kRune w b (MK []) (fun _ => False) (.slice (some ad) x.length c1) (y.set (f + j) (tnR how r)) := fun e => by
    rw [e, ← hpg, set_same (by omega)]
    exact hO
  have hxe : xoI r = xoI r := rfl
  generalize hce : orI r = cR at *
  have hand : 97 ≤ cR ∧ cR ≤ 122 → anI cR = cR - 32 := fun h => an_eq h
  have hbig : (65 ≤ r ∧ r ≤ 90) ∧ cR = r + 32 ∨ (97 ≤ r ∧ r ≤ 122) ∧ cR = r → ∀ σ', SubB σ' [(0, .slice (some ad) x.length c1), (2, .int .i64 (t : Int)), (3, .pointer (some ⟨g5, 0, none⟩)), (8, .int .i64 ((f + j : Nat) : Int)), (9, .int .i32 cR)] → ∀ M',
      WL Try.prog Try.f69 [.code (bodyC Try.f69 [1, 1, 0, 1, 0, 0, 1, 0, 0, 1, 0, 1, 1]), .inBlock 2, .inBlock 1, .code (bodyC Try.f69 [1, 1, 0, 1, 0, 0, 1, 1]), .inLoop (bodyC Try.f69 [1, 1, 0, 1, 0, 0]), .inBlock 0, .code (bodyC Try.f69 [1, 1, 1])] σ' w (fun _ => False) b (MK []) M' fun r w' => Kn w w' ∧ Ow kRune (noB w) (fun _ => False) w' r (tnP how (fun k => decide (f ≤ k ∧ k < t)) x t) := by
    intro hcs σ' hs M'
    refine WL.sub (M' := []) hs .nil ?_
    by_cases e1 : how = 117
    · have e2 : tnR how r = cR := by
        unfold tnR
        rcases hcs with ⟨h1, h2⟩ | ⟨h1, h2⟩
        · rw [if_neg (by omega), if_pos (by omega), h2]
        · rw [if_neg (by omega), if_neg (by omega), h2]
      repeat(first|refine lrun_ ?_|(refine lo_boxA rfl rfl ?_;intro _ _ _)|(refine lo_box1 rfl rfl rfl ?_;intro _ _ _)|(refine lo_alloc rfl ?_;intro _ _ _))
      refine l_yes rfl e1 ?_
      repeat(first|refine lrun_ ?_|(refine lo_boxA rfl rfl ?_;intro _ _ _)|(refine lo_box1 rfl rfl rfl ?_;intro _ _ _)|(refine lo_alloc rfl ?_;intro _ _ _))
      refine lo_setM (d := kRune) (j := f + j) (q := tnR how r) rfl (by rw [e2]; rfl) hO (fun _ h => h.elim) (by omega) (fun w' hw => ⟨rfl, by omega, by omega⟩) rfl rfl ?_; intro w3 w4 hw3 ko3 kp3 hog; refine lo_nil ?_; exact J w4 hog _ (by repeat (first | exact SubB.nil | refine SubB.cons rfl ?_)) _
    by_cases e3 : how = 85
    · have e2 : tnR how r = anI cR := by
        unfold tnR
        rcases hcs with ⟨h1, h2⟩ | ⟨h1, h2⟩
        · rw [if_neg (by omega), if_neg (by omega), hand (by omega)]; omega
        · rw [if_pos (by omega), hand (by omega)]; omega
      repeat(first|refine lrun_ ?_|(refine lo_boxA rfl rfl ?_;intro _ _ _)|(refine lo_box1 rfl rfl rfl ?_;intro _ _ _)|(refine lo_alloc rfl ?_;intro _ _ _))
      refine l_no rfl e1 ?_
      repeat(first|refine lrun_ ?_|(refine lo_boxA rfl rfl ?_;intro _ _ _)|(refine lo_box1 rfl rfl rfl ?_;intro _ _ _)|(refine lo_alloc rfl ?_;intro _ _ _))
      refine l_yes rfl e3 ?_
      repeat(first|refine lrun_ ?_|(refine lo_boxA rfl rfl ?_;intro _ _ _)|(refine lo_box1 rfl rfl rfl ?_;intro _ _ _)|(refine lo_alloc rfl ?_;intro _ _ _))
      refine lo_rn (fun _ => r_andNot (c := anI cR) rfl rfl rfl) rfl ?_
      repeat(first|refine lrun_ ?_|(refine lo_boxA rfl rfl ?_;intro _ _ _)|(refine lo_box1 rfl rfl rfl ?_;intro _ _ _)|(refine lo_alloc rfl ?_;intro _ _ _))
      refine lo_setM (d := kRune) (j := f + j) (q := tnR how r) rfl (by rw [e2]; rfl) hO (fun _ h => h.elim) (by omega) (fun w' hw => ⟨rfl, by omega, by omega⟩) rfl rfl ?_; intro w3 w4 hw3 ko3 kp3 hog; refine lo_nil ?_; exact J w4 hog _ (by repeat (first | exact SubB.nil | refine SubB.cons rfl ?_)) _
    · have e2 : tnR how r = xoI r := by
        unfold tnR
        rcases hcs with ⟨h1, h2⟩ | ⟨h1, h2⟩
        · rw [if_neg (by omega), if_pos (by omega), hxo.1 h1]
        · rw [if_pos (by omega), hxo.2 h1]
      repeat(first|refine lrun_ ?_|(refine lo_boxA rfl rfl ?_;intro _ _ _)|(refine lo_box1 rfl rfl rfl ?_;intro _ _ _)|(refine lo_alloc rfl ?_;intro _ _ _))
      refine l_no rfl e1 ?_
      repeat(first|refine lrun_ ?_|(refine lo_boxA rfl rfl ?_;intro _ _ _)|(refine lo_box1 rfl rfl rfl ?_;intro _ _ _)|(refine lo_alloc rfl ?_;intro _ _ _))
      refine l_no rfl e3 ?_
      repeat(first|refine lrun_ ?_|(refine lo_boxA rfl rfl ?_;intro _ _ _)|(refine lo_box1 rfl rfl rfl ?_;intro _ _ _)|(refine lo_alloc rfl ?_;intro _ _ _))
      refine lo_loadB rfl hload hnk rfl ?_
      refine lo_rn (fun _ => r_xor (c := xoI r) rfl rfl rfl) rfl ?_
      repeat(first|refine lrun_ ?_|(refine lo_boxA rfl rfl ?_;intro _ _ _)|(refine lo_box1 rfl rfl rfl ?_;intro _ _ _)|(refine lo_alloc rfl ?_;intro _ _ _))
      refine lo_setM (d := kRune) (j := f + j) (q := tnR how r) rfl (by rw [e2]; rfl) hO (fun _ h => h.elim) (by omega) (fun w' hw => ⟨rfl, by omega, by omega⟩) rfl rfl ?_; intro w3 w4 hw3 ko3 kp3 hog; refine lo_nil ?_; exact J w4 hog _ (by repeat (first | exact SubB.nil | refine SubB.cons rfl ?_)) _
  rcases hor with ⟨h1, h2⟩ | ⟨h1, h2⟩ | ⟨h1, h2, h3⟩
  · have hc1 : ¬ cR < 97 := by omega
    have hc2 : ¬ 122 < cR := by omega
    repeat(first|refine lrun_ ?_|(refine lo_boxA rfl rfl ?_;intro _ _ _)|(refine lo_box1 rfl rfl rfl ?_;intro _ _ _)|(refine lo_alloc rfl ?_;intro _ _ _))
    refine lo_loadB rfl hload hnk rfl ?_
    repeat(first|refine lrun_ ?_|(refine lo_boxA rfl rfl ?_;intro _ _ _)|(refine lo_box1 rfl rfl rfl ?_;intro _ _ _)|(refine lo_alloc rfl ?_;intro _ _ _))
    refine l_no rfl (by omega) ?_
    exact hbig (.inl ⟨h1, h2⟩) _ (by repeat (first | exact SubB.nil | refine SubB.cons rfl ?_)) _
  · have hc1 : ¬ cR < 97 := by omega
    have hc2 : ¬ 122 < cR := by omega
    repeat(first|refine lrun_ ?_|(refine lo_boxA rfl rfl ?_;intro _ _ _)|(refine lo_box1 rfl rfl rfl ?_;intro _ _ _)|(refine lo_alloc rfl ?_;intro _ _ _))
    refine lo_loadB rfl hload hnk rfl ?_
    repeat(first|refine lrun_ ?_|(refine lo_boxA rfl rfl ?_;intro _ _ _)|(refine lo_box1 rfl rfl rfl ?_;intro _ _ _)|(refine lo_alloc rfl ?_;intro _ _ _))
    refine l_no rfl (by omega) ?_
    exact hbig (.inr ⟨h1, h2⟩) _ (by repeat (first | exact SubB.nil | refine SubB.cons rfl ?_)) _
  · have e2 : tnR how r = r := by unfold tnR; rw [if_neg (by omega), if_neg (by omega)]
    by_cases hc1 : cR < 97
    · repeat(first|refine lrun_ ?_|(refine lo_boxA rfl rfl ?_;intro _ _ _)|(refine lo_box1 rfl rfl rfl ?_;intro _ _ _)|(refine lo_alloc rfl ?_;intro _ _ _))
      refine l_true rfl ?_
      refine l_go .skip ?_
      exact J b (hskip e2) _ (by repeat (first | exact SubB.nil | refine SubB.cons rfl ?_)) _
    by_cases hc2 : 122 < cR
    · repeat(first|refine lrun_ ?_|(refine lo_boxA rfl rfl ?_;intro _ _ _)|(refine lo_box1 rfl rfl rfl ?_;intro _ _ _)|(refine lo_alloc rfl ?_;intro _ _ _))
      refine l_true rfl ?_
      refine l_go .skip ?_
      exact J b (hskip e2) _ (by repeat (first | exact SubB.nil | refine SubB.cons rfl ?_)) _
    repeat(first|refine lrun_ ?_|(refine lo_boxA rfl rfl ?_;intro _ _ _)|(refine lo_box1 rfl rfl rfl ?_;intro _ _ _)|(refine lo_alloc rfl ?_;intro _ _ _))
    refine lo_loadB rfl hload hnk rfl ?_
    repeat(first|refine lrun_ ?_|(refine lo_boxA rfl rfl ?_;intro _ _ _)|(refine lo_box1 rfl rfl rfl ?_;intro _ _ _)|(refine lo_alloc rfl ?_;intro _ _ _))
    refine l_yes rfl (by omega) ?_
    refine l_go .skip ?_
    exact J b (hskip e2) _ (by repeat (first | exact SubB.nil | refine SubB.cons rfl ?_)) _
end
end Go.Ink

set_option linter.unusedVariables false
set_option linter.unusedSimpArgs false
namespace Go.Ink
open Go Go.Proofs Go.RowKit

def tnL (l : List (List Int)) (r : Rg) (how : Int) (i : Nat) : List Int := tnP how (fun k => hasR r ((i : Int), (k : Int))) (l.getD i []) (l.getD i []).length
def turnM (l : List (List Int)) (r : Rg) (how : Int) : List (List Int) × Int :=
  if how ≠ 126 ∧ how ≠ 117 ∧ how ≠ 85 then ([], 1)
  else if thereR l r ≠ 0 then ([], thereR l r)
  else (l.take (r0 r) ++ gatM (tnL l r how) (r0 r) (rn r) ++ l.drop (r0 r + rn r), 0)
section
variable {F : Nat → Prop} {w : World} {v : Value} {l : List (List Int)} {r : Rg} {how : Int}
theorem tnL_len (i : Nat) : (tnL l r how i).length = (l.getD i []).length := tnP_len _
set_option maxHeartbeats 8000000 in
theorem turn_calls (h : Sl kRow F w v l) (hr : RgP r) (hl : l.length ≤ 4096) (hk : ∀ j, (l.getD j []).length ≤ 1048576) :
    CallsR Try.prog 35 #[v, rgV r, .int .i32 how] w fun u w' => Kn w w' ∧ ∃ s, u = .tuple #[s, .int .i64 (turnM l r how).2] ∧ Ow kRow (noB w) (noB w) w' s (turnM l r how).1 := by
  obtain ⟨A, c, ad, rV, rc, ra, rfl, hR⟩ := h.rws
  have hat := fun (w' : World) (hk : Kn w w') => at_calls (Kn.sl hk h) hr
  unfold rgV at *
  refine l_enter (fun _ => False) Try.func35 rfl rfl ?_
  by_cases hh : how ≠ 126 ∧ how ≠ 117 ∧ how ≠ 85
  · obtain ⟨h1, h2, h3⟩ := hh
    unfold turnM
    rw [if_pos ⟨h1, h2, h3⟩]
    repeat(first|refine lrun_ ?_|(refine lo_boxA rfl rfl ?_;intro _ _ _)|(refine lo_box1 rfl rfl rfl ?_;intro _ _ _)|(refine lo_alloc rfl ?_;intro _ _ _))
    refine l_yes rfl h3 ?_
    repeat(first|refine lrun_ ?_|(refine lo_boxA rfl rfl ?_;intro _ _ _)|(refine lo_box1 rfl rfl rfl ?_;intro _ _ _)|(refine lo_alloc rfl ?_;intro _ _ _))
    exact l_retR2 rfl (by repeat(first|exact LRes.nil|refine LRes.tmp rfl ?_|refine LRes.agg rfl (by(repeat(first|exact MIn.hd|refine MIn.tl ?_));done) (by rfl) (by rfl) ?_|refine LRes.one rfl (by(repeat(first|exact MIn.hd|refine MIn.tl ?_));done) (by rfl) ?_)) fun w hw => ⟨hw.org, _, rfl, Ow.nil _ _ _ _⟩
  have hh' : how = 126 ∨ how = 117 ∨ how = 85 := by omega
  unfold turnM
  rw [if_neg hh]
  have J : ∀ g4 g5 σ', SubB σ' [(0, .slice A l.length c), (4, .pointer (some ⟨g4, 0, none⟩)), (5, .pointer (some ⟨g5, 0, none⟩)), (6, .slice none 0 0), (7, .int .i64 0)] → ∀ M', MSub [(g5, cb [.int .i32 how] 21), (g4, cb [.int .i64 r.fr.1, .int .i64 r.fr.2, .int .i64 r.to.1, .int .i64 r.to.2, .int .i64 r.kind] 26)] M' →
      WL Try.prog Try.f35 [.code (bodyC Try.f35 [1, 1])] σ' w (fun _ => False) w (fun _ => False) M' fun u w' => Kn w w' ∧ ∃ s, u = .tuple #[s, .int .i64 (if thereR l r ≠ 0 then ([], thereR l r) else (l.take (r0 r) ++ gatM (tnL l r how) (r0 r) (rn r) ++ l.drop (r0 r + rn r), 0)).2] ∧ Ow kRow (noB w) (noB w) w' s (if thereR l r ≠ 0 then ([], thereR l r) else (l.take (r0 r) ++ gatM (tnL l r how) (r0 r) (rn r) ++ l.drop (r0 r + rn r), 0)).1 := by
    intro g4 g5 σ' hs M' hM
    refine WL.sub hs hM ?_
    by_cases ht : thereR l r = 0
    case neg =>
      unfold atT at hat
      simp only [if_neg ht] at hat
      rw [if_pos ht]
      repeat(first|refine lrun_ ?_|(refine lo_boxA rfl rfl ?_;intro _ _ _)|(refine lo_box1 rfl rfl rfl ?_;intro _ _ _)|(refine lo_alloc rfl ?_;intro _ _ _))
      refine lo_call (n_call rfl) rfl (fun w hw => hat w hw.org) ?_
      repeat(first|refine lrun_ ?_|(refine lo_boxA rfl rfl ?_;intro _ _ _)|(refine lo_box1 rfl rfl rfl ?_;intro _ _ _)|(refine lo_alloc rfl ?_;intro _ _ _))
      refine l_yes rfl ht ?_
      repeat(first|refine lrun_ ?_|(refine lo_boxA rfl rfl ?_;intro _ _ _)|(refine lo_box1 rfl rfl rfl ?_;intro _ _ _)|(refine lo_alloc rfl ?_;intro _ _ _))
      exact l_retR2 rfl (by repeat(first|exact LRes.nil|refine LRes.tmp rfl ?_|refine LRes.agg rfl (by(repeat(first|exact MIn.hd|refine MIn.tl ?_));done) (by rfl) (by rfl) ?_|refine LRes.one rfl (by(repeat(first|exact MIn.hd|refine MIn.tl ?_));done) (by rfl) ?_)) fun w hw => ⟨hw.org, _, rfl, Ow.nil _ _ _ _⟩
    have hok := there_ok ht
    unfold atT at hat
    simp only [if_pos ht] at hat
    rw [ht] at hat ⊢
    rw [if_neg (fun h => h rfl)]
    have ha := hok.a.k
    have hb := hok.b.k
    have hai := hok.a.i
    have hbi := hok.b.i
    have hle := hok.le
    have hr1 : (rowOf l (endsR r).1).length ≤ 1048576 := hk _
    have hr2 : (rowOf l (endsR r).2).length ≤ 1048576 := hk _
    have e0 : (endsR r).1.1 = (r0 r : Int) := by unfold r0; omega
    have e1 : (endsR r).2.1 + 1 = ((r0 r + rn r : Nat) : Int) := by unfold r0 rn; omega
    have hin : r0 r + rn r ≤ l.length := by omega
    have hga := fun (w' : World) (hk2 : Kn w w') (hb5 : w'.cell? ⟨g5, 0, none⟩ = some (.int .i32 how)) => gather_calls (f := 69) (cap := [.pointer (some ⟨g5, 0, none⟩)]) (k := r.kind) (a := (endsR r).1) (b := (endsR r).2) (i0 := r0 r) (n := rn r) (res := tnL l r how) (Kn.sl hk2 h) e0 e1 hin (by omega) (by omega) (fun w'' hk3 j u h1 h2 hS => by
      have hcn := cols_nat (l := l) (r := r) (i := j) hok (by omega)
      have hcc := fun k hk => has_cols (k := k) hok (i := j) (by omega) (by omega) hk
      rw [colsA_R] at hcn
      have hcn1 := hcn.1
      rw [hcn1]
      have e5 : tnL l r how j = tnP how (fun k => decide (fromR l r j ≤ k ∧ k < toR l r j)) (l.getD j []) (l.getD j []).length := tnP_ext _ fun k hk => by
        rw [hcc k hk, colsA_R, hcn1, decide_eq_decide]
        simp only
        omega
      rw [e5]
      exact turn1_calls hS hcn.2.1 hcn.2.2 (Nat.le_trans (hk j) (by omega)) (hk3.cell hb5 id) hh')
    repeat(first|refine lrun_ ?_|(refine lo_boxA rfl rfl ?_;intro _ _ _)|(refine lo_box1 rfl rfl rfl ?_;intro _ _ _)|(refine lo_alloc rfl ?_;intro _ _ _))
    refine lo_call (n_call rfl) rfl (fun w hw => hat w hw.org) ?_
    unfold arV
    clear hat
    repeat(first|refine lrun_ ?_|(refine lo_boxA rfl rfl ?_;intro _ _ _)|(refine lo_box1 rfl rfl rfl ?_;intro _ _ _)|(refine lo_alloc rfl ?_;intro _ _ _))
    rename_i ga _ _
    refine l_no rfl (fun h => h rfl) ?_
    refine l_go .skip ?_
    repeat(first|refine lrun_ ?_|(refine lo_boxA rfl rfl ?_;intro _ _ _)|(refine lo_box1 rfl rfl rfl ?_;intro _ _ _)|(refine lo_alloc rfl ?_;intro _ _ _))
    refine lo_callM (n_call rfl) rfl (fun w hw => hga w hw.org (by rw [blk_cell (hw.mem g5 _ (by(repeat(first|exact MIn.hd|refine MIn.tl ?_));done))]; rfl)) ?_
    intro w1 u w2 hw1 kn1 kp1 hO
    obtain ⟨Au, cu, rfl, hau1, hau2⟩ := hO.form
    have hs1 := hw1.org.size
    have hgl : (gatM (tnL l r how) (r0 r) (rn r)).length ≤ 4096 := by rw [gat_len]; omega
    have hl1 : ∀ k, MK [(ga, cb [.int .i64 r.kind, .int .i64 (endsR r).1.1, .int .i64 (endsR r).1.2, .int .i64 (endsR r).2.1, .int .i64 (endsR r).2.2] 68), (g5, cb [.int .i32 how] 21), (g4, cb [.int .i64 r.fr.1, .int .i64 r.fr.2, .int .i64 r.to.1, .int .i64 r.to.2, .int .i64 r.kind] 26)] k → k < w1.heap.size := fun k hm => hw1.lt hm
    clear hga hai hbi hle
    repeat(first|refine lrun_ ?_|(refine lo_boxA rfl rfl ?_;intro _ _ _)|(refine lo_box1 rfl rfl rfl ?_;intro _ _ _)|(refine lo_alloc rfl ?_;intro _ _ _))
    refine lo_callM (n_call rfl) rfl (fun w' hw => putI_calls (F2 := noB w1) (Kn.sl hw.org h) ((hw.owN hO hl1).slF (fun _ h => h) fun _ h => h).e e0 e1 (by omega) hin (by omega)) ?_
    intro w3 u w4 hw3 kn3 kp3 hO3
    obtain ⟨Ao, co, rfl, _, _⟩ := hO3.form
    have hs3 := hw3.org.size
    repeat(first|refine lrun_ ?_|(refine lo_boxA rfl rfl ?_;intro _ _ _)|(refine lo_box1 rfl rfl rfl ?_;intro _ _ _)|(refine lo_alloc rfl ?_;intro _ _ _))
    refine l_retR2 rfl (by repeat(first|exact LRes.nil|refine LRes.tmp rfl ?_|refine LRes.agg rfl (by(repeat(first|exact MIn.hd|refine MIn.tl ?_));done) (by rfl) (by rfl) ?_|refine LRes.one rfl (by(repeat(first|exact MIn.hd|refine MIn.tl ?_));done) (by rfl) ?_)) fun w7 hw => ⟨hw.org, _, rfl, ?_⟩
    have hs31 := hw3.kp.size
    have hs12 := kn1.size
    exact (Kp.ow hw.kp hO3 (fun k hk hm => by have := hl1 k hm; unfold noB at hk; omega) (fun k hk hm => by have := hl1 k hm; unfold noB at hk; omega)).mono (fun k hk _ => by unfold noB at *; omega) fun k hk _ => by unfold noB at *; omega
  by_cases h1 : how = 126
  · repeat(first|refine lrun_ ?_|(refine lo_boxA rfl rfl ?_;intro _ _ _)|(refine lo_box1 rfl rfl rfl ?_;intro _ _ _)|(refine lo_alloc rfl ?_;intro _ _ _))
    refine l_false rfl ?_
    refine l_go .skip ?_
    exact J _ _ _ (by repeat (first | exact SubB.nil | refine SubB.cons rfl ?_)) _ (by repeat(first|exact MSub.refl|refine MSub.keep rfl ?_|exact MSub.nil|apply MSub.drop))
  by_cases h2 : how = 117
  · repeat(first|refine lrun_ ?_|(refine lo_boxA rfl rfl ?_;intro _ _ _)|(refine lo_box1 rfl rfl rfl ?_;intro _ _ _)|(refine lo_alloc rfl ?_;intro _ _ _))
    refine l_false rfl ?_
    refine l_go .skip ?_
    exact J _ _ _ (by repeat (first | exact SubB.nil | refine SubB.cons rfl ?_)) _ (by repeat(first|exact MSub.refl|refine MSub.keep rfl ?_|exact MSub.nil|apply MSub.drop))
  have h3 : how = 85 := by omega
  repeat(first|refine lrun_ ?_|(refine lo_boxA rfl rfl ?_;intro _ _ _)|(refine lo_box1 rfl rfl rfl ?_;intro _ _ _)|(refine lo_alloc rfl ?_;intro _ _ _))
  refine l_no rfl (fun h => h h3) ?_
  refine l_go .skip ?_
  exact J _ _ _ (by repeat (first | exact SubB.nil | refine SubB.cons rfl ?_)) _ (by repeat(first|exact MSub.refl|refine MSub.keep rfl ?_|exact MSub.nil|apply MSub.drop))
theorem turned_calls {x : Int} (hx : -2147483648 ≤ x ∧ x ≤ 2147483647) : CallsR Try.prog 71 #[.int .i32 x, .int .i32 how] w fun u w' => Kn w w' ∧ u = .int .i32 (tnR how x) := by
  refine l_enter (fun _ => False) Try.func71 rfl rfl ?_
  by_cases c1 : 97 ≤ x ∧ x ≤ 122
  · obtain ⟨c1, c2⟩ := c1
    by_cases e1 : how = 117
    · have e : tnR how x = x := by unfold tnR; rw [if_neg (by omega), if_neg (by omega)]
      repeat(first|refine lrun_ ?_|(refine lo_boxA rfl rfl ?_;intro _ _ _)|(refine lo_box1 rfl rfl rfl ?_;intro _ _ _)|(refine lo_alloc rfl ?_;intro _ _ _))
      refine l_no rfl (fun h => h e1) ?_
      refine l_go .skip ?_
      repeat(first|refine lrun_ ?_|(refine lo_boxA rfl rfl ?_;intro _ _ _)|(refine lo_box1 rfl rfl rfl ?_;intro _ _ _)|(refine lo_alloc rfl ?_;intro _ _ _))
      refine l_false rfl ?_
      refine l_go .skip ?_
      repeat(first|refine lrun_ ?_|(refine lo_boxA rfl rfl ?_;intro _ _ _)|(refine lo_box1 rfl rfl rfl ?_;intro _ _ _)|(refine lo_alloc rfl ?_;intro _ _ _))
      exact l_ret1 rfl rfl fun w hw => ⟨hw.org, by rw [e]⟩
    · have e : tnR how x = x - 97 + 65 := by unfold tnR; rw [if_pos (by omega)]; omega
      repeat(first|refine lrun_ ?_|(refine lo_boxA rfl rfl ?_;intro _ _ _)|(refine lo_box1 rfl rfl rfl ?_;intro _ _ _)|(refine lo_alloc rfl ?_;intro _ _ _))
      refine l_yes rfl e1 ?_
      repeat(first|refine lrun_ ?_|(refine lo_boxA rfl rfl ?_;intro _ _ _)|(refine lo_box1 rfl rfl rfl ?_;intro _ _ _)|(refine lo_alloc rfl ?_;intro _ _ _))
      exact l_ret1 rfl rfl fun w hw => ⟨hw.org, by rw [e]⟩
  have J : ∀ b6, b6 = decide (65 ≤ x ∧ x ≤ 90) → ∀ σ', SubB σ' [(0, .int .i32 x), (1, .int .i32 how), (6, .bool b6)] → ∀ M', WL Try.prog Try.f71 [.code (bodyC Try.f71 [1, 1, 1, 1])] σ' w (fun _ => False) w (fun _ => False) M' fun u w' => Kn w w' ∧ u = .int .i32 (tnR how x) := by
    rintro b6 rfl σ' hs M'
    refine WL.sub (M' := []) hs .nil ?_
    by_cases c2 : 65 ≤ x ∧ x ≤ 90
    · rw [decide_eq_true c2]
      by_cases e1 : how = 85
      · have e : tnR how x = x := by unfold tnR; rw [if_neg (by omega), if_neg (by omega)]
        repeat(first|refine lrun_ ?_|(refine lo_boxA rfl rfl ?_;intro _ _ _)|(refine lo_box1 rfl rfl rfl ?_;intro _ _ _)|(refine lo_alloc rfl ?_;intro _ _ _))
        refine l_no rfl (fun h => h e1) ?_
        refine l_go .skip ?_
        repeat(first|refine lrun_ ?_|(refine lo_boxA rfl rfl ?_;intro _ _ _)|(refine lo_box1 rfl rfl rfl ?_;intro _ _ _)|(refine lo_alloc rfl ?_;intro _ _ _))
        exact l_ret1 rfl rfl fun w hw => ⟨hw.org, by rw [e]⟩
      · have e : tnR how x = x - 65 + 97 := by unfold tnR; rw [if_neg (by omega), if_pos (by omega)]; omega
        repeat(first|refine lrun_ ?_|(refine lo_boxA rfl rfl ?_;intro _ _ _)|(refine lo_box1 rfl rfl rfl ?_;intro _ _ _)|(refine lo_alloc rfl ?_;intro _ _ _))
        refine l_yes rfl e1 ?_
        repeat(first|refine lrun_ ?_|(refine lo_boxA rfl rfl ?_;intro _ _ _)|(refine lo_box1 rfl rfl rfl ?_;intro _ _ _)|(refine lo_alloc rfl ?_;intro _ _ _))
        exact l_ret1 rfl rfl fun w hw => ⟨hw.org, by rw [e]⟩
    · rw [decide_eq_false c2]
      have e : tnR how x = x := by unfold tnR; rw [if_neg (by omega), if_neg (by omega)]
      repeat(first|refine lrun_ ?_|(refine lo_boxA rfl rfl ?_;intro _ _ _)|(refine lo_box1 rfl rfl rfl ?_;intro _ _ _)|(refine lo_alloc rfl ?_;intro _ _ _))
      refine l_false rfl ?_
      refine l_go .skip ?_
      repeat(first|refine lrun_ ?_|(refine lo_boxA rfl rfl ?_;intro _ _ _)|(refine lo_box1 rfl rfl rfl ?_;intro _ _ _)|(refine lo_alloc rfl ?_;intro _ _ _))
      exact l_ret1 rfl rfl fun w hw => ⟨hw.org, by rw [e]⟩
  by_cases c3 : 97 ≤ x
  · have c4 : ¬ x ≤ 122 := fun h => c1 ⟨c3, h⟩
    repeat(first|refine lrun_ ?_|(refine lo_boxA rfl rfl ?_;intro _ _ _)|(refine lo_box1 rfl rfl rfl ?_;intro _ _ _)|(refine lo_alloc rfl ?_;intro _ _ _))
    refine l_false rfl ?_
    refine l_go .skip ?_
    exact J (decide (x ≤ 90)) (by rw [decide_eq_decide]; omega) _ (by repeat (first | exact SubB.nil | refine SubB.cons rfl ?_)) _
  · by_cases c4 : 65 ≤ x
    · repeat(first|refine lrun_ ?_|(refine lo_boxA rfl rfl ?_;intro _ _ _)|(refine lo_box1 rfl rfl rfl ?_;intro _ _ _)|(refine lo_alloc rfl ?_;intro _ _ _))
      refine l_false rfl ?_
      refine l_go .skip ?_
      exact J (decide (x ≤ 90)) (by rw [decide_eq_decide]; omega) _ (by repeat (first | exact SubB.nil | refine SubB.cons rfl ?_)) _
    · repeat(first|refine lrun_ ?_|(refine lo_boxA rfl rfl ?_;intro _ _ _)|(refine lo_box1 rfl rfl rfl ?_;intro _ _ _)|(refine lo_alloc rfl ?_;intro _ _ _))
      refine l_false rfl ?_
      refine l_go .skip ?_
      exact J false (decide_eq_false (by omega)).symm _ (by repeat (first | exact SubB.nil | refine SubB.cons rfl ?_)) _
end
end Go.Ink

set_option linter.unusedVariables false
set_option linter.unusedSimpArgs false
namespace Go.Ink
open Go Go.Proofs Go.RowKit

def trP (l : List (List Int)) (r : Rg) (how : Int) : Nat → List (List Int)
  | 0 => l
  | i + 1 => (trP l r how i).set i (tnL l r how i)
section
variable {l : List (List Int)} {r : Rg} {how : Int}
theorem trP_len : ∀ i, (trP l r how i).length = l.length
  | 0 => rfl
  | i + 1 => by show ((trP l r how i).set _ _).length = _; rw [List.length_set, trP_len i]
theorem trP_get : ∀ i j, (trP l r how i).getD j [] = if j < i ∧ j < l.length then tnL l r how j else l.getD j []
  | 0, j => by rw [if_neg (by omega)]; rfl
  | i + 1, j => by
    show ((trP l r how i).set _ _).getD j [] = _
    rw [List.getD_eq_getElem?_getD, List.getElem?_set]
    by_cases e : i = j
    · subst e
      rw [if_pos rfl]
      by_cases h : i < l.length
      · rw [if_pos (by rw [trP_len]; exact h), if_pos ⟨Nat.lt_succ_self _, h⟩]; rfl
      · rw [if_neg (by rw [trP_len]; exact h), if_neg (fun h2 => h h2.2), List.getD_eq_getElem?_getD, List.getElem?_eq_none (by omega)]
    · rw [if_neg e, ← List.getD_eq_getElem?_getD, trP_get i j]
      by_cases h : j < i ∧ j < l.length
      · rw [if_pos h, if_pos ⟨by omega, h.2⟩]
      · rw [if_neg h, if_neg (by omega)]
theorem gat_get (res : Nat → List Int) (i0 : Nat) : ∀ n j, j < n → (gatM res i0 n)[j]? = some (res (i0 + j))
  | 0, j, h => by omega
  | n + 1, j, h => by
    show (gatM res i0 n ++ [res (i0 + n)])[j]? = _
    by_cases e : j < n
    · rw [List.getElem?_append_left (by rw [gat_len]; exact e), gat_get res i0 n j e]
    · obtain rfl : j = n := by omega
      rw [List.getElem?_append_right (by rw [gat_len]; omega), gat_len, Nat.sub_self]; rfl
theorem has_out (h : RgOk l r) {i : Nat} {k : Int} (hi : (i : Int) < (endsR r).1.1 ∨ (endsR r).2.1 < (i : Int)) : hasR r ((i : Int), k) = false := by
  have hkd := h.kind
  have hle := h.le
  unfold hasR
  generalize (endsR r).1 = a at *
  generalize (endsR r).2 = b at *
  by_cases e0 : r.kind = 0
  · rw [if_pos e0]
    unfold aheadM
    rw [nn_dec, decide_eq_false]
    simp only
    omega
  · rw [if_neg e0]
    split
    · exact decide_eq_false (by simp only; omega)
    · exact decide_eq_false (by simp only; omega)
theorem tnL_out (h : RgOk l r) {i : Nat} (hi : (i : Int) < (endsR r).1.1 ∨ (endsR r).2.1 < (i : Int)) : tnL l r how i = l.getD i [] := by
  unfold tnL
  have := tnP_skip (how := how) (P := fun k => hasR r ((i : Int), (k : Int))) (x := l.getD i []) (a := 0) (l.getD i []).length fun j h1 h2 => has_out h hi
  rwa [Nat.zero_add] at this
theorem trP_all (h : RgOk l r) (h0 : (endsR r).1.1 = (r0 r : Int)) (h1 : (endsR r).2.1 + 1 = ((r0 r + rn r : Nat) : Int)) (hin : r0 r + rn r ≤ l.length) : trP l r how l.length = l.take (r0 r) ++ gatM (tnL l r how) (r0 r) (rn r) ++ l.drop (r0 r + rn r) := by
  have hlen : (l.take (r0 r) ++ gatM (tnL l r how) (r0 r) (rn r) ++ l.drop (r0 r + rn r)).length = l.length := by
    rw [List.length_append, List.length_append, List.length_take, gat_len, List.length_drop]; omega
  apply List.ext_getElem?
  intro j
  by_cases hj : j < l.length
  case neg => rw [List.getElem?_eq_none (by rw [trP_len]; omega), List.getElem?_eq_none (by rw [hlen]; omega)]
  rw [getD_of (d := []) (show j < (trP l r how l.length).length by rw [trP_len]; exact hj), trP_get, if_pos ⟨hj, hj⟩]
  have htl : (l.take (r0 r)).length = r0 r := by rw [List.length_take]; omega
  by_cases c1 : j < r0 r
  · rw [List.append_assoc, List.getElem?_append_left (by omega), List.getElem?_take, if_pos c1, tnL_out h (by omega), getD_of (d := []) hj]
  by_cases c2 : j < r0 r + rn r
  · rw [List.append_assoc, List.getElem?_append_right (by omega), List.getElem?_append_left (by rw [gat_len]; omega), gat_get _ _ _ _ (by omega), htl]
    congr 2
    omega
  · rw [List.getElem?_append_right (by rw [List.length_append, gat_len]; omega), List.length_append, gat_len, htl, List.getElem?_drop, tnL_out h (by omega), show r0 r + rn r + (j - (r0 r + rn r)) = j by omega, getD_of (d := []) hj]
end
section
variable {F : Nat → Prop} {w B : World} {v : Value} {l : List (List Int)} {r : Rg} {A : Option Addr} {n c g4 : Nat} {us : List Value} {how : Int}
/-- What the loops keep. -/
structure Trn (w : World) (g4 n : Nat) (A : Option Addr) (c : Nat) (us : List Value) (rows : List (List Int)) (b : World) : Prop where
  len : rows.length = n
  t : Tab (fun k => noB w k ∧ k ≠ g4) (fun _ => True) b (.slice A n c) us rows
theorem rm_K {k : Nat} : MK [(g4, cb [.int .i64 r.fr.1, .int .i64 r.fr.2, .int .i64 r.to.1, .int .i64 r.to.2, .int .i64 r.kind] 26)] k ↔ k = g4 := by rw [MK_iff]; simp
theorem Trn.now {b w' : World} {rows : List (List Int)} (h : Trn w g4 n A c us rows b) (hw : Kp (MK [(g4, cb [.int .i64 r.fr.1, .int .i64 r.fr.2, .int .i64 r.to.1, .int .i64 r.to.2, .int .i64 r.kind] 26)]) b w') : Trn w g4 n A c us rows w' :=
  ⟨h.len, h.t.kp hw fun k hk hm => hk.2 (rm_K.1 hm)⟩
theorem Trn.set {w1 w2 : World} {rows : List (List Int)} {i : Nat} {u : Value} {x : List Int} (h : Trn w g4 n A c us rows w1) (hu : us[i]? = some u) (hi : i < n) (kp : Kp (fun k => u.ownBlock = some k) w1 w2) (hO : Ow kRune (fun _ => True) (fun _ => False) w2 u x) : Trn w g4 n A c us (rows.set i x) w2 := by
  obtain ⟨h1, h2⟩ := h
  obtain ⟨u', hu', hOu⟩ := h2.at_ (j := i) trivial (by omega)
  obtain rfl : u = u' := by rw [hu] at hu'; exact Option.some.inj hu'
  have hb := hOu.block
  refine ⟨by rw [List.length_set]; exact h1, ?_⟩
  have h5 := (h2.take (j := i) trivial hu).kp kp fun k hk e => hk.2 e
  refine (h5.back (u := u) (j := i) (x' := x) (G' := fun k => noB w k ∧ k ≠ g4) hu (fun k hk _ => hk.1) (fun hk => hk.2 rfl) (hO.nE.mono (fun k hk _ => (hb k hk.2).1) fun _ h _ => h) fun i' u2 k hi' hu2 hk hk2 => ?_).all fun j hj => by
    by_cases e : j = i
    · exact .inr e
    · exact .inl ⟨trivial, e⟩
  exact hi'.2 (h2.apart i' i u2 u k trivial trivial hu2 hu hk hk2)
set_option maxHeartbeats 8000000 in
theorem tr_loop {kk : List Item} {R : Value → World → Prop} (hn : l.length = n) (h0 : Trn w g4 n A c us l B) (hk : ∀ j, (l.getD j []).length ≤ 1048576) (hlo : ∀ i j, -2147483648 ≤ (l.getD i []).getD j 0 ∧ (l.getD i []).getD j 0 ≤ 2147483647)
    (done : ∀ b, Trn w g4 n A c us (trP l r how n) b → ∀ σ', SubB σ' [(9, .slice A n c)] → ∀ M', MSub [(g4, cb [.int .i64 r.fr.1, .int .i64 r.fr.2, .int .i64 r.to.1, .int .i64 r.to.2, .int .i64 r.kind] 26)] M' → WL Try.prog Try.f36 kk σ' w (fun _ => False) b (MK [(g4, cb [.int .i64 r.fr.1, .int .i64 r.fr.2, .int .i64 r.to.1, .int .i64 r.to.2, .int .i64 r.kind] 26)]) M' R) :
    ∀ σ', SubB σ' [(2, .int .i32 how), (4, .pointer (some ⟨g4, 0, none⟩)), (9, .slice A n c), (10, .int .i64 ((0 : Nat) : Int))] → ∀ M', MSub [(g4, cb [.int .i64 r.fr.1, .int .i64 r.fr.2, .int .i64 r.to.1, .int .i64 r.to.2, .int .i64 r.kind] 26)] M' →
      WL Try.prog Try.f36 (.code (.loop (bodyC Try.f36 [1, 1, 1, 1, 1, 0, 1, 0, 0])) :: .inBlock 0 :: kk) σ' w (fun _ => False) B (MK [(g4, cb [.int .i64 r.fr.1, .int .i64 r.fr.2, .int .i64 r.to.1, .int .i64 r.to.2, .int .i64 r.kind] 26)]) M' R := by
  intro σ' hs M' hM
  refine WL.sub hs hM ?_
  refine l_whileB (fun i : Nat => n - i) (fun i => [(2, .int .i32 how), (4, .pointer (some ⟨g4, 0, none⟩)), (9, .slice A n c), (10, .int .i64 (i : Int))]) (fun _ => [(g4, cb [.int .i64 r.fr.1, .int .i64 r.fr.2, .int .i64 r.to.1, .int .i64 r.to.2, .int .i64 r.kind] 26)])
    (fun i bw => i ≤ n ∧ Trn w g4 n A c us (trP l r how i) bw) 0 (by repeat (first | exact SubB.nil | refine SubB.cons rfl ?_)) (by repeat(first|exact MSub.refl|refine MSub.keep rfl ?_|exact MSub.nil|apply MSub.drop)) (fun w' hw => ⟨Nat.zero_le _, h0.now hw.kp⟩) ?_
  rintro i b ⟨hin, hf⟩ hkb ih
  obtain ⟨_, _, _, _, hn24⟩ := hf.t.form
  rw [hf.len] at hn24
  by_cases hlt : i < n
  case neg =>
    obtain rfl : i = n := by omega
    repeat(first|refine lrun_ ?_|(refine lo_boxA rfl rfl ?_;intro _ _ _)|(refine lo_box1 rfl rfl rfl ?_;intro _ _ _)|(refine lo_alloc rfl ?_;intro _ _ _))
    refine l_no rfl (by omega) ?_
    refine l_go (.exit rfl) ?_
    exact done b hf _ (by repeat (first | exact SubB.nil | refine SubB.cons rfl ?_)) _ (by repeat(first|exact MSub.refl|refine MSub.keep rfl ?_|exact MSub.nil|apply MSub.drop))
  obtain ⟨ad, rfl⟩ := hf.t.ad (by rw [hf.len]; omega)
  have hgi : (trP l r how i).getD i [] = l.getD i [] := by rw [trP_get, if_neg (by omega)]
  obtain ⟨u, hu, hOu⟩ := hf.t.at_ (j := i) trivial (by rw [hf.len]; exact hlt)
  rw [hgi] at hOu
  obtain ⟨x, hx⟩ : ∃ x, l.getD i [] = x := ⟨_, rfl⟩
  have hstep : trP l r how (i + 1) = (trP l r how i).set i (tnP how (fun k => hasR r ((i : Int), (k : Int))) x x.length) := by rw [← hx]; rfl
  have hset : (trP l r how i).set i x = trP l r how i := by
    rw [← hx, ← hgi, List.getD_eq_getElem?_getD, List.getElem?_eq_getElem (by rw [hf.len]; exact hlt)]
    exact List.set_getElem_self _
  have hxk := hk i
  have hxl := hlo i
  rw [hx] at hOu hxk hxl
  clear hx hgi
  obtain ⟨As, cs, rfl, _, hfit⟩ := hOu.form
  clear hOu
  repeat(first|refine lrun_ ?_|(refine lo_boxA rfl rfl ?_;intro _ _ _)|(refine lo_box1 rfl rfl rfl ?_;intro _ _ _)|(refine lo_alloc rfl ?_;intro _ _ _))
  refine l_yes rfl (by omega) ?_
  repeat(first|refine lrun_ ?_|(refine lo_boxA rfl rfl ?_;intro _ _ _)|(refine lo_box1 rfl rfl rfl ?_;intro _ _ _)|(refine lo_alloc rfl ?_;intro _ _ _))
  refine l_whileB (fun k : Nat => x.length - k) (fun k => [(2, .int .i32 how), (4, .pointer (some ⟨g4, 0, none⟩)), (9, .slice (some ad) n c), (10, .int .i64 (i : Int)), (11, .int .i64 (k : Int))]) (fun _ => [(g4, cb [.int .i64 r.fr.1, .int .i64 r.fr.2, .int .i64 r.to.1, .int .i64 r.to.2, .int .i64 r.kind] 26)])
    (fun k bw => k ≤ x.length ∧ Trn w g4 n (some ad) c us ((trP l r how i).set i (tnP how (fun k => hasR r ((i : Int), (k : Int))) x k)) bw) 0 (by repeat (first | exact SubB.nil | refine SubB.cons rfl ?_)) (by repeat(first|exact MSub.refl|refine MSub.keep rfl ?_|exact MSub.nil|apply MSub.drop)) (fun w' hw => ⟨Nat.zero_le _, by show Trn w g4 n _ c us ((trP l r how i).set i x) w'; rw [hset]; exact hf.now hw.kp⟩) ?_
  clear hset
  rintro k b2 ⟨hkx, hg⟩ hkb2 ih2
  have hpl := tnP_len (how := how) (P := fun k => hasR r ((i : Int), (k : Int))) (x := x) k
  have hpg := tnP_get (how := how) (P := fun k => hasR r ((i : Int), (k : Int))) (x := x) k k (Nat.le_refl _)
  have hcell := hg.t.cell hu
  have hab := hg.t.t.block ad.block rfl
  have hnk : ¬ MK [(g4, cb [.int .i64 r.fr.1, .int .i64 r.fr.2, .int .i64 r.to.1, .int .i64 r.to.2, .int .i64 r.kind] 26)] (ad.add (i * 1)).block := fun h => by rw [add_block] at h; exact hab.1.2 (rm_K.1 h)
  by_cases hlt2 : k < x.length
  case neg =>
    obtain rfl : k = x.length := by omega
    rw [← hstep] at hg
    repeat(first|refine lrun_ ?_|(refine lo_boxA rfl rfl ?_;intro _ _ _)|(refine lo_box1 rfl rfl rfl ?_;intro _ _ _)|(refine lo_alloc rfl ?_;intro _ _ _))
    refine lo_index rfl rfl rfl hlt rfl rfl ?_
    refine lo_loadB rfl hcell hnk rfl ?_
    repeat(first|refine lrun_ ?_|(refine lo_boxA rfl rfl ?_;intro _ _ _)|(refine lo_box1 rfl rfl rfl ?_;intro _ _ _)|(refine lo_alloc rfl ?_;intro _ _ _))
    refine l_no rfl (by omega) ?_
    refine l_go (.exit rfl) ?_
    repeat(first|refine lrun_ ?_|(refine lo_boxA rfl rfl ?_;intro _ _ _)|(refine lo_box1 rfl rfl rfl ?_;intro _ _ _)|(refine lo_alloc rfl ?_;intro _ _ _))
    exact ih (i + 1) b2 _ ⟨hlt, hg⟩ (by omega) _ _ (by repeat (first | exact SubB.nil | refine SubB.cons rfl ?_)) (by repeat(first|exact MSub.refl|refine MSub.keep rfl ?_|exact MSub.nil|apply MSub.drop)) fun w' hw' => ⟨hlt, hg.now hw'.kp⟩
  have hstep2 : tnP how (fun k => hasR r ((i : Int), (k : Int))) x (k + 1) = if hasR r ((i : Int), (k : Int)) = true then (tnP how (fun k => hasR r ((i : Int), (k : Int))) x k).set k (tnR how (x.getD k 0)) else tnP how (fun k => hasR r ((i : Int), (k : Int))) x k := rfl
  obtain ⟨y', hy'⟩ : ∃ y', tnP how (fun k => hasR r ((i : Int), (k : Int))) x (k + 1) = y' := ⟨_, rfl⟩
  rw [hy'] at hstep2
  generalize tnP how (fun k => hasR r ((i : Int), (k : Int))) x k = y at *
  repeat(first|refine lrun_ ?_|(refine lo_boxA rfl rfl ?_;intro _ _ _)|(refine lo_box1 rfl rfl rfl ?_;intro _ _ _)|(refine lo_alloc rfl ?_;intro _ _ _))
  refine lo_index rfl rfl rfl hlt rfl rfl ?_
  refine lo_loadB rfl hcell hnk rfl ?_
  repeat(first|refine lrun_ ?_|(refine lo_boxA rfl rfl ?_;intro _ _ _)|(refine lo_box1 rfl rfl rfl ?_;intro _ _ _)|(refine lo_alloc rfl ?_;intro _ _ _))
  refine l_yes rfl (by omega) ?_
  repeat(first|refine lrun_ ?_|(refine lo_boxA rfl rfl ?_;intro _ _ _)|(refine lo_box1 rfl rfl rfl ?_;intro _ _ _)|(refine lo_alloc rfl ?_;intro _ _ _))
  refine lo_call (n_call rfl) rfl (fun w' hw => has_calls (r := r) (p := ((i : Int), (k : Int)))) ?_
  repeat(first|refine lrun_ ?_|(refine lo_boxA rfl rfl ?_;intro _ _ _)|(refine lo_box1 rfl rfl rfl ?_;intro _ _ _)|(refine lo_alloc rfl ?_;intro _ _ _))
  cases hh : hasR r ((i : Int), (k : Int)) with
  | false =>
    rw [hh, if_neg (by decide)] at hstep2
    refine l_false rfl ?_
    refine l_go .skip ?_
    repeat(first|refine lrun_ ?_|(refine lo_boxA rfl rfl ?_;intro _ _ _)|(refine lo_box1 rfl rfl rfl ?_;intro _ _ _)|(refine lo_alloc rfl ?_;intro _ _ _))
    exact ih2 (k + 1) b2 _ ⟨hlt2, by rw [hy', hstep2]; exact hg⟩ (by omega) _ _ (by repeat (first | exact SubB.nil | refine SubB.cons rfl ?_)) (by repeat(first|exact MSub.refl|refine MSub.keep rfl ?_|exact MSub.nil|apply MSub.drop)) fun w' hw' => ⟨hlt2, by rw [hy', hstep2]; exact hg.now hw'.kp⟩
  | true =>
  rw [hh, if_pos rfl] at hstep2
  refine l_true rfl ?_
  obtain ⟨u', hu', hOu⟩ := hg.t.at_ (j := i) trivial (by rw [hg.len]; exact hlt)
  obtain rfl : Value.slice As x.length cs = u' := by rw [hu] at hu'; exact Option.some.inj hu'
  rw [show ((trP l r how i).set i y).getD i [] = y by rw [List.getD_eq_getElem?_getD, List.getElem?_set_self (by rw [hf.len]; exact hlt)]; rfl] at hOu
  obtain ⟨_, _, ad2, e, hX⟩ := hOu.sl.rns
  rw [hpl] at e
  cases e
  have hA2 := hX.a (by omega)
  subst hA2
  have hload := hX.run k (by omega)
  rw [hpg] at hload
  have hob := hOu.block ad2.block rfl
  have hnk2 : ¬ MK [(g4, cb [.int .i64 r.fr.1, .int .i64 r.fr.2, .int .i64 r.to.1, .int .i64 r.to.2, .int .i64 r.kind] 26)] (ad2.add (k * 1)).block := fun h => by rw [add_block] at h; exact hob.1.1.2 (rm_K.1 h)
  have hOg : Og kRune w b2 (MK [(g4, cb [.int .i64 r.fr.1, .int .i64 r.fr.2, .int .i64 r.to.1, .int .i64 r.to.2, .int .i64 r.kind] 26)]) (fun _ => False) (.slice (some ad2) x.length cs) y := hOu.mono (fun k hk _ => ⟨hk.1.1, fun h => hk.1.2 (rm_K.1 h)⟩) fun _ h _ => h
  have hrl := tnR_lo (how := how) (hxl k)
  refine l_draw [(0, 0), (1, 0), (2, 0), (3, 0), (4, 0), (5, 0), (6, 0), (7, 0), (8, 0), (9, 0), (10, 0), (11, 0), (12, 0), (13, 1), (14, 0), (15, 1)] (by kernel_rfl) (by kernel_rfl) rfl (by kernel_rfl) ?_
  repeat(first|refine lrund_ ?_|(refine ld_open rfl ?_;first|(refine ld_boxA rfl wy_ rfl ?_;intro _ _ _)|(refine ld_box1 rfl rfl wy_ rfl ?_;intro _ _ _)|(refine ld_alloc wy_ rfl ?_;intro _ _ _)))
  refine ld_open rfl ?_; refine ld_index rfl rfl rfl hlt rfl wy_ rfl ?_
  refine ld_open rfl ?_; refine ld_loadB rfl hcell hnk wy_ rfl ?_
  repeat(first|refine lrund_ ?_|(refine ld_open rfl ?_;first|(refine ld_boxA rfl wy_ rfl ?_;intro _ _ _)|(refine ld_box1 rfl rfl wy_ rfl ?_;intro _ _ _)|(refine ld_alloc wy_ rfl ?_;intro _ _ _)))
  refine ld_open rfl ?_; refine ld_index rfl rfl rfl hlt rfl wy_ rfl ?_
  refine ld_open rfl ?_; refine ld_loadB rfl hcell hnk wy_ rfl ?_
  repeat(first|refine lrund_ ?_|(refine ld_open rfl ?_;first|(refine ld_boxA rfl wy_ rfl ?_;intro _ _ _)|(refine ld_box1 rfl rfl wy_ rfl ?_;intro _ _ _)|(refine ld_alloc wy_ rfl ?_;intro _ _ _)))
  refine ld_open rfl ?_; refine ld_loadB rfl hload hnk2 wy_ rfl ?_
  repeat(first|refine lrund_ ?_|(refine ld_open rfl ?_;first|(refine ld_boxA rfl wy_ rfl ?_;intro _ _ _)|(refine ld_box1 rfl rfl wy_ rfl ?_;intro _ _ _)|(refine ld_alloc wy_ rfl ?_;intro _ _ _)))
  refine ld_open rfl ?_; refine ld_call (n_call rfl) wy_ rfl (fun w' hw' => turned_calls (hxl k)) ?_
  repeat(first|refine lrund_ ?_|(refine ld_open rfl ?_;first|(refine ld_boxA rfl wy_ rfl ?_;intro _ _ _)|(refine ld_box1 rfl rfl wy_ rfl ?_;intro _ _ _)|(refine ld_alloc wy_ rfl ?_;intro _ _ _)))
  refine ld_open rfl ?_; refine ld_setM (d := kRune) (F := fun _ => False) (j := k) (q := tnR how (x.getD k 0)) (.nil) (by kernel_rfl) rfl rfl hOg (fun _ h => h.elim) (by omega) (fun w' hw => ⟨rfl, hrl⟩) rfl wy_ rfl ?_
  intro w3 w4 hw3 ko3 kp3 hog
  have hg4 := (hg.now hw3.kp).set hu hlt (kp3.mono fun k _ e => by rw [e]; rfl) (hog.mono (fun _ _ _ => trivial) fun _ h _ => h)
  rw [List.set_set, ← hstep2] at hg4
  repeat(first|refine lrund_ ?_|(refine ld_open rfl ?_;first|(refine ld_boxA rfl wy_ rfl ?_;intro _ _ _)|(refine ld_box1 rfl rfl wy_ rfl ?_;intro _ _ _)|(refine ld_alloc wy_ rfl ?_;intro _ _ _)))
  repeat(first|refine lrun_ ?_|(refine lo_boxA rfl rfl ?_;intro _ _ _)|(refine lo_box1 rfl rfl rfl ?_;intro _ _ _)|(refine lo_alloc rfl ?_;intro _ _ _))
  exact ih2 (k + 1) w4 _ ⟨hlt2, by rw [hy']; exact hg4⟩ (by omega) _ _ (by repeat (first | exact SubB.nil | refine SubB.cons rfl ?_)) (by repeat(first|exact MSub.refl|refine MSub.keep rfl ?_|exact MSub.nil|apply MSub.drop)) fun w' hw' => ⟨hlt2, by rw [hy']; exact hg4.now hw'.kp⟩
set_option maxHeartbeats 8000000 in
theorem turnR_calls (h : Sl kRow F w v l) (hr : RgP r) (hl : l.length ≤ 4096) (hk : ∀ j, (l.getD j []).length ≤ 1048576) :
    CallsR Try.prog 36 #[v, rgV r, .int .i32 how] w fun u w' => Kn w w' ∧ ∃ s, u = .tuple #[s, .int .i64 (turnM l r how).2] ∧ Ow kRow (noB w) (noB w) w' s (turnM l r how).1 := by
  obtain ⟨A, c, ad, rV, rc, ra, rfl, hR⟩ := h.rws
  have hlo : ∀ i j, -2147483648 ≤ (l.getD i []).getD j 0 ∧ (l.getD i []).getD j 0 ≤ 2147483647 := fun i j => by
    by_cases hi : i < l.length
    · obtain ⟨_, _, _, _, hX⟩ := (hR.rs i hi).rns
      exact hX.lo j
    · have e : l.getD i [] = [] := by rw [List.getD_eq_getElem?_getD, List.getElem?_eq_none (by omega)]; rfl
      rw [e]
      simp
  have hth := fun (w' : World) (hk : Kn w w') => thereR_calls (Kn.sl hk h) hr
  unfold rgV at *
  refine l_enter (fun _ => False) Try.func36 rfl rfl ?_
  by_cases hh : how ≠ 126 ∧ how ≠ 117 ∧ how ≠ 85
  · obtain ⟨h1, h2, h3⟩ := hh
    unfold turnM
    rw [if_pos ⟨h1, h2, h3⟩]
    repeat(first|refine lrun_ ?_|(refine lo_boxA rfl rfl ?_;intro _ _ _)|(refine lo_box1 rfl rfl rfl ?_;intro _ _ _)|(refine lo_alloc rfl ?_;intro _ _ _))
    refine l_yes rfl h3 ?_
    repeat(first|refine lrun_ ?_|(refine lo_boxA rfl rfl ?_;intro _ _ _)|(refine lo_box1 rfl rfl rfl ?_;intro _ _ _)|(refine lo_alloc rfl ?_;intro _ _ _))
    exact l_retR2 rfl (by repeat(first|exact LRes.nil|refine LRes.tmp rfl ?_|refine LRes.agg rfl (by(repeat(first|exact MIn.hd|refine MIn.tl ?_));done) (by rfl) (by rfl) ?_|refine LRes.one rfl (by(repeat(first|exact MIn.hd|refine MIn.tl ?_));done) (by rfl) ?_)) fun w hw => ⟨hw.org, _, rfl, Ow.nil _ _ _ _⟩
  unfold turnM
  rw [if_neg hh]
  have J : ∀ g4 σ', SubB σ' [(0, .slice A l.length c), (2, .int .i32 how), (4, .pointer (some ⟨g4, 0, none⟩)), (6, .slice none 0 0), (7, .int .i64 0)] → ∀ M', MSub [(g4, cb [.int .i64 r.fr.1, .int .i64 r.fr.2, .int .i64 r.to.1, .int .i64 r.to.2, .int .i64 r.kind] 26)] M' →
      WL Try.prog Try.f36 [.code (bodyC Try.f36 [1, 1])] σ' w (fun _ => False) w (fun _ => False) M' fun u w' => Kn w w' ∧ ∃ s, u = .tuple #[s, .int .i64 (if thereR l r ≠ 0 then ([], thereR l r) else (l.take (r0 r) ++ gatM (tnL l r how) (r0 r) (rn r) ++ l.drop (r0 r + rn r), 0)).2] ∧ Ow kRow (noB w) (noB w) w' s (if thereR l r ≠ 0 then ([], thereR l r) else (l.take (r0 r) ++ gatM (tnL l r how) (r0 r) (rn r) ++ l.drop (r0 r + rn r), 0)).1 := by
    intro g4 σ' hs M' hM
    refine WL.sub hs hM ?_
    repeat(first|refine lrun_ ?_|(refine lo_boxA rfl rfl ?_;intro _ _ _)|(refine lo_box1 rfl rfl rfl ?_;intro _ _ _)|(refine lo_alloc rfl ?_;intro _ _ _))
    refine lo_call (n_call rfl) rfl (fun w hw => hth w hw.org) ?_
    by_cases ht : thereR l r = 0
    case neg =>
      rw [if_pos ht]
      repeat(first|refine lrun_ ?_|(refine lo_boxA rfl rfl ?_;intro _ _ _)|(refine lo_box1 rfl rfl rfl ?_;intro _ _ _)|(refine lo_alloc rfl ?_;intro _ _ _))
      refine l_yes rfl ht ?_
      repeat(first|refine lrun_ ?_|(refine lo_boxA rfl rfl ?_;intro _ _ _)|(refine lo_box1 rfl rfl rfl ?_;intro _ _ _)|(refine lo_alloc rfl ?_;intro _ _ _))
      exact l_retR2 rfl (by repeat(first|exact LRes.nil|refine LRes.tmp rfl ?_|refine LRes.agg rfl (by(repeat(first|exact MIn.hd|refine MIn.tl ?_));done) (by rfl) (by rfl) ?_|refine LRes.one rfl (by(repeat(first|exact MIn.hd|refine MIn.tl ?_));done) (by rfl) ?_)) fun w hw => ⟨hw.org, _, rfl, Ow.nil _ _ _ _⟩
    have hok := there_ok ht
    rw [if_neg (fun h => h ht)]
    have hai := hok.a.i
    have hbi := hok.b.i
    have hle := hok.le
    have e0 : (endsR r).1.1 = (r0 r : Int) := by unfold r0; omega
    have e1 : (endsR r).2.1 + 1 = ((r0 r + rn r : Nat) : Int) := by unfold r0 rn; omega
    rw [← trP_all hok e0 e1 (by omega)]
    repeat(first|refine lrun_ ?_|(refine lo_boxA rfl rfl ?_;intro _ _ _)|(refine lo_box1 rfl rfl rfl ?_;intro _ _ _)|(refine lo_alloc rfl ?_;intro _ _ _))
    refine l_no rfl (fun h => h ht) ?_
    refine l_go .skip ?_
    repeat(first|refine lrun_ ?_|(refine lo_boxA rfl rfl ?_;intro _ _ _)|(refine lo_box1 rfl rfl rfl ?_;intro _ _ _)|(refine lo_alloc rfl ?_;intro _ _ _))
    refine lo_callM (n_call rfl) rfl (fun w' hw => twinT_calls (Kn.sl hw.org h)) ?_
    rintro w3 u w4 hw3 kn3 ko3 ⟨us3, hT3⟩
    obtain ⟨A3, c3, rfl, _, _⟩ := hT3.form
    have hs3 := hw3.org.size
    have hg3 : g4 < w3.heap.size := hw3.lt ⟨_, .hd⟩
    have hI : Trn w g4 l.length A3 c3 us3 l w4 := ⟨rfl, hT3.mono fun k hk _ => by unfold noB at *; omega⟩
    clear hT3 hw3 kn3 ko3
    repeat(first|refine lrun_ ?_|(refine lo_boxA rfl rfl ?_;intro _ _ _)|(refine lo_box1 rfl rfl rfl ?_;intro _ _ _)|(refine lo_alloc rfl ?_;intro _ _ _))
    refine tr_loop (how := how) (r := r) rfl hI hk hlo ?_ _ (by repeat (first | exact SubB.nil | refine SubB.cons rfl ?_)) _ (by repeat(first|exact MSub.refl|refine MSub.keep rfl ?_|exact MSub.nil|apply MSub.drop))
    intro b hB σ' hs M' hM
    refine WL.sub hs hM ?_
    have hsl := trP_len (l := l) (r := r) (how := how) l.length
    obtain ⟨_, hT⟩ := hB
    repeat(first|refine lrun_ ?_|(refine lo_boxA rfl rfl ?_;intro _ _ _)|(refine lo_box1 rfl rfl rfl ?_;intro _ _ _)|(refine lo_alloc rfl ?_;intro _ _ _))
    refine l_retR2 rfl (by repeat(first|exact LRes.nil|refine LRes.tmp rfl ?_|refine LRes.agg rfl (by(repeat(first|exact MIn.hd|refine MIn.tl ?_));done) (by rfl) (by rfl) ?_|refine LRes.one rfl (by(repeat(first|exact MIn.hd|refine MIn.tl ?_));done) (by rfl) ?_)) fun w' hw => ⟨hw.org, _, rfl, ?_⟩
    exact ((hT.kp hw.kp fun k hk hm => hk.2 (rm_K.1 hm)).ow fun _ _ => trivial).mono (fun k hk _ => hk.1) fun k hk _ => hk.1
  by_cases h1 : how = 126
  · repeat(first|refine lrun_ ?_|(refine lo_boxA rfl rfl ?_;intro _ _ _)|(refine lo_box1 rfl rfl rfl ?_;intro _ _ _)|(refine lo_alloc rfl ?_;intro _ _ _))
    refine l_false rfl ?_
    refine l_go .skip ?_
    exact J _ _ (by repeat (first | exact SubB.nil | refine SubB.cons rfl ?_)) _ (by repeat(first|exact MSub.refl|refine MSub.keep rfl ?_|exact MSub.nil|apply MSub.drop))
  by_cases h2 : how = 117
  · repeat(first|refine lrun_ ?_|(refine lo_boxA rfl rfl ?_;intro _ _ _)|(refine lo_box1 rfl rfl rfl ?_;intro _ _ _)|(refine lo_alloc rfl ?_;intro _ _ _))
    refine l_false rfl ?_
    refine l_go .skip ?_
    exact J _ _ (by repeat (first | exact SubB.nil | refine SubB.cons rfl ?_)) _ (by repeat(first|exact MSub.refl|refine MSub.keep rfl ?_|exact MSub.nil|apply MSub.drop))
  have h3 : how = 85 := by omega
  repeat(first|refine lrun_ ?_|(refine lo_boxA rfl rfl ?_;intro _ _ _)|(refine lo_box1 rfl rfl rfl ?_;intro _ _ _)|(refine lo_alloc rfl ?_;intro _ _ _))
  refine l_no rfl (fun h => h h3) ?_
  refine l_go .skip ?_
  exact J _ _ (by repeat (first | exact SubB.nil | refine SubB.cons rfl ?_)) _ (by repeat(first|exact MSub.refl|refine MSub.keep rfl ?_|exact MSub.nil|apply MSub.drop))
end
end Go.Ink

set_option linter.unusedVariables false
set_option linter.unusedSimpArgs false
namespace Go.Ink
open Go Go.Proofs Go.RowKit
section
variable {F : Nat → Prop} {w : World} {v : Value} {l : List (List Int)} {r : Rg} {how : Int}
def TnT (l : List (List Int)) (r : Rg) (how : Int) (u : Value) (N : Mm) : Prop := ∃ s, u = .tuple #[s, .int .i64 (turnM l r how).2] ∧ NwT (turnM l r how).1 s N
theorem turnN_calls (h : Sl kRow F w v l) (hr : RgP r) (hl : l.length ≤ 4096) (hk : ∀ j, (l.getD j []).length ≤ 1048576) :
    CallsR Try.prog 35 #[v, rgV r, .int .i32 how] w fun u w' => ∃ N, News w w' N ∧ TnT l r how u N :=
  (turn_calls h hr hl hk).mono fun u w' ⟨h1, s, e, h2⟩ => by
    obtain ⟨N, h3, h4⟩ := nwT_of h1 h2
    exact ⟨N, h3, s, e, h4⟩
set_option maxHeartbeats 8000000 in
theorem turns_calls (h : Sl kRow F w v l) (hr : RgP r) :
    CallsR Try.prog 10 #[v, rgV r, .int .i32 how] w fun u w' => Kn w w' ∧ u = .bool true := by
  obtain ⟨A, c, e⟩ : ∃ A c, v = .slice A l.length c := by obtain ⟨A, c, e, _⟩ := h.form; exact ⟨A, c, e⟩
  subst e
  refine l_enter (fun _ => False) Try.func10 rfl rfl ?_
  repeat(first|refine lrun_ ?_|(refine lo_boxA rfl rfl ?_;intro _ _ _)|(refine lo_box1 rfl rfl rfl ?_;intro _ _ _)|(refine lo_alloc rfl ?_;intro _ _ _))
  rename_i g4 _ _
  refine lo_call (n_call rfl) rfl (fun w' hw => fit_calls (Kn.sl hw.org h)) ?_
  cases hf : fitB l with
  | false =>
    repeat(first|refine lrun_ ?_|(refine lo_boxA rfl rfl ?_;intro _ _ _)|(refine lo_box1 rfl rfl rfl ?_;intro _ _ _)|(refine lo_alloc rfl ?_;intro _ _ _))
    refine l_true rfl ?_
    repeat(first|refine lrun_ ?_|(refine lo_boxA rfl rfl ?_;intro _ _ _)|(refine lo_box1 rfl rfl rfl ?_;intro _ _ _)|(refine lo_alloc rfl ?_;intro _ _ _))
    exact l_ret1 rfl rfl fun w' hw => ⟨hw.org, rfl⟩
  | true =>
  obtain ⟨⟨hll, hlr⟩, hpl⟩ := fit_iff.1 hf
  have hkk : ∀ j, (l.getD j []).length ≤ 1048576 := fun j => Nat.le_trans (runes_getD _ j) (by omega)
  repeat(first|refine lrun_ ?_|(refine lo_boxA rfl rfl ?_;intro _ _ _)|(refine lo_box1 rfl rfl rfl ?_;intro _ _ _)|(refine lo_alloc rfl ?_;intro _ _ _))
  refine l_false rfl ?_
  refine l_go .skip ?_
  repeat(first|refine lrun_ ?_|(refine lo_boxA rfl rfl ?_;intro _ _ _)|(refine lo_box1 rfl rfl rfl ?_;intro _ _ _)|(refine lo_alloc rfl ?_;intro _ _ _))
  refine l_draw [(0, 0), (2, 0), (3, 0), (1, 1), (4, 1), (5, 0), (6, 0), (7, 0), (8, 0), (9, 0)] (by kernel_rfl) (by kernel_rfl) rfl (by kernel_rfl) ?_
  repeat(first|refine lrund_ ?_|(refine ld_open rfl ?_;first|(refine ld_boxA rfl wy_ rfl ?_;intro _ _ _)|(refine ld_box1 rfl rfl wy_ rfl ?_;intro _ _ _)|(refine ld_alloc wy_ rfl ?_;intro _ _ _)))
  refine ld_open rfl ?_; refine ld_callX (n_call rfl) wy_ rfl (fun w' hw' => twinN_calls (Kn.sl hw'.org h)) ?_
  intro u1 N1 hN1
  obtain ⟨A1, c1, rfl⟩ := hN1.1
  refine ld_open rfl ?_; refine ld_callX (n_call rfl) wy_ rfl (fun w' hw' => turnN_calls (hN1.now hw' fun g o hm => min_l (min_l hm)) hr (by omega) hkk) ?_
  rintro _ N2 ⟨s2, rfl, hN2⟩
  obtain ⟨A7, c7, rfl⟩ := hN2.1
  repeat(first|refine lrund_ ?_|(refine ld_open rfl ?_;first|(refine ld_boxA rfl wy_ rfl ?_;intro _ _ _)|(refine ld_box1 rfl rfl wy_ rfl ?_;intro _ _ _)|(refine ld_alloc wy_ rfl ?_;intro _ _ _)))
  refine ld_nil mcat_self ?_
  refine l_baseM (M3 := [(g4, _)]) msub_app fun w5 hw5 => ?_
  have h7 := hN2.hd hw5 (fun g o hm => min_l (min_l hm)) msub_app (fun k hk hm => nd_l hw5.nd (mk_app.2 (.inl hk)) hm)
  clear hN1 hN2 hw5
  repeat(first|refine lrun_ ?_|(refine lo_boxA rfl rfl ?_;intro _ _ _)|(refine lo_box1 rfl rfl rfl ?_;intro _ _ _)|(refine lo_alloc rfl ?_;intro _ _ _))
  refine lo_callM (n_call rfl) rfl (fun w' hw => turnR_calls (Kn.sl hw.org h) hr (by omega) hkk) ?_
  rintro w7 _ w8 hw7 kn7 ko7 ⟨s9, rfl, hO9⟩
  have h7 := h7.next hw7 kn7
  have h9 := Hd.of hO9 hw7
  obtain ⟨A9, c9, rfl, _, _⟩ := hO9.form
  clear hO9 hw7
  generalize turnM l r how = J at *
  repeat(first|refine lrun_ ?_|(refine lo_boxA rfl rfl ?_;intro _ _ _)|(refine lo_box1 rfl rfl rfl ?_;intro _ _ _)|(refine lo_alloc rfl ?_;intro _ _ _))
  rw [decide_eq_true (rfl : J.2 = J.2)]
  repeat(first|refine lrun_ ?_|(refine lo_boxA rfl rfl ?_;intro _ _ _)|(refine lo_box1 rfl rfl rfl ?_;intro _ _ _)|(refine lo_alloc rfl ?_;intro _ _ _))
  refine lo_call (n_call rfl) rfl (fun w' hw => same04_calls (h7.now hw) (h9.now hw)) ?_
  rw [decide_eq_true (rfl : J.1 = J.1)]
  repeat(first|refine lrun_ ?_|(refine lo_boxA rfl rfl ?_;intro _ _ _)|(refine lo_box1 rfl rfl rfl ?_;intro _ _ _)|(refine lo_alloc rfl ?_;intro _ _ _))
  refine lo_call (n_call (args := []) rfl) rfl (fun w' hw => awake_calls) ?_
  repeat(first|refine lrun_ ?_|(refine lo_boxA rfl rfl ?_;intro _ _ _)|(refine lo_box1 rfl rfl rfl ?_;intro _ _ _)|(refine lo_alloc rfl ?_;intro _ _ _))
  exact l_ret1 rfl rfl fun w' hw => ⟨hw.org, rfl⟩
end
theorem law_OperTurns {W : World} {u : Value} {l : List (List Int)} {r : Rg} {cs : List Value} {how : Int} (h : Sl kRow (fun _ => True) W u l) (hr : kRg.R (fun _ => True) W r cs) (hh : -2147483648 ≤ how ∧ how ≤ 2147483647) :
    CallsR Try.prog 10 #[u, .agg cs.toArray, .int .i32 how] W fun r w' => r = .bool true ∧ Kn W w' := by
  obtain ⟨e, hr'⟩ := rg_form hr
  rw [e]
  exact (turns_calls h hr').mono fun r w' ⟨h1, h2⟩ => ⟨h2, h1⟩
end Go.Ink
