/-
  RegisterShifts, in plain words.
-/
import Derived.Test.YtlikhbhkodlaoaaF10
set_option linter.unusedVariables false
namespace Go.Ink
theorem step_at {m : List Slot} {k i : Nat} (hk : k < m.length) : slotAt (shiftStep m k) i = if i = k ∧ (slotAt m (k - 1)).1 = true then (true, (slotAt m (k - 1)).2) else slotAt m i := by
  unfold shiftStep
  by_cases hf : (slotAt m (k - 1)).1 = true
  · rw [if_pos hf, slotAt_set hk]
    by_cases h : i = k <;> simp [h, hf]
  · rw [if_neg hf, if_neg (fun h => hf h.2)]
theorem from_at : ∀ (n : Nat) (m : List Slot) (i : Nat), m.length = 38 → n ≤ 8 →
    slotAt (shiftFrom n m) i = if (4 ≤ i ∧ i < 4 + n) ∧ (slotAt m (i - 1)).1 = true then (true, (slotAt m (i - 1)).2) else slotAt m i
  | 0, m, i, _, _ => by rw [if_neg (by omega)]; rfl
  | n + 1, m, i, hl, hn => by
    rw [shiftFrom, from_at n _ i (by rw [shiftStep_len, hl]) (by omega)]
    have hs := fun i => step_at (m := m) (k := n + 4) (i := i) (by omega)
    by_cases h1 : 4 ≤ i ∧ i < 4 + n
    · rw [hs, hs, if_neg (c := i - 1 = n + 4 ∧ _) (by omega), if_neg (c := i = n + 4 ∧ _) (by omega)]
      simp only [h1, show 4 ≤ i ∧ i < 4 + (n + 1) from by omega, true_and]
    · rw [if_neg (fun h => h1 h.1), hs]
      by_cases h2 : i = n + 4
      · subst h2
        simp only [show 4 ≤ n + 4 ∧ n + 4 < 4 + (n + 1) from by omega, true_and]
      · rw [if_neg (fun h => h2 h.1), if_neg (by omega)]
/-- The numbered registers hold what is wanted. -/
def Num (m : List Slot) (want : List Reg) : Prop := ∀ j, j < 9 → if h : j < want.length then slotAt m (3 + j) = (true, want[j]) else (slotAt m (3 + j)).1 = false
theorem put_line {m : List Slot} {x : List Int} (hx : x.length ≤ 1000) (del : Bool) : putM m 34 (1, [x]) del = if del then (((shiftFrom 8 m).set 3 (true, (1, [x]))).set 0 (true, (1, [x])), 0) else ((m.set 2 (true, (1, [x]))).set 0 (true, (1, [x])), 0) := by
  have hs : ¬ 65536 < sizeM [x] := by simp [sizeM]; omega
  have hp : placeM 34 = 0 := by decide
  have hf : filledM (1, [x]) = (1, [x]) := by simp [filledM]
  unfold putM
  rw [if_neg (by simp [hp, hs]), if_neg (by decide), hf]
  cases del <;> simp [midM, hp, shiftM, finM]
theorem num_put {m : List Slot} {want : List Reg} {x : List Int} (h : Num m want) (hl : m.length = 38) (hx : x.length ≤ 1000) (y : Bool) :
    Num (putM m 34 (1, [x]) (!y)).1 (if y then want else (1, [x]) :: want) := by
  rw [put_line hx]
  have hl8 : (shiftFrom 8 m).length = 38 := by rw [shiftFrom_len, hl]
  intro j hj
  cases y with
  | true =>
    simp only [Bool.not_true, Bool.false_eq_true, if_false, if_true]
    rw [slotAt_set (by simp [hl]), if_neg (by omega), slotAt_set (by omega), if_neg (by omega)]
    exact h j hj
  | false =>
    simp only [Bool.not_false, Bool.false_eq_true, if_false, if_true]
    rw [slotAt_set (by simp [hl8]), if_neg (by omega), slotAt_set (by omega)]
    cases j with
    | zero => simp
    | succ j =>
      have hj' := h j (by omega)
      have hj2 := h (j + 1) hj
      rw [if_neg (by omega), from_at 8 m _ hl (Nat.le_refl _), show 3 + (j + 1) - 1 = 3 + j from by omega]
      by_cases hw : j < want.length
      · rw [dif_pos hw] at hj'
        rw [dif_pos (by simpa using hw), hj', if_pos ⟨by omega, rfl⟩]
        simp
      · rw [dif_neg hw] at hj'
        rw [dif_neg (by simpa using hw), if_neg (by rw [hj']; simp)]
        rw [dif_neg (by omega)] at hj2
        exact hj2
theorem get_num {m : List Slot} {want : List Reg} (h : Num m want) {j : Nat} (hj : j < 9) : getM m (49 + j) = if h : j < want.length then (want[j], 0) else ((0, []), 26) := by
  have hp : placeM (49 + (j : Int)) = 3 + j := by unfold placeM; repeat' split
                                                  all_goals omega
  have hn := h j hj
  unfold getM
  rw [hp, if_neg (by omega), show ((3 : Int) + j).toNat = 3 + j from by omega]
  by_cases hw : j < want.length
  · rw [dif_pos hw] at hn ⊢
    rw [hn, if_neg (by simp; omega)]
  · rw [dif_neg hw] at hn ⊢
    rw [hn, if_pos (by simp)]
end Go.Ink
