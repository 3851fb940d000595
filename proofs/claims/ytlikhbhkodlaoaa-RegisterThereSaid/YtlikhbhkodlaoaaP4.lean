/-
  What stands under a letter, and elsewhere, behind a Put.
-/
import Derived.Test.YtlikhbhkodlaoaaF12
set_option linter.unusedVariables false
set_option linter.unusedSimpArgs false
namespace Go.Ink
theorem place_name {i : Nat} (hi : i < 38) : placeM (nameM i) = i := by
  unfold nameM placeM
  split
  · subst_vars; decide
  · split
    · subst_vars; decide
    · split
      · rw [if_neg (by omega), if_neg (by omega), if_pos (by omega)]; omega
      · rw [if_neg (by omega), if_neg (by omega), if_neg (by omega), if_pos (by omega)]; omega
theorem name_range {i : Nat} (hi : i < 38) : -2147483648 ≤ nameM i ∧ nameM i ≤ 2147483647 := by unfold nameM; split <;> (try split) <;> (try split) <;> omega
section
variable {m : List Slot} {r : Reg} {j : Nat}
theorem put_there (hj : 12 ≤ j ∧ j < 38) (h0 : r.2 ≠ []) (hk : 0 ≤ r.1 ∧ r.1 ≤ 2) (hs : sizeM r.2 ≤ 65536) : putM m (97 + ((j : Int) - 12)) r true = ((m.set j (true, r)).set 0 (true, r), 0) := by
  have hp : placeM (97 + ((j : Int) - 12)) = j := by unfold placeM; rw [if_neg (by omega), if_neg (by omega), if_neg (by omega), if_pos (by omega)]; omega
  have hf : filledM r = r := by unfold filledM; rw [if_neg h0]
  unfold putM
  rw [hp, if_neg (by omega), if_neg (by omega), hf]
  have hmid : midM m (97 + ((j : Int) - 12)) r true = (m, j) := by unfold midM; rw [hp, if_neg (by omega)]; simp
  rw [hmid]
  unfold finM
  simp only
  rw [if_neg (by omega), if_neg (by omega)]
theorem there_get (hl : m.length = 38) (hj : 12 ≤ j ∧ j < 38) : getM ((m.set j (true, r)).set 0 (true, r)) (97 + ((j : Int) - 12)) = (r, 0) ∧ getM ((m.set j (true, r)).set 0 (true, r)) 0 = (r, 0) := by
  have hp : placeM (97 + ((j : Int) - 12)) = j := by unfold placeM; rw [if_neg (by omega), if_neg (by omega), if_neg (by omega), if_pos (by omega)]; omega
  have s0 : slotAt ((m.set j (true, r)).set 0 (true, r)) 0 = (true, r) := by rw [slotAt_set (by simp; omega), if_pos rfl]
  have sj : slotAt ((m.set j (true, r)).set 0 (true, r)) j = (true, r) := by rw [slotAt_set (by simp; omega), if_neg (by omega), slotAt_set (by omega), if_pos rfl]
  constructor
  · unfold getM
    rw [hp, if_neg (by omega), Int.toNat_natCast, sj, if_neg (by simp)]
  · unfold getM
    rw [show placeM 0 = 0 from rfl, if_neg (by omega), show (0 : Int).toNat = 0 from rfl, s0, if_neg (by simp)]
theorem there_else (hl : m.length = 38) (hj : 12 ≤ j ∧ j < 38) {i : Nat} (hi : i < 38) (h1 : nameM i ≠ 97 + ((j : Int) - 12)) (h2 : nameM i ≠ 34) (hf : (slotAt m i).1 = true) : getM ((m.set j (true, r)).set 0 (true, r)) (nameM i) = ((slotAt m i).2, 0) := by
  have hi0 : i ≠ 0 := fun h => h2 (by subst h; rfl)
  have hij : i ≠ j := fun h => h1 (by subst h; unfold nameM; rw [if_neg (by omega), if_neg (by omega), if_neg (by omega)])
  unfold getM
  rw [place_name hi, if_neg (by omega), Int.toNat_natCast, slotAt_set (by simp; omega), if_neg hi0, slotAt_set (by omega), if_neg hij, if_neg (by simp [hf])]
theorem all_mem {n : Nat} {x : Int × Reg} (h : x ∈ allFrom m n) : ∃ i, i < n ∧ x = (nameM i, (slotAt m i).2) ∧ (slotAt m i).1 = true := by
  unfold allFrom at h
  obtain ⟨i, hi, he⟩ := List.mem_filterMap.1 h
  split at he
  · next hf =>
    cases he
    exact ⟨i, by simpa using hi, rfl, hf⟩
  · cases he
end
theorem small_size {ls : List (List Int)} (h : smallM ls = true) : sizeM ls ≤ 3301 := by
  unfold smallM at h
  have := of_decide_eq_true h
  unfold sizeM
  unfold runesM at this
  omega
end Go.Ink
