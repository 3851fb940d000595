/-
  RegisterGrows, RegisterRoom, in plain words.
-/
import Derived.Test.YtlikhbhkodlaoaaF10
set_option linter.unusedVariables false
namespace Go.Ink
/-- What a capital letter's register grows by. -/
def Grown (m : List Slot) (k : Nat) (all : List Int) : Prop := if k = 0 then slotAt m 28 = (false, (0, [])) ∧ all = [] else slotAt m 28 = (true, (0, [all]))
theorem grown_put {m : List Slot} {k : Nat} {all x : List Int} (h : Grown m k all) (hl : m.length = 38) (ha : all.length ≤ 60000) (hx : x.length ≤ 1000) :
    putM m 81 (0, [x]) false = ((putM m 81 (0, [x]) false).1, 0) ∧ Grown (putM m 81 (0, [x]) false).1 (k + 1) (all ++ x) := by
  have hs : ¬ 65536 < sizeM [x] := by simp [sizeM]; omega
  have hp : placeM 81 = 28 := by decide
  have hf : filledM (0, [x]) = (0, [x]) := by simp [filledM]
  have hmore : moreM (slotAt m 28) (0, [x]) = (0, [all ++ x]) := by
    unfold Grown at h
    split at h
    · rw [h.1, h.2]; rfl
    · rw [h]; simp [moreM]
  have hbig : ¬ 65536 < sizeM [all ++ x] := by simp [sizeM]; omega
  have he : putM m 81 (0, [x]) false = ((m.set 28 (true, (0, [all ++ x]))).set 0 (true, (0, [all ++ x])), 0) := by
    unfold putM
    rw [if_neg (by simp [hp, hs]), if_neg (by decide), hf]
    simp [midM, hp, finM, hmore, hbig]
  rw [he]
  refine ⟨rfl, ?_⟩
  unfold Grown
  rw [if_neg (by omega), slotAt_set (by simp [hl]), if_neg (by decide), slotAt_set (by omega), if_pos rfl]
theorem grown_get {m : List Slot} {k : Nat} {all : List Int} (h : Grown m k all) : getM m 113 = if k = 0 then ((0, []), 26) else ((0, [all]), 0) := by
  have hp : placeM 113 = 28 := by decide
  unfold Grown at h
  unfold getM
  rw [hp, if_neg (by omega), show ((28 : Int)).toNat = 28 from rfl]
  split at h
  · rw [h.1]; simp [*]
  · rw [h]; simp [*]
theorem grown_empty : Grown emptySet 0 [] := by
  unfold Grown
  rw [if_pos rfl]
  exact ⟨by kernel_rfl, rfl⟩
end Go.Ink
