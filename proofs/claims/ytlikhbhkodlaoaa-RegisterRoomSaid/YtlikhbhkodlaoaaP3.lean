/-
  RegisterRoom, in plain words.
-/
import Derived.Test.YtlikhbhkodlaoaaF10
set_option linter.unusedVariables false
namespace Go.Ink
theorem room_arg {m : List Slot} {name : Int} {y : List Int} (hy : 65536 < 1 + y.length) : putM m name (0, [y]) false = (m, 1) := by
  have hs : 65536 < sizeM [y] := by simp [sizeM]; omega
  unfold putM
  rw [if_pos (.inr (.inr (.inr hs)))]
theorem room_first {m : List Slot} (hl : m.length = 38) {x : List Int} (hx : 1 + x.length ≤ 65536) : putM m 97 (0, [x]) false = ((putM m 97 (0, [x]) false).1, 0) ∧ slotAt (putM m 97 (0, [x]) false).1 12 = (true, (0, [x])) := by
  have hs : ¬ 65536 < sizeM [x] := by simp [sizeM]; omega
  have hp : placeM 97 = 12 := by decide
  have hf : filledM (0, [x]) = (0, [x]) := by simp [filledM]
  have he : putM m 97 (0, [x]) false = ((m.set 12 (true, (0, [x]))).set 0 (true, (0, [x])), 0) := by
    unfold putM
    rw [if_neg (by simp [hp, hs]), if_neg (by decide), hf]
    simp [midM, hp, finM]
  rw [he]
  refine ⟨rfl, ?_⟩
  rw [slotAt_set (by simp [hl]), if_neg (by decide), slotAt_set (by omega), if_pos rfl]
theorem room_more {m : List Slot} (hl : m.length = 38) {x y : List Int} (h : slotAt m 12 = (true, (0, [x]))) (hy : 1 + y.length ≤ 65536) :
    (65536 < 1 + x.length + y.length → putM m 65 (0, [y]) false = (m, 3)) ∧
    (1 + x.length + y.length ≤ 65536 → putM m 65 (0, [y]) false = ((putM m 65 (0, [y]) false).1, 0) ∧ slotAt (putM m 65 (0, [y]) false).1 12 = (true, (0, [x ++ y]))) := by
  have hs : ¬ 65536 < sizeM [y] := by simp [sizeM]; omega
  have hp : placeM 65 = 12 := by decide
  have hf : filledM (0, [y]) = (0, [y]) := by simp [filledM]
  have hmore : moreM (slotAt m 12) (0, [y]) = (0, [x ++ y]) := by rw [h]; simp [moreM]
  have he : putM m 65 (0, [y]) false = finM m 12 65 (0, [y]) := by
    unfold putM
    rw [if_neg (by simp [hp, hs]), if_neg (by decide), hf]
    simp [midM, hp]
  have hz : sizeM [x ++ y] = 1 + (x.length + y.length) := by simp [sizeM]
  constructor
  · intro hb
    have hb' : 65536 < sizeM [x ++ y] := by omega
    rw [he]
    simp [finM, hmore, hb']
  · intro hb
    have hb' : ¬ 65536 < sizeM [x ++ y] := by omega
    have he2 : finM m 12 65 (0, [y]) = ((m.set 12 (true, (0, [x ++ y]))).set 0 (true, (0, [x ++ y])), 0) := by simp [finM, hmore, hb']
    rw [he, he2]
    refine ⟨rfl, ?_⟩
    rw [slotAt_set (by simp [hl]), if_neg (by decide), slotAt_set (by omega), if_pos rfl]
end Go.Ink
