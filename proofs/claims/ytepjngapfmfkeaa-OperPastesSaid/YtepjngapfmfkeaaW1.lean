/-
  Classes of runes.
-/
import Derived.Test.YtepjngapfmfkeaaSeat
import Derived.Test.YtepjngapfmfkeaaStr
import Derived.Test.YtepjngapfmfkeaaRead
import Derived.Test.YtepjngapfmfkeaaDrq
import Derived.Test.YtepjngapfmfkeaaBr
import Derived.Test.YtepjngapfmfkeaaIdx
import Derived.Test.YtepjngapfmfkeaaArr
import Derived.Test.YtepjngapfmfkeaaRow
import Derived.Test.YtepjngapfmfkeaaEq2
set_option linter.unusedVariables false
set_option linter.unusedSimpArgs false
namespace Go.Ink
open Go Go.Proofs

abbrev Ps := Int × Int
abbrev posV (p : Ps) : Value := .agg #[.int .i64 p.1, .int .i64 p.2]
def wordM (r : Int) : Bool := decide (128 ≤ r ∨ r = 95 ∨ (48 ≤ r ∧ r ≤ 57) ∨ (65 ≤ r ∧ r ≤ 90) ∨ (97 ≤ r ∧ r ≤ 122))
def classM (r : Int) (big : Bool) : Int := if r = 32 ∨ r = 9 then 0 else if big = true ∨ wordM r = true then 1 else 2
theorem wordP_calls {w : World} {r : Int} : CallsR Try.prog 81 #[.int .i32 r] w fun u w' => w' = w ∧ u = .bool (wordM r) := by
  refine calls_enter Try.func81 rfl rfl ?_
  repeat(refine run_ ?_)
  have T : wordM r = true → ∀ x : Bool, x = true → (w = w ∧ Value.bool x = .bool (wordM r)) := fun h x hx => ⟨rfl, by rw [h, hx]⟩
  have Fa : wordM r = false → ∀ x : Bool, x = false → (w = w ∧ Value.bool x = .bool (wordM r)) := fun h x hx => ⟨rfl, by rw [h, hx]⟩
  by_cases h1 : 128 ≤ r
  · refine k_yes rfl h1 ?_
    refine k_skip ?_
    refine k_yes rfl h1 ?_
    repeat(refine run_ ?_)
    exact k_ret1 rfl rfl (T (by unfold wordM; simp; omega) _ rfl)
  refine k_no rfl h1 ?_
  by_cases h2 : r = 95
  · repeat(refine run_ ?_)
    refine k_yes rfl h2 ?_
    repeat(refine run_ ?_)
    exact k_ret1 rfl rfl (T (by unfold wordM; simp; omega) _ rfl)
  repeat(refine run_ ?_)
  refine k_no rfl h2 ?_
  repeat(refine run_ ?_)
  by_cases h3 : r < 48
  · refine k_yes rfl h3 ?_
    repeat(refine run_ ?_)
    exact k_ret1 rfl rfl (Fa (by unfold wordM; simp; omega) _ rfl)
  refine k_no rfl h3 ?_
  repeat (first | refine o_nil ?_ | refine k_seq ?_ | refine k_region ?_ | refine k_block ?_ | refine k_inBlock ?_ | refine k_skip ?_)
  by_cases h4 : r ≤ 57
  · repeat(refine run_ ?_)
    exact k_ret1 rfl rfl (T (by unfold wordM; simp; omega) _ rfl)
  by_cases h5 : 65 ≤ r
  · by_cases h6 : r ≤ 90
    · repeat(refine run_ ?_)
      exact k_ret1 rfl rfl (T (by unfold wordM; simp; omega) _ (by first | rfl | simp; omega))
    · by_cases h7 : 97 ≤ r
      · repeat(refine run_ ?_)
        exact k_ret1 rfl rfl ⟨rfl, by unfold wordM; congr 1; rw [decide_eq_decide]; omega⟩
      · repeat(refine run_ ?_)
        exact k_ret1 rfl rfl (Fa (by unfold wordM; simp; omega) _ (by first | rfl | simp; omega))
  · have h7 : ¬ 97 ≤ r := by omega
    repeat(refine run_ ?_)
    exact k_ret1 rfl rfl (Fa (by unfold wordM; simp; omega) _ (by first | rfl | simp; omega))
theorem class_big {r : Int} {big : Bool} (h1 : ¬ (r = 32 ∨ r = 9)) (h2 : big = true) : classM r big = 1 := by unfold classM; rw [if_neg h1, if_pos (.inl h2)]
theorem classP_calls {w : World} {r : Int} {big : Bool} : CallsR Try.prog 63 #[.int .i32 r, .bool big] w fun u w' => w' = w ∧ u = .int .i64 (classM r big) := by
  refine calls_enter Try.func63 rfl rfl ?_
  by_cases h1 : r = 32
  · repeat(refine run_ ?_)
    refine k_true rfl ?_
    repeat(refine run_ ?_)
    exact k_ret1 rfl rfl ⟨rfl, by unfold classM; rw [if_pos (.inl h1)]⟩
  by_cases h2 : r = 9
  · repeat(refine run_ ?_)
    refine k_yes rfl h2 ?_
    repeat(refine run_ ?_)
    exact k_ret1 rfl rfl ⟨rfl, by unfold classM; rw [if_pos (.inr h2)]⟩
  have h3 : ¬ (r = 32 ∨ r = 9) := by omega
  repeat(refine run_ ?_)
  refine k_no rfl h2 ?_
  repeat (first | refine o_nil ?_ | refine k_seq ?_ | refine k_region ?_ | refine k_block ?_ | refine k_inBlock ?_ | refine k_skip ?_)
  cases big with
  | true =>
    repeat(refine run_ ?_)
    refine k_true rfl ?_
    repeat(refine run_ ?_)
    exact k_ret1 rfl rfl ⟨rfl, by rw [class_big h3 rfl]⟩
  | false =>
    repeat(refine run_ ?_)
    refine o_enter (n_call rfl) (wants_none rfl) rfl ((wordP_calls).mono ?_)
    rintro _ w ⟨rfl, rfl⟩
    cases hw : wordM r with
    | true =>
      repeat(refine run_ ?_)
      refine k_true rfl ?_
      repeat(refine run_ ?_)
      exact k_ret1 rfl rfl ⟨rfl, by unfold classM; rw [if_neg h3, if_pos (.inr hw)]⟩
    | false =>
      repeat(refine run_ ?_)
      refine k_false rfl ?_
      repeat(refine run_ ?_)
      exact k_ret1 rfl rfl ⟨rfl, by unfold classM; rw [if_neg h3, if_neg (by simp [hw])]⟩
end Go.Ink
