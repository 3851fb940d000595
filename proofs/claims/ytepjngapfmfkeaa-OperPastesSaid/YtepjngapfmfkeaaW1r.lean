/-
  Classes of runes: the reference.
-/
import Derived.Test.YtepjngapfmfkeaaW1
set_option linter.unusedVariables false
set_option linter.unusedSimpArgs false
namespace Go.Ink
open Go Go.Proofs

theorem wordR_calls {w : World} {r : Int} : CallsR Try.prog 82 #[.int .i32 r] w fun u w' => w' = w ∧ u = .bool (wordM r) := by
  refine calls_enter Try.func82 rfl rfl ?_
  have T : wordM r = true → ∀ x : Bool, x = true → (w = w ∧ Value.bool x = .bool (wordM r)) := fun h x hx => ⟨rfl, by rw [h, hx]⟩
  rcases (show (48 ≤ r ∧ r ≤ 57) ∨ (65 ≤ r ∧ r ≤ 90 ∧ ¬ r ≤ 57 ∧ 48 ≤ r) ∨ (97 ≤ r ∧ r ≤ 122 ∧ 48 ≤ r ∧ ¬ r ≤ 57 ∧ 65 ≤ r ∧ ¬ r ≤ 90) ∨ (¬ 48 ≤ r ∧ ¬ 65 ≤ r ∧ ¬ 97 ≤ r) ∨ (48 ≤ r ∧ ¬ r ≤ 57 ∧ ¬ 65 ≤ r ∧ ¬ 97 ≤ r) ∨ (48 ≤ r ∧ ¬ r ≤ 57 ∧ 65 ≤ r ∧ ¬ r ≤ 90 ∧ ¬ 97 ≤ r) ∨ (48 ≤ r ∧ ¬ r ≤ 57 ∧ 65 ≤ r ∧ ¬ r ≤ 90 ∧ 97 ≤ r ∧ ¬ r ≤ 122) by omega) with ⟨h1, h2⟩ | ⟨h1, h2, h3, h4⟩ | ⟨h1, h2, h3, h4, h5, h6⟩ | ⟨h1, h2, h3⟩ | ⟨h1, h2, h3, h4⟩ | ⟨h1, h2, h3, h4, h5⟩ | ⟨h1, h2, h3, h4, h5, h6⟩
  · repeat(refine run_ ?_)
    exact k_ret1 rfl rfl (T (by unfold wordM; simp; omega) _ (by first | rfl | simp; omega))
  · repeat(refine run_ ?_)
    exact k_ret1 rfl rfl (T (by unfold wordM; simp; omega) _ (by first | rfl | simp; omega))
  · repeat(refine run_ ?_)
    exact k_ret1 rfl rfl (T (by unfold wordM; simp; omega) _ (by first | rfl | simp; omega))
  all_goals
    by_cases h8 : r = 95
    · repeat(refine run_ ?_)
      exact k_ret1 rfl rfl (T (by unfold wordM; simp; omega) _ (by first | rfl | simp; omega))
    · repeat(refine run_ ?_)
      exact k_ret1 rfl rfl ⟨rfl, by unfold wordM; congr 1; rw [decide_eq_decide]; omega⟩
theorem classR_calls {w : World} {r : Int} {big : Bool} : CallsR Try.prog 65 #[.int .i32 r, .bool big] w fun u w' => w' = w ∧ u = .int .i64 (classM r big) := by
  refine calls_enter Try.func65 rfl rfl ?_
  by_cases h1 : r = 32
  · repeat(refine run_ ?_)
    refine k_true rfl ?_
    repeat(refine run_ ?_)
    exact k_ret1 rfl rfl ⟨rfl, by unfold classM; rw [if_pos (.inl h1)]⟩
  by_cases h2 : r = 9
  · repeat(refine run_ ?_)
    refine k_yes rfl h2 ?_
    repeat(refine run_ ?_)
    exact k_ret1 rfl rfl ⟨rfl, by unfold classM; rw [if_pos (.inr h2)]⟩
  have h3 : ¬ (r = 32 ∨ r = 9) := by omega
  repeat(refine run_ ?_)
  refine k_no rfl h2 ?_
  repeat (first | refine o_nil ?_ | refine k_seq ?_ | refine k_region ?_ | refine k_block ?_ | refine k_inBlock ?_ | refine k_skip ?_)
  cases big with
  | true =>
    repeat(refine run_ ?_)
    refine k_true rfl ?_
    repeat(refine run_ ?_)
    exact k_ret1 rfl rfl ⟨rfl, by rw [class_big h3 rfl]⟩
  | false =>
    repeat(refine run_ ?_)
    refine o_enter (n_call rfl) (wants_none rfl) rfl ((wordR_calls).mono ?_)
    rintro _ w ⟨rfl, rfl⟩
    cases hw : wordM r with
    | true =>
      repeat(refine run_ ?_)
      refine k_true rfl ?_
      repeat(refine run_ ?_)
      exact k_ret1 rfl rfl ⟨rfl, by unfold classM; rw [if_neg h3, if_pos (.inr hw)]⟩
    | false =>
      repeat(refine run_ ?_)
      refine k_false rfl ?_
      repeat(refine run_ ?_)
      exact k_ret1 rfl rfl ⟨rfl, by unfold classM; rw [if_neg h3, if_neg (by simp [hw])]⟩
end Go.Ink
