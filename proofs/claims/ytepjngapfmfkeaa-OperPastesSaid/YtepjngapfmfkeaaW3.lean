/-
  Ahead of the reference.
-/
import Derived.Test.YtepjngapfmfkeaaW4
set_option linter.unusedVariables false
set_option linter.unusedSimpArgs false
namespace Go.Ink
open Go Go.Proofs

section
variable {F : Nat → Prop} {w : World} {v : Value} {l : List (List Int)} {p q : Ps}
theorem ahead_calls : CallsR Try.prog 25 #[posV p, posV q] w fun u w' => Kn w w' ∧ u = .bool (aheadM p q) := by
  refine calls_enter Try.func25 rfl rfl ?_
  repeat(refine run_ ?_)
  refine o_any (e_box rfl) (wants_none rfl) rfl ?_
  rintro _ w1 ⟨g1, rfl, nb1⟩
  refine o_any (e_box rfl) (wants_none rfl) rfl ?_
  rintro _ w2 ⟨g2, rfl, nb2⟩
  have k2 : Kn w w2 := nb1.kn.trans nb2.kn
  have b1 := nb2.kn.blk nb1.at_ id
  have p0 : w2.cell? ⟨g1, 0, none⟩ = some (.int .i64 p.1) := blk_cell b1
  have p1 : w2.cell? ⟨g1, 1, none⟩ = some (.int .i64 p.2) := blk_cell b1
  have q0 : w2.cell? ⟨g2, 0, none⟩ = some (.int .i64 q.1) := blk_cell nb2.at_
  have q1 : w2.cell? ⟨g2, 1, none⟩ = some (.int .i64 q.2) := blk_cell nb2.at_
  repeat(refine run_ ?_)
  refine o_still (r_load rfl p0) (wants_none rfl) rfl ?_
  repeat(refine run_ ?_)
  refine o_still (r_load rfl q0) (wants_none rfl) rfl ?_
  by_cases h1 : p.1 < q.1
  · repeat(refine run_ ?_)
    exact k_ret1 rfl rfl ⟨k2, by unfold aheadM; rw [decide_eq_true (.inl h1)]⟩
  by_cases h2 : p.1 = q.1
  · repeat(refine run_ ?_)
    refine o_still (r_load rfl p0) (wants_none rfl) rfl ?_
    repeat(refine run_ ?_)
    refine o_still (r_load rfl q0) (wants_none rfl) rfl ?_
    repeat(refine run_ ?_)
    refine o_still (r_load rfl p1) (wants_none rfl) rfl ?_
    repeat(refine run_ ?_)
    refine o_still (r_load rfl q1) (wants_none rfl) rfl ?_
    repeat(refine run_ ?_)
    exact k_ret1 rfl rfl ⟨k2, by unfold aheadM; congr 1; rw [decide_eq_decide]; omega⟩
  · repeat(refine run_ ?_)
    refine o_still (r_load rfl p0) (wants_none rfl) rfl ?_
    repeat(refine run_ ?_)
    refine o_still (r_load rfl q0) (wants_none rfl) rfl ?_
    repeat(refine run_ ?_)
    exact k_ret1 rfl rfl ⟨k2, by unfold aheadM; rw [decide_eq_false (by omega)]⟩
end
end Go.Ink
