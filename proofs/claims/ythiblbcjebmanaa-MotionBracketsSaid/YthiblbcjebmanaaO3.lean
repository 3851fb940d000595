/-
  MotionBrackets, as the row asks for it.
-/
import Derived.Test.YthiblbcjebmanaaN3
set_option linter.unusedVariables false
set_option linter.unusedSimpArgs false
namespace Go.Ink
open Go Go.Proofs

theorem law_MotionBrackets {W : World} {u : Value} {l : List (List Int)} {p : Ps} {cs : List Value} (h : Sl kRow (fun _ => True) W u l) (h' : kPs.R (fun _ => True) W p cs) :
    CallsR Try.prog 5 #[u, .agg cs.toArray] W fun r w' => r = .bool true ∧ Kn W w' := by
  obtain ⟨rfl, hp⟩ := ps_form h'
  exact core_MotionBrackets h hp
end Go.Ink
