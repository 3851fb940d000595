/-
  MotionFinds, as the row asks for it.
-/
import Derived.Test.YthiblbcjebmanaaN5
import Derived.Test.YthiblbcjebmanaaO1
set_option linter.unusedVariables false
set_option linter.unusedSimpArgs false
namespace Go.Ink
open Go Go.Proofs

theorem law_MotionFinds {W : World} {u : Value} {l : List (List Int)} {p : Ps} {cs ds : List Value} {m : Mo} (h : Sl kRow (fun _ => True) W u l) (h' : kPs.R (fun _ => True) W p cs) (hm : kMo.R (fun _ => True) W m ds) :
    CallsR Try.prog 6 #[u, .agg cs.toArray, .agg ds.toArray] W fun r w' => r = .bool true ∧ Kn W w' := by
  obtain ⟨rfl, hp⟩ := ps_form h'
  obtain ⟨e, hm⟩ := mo_form hm
  rw [e]
  exact core_MotionFinds h hp hm
end Go.Ink
