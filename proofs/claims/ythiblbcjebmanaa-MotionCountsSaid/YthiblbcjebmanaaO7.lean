/-
  MotionCounts, as the row asks for it.
-/
import Derived.Test.YthiblbcjebmanaaN7
import Derived.Test.YthiblbcjebmanaaArr
set_option linter.unusedVariables false
set_option linter.unusedSimpArgs false
namespace Go.Ink
open Go Go.Proofs

abbrev kTwo : Kd (List Int) := kArr 2 (by decide) kI64
instance : RdT Try.prog 34 kTwo := rd_array (e := 3) (by kernel_rfl) (by kernel_rfl) (by kernel_rfl) inferInstance
theorem law_MotionCounts {W : World} {u : Value} {l : List (List Int)} {p : Ps} {cs ds : List Value} {x : List Int} (h : Sl kRow (fun _ => True) W u l) (h' : kPs.R (fun _ => True) W p cs) (hx : kTwo.R (fun _ => True) W x ds) :
    CallsR Try.prog 4 #[u, .agg cs.toArray, .agg ds.toArray] W fun r w' => r = .bool true ∧ Kn W w' := by
  obtain ⟨rfl, hp⟩ := ps_form h'
  obtain ⟨a, b, rfl, rfl, ha, hb⟩ := arr2_cells hx
  exact core_MotionCounts h hp ha hb
end Go.Ink
