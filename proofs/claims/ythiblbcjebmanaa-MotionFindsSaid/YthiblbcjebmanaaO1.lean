/-
  A motion as an argument.
-/
import Derived.Test.YthiblbcjebmanaaMC
import Derived.Test.YthiblbcjebmanaaW4
set_option linter.unusedVariables false
set_option linter.unusedSimpArgs false
namespace Go.Ink
open Go Go.Proofs

abbrev kMo : Kd Mo := kIso (kPair kRune (kPair kI64 (kPair kRune kI64))) (fun m => (m.key, m.count, m.arg, m.want)) 32 (by decide)
instance : StrucT Try.prog 26 [21, 3, 21, 3] := ⟨by kernel_rfl, by kernel_rfl⟩
instance : RdT Try.prog 26 kMo := rd_struct (g := fun a => ⟨a.1, a.2.1, a.2.2.1, a.2.2.2⟩) inferInstance inferInstance (fun _ => rfl) (by kernel_rfl) (by kernel_rfl)
theorem mo_form {F : Nat → Prop} {w : World} {m : Mo} {cs : List Value} (h : kMo.R F w m cs) : (Value.agg cs.toArray = moV m) ∧ MoOk m := by
  obtain ⟨c1, c2, rfl, ⟨rfl, h1⟩, c3, c4, rfl, ⟨rfl, h2⟩, c5, c6, rfl, ⟨rfl, h3⟩, ⟨rfl, h4⟩⟩ := h
  exact ⟨rfl, h1, h2, h3, h4⟩
end Go.Ink
