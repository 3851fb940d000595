/-
  What is told, as one value.
-/
import Derived.Test.YtcfbkoajhllcaaaA1
set_option linter.unusedVariables false
set_option linter.unusedSimpArgs false
namespace Go.Ink
open Go Go.Proofs

open Classical in
/-- What is told. -/
noncomputable def seekC (f : Ps → Bool) (l : List (List Int)) (by_ : Int) (p : Ps) : Ps := if h : ∃ q, SeekM f l by_ p q then h.choose else (0, 0)
theorem seekC_eq {f : Ps → Bool} {l : List (List Int)} {by_ : Int} {p q : Ps} (h : SeekM f l by_ p q) : q = seekC f l by_ p := by
  unfold seekC
  rw [dif_pos ⟨q, h⟩]
  exact h.eq (Exists.choose_spec _)
theorem calls_seekC {f : FuncId} {args : Array Value} {w : World} {g : Ps → Bool} {l : List (List Int)} {by_ : Int} {p : Ps} (h : CallsR Try.prog f args w fun u w' => Kn w w' ∧ ∃ q, u = posV q ∧ SeekM g l by_ p q) : CallsR Try.prog f args w fun u w' => Kn w w' ∧ u = posV (seekC g l by_ p) :=
  h.mono fun _ _ ⟨h1, q, h2, h3⟩ => ⟨h1, by rw [h2, seekC_eq h3]⟩
theorem small_room {l : List (List Int)} (h : smallM l = true) : l.length + runesM l ≤ 4000 := by
  unfold smallM at h
  have := of_decide_eq_true h
  omega
theorem ps_P {F : Nat → Prop} {w : World} {p : Ps} {cs : List Value} (h : kPs.R F w p cs) : cs = [.int .i64 p.1, .int .i64 p.2] ∧ P64 p := ps_form h
end Go.Ink
