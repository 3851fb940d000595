/-
  Functions compared with none.
-/
import Derived.Test.YthiblbcjebmanaaLx
set_option linter.unusedVariables false
set_option linter.unusedSimpArgs false
namespace Go.Ink
open Go Go.RowKit
class FunT (P : Program) (t : TypeId) : Prop where
  ok : (match P.underlying t with | some (.func _ _ _) => true | _ => false) = true
theorem FunT.und {P : Program} {t : TypeId} (h : FunT P t) : ∃ a b c, P.underlying t = some (.func a b c) := by
  have := h.ok
  split at this
  · next a b c e => exact ⟨a, b, c, e⟩
  · cases this
section
variable {P : Program} {N : Nat} {σ : Sig} {w : World} {d : Option Nat} {ty : TypeId} {pos : String} {af : Array Edge} {gd : Option (Nat × Bool)}
theorem eqf0' {t : TypeId} {a b : Array TypeId} {c : Bool} (h : P.underlying t = some (.func a b c)) (w : World) (d : Nat) : (Op.equalIn (d + 1) t .nilFunc .nilFunc).run P w = .ok true w := by
  simp [Op.equalIn, run_underlying h]
theorem eqf1' {t : TypeId} {a b : Array TypeId} {c : Bool} (h : P.underlying t = some (.func a b c)) {f : Fn} {us vs : Array Value} (w : World) (d : Nat) : (Op.equalIn (d + 1) t (.func f us vs) .nilFunc).run P w = .ok false w := by
  simp [Op.equalIn, run_underlying h]
theorem eqf0 {t : TypeId} {a b : Array TypeId} {c : Bool} (h : P.underlying t = some (.func a b c)) (w : World) : (Op.equalIn Op.maxDepth t .nilFunc .nilFunc).run P w = .ok true w := eqf0' h w 9999
theorem eqf1 {t : TypeId} {a b : Array TypeId} {c : Bool} (h : P.underlying t = some (.func a b c)) {f : Fn} {us vs : Array Value} (w : World) : (Op.equalIn Op.maxDepth t (.func f us vs) .nilFunc).run P w = .ok false w := eqf1' h w 9999
theorem r_eqNilF0 {x : Operand} {t t' : TypeId} [hT : FunT P t] (hx : ev σ x = some .nilFunc) : Rn P N σ w ⟨d, .binOp .eql t x (.const .nilFunc) t', ty, pos, af, gd⟩ (.bool true) := by
  constructor; intro _ ac w0 ha _
  obtain ⟨a, b, c, h⟩ := hT.und
  simp [execOp, ha.ev hx, ha.ev (x := .const _) rfl, eqGuard_at_nilFunc, binOp, Op.equal, eqf0 h]
theorem r_eqNilF {x : Operand} {t t' : TypeId} [hT : FunT P t] {f : Fn} {us vs : Array Value} (hx : ev σ x = some (.func f us vs)) : Rn P N σ w ⟨d, .binOp .eql t x (.const .nilFunc) t', ty, pos, af, gd⟩ (.bool false) := by
  constructor; intro _ ac w0 ha _
  obtain ⟨a, b, c, h⟩ := hT.und
  simp [execOp, ha.ev hx, ha.ev (x := .const _) rfl, eqGuard_at_func, binOp, Op.equal, eqf1 h]
end
end Go.Ink
