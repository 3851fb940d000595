/-
  Elements of arrays and strings; quotients.
-/
import Derived.Test.YtbmjcjlenbgpkaaAct3
import Derived.Laws.Strings
set_option linter.unusedVariables false
set_option linter.unusedSimpArgs false
namespace Go.Ink
open Go Go.RowKit
section
variable {P : Program} {N : Nat} {σ : Sig} {w : World} {d : Option Nat} {ty : TypeId} {pos : String} {af : Array Edge} {g : Option (Nat × Bool)}
theorem r_indexV {x y : Operand} {t e : TypeId} {m n : Nat} [hT : ArrT P t m e] [hE : AggT P e n] {cs : Array Value} {k : IntKind} {i : Int}
    (hx : ev σ x = some (.agg cs)) (hy : ev σ y = some (.int k i)) (h0 : 0 ≤ i) (h1 : i < m) : Rn P N σ w ⟨d, .index t x y, ty, pos, af, g⟩ (.agg (cs.extract (i.toNat * n) (i.toNat * n + n))) := by
  constructor; intro _ ac w0 ha _
  simp only [execOp, ha.ev hx, ha.ev hy, Instr.index, asIntOf, run_underlying hT.und, Sem.run_bind, Sem.run_pure, Result.andThen_ok, if_pos (And.intro h0 h1), hE.sz, part, hE.ag, if_true]
theorem r_rem {x y : Operand} {t t' : TypeId} {k : IntKind} {a b : Int} (hx : ev σ x = some (.int k a)) (hy : ev σ y = some (.int k b)) (hb : b ≠ 0) : Rn P N σ w ⟨d, .binOp .rem t x y t', ty, pos, af, g⟩ (.int k (a.tmod b)) := by
  constructor; intro _ ac w0 ha _
  simp [execOp, ha.ev hx, ha.ev hy, binOp_rem, eqGuard_at_int, Op.intDiv, hb]
theorem r_quo {x y : Operand} {t t' : TypeId} {k : IntKind} {a b : Int} (hx : ev σ x = some (.int k a)) (hy : ev σ y = some (.int k b)) (hb : b ≠ 0) : Rn P N σ w ⟨d, .binOp .quo t x y t', ty, pos, af, g⟩ (.int k (k.wrap (a.tdiv b))) := by
  constructor; intro _ ac w0 ha _
  simp [execOp, ha.ev hx, ha.ev hy, binOp_quo, eqGuard_at_int, Op.intDiv, hb]
end
end Go.Ink
