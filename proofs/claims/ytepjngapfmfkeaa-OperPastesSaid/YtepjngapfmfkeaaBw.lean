/-
  Bits of whole numbers.
-/
import Derived.Test.YtepjngapfmfkeaaAct3
set_option linter.unusedVariables false
set_option linter.unusedSimpArgs false
namespace Go.Ink
open Go Go.RowKit
section
variable {P : Program} {N : Nat} {σ : Sig} {w : World} {d : Option Nat} {ty : TypeId} {pos : String} {af : Array Edge} {gd : Option (Nat × Bool)}
theorem r_and {x y : Operand} {t t' : TypeId} {k : IntKind} {a b c : Int} (hx : ev σ x = some (.int k a)) (hy : ev σ y = some (.int k b)) (hc : k.wrap ((BitVec.ofInt k.bits a &&& BitVec.ofInt k.bits b).toNat) = c) : Rn P N σ w ⟨d, .binOp .and t x y t', ty, pos, af, gd⟩ (.int k c) := by
  constructor; intro _ ac w0 ha _
  subst hc
  simp [execOp, ha.ev hx, ha.ev hy, binOp_and, eqGuard_at_int, Op.intBits]
theorem r_or {x y : Operand} {t t' : TypeId} {k : IntKind} {a b c : Int} (hx : ev σ x = some (.int k a)) (hy : ev σ y = some (.int k b)) (hc : k.wrap ((BitVec.ofInt k.bits a ||| BitVec.ofInt k.bits b).toNat) = c) : Rn P N σ w ⟨d, .binOp .or t x y t', ty, pos, af, gd⟩ (.int k c) := by
  constructor; intro _ ac w0 ha _
  subst hc
  simp [execOp, ha.ev hx, ha.ev hy, binOp_or, eqGuard_at_int, Op.intBits]
theorem r_andNot {x y : Operand} {t t' : TypeId} {k : IntKind} {a b c : Int} (hx : ev σ x = some (.int k a)) (hy : ev σ y = some (.int k b)) (hc : k.wrap ((BitVec.ofInt k.bits a &&& ~~~ BitVec.ofInt k.bits b).toNat) = c) : Rn P N σ w ⟨d, .binOp .andNot t x y t', ty, pos, af, gd⟩ (.int k c) := by
  constructor; intro _ ac w0 ha _
  subst hc
  simp [execOp, ha.ev hx, ha.ev hy, binOp_andNot, eqGuard_at_int, Op.intBits]
theorem r_shr {x y : Operand} {t t' : TypeId} {k k' : IntKind} {a b c : Int} (hx : ev σ x = some (.int k a)) (hy : ev σ y = some (.int k' b)) (hb : 0 ≤ b) (hc : a.fdiv (2 ^ (min b.toNat k.bits)) = c) : Rn P N σ w ⟨d, .binOp .shr t x y t', ty, pos, af, gd⟩ (.int k c) := by
  constructor; intro _ ac w0 ha _
  subst hc
  have : ¬ b < 0 := by omega
  simp [execOp, ha.ev hx, ha.ev hy, binOp_shr, eqGuard_at_int, Op.shift, this]
theorem r_mulW {x y : Operand} {t t' : TypeId} {k : IntKind} {a b c : Int} (hx : ev σ x = some (.int k a)) (hy : ev σ y = some (.int k b)) (hc : k.wrap (a * b) = c) : Rn P N σ w ⟨d, .binOp .mul t x y t', ty, pos, af, gd⟩ (.int k c) := by
  subst hc; exact r_mulw hx hy
theorem r_addW {x y : Operand} {t t' : TypeId} {k : IntKind} {a b c : Int} (hx : ev σ x = some (.int k a)) (hy : ev σ y = some (.int k b)) (hc : k.wrap (a + b) = c) : Rn P N σ w ⟨d, .binOp .add t x y t', ty, pos, af, gd⟩ (.int k c) := by
  subst hc; exact r_addw hx hy
theorem r_convW {x : Operand} {t t' : TypeId} {k k' : IntKind} [h1 : IntT P t k] [h2 : IntT P t' k'] {a c : Int} (hx : ev σ x = some (.int k a)) (hc : k'.wrap a = c) : Rn P N σ w ⟨d, .convert t t' x, ty, pos, af, gd⟩ (.int k' c) := by
  subst hc; exact r_conv hx
end
theorem wrap_u64 {c : Int} (h1 : 0 ≤ c) (h2 : c < 18446744073709551616) : IntKind.u64.wrap c = c := by
  simp [IntKind.wrap, IntKind.bits, IntKind.signed]; omega
theorem and_mask {x : Nat} (h : x < 4294967296) : IntKind.u64.wrap ((BitVec.ofInt IntKind.u64.bits (x : Int) &&& BitVec.ofInt IntKind.u64.bits 4294967295).toNat) = (x : Int) := by
  have e : (BitVec.ofInt 64 (x : Int) &&& BitVec.ofInt 64 4294967295).toNat = x := by
    rw [BitVec.toNat_and, BitVec.toNat_ofInt, BitVec.toNat_ofInt]
    have e1 : (((x : Int) % ((2 ^ 64 : Nat) : Int)).toNat) = x := by omega
    have e2 : (((4294967295 : Int) % ((2 ^ 64 : Nat) : Int)).toNat) = 2 ^ 32 - 1 := by decide
    rw [e1, e2, Nat.and_two_pow_sub_one_eq_mod]
    omega
  show IntKind.u64.wrap ((BitVec.ofInt 64 (x : Int) &&& BitVec.ofInt 64 4294967295).toNat) = _
  rw [e]
  exact wrap_u64 (by omega) (by omega)
theorem shr_32 {x : Nat} : (x : Int).fdiv (2 ^ (min (32 : Int).toNat IntKind.u64.bits)) = ((x / 4294967296 : Nat) : Int) := by
  show (x : Int).fdiv 4294967296 = _
  rw [Int.fdiv_eq_ediv_of_nonneg _ (by decide)]
  omega
end Go.Ink
