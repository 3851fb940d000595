/-
  What each kind of operation does, over the engine's notions.
-/
import Derived.Test.YtbmjcjlenbgpkaaBase
import Derived.WalkLawsBesides
set_option linter.unusedVariables false
set_option linter.unusedSimpArgs false
namespace Go.Ink
open Go Go.RowKit

/-! ### 1. Types, as instances that a seat lays -/
class SlT (P : Program) (t : TypeId) (e : outParam TypeId) : Prop where
  und : P.underlying t = some (.slice e)
class ElT (P : Program) (e : TypeId) (sz : outParam Nat) (bytes : outParam Nat) (z : outParam Value) : Prop where
  info : (P.info? e).map (fun i => (i.zero, i.size, i.bytes)) = some (some z, sz, bytes)
/-- A type of one cell. -/
class CellT (P : Program) (t : TypeId) : Prop where
  na : ∀ w, (isAgg t).run P w = .ok false w
  sz : ∀ w, (Go.sizeOf t).run P w = .ok 1 w
/-- A struct or an array, of so many cells. -/
class AggT (P : Program) (t : TypeId) (n : outParam Nat) : Prop where
  ag : ∀ w, (isAgg t).run P w = .ok true w
  sz : ∀ w, (Go.sizeOf t).run P w = .ok n w
class IntT (P : Program) (t : TypeId) (k : outParam IntKind) : Prop where
  und : P.underlying t = some (.int k)
class StrT (P : Program) (t : TypeId) : Prop where
  und : P.underlying t = some .string
class BoolT (P : Program) (t : TypeId) : Prop where
  und : P.underlying t = some .bool
class PtrT (P : Program) (t : TypeId) (e : outParam TypeId) : Prop where
  und : P.underlying t = some (.pointer e)
/-- Field f of struct type t lies at off. -/
class FldT (P : Program) (t : TypeId) (f : Nat) (off : outParam Nat) : Prop where
  at_ : ∀ a w, (Instr.fieldAt t (.pointer (some a)) f).run P w = .ok (.pointer (some (a.add off))) w
theorem ElT.parts {P : Program} {e : TypeId} {sz bytes : Nat} {z : Value} (h : ElT P e sz bytes z) : ∃ i, P.info? e = some i ∧ i.zero = some z ∧ i.size = sz ∧ i.bytes = bytes := by
  obtain ⟨i, hi, h2⟩ := Option.map_eq_some_iff.1 h.info
  simp only [Prod.mk.injEq] at h2
  exact ⟨i, hi, h2.1, h2.2.1, h2.2.2⟩
theorem ElT.size {P : Program} {e : TypeId} {sz bytes : Nat} {z : Value} (h : ElT P e sz bytes z) (w : World) : (Go.sizeOf e).run P w = .ok sz w := by
  obtain ⟨i, h1, h2, h3, h4⟩ := h.parts
  simp [Go.sizeOf, typeInfo, h1, h3]
theorem SlT.elem {P : Program} {t e : TypeId} (h : SlT P t e) : P.elem t = e := by simp [Program.elem, h.und]

theorem int_eq {k : IntKind} {a b : Int} (h : a = b) : some (Value.int k a) = some (Value.int k b) := by rw [h]
section
variable {P : Program} {N : Nat} {σ : Sig} {w : World} {d : Option Nat} {ty : TypeId} {pos : String} {af : Array Edge} {g : Option (Nat × Bool)}

/-! ### 2. Operations that leave the world alone -/
theorem r_move {x : Operand} {v : Value} (hx : ev σ x = some v) : Rn P N σ w ⟨d, .move x, ty, pos, af, g⟩ v := by
  constructor; intro _ a w0 ha _
  simp [execOp, ha.ev hx]
theorem r_assign {x : Operand} {v : Value} (hx : ev σ x = some v) : Rn P N σ w ⟨d, .assign x, ty, pos, af, g⟩ v := by
  constructor; intro _ a w0 ha _
  simp [execOp, ha.ev hx]
theorem r_pick {c x y : Operand} {b : Bool} {u v : Value} (hc : ev σ c = some (.bool b)) (hx : b = true → ev σ x = some v) (hy : b = false → ev σ y = some v) : Rn P N σ w ⟨d, .pick c x y, ty, pos, af, g⟩ v := by
  constructor; intro _ a w0 ha _
  cases b
  · simp [execOp, ha.ev hc, asBool, ha.ev (hy rfl)]
  · simp [execOp, ha.ev hc, asBool, ha.ev (hx rfl)]
theorem r_pickT {c x y : Operand} {b : Bool} {v : Value} (hc : ev σ c = some (.bool b)) (hb : b = true) (hx : ev σ x = some v) : Rn P N σ w ⟨d, .pick c x y, ty, pos, af, g⟩ v := by
  subst hb
  constructor; intro _ a w0 ha _
  simp [execOp, ha.ev hc, asBool, ha.ev hx]
theorem r_pickF {c x y : Operand} {b : Bool} {v : Value} (hc : ev σ c = some (.bool b)) (hb : b = false) (hy : ev σ y = some v) : Rn P N σ w ⟨d, .pick c x y, ty, pos, af, g⟩ v := by
  subst hb
  constructor; intro _ a w0 ha _
  simp [execOp, ha.ev hc, asBool, ha.ev hy]
theorem r_len {x : Operand} {t e : TypeId} [hT : SlT P t e] {A : Option Addr} {n c : Nat} (hx : ev σ x = some (.slice A n c)) :
    Rn P N σ w ⟨d, .call { callee := .builtin .len, args := #[x], argTypes := #[t] }, ty, pos, af, g⟩ (.int .i64 (n : Int)) := by
  constructor; intro _ a w0 ha _
  have := run_len_slice (P := P) w0 t ty A n c (by rw [hT.elem]; exact hT.und)
  simp [execOp, resolve, invoke, builtin, ha.ev hx, this, goInt]
theorem r_cap {x : Operand} {t e : TypeId} [hT : SlT P t e] {A : Option Addr} {n c : Nat} (hx : ev σ x = some (.slice A n c)) :
    Rn P N σ w ⟨d, .call { callee := .builtin .cap, args := #[x], argTypes := #[t] }, ty, pos, af, g⟩ (.int .i64 (c : Int)) := by
  constructor; intro _ a w0 ha _
  have := run_cap_slice (P := P) w0 t ty A n c (by rw [hT.elem]; exact hT.und)
  simp [execOp, resolve, invoke, builtin, ha.ev hx, this, goInt]
theorem r_lenS {x : Operand} {t : TypeId} [hT : StrT P t] {s : ByteArray} (hx : ev σ x = some (.string s)) :
    Rn P N σ w ⟨d, .call { callee := .builtin .len, args := #[x], argTypes := #[t] }, ty, pos, af, g⟩ (.int .i64 (s.size : Int)) := by
  constructor; intro _ a w0 ha _
  have := run_len_string (P := P) w0 t ty s hT.und
  simp [execOp, resolve, invoke, builtin, ha.ev hx, this, goInt]
theorem r_min {x y : Operand} {ts : Array TypeId} {k k' : IntKind} {a b : Int} (hx : ev σ x = some (.int k a)) (hy : ev σ y = some (.int k' b)) :
    Rn P N σ w ⟨d, .call { callee := .builtin .min, args := #[x, y], argTypes := ts }, ty, pos, af, g⟩ (.int k (if b < a then b else a)) := by
  constructor; intro _ ac w0 ha _
  simp [execOp, resolve, invoke, builtin, ha.ev hx, ha.ev hy, run_min_int2]
theorem r_max {x y : Operand} {ts : Array TypeId} {k k' : IntKind} {a b : Int} (hx : ev σ x = some (.int k a)) (hy : ev σ y = some (.int k' b)) :
    Rn P N σ w ⟨d, .call { callee := .builtin .max, args := #[x, y], argTypes := ts }, ty, pos, af, g⟩ (.int k (if a < b then b else a)) := by
  constructor; intro _ ac w0 ha _
  simp [execOp, resolve, invoke, builtin, ha.ev hx, ha.ev hy, run_max_int2]
section
variable {x y : Operand} {t t' : TypeId} {k k' : IntKind} {a b : Int}
theorem r_lss (hx : ev σ x = some (.int k a)) (hy : ev σ y = some (.int k b)) : Rn P N σ w ⟨d, .binOp .lss t x y t', ty, pos, af, g⟩ (.bool (decide (a < b))) := by
  constructor; intro _ ac w0 ha _
  simp only [execOp, ha.ev hx, ha.ev hy, binOp_lss, eqGuard_lss, Sem.run_bind, Sem.run_pure, Result.andThen_ok, gt_iff_lt, ge_iff_le]
theorem r_leq (hx : ev σ x = some (.int k a)) (hy : ev σ y = some (.int k b)) : Rn P N σ w ⟨d, .binOp .leq t x y t', ty, pos, af, g⟩ (.bool (decide (a ≤ b))) := by
  constructor; intro _ ac w0 ha _
  simp only [execOp, ha.ev hx, ha.ev hy, binOp_leq, eqGuard_leq, Sem.run_bind, Sem.run_pure, Result.andThen_ok, gt_iff_lt, ge_iff_le]
theorem r_gtr (hx : ev σ x = some (.int k a)) (hy : ev σ y = some (.int k b)) : Rn P N σ w ⟨d, .binOp .gtr t x y t', ty, pos, af, g⟩ (.bool (decide (b < a))) := by
  constructor; intro _ ac w0 ha _
  simp only [execOp, ha.ev hx, ha.ev hy, binOp_gtr, eqGuard_gtr, Sem.run_bind, Sem.run_pure, Result.andThen_ok, gt_iff_lt, ge_iff_le]
theorem r_geq (hx : ev σ x = some (.int k a)) (hy : ev σ y = some (.int k b)) : Rn P N σ w ⟨d, .binOp .geq t x y t', ty, pos, af, g⟩ (.bool (decide (b ≤ a))) := by
  constructor; intro _ ac w0 ha _
  simp only [execOp, ha.ev hx, ha.ev hy, binOp_geq, eqGuard_geq, Sem.run_bind, Sem.run_pure, Result.andThen_ok, gt_iff_lt, ge_iff_le]
theorem r_eql (hx : ev σ x = some (.int k a)) (hy : ev σ y = some (.int k b)) : Rn P N σ w ⟨d, .binOp .eql t x y t', ty, pos, af, g⟩ (.bool (decide (a = b))) := by
  constructor; intro _ ac w0 ha _
  simp only [execOp, ha.ev hx, ha.ev hy, binOp_eql, eqGuard_at_int, Sem.run_bind, Sem.run_pure, Result.andThen_ok]
  rfl
theorem r_neq (hx : ev σ x = some (.int k a)) (hy : ev σ y = some (.int k b)) : Rn P N σ w ⟨d, .binOp .neq t x y t', ty, pos, af, g⟩ (.bool (decide (a ≠ b))) := by
  constructor; intro _ ac w0 ha _
  simp only [execOp, ha.ev hx, ha.ev hy, binOp_neq, eqGuard_at_int, Sem.run_bind, Sem.run_pure, Result.andThen_ok]
  congr 3
  by_cases h : a = b <;> simp [h]
theorem r_addw (hx : ev σ x = some (.int k a)) (hy : ev σ y = some (.int k b)) : Rn P N σ w ⟨d, .binOp .add t x y t', ty, pos, af, g⟩ (.int k (k.wrap (a + b))) := by
  constructor; intro _ ac w0 ha _
  simp [execOp, ha.ev hx, ha.ev hy, binOp_add, eqGuard_at_int, Op.intArith]
theorem r_subw (hx : ev σ x = some (.int k a)) (hy : ev σ y = some (.int k b)) : Rn P N σ w ⟨d, .binOp .sub t x y t', ty, pos, af, g⟩ (.int k (k.wrap (a - b))) := by
  constructor; intro _ ac w0 ha _
  simp [execOp, ha.ev hx, ha.ev hy, binOp_sub, eqGuard_at_int, Op.intArith]
theorem r_mulw (hx : ev σ x = some (.int k a)) (hy : ev σ y = some (.int k b)) : Rn P N σ w ⟨d, .binOp .mul t x y t', ty, pos, af, g⟩ (.int k (k.wrap (a * b))) := by
  constructor; intro _ ac w0 ha _
  simp [execOp, ha.ev hx, ha.ev hy, binOp_mul, eqGuard_at_int, Op.intArith]
theorem wrap_in64 {c : Int} (h1 : -9223372036854775808 ≤ c) (h2 : c ≤ 9223372036854775807) : IntKind.i64.wrap c = c := by
  simp [IntKind.wrap, IntKind.bits, IntKind.signed]; omega
theorem wrap_in32 {c : Int} (h1 : -2147483648 ≤ c) (h2 : c ≤ 2147483647) : IntKind.i32.wrap c = c := by
  simp [IntKind.wrap, IntKind.bits, IntKind.signed]; omega
theorem r_add (hx : ev σ x = some (.int .i64 a)) (hy : ev σ y = some (.int .i64 b)) (h1 : -9223372036854775808 ≤ a + b) (h2 : a + b ≤ 9223372036854775807) : Rn P N σ w ⟨d, .binOp .add t x y t', ty, pos, af, g⟩ (.int .i64 (a + b)) := by
  have := r_addw (P := P) (N := N) (w := w) (d := d) (ty := ty) (pos := pos) (af := af) (g := g) (t := t) (t' := t') hx hy
  rwa [wrap_in64 h1 h2] at this
theorem r_sub (hx : ev σ x = some (.int .i64 a)) (hy : ev σ y = some (.int .i64 b)) (h1 : -9223372036854775808 ≤ a - b) (h2 : a - b ≤ 9223372036854775807) : Rn P N σ w ⟨d, .binOp .sub t x y t', ty, pos, af, g⟩ (.int .i64 (a - b)) := by
  have := r_subw (P := P) (N := N) (w := w) (d := d) (ty := ty) (pos := pos) (af := af) (g := g) (t := t) (t' := t') hx hy
  rwa [wrap_in64 h1 h2] at this
theorem r_mul (hx : ev σ x = some (.int .i64 a)) (hy : ev σ y = some (.int .i64 b)) (h1 : -9223372036854775808 ≤ a * b) (h2 : a * b ≤ 9223372036854775807) : Rn P N σ w ⟨d, .binOp .mul t x y t', ty, pos, af, g⟩ (.int .i64 (a * b)) := by
  have := r_mulw (P := P) (N := N) (w := w) (d := d) (ty := ty) (pos := pos) (af := af) (g := g) (t := t) (t' := t') hx hy
  rwa [wrap_in64 h1 h2] at this
theorem r_add32 (hx : ev σ x = some (.int .i32 a)) (hy : ev σ y = some (.int .i32 b)) (h1 : -2147483648 ≤ a + b) (h2 : a + b ≤ 2147483647) : Rn P N σ w ⟨d, .binOp .add t x y t', ty, pos, af, g⟩ (.int .i32 (a + b)) := by
  have := r_addw (P := P) (N := N) (w := w) (d := d) (ty := ty) (pos := pos) (af := af) (g := g) (t := t) (t' := t') hx hy
  rwa [wrap_in32 h1 h2] at this
theorem r_sub32 (hx : ev σ x = some (.int .i32 a)) (hy : ev σ y = some (.int .i32 b)) (h1 : -2147483648 ≤ a - b) (h2 : a - b ≤ 2147483647) : Rn P N σ w ⟨d, .binOp .sub t x y t', ty, pos, af, g⟩ (.int .i32 (a - b)) := by
  have := r_subw (P := P) (N := N) (w := w) (d := d) (ty := ty) (pos := pos) (af := af) (g := g) (t := t) (t' := t') hx hy
  rwa [wrap_in32 h1 h2] at this
theorem r_conv [h1 : IntT P t k] [h2 : IntT P t' k'] (hx : ev σ x = some (.int k a)) : Rn P N σ w ⟨d, .convert t t' x, ty, pos, af, g⟩ (.int k' (k'.wrap a)) := by
  constructor; intro _ ac w0 ha _
  have := run_convert_int (P := P) w0 t t' k a (by rw [h1.und]; rfl) (by simp [Program.intKind, h2.und])
  simp [Program.intKind, h2.und] at this
  simp [execOp, ha.ev hx, this]
theorem r_conv64 [h1 : IntT P t k] [h2 : IntT P t' .i64] (hx : ev σ x = some (.int k a)) (h3 : -9223372036854775808 ≤ a) (h4 : a ≤ 9223372036854775807) : Rn P N σ w ⟨d, .convert t t' x, ty, pos, af, g⟩ (.int .i64 a) := by
  have := r_conv (P := P) (N := N) (w := w) (d := d) (ty := ty) (pos := pos) (af := af) (g := g) (t := t) (t' := t') hx
  rwa [wrap_in64 h3 h4] at this
theorem r_conv32 [h1 : IntT P t k] [h2 : IntT P t' .i32] (hx : ev σ x = some (.int k a)) (h3 : -2147483648 ≤ a) (h4 : a ≤ 2147483647) : Rn P N σ w ⟨d, .convert t t' x, ty, pos, af, g⟩ (.int .i32 a) := by
  have := r_conv (P := P) (N := N) (w := w) (d := d) (ty := ty) (pos := pos) (af := af) (g := g) (t := t) (t' := t') hx
  rwa [wrap_in32 h3 h4] at this
end
theorem r_not {x : Operand} {t : TypeId} {b : Bool} (hx : ev σ x = some (.bool b)) : Rn P N σ w ⟨d, .unOp .not t x, ty, pos, af, g⟩ (.bool (!b)) := by
  constructor; intro _ ac w0 ha _
  simp [execOp, ha.ev hx, unary_not]
theorem r_notp {x : Operand} {t : TypeId} {p : Prop} [Decidable p] (hx : ev σ x = some (.bool (decide p))) : Rn P N σ w ⟨d, .unOp .not t x, ty, pos, af, g⟩ (.bool (decide (¬ p))) := by
  constructor; intro _ ac w0 ha _
  simp [execOp, ha.ev hx, unary_not]
theorem r_eqb {x y : Operand} {t t' : TypeId} [hT : BoolT P t] {b c : Bool} (hx : ev σ x = some (.bool b)) (hy : ev σ y = some (.bool c)) : Rn P N σ w ⟨d, .binOp .eql t x y t', ty, pos, af, g⟩ (.bool (b == c)) := by
  constructor; intro _ ac w0 ha _
  simp only [execOp, ha.ev hx, ha.ev hy, eqGuard_at_bool, run_eql_bool w0 t b c hT.und, Sem.run_bind, Sem.run_pure, Result.andThen_ok]
theorem r_neb {x y : Operand} {t t' : TypeId} [hT : BoolT P t] {b c : Bool} (hx : ev σ x = some (.bool b)) (hy : ev σ y = some (.bool c)) : Rn P N σ w ⟨d, .binOp .neq t x y t', ty, pos, af, g⟩ (.bool (!(b == c))) := by
  constructor; intro _ ac w0 ha _
  simp only [execOp, ha.ev hx, ha.ev hy, eqGuard_at_bool, run_neq_bool w0 t b c hT.und, Sem.run_bind, Sem.run_pure, Result.andThen_ok]
theorem r_index {x y : Operand} {t e : TypeId} {sz bytes : Nat} {z : Value} [hT : SlT P t e] [hE : ElT P e sz bytes z] {A : Option Addr} {ad : Addr} {n c : Nat} {k : IntKind} {i : Int}
    (hx : ev σ x = some (.slice A n c)) (hy : ev σ y = some (.int k i)) (hA : A = some ad) (h0 : 0 ≤ i) (h1 : i < n) : Rn P N σ w ⟨d, .indexAddr t x y, ty, pos, af, g⟩ (.pointer (some (ad.add (i.toNat * sz)))) := by
  constructor; intro _ ac w0 ha _
  subst hA
  simp only [execOp, ha.ev hx, ha.ev hy, run_indexAt_slice w0 t ad n c k i (by rw [hT.elem]; exact hT.und), Sem.run_bind]
  rw [if_pos ⟨h0, h1⟩, hT.elem, hE.size]
  rfl
theorem r_load {x : Operand} {t : TypeId} [hT : CellT P t] {p : Addr} {v : Value} (hx : ev σ x = some (.pointer (some p))) (hc : w.cell? p = some v) : Rn P N σ w ⟨d, .load t x, ty, pos, af, g⟩ v := by
  constructor; intro _ ac w0 ha hS
  simp [execOp, ha.ev hx, Instr.loadAt, Instr.sureAddr, loadVar, hT.na, hS.cell hc]
theorem run_loadCells {P : Program} {w : World} (p : Addr) : ∀ (cs : List Value) (i : Nat) (acc : Array Value), (∀ j u, cs[j]? = some u → w.cell? (p.add (i + j)) = some u) → (loadCellsFrom p i cs.length acc).run P w = .ok (acc ++ cs.toArray) w
  | [], i, acc, _ => by simp [loadCellsFrom]
  | u :: r, i, acc, h => by
    have h0 := h 0 u rfl
    simp only [Nat.add_zero] at h0
    have := run_loadCells (P := P) p r (i + 1) (acc.push u) (fun j x hx => by have := h (j + 1) x (by simpa using hx); rwa [show i + (j + 1) = i + 1 + j from by omega] at this)
    simp [loadCellsFrom, h0, this]
theorem r_loadA {x : Operand} {t : TypeId} {n : Nat} [hT : AggT P t n] {p : Addr} {cs : List Value} (hx : ev σ x = some (.pointer (some p))) (hl : cs.length = n) (hc : ∀ j u, cs[j]? = some u → w.cell? (p.add j) = some u) : Rn P N σ w ⟨d, .load t x, ty, pos, af, g⟩ (.agg cs.toArray) := by
  constructor; intro _ ac w0 ha hS
  have := run_loadCells (P := P) (w := w0) p cs 0 #[] (fun j u hu => hS.cell (by simpa using hc j u hu))
  rw [hl] at this
  simp [execOp, ha.ev hx, Instr.loadAt, Instr.sureAddr, loadVar, hT.ag, hT.sz, loadCells, this]
theorem r_field {x : Operand} {t : TypeId} {f off : Nat} [hT : FldT P t f off] {p : Addr} (hx : ev σ x = some (.pointer (some p))) : Rn P N σ w ⟨d, .fieldAddr t x f, ty, pos, af, g⟩ (.pointer (some (p.add off))) := by
  constructor; intro _ ac w0 ha _
  simp [execOp, ha.ev hx, hT.at_]
theorem r_extract {x : Operand} {i : Nat} {vs : Array Value} {v : Value} (hx : ev σ x = some (.tuple vs)) (hv : vs[i]? = some v) : Rn P N σ w ⟨d, .extract x i, ty, pos, af, g⟩ v := by
  constructor; intro _ ac w0 ha _
  simp [execOp, ha.ev hx, Instr.extract, hv]
theorem r_nilPtr {x : Operand} {p : Addr} (hx : ev σ x = some (.pointer (some p))) : Rn P N σ w ⟨d, .nilCheck x, ty, pos, af, g⟩ (.pointer (some p)) := by
  constructor; intro _ ac w0 ha _
  simp [execOp, ha.ev hx]
theorem r_eqNilS {x : Operand} {t t' e : TypeId} [hT : SlT P t e] {A : Option Addr} {n c : Nat} (hx : ev σ x = some (.slice A n c)) : Rn P N σ w ⟨d, .binOp .eql t x (.const (.slice none 0 0)) t', ty, pos, af, g⟩ (.bool A.isNone) := by
  constructor; intro _ ac w0 ha _
  have := Lib.run_eql_slice_nil (P := P) w0 t e A n c 0 0 hT.und
  simp only [execOp, ha.ev hx, ha.ev (x := .const _) rfl, eqGuard_at_slice, this, Sem.run_bind, Sem.run_pure, Result.andThen_ok]
theorem r_neNilS {x : Operand} {t t' e : TypeId} [hT : SlT P t e] {A : Option Addr} {n c : Nat} (hx : ev σ x = some (.slice A n c)) : Rn P N σ w ⟨d, .binOp .neq t x (.const (.slice none 0 0)) t', ty, pos, af, g⟩ (.bool (!A.isNone)) := by
  constructor; intro _ ac w0 ha _
  have := run_neq_slice_nil (P := P) w0 t e A n c hT.und
  simp only [execOp, ha.ev hx, ha.ev (x := .const _) rfl, eqGuard_at_slice, this, Sem.run_bind, Sem.run_pure, Result.andThen_ok]
theorem r_eqNilP {x : Operand} {t t' e : TypeId} [hT : PtrT P t e] {A : Option Addr} (hx : ev σ x = some (.pointer A)) : Rn P N σ w ⟨d, .binOp .eql t x (.const (.pointer none)) t', ty, pos, af, g⟩ (.bool A.isNone) := by
  constructor; intro _ ac w0 ha _
  have := run_eql_pointer_nil (P := P) w0 t A (by simp [Program.pointee, hT.und])
  simp only [execOp, ha.ev hx, ha.ev (x := .const _) rfl, eqGuard_at_pointer, this, Sem.run_bind, Sem.run_pure, Result.andThen_ok]
theorem r_neNilP {x : Operand} {t t' e : TypeId} [hT : PtrT P t e] {A : Option Addr} (hx : ev σ x = some (.pointer A)) : Rn P N σ w ⟨d, .binOp .neq t x (.const (.pointer none)) t', ty, pos, af, g⟩ (.bool (!A.isNone)) := by
  constructor; intro _ ac w0 ha _
  have := run_neq_pointer_nil (P := P) w0 t A (by simp [Program.pointee, hT.und])
  simp only [execOp, ha.ev hx, ha.ev (x := .const _) rfl, eqGuard_at_pointer, this, Sem.run_bind, Sem.run_pure, Result.andThen_ok]
def byteAt (s : ByteArray) (i : Int) : Int := ((s.data.toList.getD i.toNat 0).toNat : Int)
theorem r_indexS {x y : Operand} {t : TypeId} [hT : StrT P t] {s : ByteArray} {k : IntKind} {i : Int} (hx : ev σ x = some (.string s)) (hy : ev σ y = some (.int k i)) (h0 : 0 ≤ i) (h1 : i < s.size) :
    Rn P N σ w ⟨d, .index t x y, ty, pos, af, g⟩ (.int .u8 (byteAt s i)) := by
  constructor; intro _ ac w0 ha _
  have := run_index_string (P := P) w0 t s k i hT.und
  rw [dif_pos ⟨h0, h1⟩] at this
  simp only [execOp, ha.ev hx, ha.ev hy, this, Sem.run_bind, Result.andThen_ok, Sem.run_pure]
  have h2 : i.toNat < s.size := by omega
  have h3 : i.toNat < s.data.toList.length := by simpa using h2
  have : byteAt s i = ((s[i.toNat]'h2).toNat : Int) := by
    unfold byteAt
    rw [List.getD_eq_getElem?_getD, List.getElem?_eq_getElem h3]
    rfl
  rw [this]
end
end Go.Ink
