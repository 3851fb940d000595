/-
  Rules of quiet operations, told so that 'constructor' finds them.
-/
import Derived.Test.YtbmjcjlenbgpkaaAct3
import Derived.Test.YtbmjcjlenbgpkaaDrq
import Derived.Test.YtbmjcjlenbgpkaaAuto
set_option linter.unusedVariables false
set_option linter.unusedSimpArgs false
namespace Go.Ink
open Go Go.RowKit

inductive Ri (P : Program) (N : Nat) (σ : Sig) : Oper → Value → Prop where
  | mv {d : Option Nat} {ty : TypeId} {pos : String} {af : Array Edge} {g : Option (Nat × Bool)} {x : Operand} {v : Value} : ev σ x = some v → Ri P N σ ⟨d, .move x, ty, pos, af, g⟩ v
  | as {d : Option Nat} {ty : TypeId} {pos : String} {af : Array Edge} {g : Option (Nat × Bool)} {x : Operand} {v : Value} : ev σ x = some v → Ri P N σ ⟨d, .assign x, ty, pos, af, g⟩ v
  | len {d : Option Nat} {ty : TypeId} {pos : String} {af : Array Edge} {g : Option (Nat × Bool)} {x : Operand} {t e : TypeId} [hT : SlT P t e] {A : Option Addr} {n c : Nat} : ev σ x = some (.slice A n c) → Ri P N σ ⟨d, .call { callee := .builtin .len, args := #[x], argTypes := #[t] }, ty, pos, af, g⟩ (.int .i64 (n : Int))
  | lenS {d : Option Nat} {ty : TypeId} {pos : String} {af : Array Edge} {g : Option (Nat × Bool)} {x : Operand} {t : TypeId} [hT : StrT P t] {s : ByteArray} : ev σ x = some (.string s) → Ri P N σ ⟨d, .call { callee := .builtin .len, args := #[x], argTypes := #[t] }, ty, pos, af, g⟩ (.int .i64 (s.size : Int))
  | min {d : Option Nat} {ty : TypeId} {pos : String} {af : Array Edge} {g : Option (Nat × Bool)} {x y : Operand} {ts : Array TypeId} {k k' : IntKind} {a b : Int} : ev σ x = some (.int k a) → ev σ y = some (.int k' b) → Ri P N σ ⟨d, .call { callee := .builtin .min, args := #[x, y], argTypes := ts }, ty, pos, af, g⟩ (.int k (if b < a then b else a))
  | max {d : Option Nat} {ty : TypeId} {pos : String} {af : Array Edge} {g : Option (Nat × Bool)} {x y : Operand} {ts : Array TypeId} {k k' : IntKind} {a b : Int} : ev σ x = some (.int k a) → ev σ y = some (.int k' b) → Ri P N σ ⟨d, .call { callee := .builtin .max, args := #[x, y], argTypes := ts }, ty, pos, af, g⟩ (.int k (if a < b then b else a))
  | eqNilS {d : Option Nat} {ty : TypeId} {pos : String} {af : Array Edge} {g : Option (Nat × Bool)} {x : Operand} {t t' e : TypeId} [hT : SlT P t e] {A : Option Addr} {n c : Nat} : ev σ x = some (.slice A n c) → Ri P N σ ⟨d, .binOp .eql t x (.const (.slice none 0 0)) t', ty, pos, af, g⟩ (.bool A.isNone)
  | eqNilP {d : Option Nat} {ty : TypeId} {pos : String} {af : Array Edge} {g : Option (Nat × Bool)} {x : Operand} {t t' e : TypeId} [hT : PtrT P t e] {A : Option Addr} : ev σ x = some (.pointer A) → Ri P N σ ⟨d, .binOp .eql t x (.const (.pointer none)) t', ty, pos, af, g⟩ (.bool A.isNone)
  | neNilP {d : Option Nat} {ty : TypeId} {pos : String} {af : Array Edge} {g : Option (Nat × Bool)} {x : Operand} {t t' e : TypeId} [hT : PtrT P t e] {A : Option Addr} : ev σ x = some (.pointer A) → Ri P N σ ⟨d, .binOp .neq t x (.const (.pointer none)) t', ty, pos, af, g⟩ (.bool (!A.isNone))
  | neNilS {d : Option Nat} {ty : TypeId} {pos : String} {af : Array Edge} {g : Option (Nat × Bool)} {x : Operand} {t t' e : TypeId} [hT : SlT P t e] {A : Option Addr} {n c : Nat} : ev σ x = some (.slice A n c) → Ri P N σ ⟨d, .binOp .neq t x (.const (.slice none 0 0)) t', ty, pos, af, g⟩ (.bool (!A.isNone))
  | lss {d : Option Nat} {ty : TypeId} {pos : String} {af : Array Edge} {g : Option (Nat × Bool)} {x y : Operand} {t t' : TypeId} {k : IntKind} {a b : Int} : ev σ x = some (.int k a) → ev σ y = some (.int k b) → Ri P N σ ⟨d, .binOp .lss t x y t', ty, pos, af, g⟩ (.bool (decide (a < b)))
  | leq {d : Option Nat} {ty : TypeId} {pos : String} {af : Array Edge} {g : Option (Nat × Bool)} {x y : Operand} {t t' : TypeId} {k : IntKind} {a b : Int} : ev σ x = some (.int k a) → ev σ y = some (.int k b) → Ri P N σ ⟨d, .binOp .leq t x y t', ty, pos, af, g⟩ (.bool (decide (a ≤ b)))
  | gtr {d : Option Nat} {ty : TypeId} {pos : String} {af : Array Edge} {g : Option (Nat × Bool)} {x y : Operand} {t t' : TypeId} {k : IntKind} {a b : Int} : ev σ x = some (.int k a) → ev σ y = some (.int k b) → Ri P N σ ⟨d, .binOp .gtr t x y t', ty, pos, af, g⟩ (.bool (decide (b < a)))
  | geq {d : Option Nat} {ty : TypeId} {pos : String} {af : Array Edge} {g : Option (Nat × Bool)} {x y : Operand} {t t' : TypeId} {k : IntKind} {a b : Int} : ev σ x = some (.int k a) → ev σ y = some (.int k b) → Ri P N σ ⟨d, .binOp .geq t x y t', ty, pos, af, g⟩ (.bool (decide (b ≤ a)))
  | eql {d : Option Nat} {ty : TypeId} {pos : String} {af : Array Edge} {g : Option (Nat × Bool)} {x y : Operand} {t t' : TypeId} {k : IntKind} {a b : Int} : ev σ x = some (.int k a) → ev σ y = some (.int k b) → Ri P N σ ⟨d, .binOp .eql t x y t', ty, pos, af, g⟩ (.bool (decide (a = b)))
  | neq {d : Option Nat} {ty : TypeId} {pos : String} {af : Array Edge} {g : Option (Nat × Bool)} {x y : Operand} {t t' : TypeId} {k : IntKind} {a b : Int} : ev σ x = some (.int k a) → ev σ y = some (.int k b) → Ri P N σ ⟨d, .binOp .neq t x y t', ty, pos, af, g⟩ (.bool (decide (a ≠ b)))
  | add {d : Option Nat} {ty : TypeId} {pos : String} {af : Array Edge} {g : Option (Nat × Bool)} {x y : Operand} {t t' : TypeId} {a b : Int} : ev σ x = some (.int .i64 a) → ev σ y = some (.int .i64 b) → -9223372036854775808 ≤ a + b → a + b ≤ 9223372036854775807 → Ri P N σ ⟨d, .binOp .add t x y t', ty, pos, af, g⟩ (.int .i64 (a + b))
  | add3 {d : Option Nat} {ty : TypeId} {pos : String} {af : Array Edge} {g : Option (Nat × Bool)} {x y : Operand} {t t' : TypeId} {a b : Int} : ev σ x = some (.int .i32 a) → ev σ y = some (.int .i32 b) → -2147483648 ≤ a + b → a + b ≤ 2147483647 → Ri P N σ ⟨d, .binOp .add t x y t', ty, pos, af, g⟩ (.int .i32 (a + b))
  | sub {d : Option Nat} {ty : TypeId} {pos : String} {af : Array Edge} {g : Option (Nat × Bool)} {x y : Operand} {t t' : TypeId} {a b : Int} : ev σ x = some (.int .i64 a) → ev σ y = some (.int .i64 b) → -9223372036854775808 ≤ a - b → a - b ≤ 9223372036854775807 → Ri P N σ ⟨d, .binOp .sub t x y t', ty, pos, af, g⟩ (.int .i64 (a - b))
  | sub3 {d : Option Nat} {ty : TypeId} {pos : String} {af : Array Edge} {g : Option (Nat × Bool)} {x y : Operand} {t t' : TypeId} {a b : Int} : ev σ x = some (.int .i32 a) → ev σ y = some (.int .i32 b) → -2147483648 ≤ a - b → a - b ≤ 2147483647 → Ri P N σ ⟨d, .binOp .sub t x y t', ty, pos, af, g⟩ (.int .i32 (a - b))
  | mul {d : Option Nat} {ty : TypeId} {pos : String} {af : Array Edge} {g : Option (Nat × Bool)} {x y : Operand} {t t' : TypeId} {a b : Int} : ev σ x = some (.int .i64 a) → ev σ y = some (.int .i64 b) → -9223372036854775808 ≤ a * b → a * b ≤ 9223372036854775807 → Ri P N σ ⟨d, .binOp .mul t x y t', ty, pos, af, g⟩ (.int .i64 (a * b))
  | eqb {d : Option Nat} {ty : TypeId} {pos : String} {af : Array Edge} {g : Option (Nat × Bool)} {x y : Operand} {t t' : TypeId} [hT : BoolT P t] {b c : Bool} : ev σ x = some (.bool b) → ev σ y = some (.bool c) → Ri P N σ ⟨d, .binOp .eql t x y t', ty, pos, af, g⟩ (.bool (b == c))
  | neb {d : Option Nat} {ty : TypeId} {pos : String} {af : Array Edge} {g : Option (Nat × Bool)} {x y : Operand} {t t' : TypeId} [hT : BoolT P t] {b c : Bool} : ev σ x = some (.bool b) → ev σ y = some (.bool c) → Ri P N σ ⟨d, .binOp .neq t x y t', ty, pos, af, g⟩ (.bool (!(b == c)))
  | field {d : Option Nat} {ty : TypeId} {pos : String} {af : Array Edge} {g : Option (Nat × Bool)} {x : Operand} {t : TypeId} {f off : Nat} [hT : FldT P t f off] {p : Addr} : ev σ x = some (.pointer (some p)) → Ri P N σ ⟨d, .fieldAddr t x f, ty, pos, af, g⟩ (.pointer (some (p.add off)))
  | extract {d : Option Nat} {ty : TypeId} {pos : String} {af : Array Edge} {g : Option (Nat × Bool)} {x : Operand} {i : Nat} {vs : List Value} {v : Value} : ev σ x = some (.tuple vs.toArray) → vs[i]? = some v → Ri P N σ ⟨d, .extract x i, ty, pos, af, g⟩ v
  | nilc {d : Option Nat} {ty : TypeId} {pos : String} {af : Array Edge} {g : Option (Nat × Bool)} {x : Operand} {p : Addr} : ev σ x = some (.pointer (some p)) → Ri P N σ ⟨d, .nilCheck x, ty, pos, af, g⟩ (.pointer (some p))
  | not {d : Option Nat} {ty : TypeId} {pos : String} {af : Array Edge} {g : Option (Nat × Bool)} {x : Operand} {t : TypeId} {b : Bool} : ev σ x = some (.bool b) → Ri P N σ ⟨d, .unOp .not t x, ty, pos, af, g⟩ (.bool (!b))
  | build {d : Option Nat} {ty : TypeId} {pos : String} {af : Array Edge} {g : Option (Nat × Bool)} {t : TypeId} {pl : Array (Nat × Nat)} {z : Array Value} [hB : BldT P t pl z] {ps : List (Nat × Operand)} {qs : List (Nat × Value)} {c : Array Value} : evps σ ps = some qs → Instr.fill (pl[·]?) z qs = some c → Ri P N σ ⟨d, .build t ps.toArray, ty, pos, af, g⟩ (.agg c)
  | conv6 {d : Option Nat} {ty : TypeId} {pos : String} {af : Array Edge} {g : Option (Nat × Bool)} {x : Operand} {t t' : TypeId} {k : IntKind} {a : Int} [h1 : IntT P t k] [h2 : IntT P t' .i64] : ev σ x = some (.int k a) → -9223372036854775808 ≤ a → a ≤ 9223372036854775807 → Ri P N σ ⟨d, .convert t t' x, ty, pos, af, g⟩ (.int .i64 a)
  | conv3 {d : Option Nat} {ty : TypeId} {pos : String} {af : Array Edge} {g : Option (Nat × Bool)} {x : Operand} {t t' : TypeId} {k : IntKind} {a : Int} [h1 : IntT P t k] [h2 : IntT P t' .i32] : ev σ x = some (.int k a) → -2147483648 ≤ a → a ≤ 2147483647 → Ri P N σ ⟨d, .convert t t' x, ty, pos, af, g⟩ (.int .i32 a)
  | pT {d : Option Nat} {ty : TypeId} {pos : String} {af : Array Edge} {g : Option (Nat × Bool)} {c x y : Operand} {b : Bool} {v : Value} : ev σ c = some (.bool b) → b = true → ev σ x = some v → Ri P N σ ⟨d, .pick c x y, ty, pos, af, g⟩ v
  | pF {d : Option Nat} {ty : TypeId} {pos : String} {af : Array Edge} {g : Option (Nat × Bool)} {c x y : Operand} {b : Bool} {v : Value} : ev σ c = some (.bool b) → b = false → ev σ y = some v → Ri P N σ ⟨d, .pick c x y, ty, pos, af, g⟩ v
theorem Ri.rn {P : Program} {N : Nat} {σ : Sig} {o : Oper} {v : Value} {w : World} (h : Ri P N σ o v) : Rn P N σ w o v := by
  cases h with
  | mv h => exact r_move h
  | as h => exact r_assign h
  | len h => exact r_len h
  | lenS h => exact r_lenS h
  | min h h' => exact r_min h h'
  | max h h' => exact r_max h h'
  | eqNilS h => exact r_eqNilS h
  | eqNilP h => exact r_eqNilP h
  | lss h h' => exact r_lss h h'
  | leq h h' => exact r_leq h h'
  | gtr h h' => exact r_gtr h h'
  | geq h h' => exact r_geq h h'
  | eql h h' => exact r_eql h h'
  | neq h h' => exact r_neq h h'
  | add h h' a b => exact r_add h h' a b
  | add3 h h' a b => exact r_add32 h h' a b
  | sub h h' a b => exact r_sub h h' a b
  | sub3 h h' a b => exact r_sub32 h h' a b
  | field h => exact r_field h
  | extract h h' => exact r_extract h (by simpa using h')
  | nilc h => exact r_nilPtr h
  | not h => exact r_not h
  | build h h' => exact r_build h h'
  | conv6 h a b => exact r_conv64 h a b
  | conv3 h a b => exact r_conv32 h a b
  | neNilP h => exact r_neNilP h
  | neNilS h => exact r_neNilS h
  | mul h h' a b => exact r_mul h h' a b
  | eqb h h' => exact r_eqb h h'
  | neb h h' => exact r_neb h h'
  | pT h a b => exact r_pickT h a b
  | pF h a b => exact r_pickF h a b
inductive KG : List Item → List Item → Prop where
  | seq {x y : Code} {k : List Item} : KG (.code (.seq x y) :: k) (.code x :: .code y :: k)
  | skip {k : List Item} : KG (.code .skip :: k) k
  | block {id : Nat} {c : Code} {k : List Item} : KG (.code (.block id c) :: k) (.code c :: .inBlock id :: k)
  | inBlock {id : Nat} {k : List Item} : KG (.inBlock id :: k) k
  | exit {id : Nat} {k k' : List Item} : exitTo id k = some k' → KG (.code (.exit id) :: k) k'
section
variable {P : Program} {fn : Func} {k k' : List Item} {σ : Sig} {w w2 : World} {R : Pt} {ops : Array Oper} {rest : List Oper} {listed : Array Bool} {l : List (Nat × Nat)} {Q : Nat → Prop}
theorem k_go (h : KG k k') (hk : WG P fn k' σ w R) : WG P fn k σ w R := by
  cases h with
  | seq => exact k_seq hk
  | skip => exact k_skip hk
  | block => exact k_block hk
  | inBlock => exact k_inBlock hk
  | exit h => exact k_exit h hk
variable {dd : Option Nat} {op : Op} {oty : TypeId} {opos : String} {oaf : Array Edge} {og : Option (Nat × Bool)} {v : Value} {i : Nat}
theorem o_s (hr : Ri P fn.ntmps σ ⟨dd, op, oty, opos, oaf, none⟩ v) (hd : okD dd fn.ntmps = true) (h : WO P fn ops rest k (putS dd v σ) w R) : WO P fn ops (⟨dd, op, oty, opos, oaf, none⟩ :: rest) k σ w R :=
  o_still hr.rn (wants_none rfl) hd h
theorem x_s (hr : Ri P fn.ntmps σ ⟨dd, op, oty, opos, oaf, og⟩ v) (hg : wants ops σ ⟨dd, op, oty, opos, oaf, og⟩ true) (hd : okD dd fn.ntmps = true) (hS : St w w2)
    (h : WD P fn ops (listed.setIfInBounds i true) l k (putS dd v σ) w w2 R) : WDo P fn ops listed i 0 (⟨dd, op, oty, opos, oaf, og⟩ : Oper) l k σ w w2 R := x_still hr.rn hg hd hS h
theorem x_n (hr : Ri P fn.ntmps σ ⟨dd, op, oty, opos, oaf, og⟩ v) (hg : wants ops σ ⟨dd, op, oty, opos, oaf, og⟩ true) (hd : okD dd fn.ntmps = true) (hS : St w w2)
    (h : WD P fn ops (listed.setIfInBounds i true) l k (putS dd v σ) w w2 R) : WDo P fn ops listed i 1 (⟨dd, op, oty, opos, oaf, og⟩ : Oper) l k σ w w2 R := x_now hr.rn hg hd hS h
theorem q_s (hr : Ri P fn.ntmps σ ⟨dd, op, oty, opos, oaf, og⟩ v) (hg : wants ops σ ⟨dd, op, oty, opos, oaf, og⟩ true) (hd : okD dd fn.ntmps = true) (hS : StQ Q w w2)
    (h : WQ P fn ops (listed.setIfInBounds i true) l k (putS dd v σ) Q w w2 R) : WQo P fn ops listed i 0 (⟨dd, op, oty, opos, oaf, og⟩ : Oper) l k σ Q w w2 R := q_still (fun _ _ => hr.rn) hg hd hS h
theorem q_n (hr : Ri P fn.ntmps σ ⟨dd, op, oty, opos, oaf, og⟩ v) (hg : wants ops σ ⟨dd, op, oty, opos, oaf, og⟩ true) (hd : okD dd fn.ntmps = true) (hS : StQ Q w w2)
    (h : WQ P fn ops (listed.setIfInBounds i true) l k (putS dd v σ) Q w w2 R) : WQo P fn ops listed i 1 (⟨dd, op, oty, opos, oaf, og⟩ : Oper) l k σ Q w w2 R := q_now hr.rn hg hd hS h
end
end Go.Ink
