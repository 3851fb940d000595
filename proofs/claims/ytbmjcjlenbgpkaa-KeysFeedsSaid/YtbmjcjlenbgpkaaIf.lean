/-
  Interface values, methods called through them; structs of plain values compared.
-/
import Derived.Test.YtbmjcjlenbgpkaaLx
import Derived.Laws.StructEq
set_option linter.unusedVariables false
set_option linter.unusedSimpArgs false
namespace Go.Ink
open Go Go.RowKit

class IfT (P : Program) (t : TypeId) : Prop where
  ok : (match P.underlying t with | some (.interface _) => true | _ => false) = true
theorem IfT.und {P : Program} {t : TypeId} (h : IfT P t) : ∃ a, P.underlying t = some (.interface a) := by
  have := h.ok
  split at this
  · next a e => exact ⟨a, e⟩
  · cases this
/-- A type that is no interface, and its zero. -/
class CcT (P : Program) (t : TypeId) (z : outParam Value) : Prop where
  make : ∀ (v : Value) (w : World), (Instr.makeInterface t v).run P w = .ok (.iface t v) w
  no : ∃ d, P.underlying t = some (.struct d)
  zero : ∀ w : World, (zeroValue t).run P w = .ok z w
/-- A type's method by name. -/
class MethT (P : Program) (t : TypeId) (name : String) (f : outParam FuncId) : Prop where
  run : ∀ (v : Value) (w : World), (method (P.types.size + Made.depth) t v name).run P w = .ok (f, v) w
section
variable {P : Program} {N : Nat} {σ : Sig} {w : World} {dst : Option Nat} {ty : TypeId} {pos : String} {af : Array Edge} {gd : Option (Nat × Bool)}
theorem r_makeI {t : TypeId} {z v : Value} [hT : CcT P t z] {x : Operand} (hx : ev σ x = some v) : Rn P N σ w ⟨dst, .makeInterface t x, ty, pos, af, gd⟩ (.iface t v) := by
  constructor; intro _ a w0 ha _
  simp only [execOp, ha.ev hx, hT.make, Sem.run_bind, Sem.run_pure, Result.andThen_ok]
theorem n_invoke {t : TypeId} {name : String} {f : FuncId} [hM : MethT P t name f] [hF : FnT P f] {x : Operand} {v : Value} {args : List Operand} {vs : List Value} {ts : Array TypeId} (hf : ev σ x = some (.iface t v)) (hx : evs σ args = some vs) :
    En P N σ ⟨dst, .call { callee := .invoke x name, args := args.toArray, argTypes := ts }, ty, pos, af, gd⟩ f (v :: vs).toArray := by
  constructor; intro _ a w0 ha
  have e1 : (#[Value.iface t v] ++ vs.toArray)[0]? = some (.iface t v) := by simp
  have e2 : (#[Value.iface t v] ++ vs.toArray).extract 1 (#[Value.iface t v] ++ vs.toArray).size = vs.toArray := by
    apply Array.ext'
    simp
  have e3 : #[v] ++ vs.toArray = (v :: vs).toArray := by simp
  simp only [execOp, resolve, invoke, List.map_toArray, evs_map ha hx, ha.ev hf, Sem.run_bind, Sem.run_pure, Result.andThen_ok, e1, e2, callMethod, hM.run, run_program, e3, hF.run]
theorem r_assertNil {t u : TypeId} {z : Value} [hT : CcT P t z] {x : Operand} (hx : ev σ x = some .nilIface) : Rn P N σ w ⟨dst, .typeAssert x u t true, ty, pos, af, gd⟩ (.tuple #[z, .bool false]) := by
  constructor; intro _ a w0 ha _
  obtain ⟨d, hd⟩ := hT.no
  simp only [execOp, ha.ev hx, Instr.typeAssert, run_underlying hd, hT.zero, Sem.run_bind, Sem.run_pure, Result.andThen_ok, if_true]
theorem r_assertYes {t u : TypeId} {z v : Value} [hT : CcT P t z] {x : Operand} (hx : ev σ x = some (.iface t v)) : Rn P N σ w ⟨dst, .typeAssert x u t true, ty, pos, af, gd⟩ (.tuple #[v, .bool true]) := by
  constructor; intro _ a w0 ha _
  obtain ⟨d, hd⟩ := hT.no
  simp only [execOp, ha.ev hx, Instr.typeAssert, run_underlying hd, Sem.run_bind, Sem.run_pure, Result.andThen_ok, if_true]
theorem r_assertNo {t t' u : TypeId} {z v : Value} [hT : CcT P t z] {x : Operand} (hx : ev σ x = some (.iface t' v)) (hne : t' ≠ t) : Rn P N σ w ⟨dst, .typeAssert x u t true, ty, pos, af, gd⟩ (.tuple #[z, .bool false]) := by
  constructor; intro _ a w0 ha _
  obtain ⟨d, hd⟩ := hT.no
  simp only [execOp, ha.ev hx, Instr.typeAssert, run_underlying hd, hT.zero, Sem.run_bind, Sem.run_pure, Result.andThen_ok, if_true, if_neg hne]
theorem eqg_nilI (op : BinOp) (t : TypeId) (x : Operand) (c : Value) : eqGuard op t x (.const c) .nilIface .nilIface = pure () := by cases op <;> cases x <;> rfl
theorem eqi0' {t : TypeId} {a : Array (String × TypeId)} (h : P.underlying t = some (.interface a)) (w : World) (d : Nat) : (Op.equalIn (d + 1) t .nilIface .nilIface).run P w = .ok true w := by
  simp [Op.equalIn, run_underlying h]
theorem eqi1' {t t' : TypeId} {v : Value} {a : Array (String × TypeId)} (h : P.underlying t = some (.interface a)) (w : World) (d : Nat) : (Op.equalIn (d + 1) t (.iface t' v) .nilIface).run P w = .ok false w := by
  simp [Op.equalIn, run_underlying h]
theorem eqi0 {t : TypeId} {a : Array (String × TypeId)} (h : P.underlying t = some (.interface a)) (w : World) : (Op.equalIn Op.maxDepth t .nilIface .nilIface).run P w = .ok true w := eqi0' h w 9999
theorem eqi1 {t t' : TypeId} {v : Value} {a : Array (String × TypeId)} (h : P.underlying t = some (.interface a)) (w : World) : (Op.equalIn Op.maxDepth t (.iface t' v) .nilIface).run P w = .ok false w := eqi1' h w 9999
theorem r_eqI0 {x : Operand} {t t' : TypeId} [hT : IfT P t] (hx : ev σ x = some .nilIface) : Rn P N σ w ⟨dst, .binOp .eql t x (.const .nilIface) t', ty, pos, af, gd⟩ (.bool true) := by
  constructor; intro _ ac w0 ha _
  obtain ⟨a, h⟩ := hT.und
  simp [execOp, ha.ev hx, ha.ev (x := .const _) rfl, eqg_nilI, binOp, Op.equal, eqi0 h]
theorem r_eqI1 {x : Operand} {t t' t2 : TypeId} {v : Value} [hT : IfT P t] (hx : ev σ x = some (.iface t2 v)) : Rn P N σ w ⟨dst, .binOp .eql t x (.const .nilIface) t', ty, pos, af, gd⟩ (.bool false) := by
  constructor; intro _ ac w0 ha _
  obtain ⟨a, h⟩ := hT.und
  simp [execOp, ha.ev hx, ha.ev (x := .const _) rfl, eqGuard_at_iface, binOp, Op.equal, eqi1 h]
theorem r_neI0 {x : Operand} {t t' : TypeId} [hT : IfT P t] (hx : ev σ x = some .nilIface) : Rn P N σ w ⟨dst, .binOp .neq t x (.const .nilIface) t', ty, pos, af, gd⟩ (.bool false) := by
  constructor; intro _ ac w0 ha _
  obtain ⟨a, h⟩ := hT.und
  simp [execOp, ha.ev hx, ha.ev (x := .const _) rfl, eqg_nilI, binOp, Op.equal, eqi0 h]
theorem r_neI1 {x : Operand} {t t' t2 : TypeId} {v : Value} [hT : IfT P t] (hx : ev σ x = some (.iface t2 v)) : Rn P N σ w ⟨dst, .binOp .neq t x (.const .nilIface) t', ty, pos, af, gd⟩ (.bool true) := by
  constructor; intro _ ac w0 ha _
  obtain ⟨a, h⟩ := hT.und
  simp [execOp, ha.ev hx, ha.ev (x := .const _) rfl, eqGuard_at_iface, binOp, Op.equal, eqi1 h]
end
/-! ### Structs of plain values -/
def vb : Value → Value → Bool
  | .int _ a, .int _ b => a == b
  | .bool a, .bool b => a == b
  | _, _ => false
def vbs : List Value → List Value → Bool
  | [], _ => true
  | _, [] => true
  | a :: xs, b :: ys => vb a b && vbs xs ys
inductive Okv : List (Option IntKind) → List Value → Prop where
  | nil : Okv [] []
  | int {k : IntKind} {a : Int} {ks : List (Option IntKind)} {vs : List Value} : Okv ks vs → Okv (some k :: ks) (.int k a :: vs)
  | bool {b : Bool} {ks : List (Option IntKind)} {vs : List Value} : Okv ks vs → Okv (none :: ks) (.bool b :: vs)
def fkey (P : Program) (f : Field) : Bool × Nat × Option (Option IntKind) := (f.name != "_", f.offset, match P.underlying f.type with | some (.int k) => some (some k) | some .bool => some none | _ => none)
def kkey : Nat → List (Option IntKind) → List (Bool × Nat × Option (Option IntKind))
  | _, [] => []
  | i, k :: ks => (true, i, some k) :: kkey (i + 1) ks
class EqST (P : Program) (t : TypeId) (ks : outParam (List (Option IntKind))) : Prop where
  fs : (P.fieldsOf t).toList.map (fkey P) = kkey 0 ks
  und : P.underlying t = some (.struct (P.fieldsOf t))
  hold : P.stoodInHeld t = false
  gd : P.eqGuardType P.depth t = false
section
variable {P : Program}
theorem eqF_list (d : Nat) (w : World) : ∀ (fs : List Field) (ks : List (Option IntKind)) (pre pre' vs us : List Value), pre.length = pre'.length → Okv ks vs → Okv ks us → fs.map (fkey P) = kkey pre.length ks → (Op.eqFields (d + 1) (pre ++ vs).toArray (pre' ++ us).toArray fs).run P w = .ok (vbs vs us) w := by
  intro fs
  induction fs with
  | nil =>
    intro ks pre pre' vs us hl h1 h2 hk
    cases ks with
    | nil => cases h1; cases h2; simp [Op.eqFields, vbs]
    | cons k ks => simp [kkey] at hk
  | cons f fs ih =>
    intro ks pre pre' vs us hl h1 h2 hk
    cases ks with
    | nil => simp [kkey] at hk
    | cons k ks =>
      simp only [List.map_cons, kkey, List.cons.injEq, fkey, Prod.mk.injEq, bne_iff_ne, ne_eq] at hk
      obtain ⟨⟨hn, ho, hu⟩, hr⟩ := hk
      have step : ∀ (a b : Value) (vs us : List Value) , (∀ w, (isAgg f.type).run P w = .ok false w) → (∀ w, (Op.equalIn (d + 1) f.type a b).run P w = .ok (vb a b) w) → Okv ks vs → Okv ks us → (Op.eqFields (d + 1) (pre ++ a :: vs).toArray (pre' ++ b :: us).toArray (f :: fs)).run P w = .ok (vbs (a :: vs) (b :: us)) w := by
        intro a b vs us hag he h1 h2
        have ih2 := ih ks (pre ++ [a]) (pre' ++ [b]) vs us (by simp [hl]) h1 h2 (by rw [List.length_append]; exact hr)
        rw [List.append_assoc, List.append_assoc] at ih2
        have ga : (pre ++ a :: vs).toArray[f.offset]? = some a := by rw [ho]; simp
        have gb : (pre' ++ b :: us).toArray[f.offset]? = some b := by rw [ho, hl]; simp
        simp only [Op.eqFields, ne_eq, hn, not_false_eq_true, if_true, part, Sem.run_bind, hag, Result.andThen_ok, ga, gb, he, Bool.false_eq_true, if_false, Sem.run_pure]
        cases hv : vb a b
        · simp [vbs, hv, isAgg]
        · simp only [vbs, hv, Bool.not_true, Bool.false_eq_true, if_false, Bool.true_and]
          exact ih2
      cases h1 with
      | int h1 =>
        cases h2 with
        | int h2 =>
          split at hu <;> simp at hu
          next k' e => exact step _ _ _ _ (fun w => by simp [isAgg, run_underlying e]) (fun w => run_equalIn_int w d _ _ _ _ _ e) h1 h2
      | bool h1 =>
        cases h2 with
        | bool h2 =>
          split at hu <;> simp at hu
          next e => exact step _ _ _ _ (fun w => by simp [isAgg, run_underlying e]) (fun w => run_equalIn_bool' w d _ _ _ e) h1 h2
end
section
variable {P : Program} {N : Nat} {σ : Sig} {w : World} {dst : Option Nat} {ty : TypeId} {pos : String} {af : Array Edge} {gd : Option (Nat × Bool)}
theorem r_eqS {x y : Operand} {t t' : TypeId} {ks : List (Option IntKind)} [hT : EqST P t ks] {vs us : List Value} (hx : ev σ x = some (.agg vs.toArray)) (hy : ev σ y = some (.agg us.toArray)) (h1 : Okv ks vs) (h2 : Okv ks us) :
    Rn P N σ w ⟨dst, .binOp .eql t x y t', ty, pos, af, gd⟩ (.bool (vbs vs us)) := by
  constructor; intro _ ac w0 ha _
  have e : ∀ w, (Op.equalIn 10000 t (.agg vs.toArray) (.agg us.toArray)).run P w = .ok (vbs vs us) w := fun w => by
    rw [run_equalIn_struct w 9999 t _ _ hT.und hT.hold]
    exact eqF_list 9998 w _ ks [] [] vs us rfl h1 h2 hT.fs
  simp only [execOp, ha.ev hx, ha.ev hy, Sem.run_bind, run_eqGuard_agg (P := P) w0 .eql t x y _ _ hT.gd, run_eql_struct, e, Sem.run_pure, Result.andThen_ok]
theorem r_neS {x y : Operand} {t t' : TypeId} {ks : List (Option IntKind)} [hT : EqST P t ks] {vs us : List Value} (hx : ev σ x = some (.agg vs.toArray)) (hy : ev σ y = some (.agg us.toArray)) (h1 : Okv ks vs) (h2 : Okv ks us) :
    Rn P N σ w ⟨dst, .binOp .neq t x y t', ty, pos, af, gd⟩ (.bool (!vbs vs us)) := by
  constructor; intro _ ac w0 ha _
  have e : ∀ w, (Op.equalIn 10000 t (.agg vs.toArray) (.agg us.toArray)).run P w = .ok (vbs vs us) w := fun w => by
    rw [run_equalIn_struct w 9999 t _ _ hT.und hT.hold]
    exact eqF_list 9998 w _ ks [] [] vs us rfl h1 h2 hT.fs
  simp only [execOp, ha.ev hx, ha.ev hy, Sem.run_bind, run_eqGuard_agg (P := P) w0 .neq t x y _ _ hT.gd, run_neq_struct, e, Sem.run_pure, Result.andThen_ok]
end
end Go.Ink
