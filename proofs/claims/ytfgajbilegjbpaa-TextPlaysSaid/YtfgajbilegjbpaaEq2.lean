/-
  Two numbers in a struct or an array, compared.
-/
import Derived.Test.YtfgajbilegjbpaaAct3
import Derived.Laws.StructEq
set_option linter.unusedVariables false
set_option linter.unusedSimpArgs false
namespace Go.Ink
open Go Go.RowKit
class Eq2T (P : Program) (t : TypeId) (k : outParam IntKind) : Prop where
  eq : ∀ (a b a' b' : Int) (w : World), (Op.equalIn 10000 t (.agg #[.int k a, .int k b]) (.agg #[.int k a', .int k b'])).run P w = .ok (a == a' && b == b') w
  gd : P.eqGuardType P.depth t = false
theorem eq2_struct {P : Program} {t e : TypeId} {k : IntKind} (h1 : (P.fieldsOf t).toList.map (fun f => (f.name != "_", f.type, f.offset)) = [(true, e, 0), (true, e, 1)]) (h2 : P.underlying t = some (.struct (P.fieldsOf t)))
    (h3 : P.stoodInHeld t = false) (h4 : P.underlying e = some (.int k)) (h5 : P.eqGuardType P.depth t = false) : Eq2T P t k := by
  refine ⟨fun a b a' b' w => ?_, h5⟩
  rw [run_equalIn_struct w 9999 t _ _ h2 h3]
  obtain ⟨f0, f1, hf⟩ : ∃ f0 f1, (P.fieldsOf t).toList = [f0, f1] := by
    match hl : (P.fieldsOf t).toList with
    | [f0, f1] => exact ⟨f0, f1, rfl⟩
    | [] => rw [hl] at h1; simp at h1
    | [_] => rw [hl] at h1; simp at h1
    | _ :: _ :: _ :: _ => rw [hl] at h1; simp at h1
  rw [hf] at h1 ⊢
  simp only [List.map_cons, List.map_nil, List.cons.injEq, Prod.mk.injEq, bne_iff_ne, ne_eq, and_true] at h1
  obtain ⟨⟨n0, t0, o0⟩, ⟨n1, t1, o1⟩⟩ := h1
  have hag : ∀ w, (isAgg e).run P w = .ok false w := fun w => by simp [isAgg, run_underlying h4]
  have he : ∀ (d : Nat) (x y : Int) w, (Op.equalIn (d + 1) e (.int k x) (.int k y)).run P w = .ok (x == y) w := fun d x y w => run_equalIn_int w d e k k x y h4
  by_cases hab : a = a'
  · simp [Op.eqFields, n0, n1, t0, t1, o0, o1, part, hag, he, hab]
    by_cases hb : b = b' <;> simp [hb]
  · simp [Op.eqFields, n0, n1, t0, t1, o0, o1, part, hag, he, hab]
theorem eq2_array {P : Program} {t e : TypeId} {k : IntKind} (h2 : P.underlying t = some (.array 2 e)) (h3 : ∀ w, (Go.sizeOf e).run P w = .ok 1 w) (h4 : P.underlying e = some (.int k)) (h5 : P.eqGuardType P.depth t = false) : Eq2T P t k := by
  refine ⟨fun a b a' b' w => ?_, h5⟩
  have hag : ∀ w, (isAgg e).run P w = .ok false w := fun w => by simp [isAgg, run_underlying h4]
  have he : ∀ (d : Nat) (x y : Int) w, (Op.equalIn (d + 1) e (.int k x) (.int k y)).run P w = .ok (x == y) w := fun d x y w => run_equalIn_int w d e k k x y h4
  have key : ∀ d, (Op.equalIn (d + 1 + 1) t (.agg #[.int k a, .int k b]) (.agg #[.int k a', .int k b'])).run P w = .ok (a == a' && b == b') w := by
    intro d
    have he9 := he d
    generalize hE : Op.equalIn (d + 1) e = q at he9
    rw [Op.equalIn]
    simp only [Sem.run_bind, run_underlying h2, Result.andThen_ok, h3, hE]
    by_cases hab : a = a'
    · simp [Std.Legacy.Range.forIn_eq_forIn_range', Std.Legacy.Range.size, List.range', part, hag, he9, hab]
      by_cases hb : b = b' <;> simp [hb]
    · simp [Std.Legacy.Range.forIn_eq_forIn_range', Std.Legacy.Range.size, List.range', part, hag, he9, hab]
  exact key 9998
theorem eq2_arr {P : Program} {t e : TypeId} {k : IntKind} [hT : ArrT P t 2 e] [hI : IntT P e k] [hC : CellT P e] (h5 : P.eqGuardType P.depth t = false) : Eq2T P t k := eq2_array hT.und hC.sz hI.und h5
section
variable {P : Program} {N : Nat} {σ : Sig} {w : World} {d : Option Nat} {ty : TypeId} {pos : String} {af : Array Edge} {g : Option (Nat × Bool)}
theorem r_eq2 {x y : Operand} {t t' : TypeId} {k : IntKind} [hT : Eq2T P t k] {a b a' b' : Int} (hx : ev σ x = some (.agg #[.int k a, .int k b])) (hy : ev σ y = some (.agg #[.int k a', .int k b'])) :
    Rn P N σ w ⟨d, .binOp .eql t x y t', ty, pos, af, g⟩ (.bool (decide (a = a' ∧ b = b'))) := by
  constructor; intro _ ac w0 ha _
  simp only [execOp, ha.ev hx, ha.ev hy, Sem.run_bind, run_eqGuard_agg (P := P) w0 .eql t x y _ _ hT.gd, run_eql_struct, hT.eq, Sem.run_pure, Result.andThen_ok]
  congr 2
  by_cases h1 : a = a' <;> by_cases h2 : b = b' <;> simp [h1, h2]
theorem r_ne2 {x y : Operand} {t t' : TypeId} {k : IntKind} [hT : Eq2T P t k] {a b a' b' : Int} (hx : ev σ x = some (.agg #[.int k a, .int k b])) (hy : ev σ y = some (.agg #[.int k a', .int k b'])) :
    Rn P N σ w ⟨d, .binOp .neq t x y t', ty, pos, af, g⟩ (.bool (decide (¬ (a = a' ∧ b = b')))) := by
  constructor; intro _ ac w0 ha _
  simp only [execOp, ha.ev hx, ha.ev hy, Sem.run_bind, run_eqGuard_agg (P := P) w0 .neq t x y _ _ hT.gd, run_neq_struct, hT.eq, Sem.run_pure, Result.andThen_ok]
  congr 2
  by_cases h1 : a = a' <;> by_cases h2 : b = b' <;> simp [h1, h2]
theorem r_buildP {t : TypeId} {ps : List (Nat × Operand)} {qs : List (Nat × Value)} {c : Array Value} (hx : evps σ ps = some qs) (hf : P.built t qs = some c) :
    Rn P N σ w ⟨d, .build t ps.toArray, ty, pos, af, g⟩ (.agg c) := by
  constructor; intro _ a w0 ha _
  have e : ps.map (fun p => (p.1, a.eval p.2)) = qs := evps_map ha hx
  have := run_build (P := P) w0 t qs.toArray c hf
  simp only [execOp, List.map_toArray, e, this, Sem.run_bind, Sem.run_pure, Result.andThen_ok]
end
end Go.Ink
