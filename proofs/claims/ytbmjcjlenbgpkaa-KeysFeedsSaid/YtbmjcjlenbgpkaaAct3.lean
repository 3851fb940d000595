/-
  Arrays behind a pointer; results that lie in memory; objects.
-/
import Derived.Test.YtbmjcjlenbgpkaaAct2
set_option linter.unusedVariables false
set_option linter.unusedSimpArgs false
namespace Go.Ink
open Go Go.RowKit

class ArrT (P : Program) (t : TypeId) (n : outParam Nat) (e : outParam TypeId) : Prop where
  und : P.underlying t = some (.array n e)
section
variable {P : Program} {N : Nat} {σ : Sig} {w : World} {d : Option Nat} {ty : TypeId} {pos : String} {af : Array Edge} {g : Option (Nat × Bool)}
theorem r_indexA {x y : Operand} {t e : TypeId} {m sz bytes : Nat} {z : Value} [hT : ArrT P t m e] [hE : ElT P e sz bytes z] {ad : Addr} {k : IntKind} {i : Int}
    (hx : ev σ x = some (.pointer (some ad))) (hy : ev σ y = some (.int k i)) (h0 : 0 ≤ i) (h1 : i < m) : Rn P N σ w ⟨d, .indexAddr t x y, ty, pos, af, g⟩ (.pointer (some (ad.add (i.toNat * sz)))) := by
  constructor; intro _ ac w0 ha _
  have hl : P.arrayLen t = m := by simp [Program.arrayLen, hT.und]
  have he : P.elem t = e := by simp [Program.elem, hT.und]
  simp only [execOp, ha.ev hx, ha.ev hy, run_indexAt_array w0 t ad k i (by rw [hl, he]; exact hT.und), Sem.run_bind]
  rw [hl, he, if_pos ⟨h0, h1⟩, hE.size]
  rfl
end

/-! ### Results -/
inductive Res (P : Program) (σ : Sig) (w : World) : List ResultVar → List Value → Prop where
  | nil : Res P σ w [] []
  | tmp {t : Nat} {v : Value} {rs : List ResultVar} {vs : List Value} : σ.get t = some v → Res P σ w rs vs → Res P σ w (.tmp t :: rs) (v :: vs)
  | agg {a n : Nat} {t : TypeId} {p : Addr} {cs : List Value} {rs : List ResultVar} {vs : List Value} [hT : AggT P t n] : σ.get a = some (.pointer (some p)) → cs.length = n → (∀ j u, cs[j]? = some u → w.cell? (p.add j) = some u) →
      Res P σ w rs vs → Res P σ w (.cell a t :: rs) (.agg cs.toArray :: vs)
  | one {a : Nat} {t : TypeId} {p : Addr} {v : Value} {rs : List ResultVar} {vs : List Value} [hT : CellT P t] : σ.get a = some (.pointer (some p)) → w.cell? p = some v → Res P σ w rs vs → Res P σ w (.cell a t :: rs) (v :: vs)
def resF (tmps : Array Value) : ResultVar → Sem Value
  | .tmp t => pure (tmps.getD t undef)
  | .cell a t => do loadVar t (← asAddr (tmps.getD a undef))
theorem run_mapM_res {P : Program} {σ : Sig} {w w0 : World} {D : List Deferred} {N : Nat} {a : Act} (ha : Fr D N σ a) (h0 : Dr w w0) {rs : List ResultVar} {vs : List Value} (h : Res P σ w rs vs) : (rs.mapM (resF a.tmps)).run P w0 = .ok vs w0 := by
  have hget : ∀ t v, σ.get t = some v → a.tmps.getD t undef = v := fun t v ht => by rw [Array.getD_eq_getD_getElem?, ha.get t v ht]; rfl
  induction h with
  | nil => simp
  | tmp hv _ ih => simp only [List.mapM_cons, resF, hget _ _ hv, Sem.run_bind, Sem.run_pure, Result.andThen_ok, ih]
  | @agg b n t p cs rs vs hT hp hl hc _ ih =>
    have := run_loadCells (P := P) (w := w0) p cs 0 #[] (fun j u hu => by rw [h0.cell]; simpa using hc j u hu)
    rw [hl] at this
    have hl2 : (loadVar t p).run P w0 = .ok (.agg cs.toArray) w0 := by simp [loadVar, hT.ag, hT.sz, loadCells, this]
    simp only [List.mapM_cons, resF, hget _ _ hp, asAddr, Sem.run_bind, Sem.run_pure, Result.andThen_ok, hl2, ih]
  | @one b t p v rs vs hT hp hc _ ih =>
    have hl2 : (loadVar t p).run P w0 = .ok v w0 := by simp [loadVar, hT.na, h0.cell, hc]
    simp only [List.mapM_cons, resF, hget _ _ hp, asAddr, Sem.run_bind, Sem.run_pure, Result.andThen_ok, hl2, ih]
section
variable {P : Program} {fn : Func} {k : List Item} {σ : Sig} {w : World} {R : Value → World → Prop}
theorem res_any {D : List Deferred} {rs : List ResultVar} {vs : List Value} (hr : fn.results = rs.toArray) (h : Res P σ w rs vs) : ∀ a w0, Fr D fn.ntmps σ a → Dr w w0 → (results fn a.tmps).run P w0 = .ok (if h : vs.length = 1 then vs[0] else .tuple vs.toArray) w0 := by
  intro a w0 ha h0
  have := run_mapM_res ha h0 h
  have e : results fn a.tmps = (do let vs ← rs.toArray.mapM (resF a.tmps); pure (if h : vs.size = 1 then vs[0] else .tuple vs)) := by
    unfold results
    rw [hr]
    congr 1
  rw [e, show rs.toArray.mapM (resF a.tmps) = List.toArray <$> rs.mapM (resF a.tmps) from List.mapM_toArray ..]
  simp only [Sem.run_bind, Sem.run_map, this, Result.andThen_ok, Sem.run_pure, List.size_toArray]
  split <;> simp
theorem k_retR1 {r : ResultVar} {v : Value} (hr : fn.results = #[r]) (h : Res P σ w [r] [v]) (hR : R v w) : WK P fn (.code .ret :: k) σ w R := k_ret (res_any (rs := [r]) hr h) hR
theorem k_retR2 {r1 r2 : ResultVar} {u v : Value} (hr : fn.results = #[r1, r2]) (h : Res P σ w [r1, r2] [u, v]) (hR : R (.tuple #[u, v]) w) : WK P fn (.code .ret :: k) σ w R := k_ret (res_any (rs := [r1, r2]) hr h) hR
theorem k_retR3 {r1 r2 r3 : ResultVar} {u v x : Value} (hr : fn.results = #[r1, r2, r3]) (h : Res P σ w [r1, r2, r3] [u, v, x]) (hR : R (.tuple #[u, v, x]) w) : WK P fn (.code .ret :: k) σ w R := k_ret (res_any (rs := [r1, r2, r3]) hr h) hR
theorem k_retR4 {r1 r2 r3 r4 : ResultVar} {u v x y : Value} (hr : fn.results = #[r1, r2, r3, r4]) (h : Res P σ w [r1, r2, r3, r4] [u, v, x, y]) (hR : R (.tuple #[u, v, x, y]) w) : WK P fn (.code .ret :: k) σ w R := k_ret (res_any (rs := [r1, r2, r3, r4]) hr h) hR
/-- Cells of a block, in a list. -/
theorem blk_cells {g o n : Nat} {cs : Array Value} {t : TypeId} {fr : Nat × Nat} (h : w.heap[g]? = some (.cells cs t fr)) : ∀ j u, ((cs.toList.drop o).take n)[j]? = some u → w.cell? ((⟨g, o, none⟩ : Addr).add j) = some u := by
  intro j u hu
  rw [add_plain, blk_cell h]
  rw [List.getElem?_take] at hu
  split at hu
  · rw [List.getElem?_drop] at hu
    simpa using hu
  · cases hu
theorem blk_all {g : Nat} {cs : Array Value} {t : TypeId} {fr : Nat × Nat} (h : w.heap[g]? = some (.cells cs t fr)) : ∀ j u, cs.toList[j]? = some u → w.cell? ((⟨g, 0, none⟩ : Addr).add j) = some u := by
  intro j u hu
  rw [add_plain, blk_cell h]
  simpa using hu
end
end Go.Ink
