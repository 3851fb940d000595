/-
  copy: elements read here, laid into a row there.
-/
import Derived.Test.YtepjngapfmfkeaaAct2
import Derived.Laws.CopyRow
set_option linter.unusedVariables false
set_option linter.unusedSimpArgs false
namespace Go.Ink
open Go Go.RowKit
section
variable {P : Program} {N : Nat} {σ : Sig} {w : World} {dst : Option Nat} {ty : TypeId} {pos : String} {af : Array Edge} {gd : Option (Nat × Bool)}
theorem run_copy_any {P : Program} (w : World) (dT sT ty elem : TypeId) (g o dLen dCap n sCap sz : Nat) (a : Option Addr) (cur : Array Value) (t : TypeId) (cs : List Value)
    (hu : P.underlying dT = some (.slice elem)) (hs : (P.info? elem).map (·.size) = some sz)
    (hg : w.heap[g]? = some (.cells cur t (0, 0))) (hn : cs.length = n * sz) (hle : n ≤ dLen)
    (hsrc : cs = [] ∨ ∃ ad, a = some ad ∧ ∀ j v, cs[j]? = some v → w.cell? (ad.add j) = some v) (hfit : o + cs.length ≤ cur.size) (h1 : ∀ v ∈ cs, v.oneCell' = true) (hz : n = 0 ∨ a ≠ none) :
    (Builtin.copy_ #[dT, sT] ty #[.slice (some ⟨g, o, none⟩) dLen dCap, .slice a n sCap]).run P w =
      .ok (goInt n) (w.setRow g (cur.toList.take o ++ cs ++ cur.toList.drop (o + cs.length)).toArray) := by
  have hst := run_storeCells_at P g o t cs 0 cur w hg (by simpa using hfit) h1
  have hmin : Nat.min n dLen = n := Nat.min_eq_left hle
  cases hq : P.info? elem with
  | none => simp [hq] at hs
  | some i =>
    have hi : i.size = sz := by simpa [hq] using hs
    cases a with
    | none =>
      have hn0 : n = 0 := hz.resolve_right (by simp)
      subst hn0
      have hc : cs = [] := List.length_eq_zero_iff.1 (by omega)
      subst hc
      simp only [List.length_nil, Nat.add_zero, List.append_nil, List.take_append_drop, Array.toArray_toList]
      rw [setRow_self w g cur t (0, 0) hg]
      simp [Builtin.copy_, run_underlying hu, Builtin.lenOf, Builtin.firstCells, sizeOf, typeInfo, hq, storeCells]
    | some ad =>
      have hl := run_loadCells_list (P := P) w ad cs (by
        rcases hsrc with h | ⟨ad', h, hc⟩
        · subst h; simp
        · cases h; exact hc)
      rw [hn] at hl
      simp [Builtin.copy_, run_underlying hu, Builtin.lenOf, Builtin.firstCells, sizeOf, typeInfo, hq, hi, hmin, hl, hst]
theorem e_copy {α : Type} {d : Kd α} {x y : Operand} {t t' e : TypeId} {sz bytes : Nat} {z : Value} [hT : SlT P t e] [hE : ElT P e sz bytes z] {F : Nat → Prop} {u : Value} {xs : List α} {g o n c : Nat} {cur : Array Value} {et : TypeId}
    (hx : ev σ x = some (.slice (some ⟨g, o, none⟩) n c)) (hy : ev σ y = some u) (hS : Sl d F w u xs) (hn : xs.length ≤ n) (hg : w.heap[g]? = some (.cells cur et (0, 0))) (hfit : o + n * d.sz ≤ cur.size) (hsz : d.sz = sz) :
    Ef P N σ w ⟨dst, .call { callee := .builtin .copy, args := #[x, y], argTypes := #[t, t'] }, ty, pos, af, gd⟩
      (fun r w' => r = goInt xs.length ∧ ∃ cells, Els d F w xs cells ∧ Wr w w' g (.cells (cur.toList.take o ++ cells ++ cur.toList.drop (o + cells.length)).toArray et)) := by
  constructor; intro _ a w0 ha h0
  obtain ⟨i, hi1, hi2, hi3, hi4⟩ := hE.parts
  obtain ⟨A, cc, cells, rfl, h1, h2, h3, h4, h5⟩ := hS
  have hl := h4.len
  have hle : xs.length * d.sz ≤ n * d.sz := Nat.mul_le_mul_right _ hn
  have hr := run_copy_any (P := P) w0 t t' ty e g o n c xs.length cc sz A cur et cells hT.und (by rw [hi1]; simp [hi3]) (by rw [h0.heap]; exact hg) (by rw [hl, hsz]) hn
    (by
      rcases h5 with h5 | ⟨ad, hA, _, hc⟩
      · subst h5; exact .inl h4
      · exact .inr ⟨ad, hA, fun j v hv => by rw [h0.cell]; exact hc j v hv⟩) (by omega) (h4.one) (by
      rcases h5 with h5 | ⟨ad, hA, _, hc⟩
      · subst h5; exact .inl rfl
      · rw [hA]; exact .inr (by simp))
  refine ⟨_, _, ?_, rfl, cells, h4, wr_row h0 hg _⟩
  simp only [execOp, resolve, invoke, builtin, Sem.run_bind, Sem.run_pure, Result.andThen_ok, List.map_toArray, List.map_cons, List.map_nil, ha.ev hx, ha.ev hy, hr]
end
end Go.Ink
