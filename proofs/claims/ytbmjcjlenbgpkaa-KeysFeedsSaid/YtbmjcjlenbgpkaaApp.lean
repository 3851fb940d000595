/-
  append to a slice that is full: a new block, or the slice itself.
-/
import Derived.Test.YtbmjcjlenbgpkaaAct2
set_option linter.unusedVariables false
set_option linter.unusedSimpArgs false
namespace Go.Ink
open Go Go.RowKit
def noB (w : World) : Nat → Prop := fun k => w.heap.size ≤ k
section
variable {P : Program} {N : Nat} {σ : Sig} {w : World} {dst : Option Nat} {ty : TypeId} {pos : String} {af : Array Edge} {gd : Option (Nat × Bool)}
theorem e_append_full {α : Type} {d : Kd α} {x y : Operand} {t e : TypeId} {sz bytes : Nat} {z : Value} [hT : SlT P t e] [hE : ElT P e sz bytes z] {F F2 : Nat → Prop} {A : Option Addr} {n : Nat} {u : Value} {xs ys : List α} (hx : ev σ x = some (.slice A n n)) (hy : ev σ y = some u)
    (hX : Sl d F w (.slice A n n) xs) (hS : Sl d F2 w u ys) (hlen : (xs.length + ys.length) * bytes ≤ 140737488355328) (hsz : d.sz = sz) (hby : d.bytes = bytes) (hz : z.cells.size = sz) :
    Ef P N σ w ⟨dst, .call { callee := .builtin .append, args := #[x, y], argTypes := #[t, t] }, ty, pos, af, gd⟩ (fun v' w' => Kn w w' ∧ ((ys = [] ∧ v' = .slice A n n) ∨ Ow d (fun k => w.heap.size ≤ k) (fun k => F k ∨ F2 k) w' v' (xs ++ ys))) := by
  constructor; intro _ a w0 ha h0
  obtain ⟨i, hi1, hi2, hi3, hi4⟩ := hE.parts
  have hcell : ∀ p u, w.cell? p = some u → w0.cell? p = some u := fun p u hu => by rw [h0.cell]; exact hu
  have hn := (hX.len_eq).1
  subst hn
  obtain ⟨B, c, news, rfl, g1, g2, g3, g4, g5⟩ := hS
  suffices hs : ∃ v' w', (Builtin.append_ #[t, t] ty #[.slice A xs.length xs.length, .slice B ys.length c]).run P w0 = .ok v' w' ∧ (Kn w w' ∧ ((ys = [] ∧ v' = .slice A xs.length xs.length) ∨ Ow d (fun k => w.heap.size ≤ k) (fun k => F k ∨ F2 k) w' v' (xs ++ ys))) by
    obtain ⟨v', w', hr, hApp⟩ := hs
    refine ⟨v', w', ?_, hApp⟩
    simp only [execOp, resolve, invoke, builtin, Sem.run_bind, Sem.run_pure, Result.andThen_ok, List.map_toArray, List.map_cons, List.map_nil, ha.ev hx, ha.ev hy, hr]
  by_cases hys : ys = []
  · subst hys
    exact ⟨_, w0, run_append_none w0 t ty e i hT.und hi1 A xs.length xs.length (Nat.le_refl _) B c, Kp.of_dr _ h0, .inl ⟨rfl, rfl⟩⟩
  rcases g5 with g5 | ⟨bd, rfl, hF2, hbd⟩
  · exact absurd g5 hys
  obtain ⟨A', c', cells, hv, f1, f2, f3, f4, f5⟩ := hX
  simp only [Value.slice.injEq] at hv
  obtain ⟨rfl, _, _⟩ := hv
  have hpos : 0 < ys.length := List.length_pos_iff.2 hys
  have hl2 := g4.len
  rw [hsz, ← hi3] at hl2
  have hnews : ∀ j u, news[j]? = some u → w0.cell? (bd.add j) = some u := fun j u hu => hcell _ _ (hbd j u hu)
  have hEl' : Els d (fun k => F k ∨ F2 k) w (xs ++ ys) (cells ++ news) := (f4.mono fun k hk _ => .inl hk).append (g4.mono fun k hk _ => .inr hk)
  have hfit : Fits d (xs.length + ys.length) := by unfold Fits; rw [hby]; exact hlen
  have hfit' : Fits d (xs ++ ys).length := by rw [List.length_append]; exact hfit
  have hmax : xs.length + ys.length ≤ 9223372036854775807 := by have := hfit.len; omega
  have hby' : (xs.length + ys.length) * i.bytes ≤ 140737488355328 := by rw [hi4]; exact hlen
  have hgrow : ∀ (g : Nat) (need old : Nat), need = xs.length + ys.length → ∀ (w1 : World), Nb w w1 g (.cells (cells.toArray ++ news.toArray ++ Builtin.zeroCells z.cells (grownCap w0 need old e - need)) e) →
      Kn w w1 ∧ ((ys = [] ∧ Value.slice (some ⟨g, 0, none⟩) need (grownCap w0 need old e) = .slice A xs.length xs.length) ∨ Ow d (fun k => w.heap.size ≤ k) (fun k => F k ∨ F2 k) w1 (.slice (some ⟨g, 0, none⟩) need (grownCap w0 need old e)) (xs ++ ys)) := by
    rintro g need old rfl w1 hn
    have hge := grownCap_ge w0 (xs.length + ys.length) old e
    have hcm := grownCap_le_maxLen w0 (xs.length + ys.length) old e (by simpa [maxLen] using hmax)
    have hcl := hEl'.len
    refine ⟨hn.kn, .inr ?_⟩
    have := ow_new (d := d) (G := fun k => w.heap.size ≤ k) (F := fun k => F k ∨ F2 k) (w := w) (w' := w1) (xs := xs ++ ys) (cells := cells ++ news) (rest := (Builtin.zeroCells z.cells (grownCap w0 (xs.length + ys.length) old e - (xs.length + ys.length))).toList) (g := g)
      (cap := grownCap w0 (xs.length + ys.length) old e) (e := e) hEl' (by rw [show (cells ++ news ++ (Builtin.zeroCells z.cells (grownCap w0 (xs.length + ys.length) old e - (xs.length + ys.length))).toList).toArray = cells.toArray ++ news.toArray ++ Builtin.zeroCells z.cells (grownCap w0 (xs.length + ys.length) old e - (xs.length + ys.length)) from by simp]; exact hn) (by simpa using hge) hcm hfit'
      (by
        have hzl : (Builtin.zeroCells z.cells (grownCap w0 (xs.length + ys.length) old e - (xs.length + ys.length))).toList.length = (grownCap w0 (xs.length + ys.length) old e - (xs.length + ys.length)) * sz := by rw [Array.length_toList, size_zeroCells, hz]
        rw [List.length_append, hcl, hzl, hsz, List.length_append, ← Nat.add_mul]
        exact Nat.mul_le_mul_right _ (by omega)) hn.ge
    simpa using this
  cases A with
  | none =>
    have hx0 : xs = [] := by
      rcases f5 with f5 | ⟨ad, h, _⟩
      · exact f5
      · cases h
    subst hx0
    have hc0 : cells = [] := f4
    subst hc0
    have hr := run_append_nil (P := P) w0 t ty e i z hT.und hi1 hi2 bd ys.length c news hl2 hnews hpos (by simp at hmax; omega) (by simp at hby'; omega)
    refine ⟨_, _, hr, ?_⟩
    have hn := nb_alloc (w := w) (w0 := w0.drew) (h0.trans ⟨rfl, rfl, rfl, rfl⟩) (.cells (news.toArray ++ Builtin.zeroCells z.cells (grownCap w0 ys.length 0 e - ys.length)) e)
    exact hgrow w0.heap.size ys.length 0 (by simp) _ (by simpa using hn)
  | some ad =>
    have hcl := f4.len
    rw [hsz, ← hi3] at hcl
    have holds : ∀ j u, cells[j]? = some u → w0.cell? (ad.add j) = some u := fun j u hu => by
      rcases f5 with f5 | ⟨ad', h, _, hc⟩
      · subst f5
        have : cells = [] := f4
        subst this
        simp at hu
      · cases h
        exact hcell _ _ (hc j u hu)
    have hr := run_append_grow (P := P) w0 t ty e i z hT.und hi1 hi2 ad xs.length xs.length cells hcl holds bd ys.length c news hl2 hnews (by omega) (by omega) (growslice_fits (by omega) hby')
    refine ⟨_, _, hr, ?_⟩
    have hn := nb_alloc (w := w) (w0 := w0.drew) (h0.trans ⟨rfl, rfl, rfl, rfl⟩) (.cells (cells.toArray ++ news.toArray ++ Builtin.zeroCells z.cells (grownCap w0 (xs.length + ys.length) xs.length e - (xs.length + ys.length))) e)
    exact hgrow _ _ _ rfl _ hn
end
end Go.Ink
