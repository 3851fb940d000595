/-
  Arrays as arguments.
-/
import Derived.Test.YtfgajbilegjbpaaRead
import Derived.OpenShut
set_option linter.unusedVariables false
set_option linter.unusedSimpArgs false
namespace Go.Ink
open Go Go.RowKit

def kArr {α : Type} (n : Nat) (hn : 0 < n) (d : Kd α) : Kd (List α) where
  sz := n * d.sz
  pos := Nat.mul_pos hn d.pos
  bytes := n * d.bytes
  bpos := Nat.mul_pos hn d.bpos
  R := fun F w xs cs => xs.length = n ∧ Els d F w xs cs
  len := by rintro F w x cs ⟨h1, h2⟩; rw [h2.len, h1]
  one := fun h => h.2.one
  move := fun h hm => ⟨h.1, h.2.move hm⟩
  mono := fun h hm => ⟨h.1, h.2.mono hm⟩
theorem chop_take {β : Type} (cs : List β) (sz : Nat) : ∀ n, (List.range n).flatMap (fun i => (cs.drop (i * sz)).take sz) = cs.take (n * sz)
  | 0 => by simp
  | n + 1 => by
    rw [List.range_succ, List.flatMap_append, chop_take cs sz n, Nat.add_mul, Nat.one_mul, List.take_add]
    simp
theorem rd_array {P : Program} {t e : TypeId} {n : Nat} {hn : 0 < n} {α : Type} {d : Kd α} (hu : P.underlying t = some (.array n e)) (h1 : P.cellsOf t = n * d.sz) (h2 : P.bytesOf t = n * d.bytes) (hR : RdT P e d) : RdT P t (kArr n hn d) where
  rd := by
    intro H enc W fuel cs x h hw
    obtain ⟨xs, m, rfl, rfl, hl, hxl, hx⟩ := DataW.trod_array hu h
    simp only [DataW.weights, hu] at hw
    have hel : ∀ i, i < n → ∃ q, d.R (fun _ => True) W q ((cs.drop (i * d.sz)).take d.sz) := fun i hi => by
      have h3 := hx i hi
      rw [hR.sz, List.getElem?_eq_getElem (by omega)] at h3
      exact hR.rd enc W m _ _ h3 (weightsAll_mem hw _ (List.mem_map.2 ⟨xs[i], List.getElem_mem _, rfl⟩))
    obtain ⟨ys, hyl, hE⟩ := els_of n _ hel
    rw [chop_take, List.take_of_length_le (by rw [hl, h1]; exact Nat.le_refl _)] at hE
    exact ⟨ys, hyl, hE⟩
  sz := h1
  by_ := h2
theorem okWide_array {P : Program} {w : World} {base : Nat} {t e : TypeId} {n : Nat} {v : Value} {r : Reach} (ht : P.underlying t = some (.array n e)) (h : Value.okWide P w r base t v) : ∃ cs, v = .agg cs ∧ cs.size = P.cellsOf t := by
  simp only [Value.okWide, ht] at h
  obtain ⟨cs, h1, h2, _⟩ := h
  exact ⟨cs, h1, h2⟩
/-- An array of two numbers. -/
theorem arr2_cells {F : Nat → Prop} {w : World} {hn : 0 < 2} {q : List Int} {cs : List Value} (h : (kArr 2 hn kI64).R F w q cs) : ∃ a b, q = [a, b] ∧ cs = [.int .i64 a, .int .i64 b] ∧ (-9223372036854775808 ≤ a ∧ a ≤ 9223372036854775807) ∧ (-9223372036854775808 ≤ b ∧ b ≤ 9223372036854775807) := by
  obtain ⟨h1, h2⟩ := h
  obtain ⟨a, b, rfl⟩ : ∃ a b, q = [a, b] := by
    match q, h1 with
    | [a, b], _ => exact ⟨a, b, rfl⟩
  obtain ⟨c1, r1, rfl, ⟨rfl, h3, h4⟩, c2, r2, rfl, ⟨rfl, h5, h6⟩, h7⟩ := h2
  have h7' : r2 = [] := h7
  subst h7'
  exact ⟨a, b, rfl, rfl, ⟨h3, h4⟩, ⟨h5, h6⟩⟩
end Go.Ink
