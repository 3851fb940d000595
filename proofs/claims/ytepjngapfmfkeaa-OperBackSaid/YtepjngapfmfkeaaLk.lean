/-
  Tables whose cells are told as they are.
-/
import Derived.Test.YtepjngapfmfkeaaLn
set_option linter.unusedVariables false
set_option linter.unusedSimpArgs false
namespace Go.Ink
open Go Go.RowKit

/-- Cells of a slice of slices, as they are. -/
def kRaw : Kd Value where
  sz := 1
  pos := by decide
  bytes := 24
  bpos := by decide
  R := fun _ _ x cs => cs = [x] ∧ x.oneCell' = true
  len := by rintro F w x cs ⟨rfl, _⟩; rfl
  one := by rintro F w x cs ⟨rfl, h⟩ u hu; simp at hu; subst hu; exact h
  move := fun h _ => h
  mono := fun h _ => h
instance : ScK kRaw := ⟨fun h => h⟩
section
variable {F G : Nat → Prop} {w : World}
theorem els_raw : ∀ {xs cs : List Value}, Els kRaw F w xs cs → cs = xs
  | [], _, h => h
  | x :: xs, cs, h => by
    obtain ⟨c, r, rfl, ⟨rfl, _⟩, h2⟩ := h
    rw [els_raw h2]; rfl
theorem raw_els : ∀ {xs : List Value}, (∀ x ∈ xs, x.oneCell' = true) → Els kRaw F w xs xs
  | [], _ => rfl
  | x :: xs, h => ⟨[x], xs, rfl, ⟨rfl, h x (by simp)⟩, raw_els fun y hy => h y (by simp [hy])⟩
/-- A cell of such a table. -/
theorem Ow.rawCell {ad : Addr} {n c j : Nat} {vs : List Value} {u : Value} (h : Ow kRaw G F w (.slice (some ad) n c) vs) (hu : vs[j]? = some u) : w.cell? (ad.add (j * 1)) = some u := by
  obtain ⟨g, o, cap, cur, e, cells, rfl, rfl, rfl, hg, hh, h4, h5, h6, hE, h7⟩ := h.cellAt
  rw [els_raw hE] at h7
  rw [add_plain, blk_cell hh, Nat.mul_one]
  exact h7 j u hu
/-- A table's rows, its cells told. -/
theorem raw_slE {v : Value} {xs : List (List Int)} {cs : List Value} (h : Ow kRaw G (fun _ => False) w v cs) (hE : Els kRow F w xs cs) : SlE kRow F w v xs := by
  have hl := hE.len
  rw [show kRow.sz = 1 from rfl, Nat.mul_one] at hl
  obtain ⟨A, c, cells, rfl, h1, h2, h3, h4, h5⟩ := h.sl
  rw [els_raw h4] at h5
  refine ⟨A, c, cs, by rw [hl], hE, ?_⟩
  rcases h5 with rfl | ⟨ad, e, _, hc⟩
  · left
    exact List.length_eq_zero_iff.1 (by simpa using hl.symm)
  · exact .inr ⟨ad, e, hc⟩
end
end Go.Ink
