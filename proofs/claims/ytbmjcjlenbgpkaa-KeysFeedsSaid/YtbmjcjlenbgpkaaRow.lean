/-
  Lines and rows of runes that are read: their cells, told once.
-/
import Derived.Test.YtbmjcjlenbgpkaaLw
set_option linter.unusedVariables false
set_option linter.unusedSimpArgs false
namespace Go.Ink
open Go Go.RowKit

/-- A row of runes. -/
structure Rns (F : Nat → Prop) (w : World) (A : Option Addr) (c : Nat) (x : List Int) (ad : Addr) : Prop where
  sl : Sl kRune F w (.slice A x.length c) x
  cap : x.length ≤ c
  len : x.length ≤ 140737488355328
  a : 0 < x.length → A = some ad
  run : ∀ j, j < x.length → w.cell? (ad.add (j * 1)) = some (.int .i32 (x.getD j 0))
  lo : ∀ j, -2147483648 ≤ x.getD j 0 ∧ x.getD j 0 ≤ 2147483647
  fa : 0 < x.length → F ad.block
/-- Lines. -/
structure Rws (F : Nat → Prop) (w : World) (A : Option Addr) (c : Nat) (l : List (List Int)) (ad : Addr) (rV : Nat → Option Addr) (rc : Nat → Nat) (ra : Nat → Addr) : Prop where
  sl : Sl kRow F w (.slice A l.length c) l
  cap : l.length ≤ c
  len : l.length ≤ 140737488355328
  a : 0 < l.length → A = some ad
  row : ∀ j, j < l.length → w.cell? (ad.add (j * 1)) = some (.slice (rV j) (l.getD j []).length (rc j))
  rs : ∀ j, j < l.length → Sl kRune F w (.slice (rV j) (l.getD j []).length (rc j)) (l.getD j [])
  rl : ∀ j, (l.getD j []).length ≤ 140737488355328
  rcap : ∀ j, j < l.length → (l.getD j []).length ≤ rc j
  aa : ∀ j, j < l.length → 0 < (l.getD j []).length → rV j = some (ra j)
  run : ∀ j k, j < l.length → k < (l.getD j []).length → w.cell? ((ra j).add (k * 1)) = some (.int .i32 ((l.getD j []).getD k 0))
  fa : 0 < l.length → F ad.block
  fr : ∀ j, j < l.length → 0 < (l.getD j []).length → F (ra j).block
theorem getD_of {α : Type} {l : List α} {d : α} {j : Nat} (h : j < l.length) : l[j]? = some (l.getD j d) := by
  rw [List.getD_eq_getElem?_getD, List.getElem?_eq_getElem h]; rfl
theorem Sl.adF {α : Type} {d : Kd α} {F : Nat → Prop} {w : World} {ad : Addr} {n c : Nat} {xs : List α} (h : Sl d F w (.slice (some ad) n c) xs) (h0 : 0 < xs.length) : F ad.block := by
  obtain ⟨A', c', cells, h1, h2, h3, h4, h5, h6⟩ := h
  simp only [Value.slice.injEq] at h1
  obtain ⟨rfl, rfl, rfl⟩ := h1
  rcases h6 with rfl | ⟨ad', e, hf, hc⟩
  · simp at h0
  · cases e; exact hf
theorem Sl.rns {F : Nat → Prop} {w : World} {v : Value} {x : List Int} (h : Sl kRune F w v x) : ∃ A c ad, v = .slice A x.length c ∧ Rns F w A c x ad := by
  obtain ⟨A, c, rfl, hc, hf⟩ := h.form
  have hlo : ∀ j, -2147483648 ≤ x.getD j 0 ∧ x.getD j 0 ≤ 2147483647 := by
    intro j
    by_cases hj : j < x.length
    · obtain ⟨ad, cs, hA, hr, -⟩ := h.at_ (getD_of (d := 0) hj)
      exact hr.2
    · rw [List.getD_eq_getElem?_getD, List.getElem?_eq_none (by omega)]; decide
  by_cases h0 : 0 < x.length
  · obtain ⟨ad, cs, rfl, -, -⟩ := h.at_ (getD_of (d := 0) h0)
    refine ⟨_, c, ad, rfl, h, hc, hf.len, fun _ => rfl, fun j hj => ?_, hlo, fun _ => h.adF h0⟩
    obtain ⟨ad', cs', hA, ⟨rfl, -⟩, hcell⟩ := h.at_ (getD_of (d := 0) hj)
    cases hA
    exact hcell 0 _ rfl
  · exact ⟨A, c, ⟨0, 0, none⟩, rfl, h, hc, hf.len, fun hj => by omega, fun j hj => by omega, hlo, fun hj => by omega⟩
theorem Sl.rws {F : Nat → Prop} {w : World} {v : Value} {l : List (List Int)} (h : Sl kRow F w v l) : ∃ A c ad rV rc ra, v = .slice A l.length c ∧ Rws F w A c l ad rV rc ra := by
  obtain ⟨A, c, rfl, hc, hf⟩ := h.form
  have key : ∀ j, ∃ t : Addr × Option Addr × Nat × Addr, j < l.length → A = some t.1 ∧ w.cell? (t.1.add (j * 1)) = some (.slice t.2.1 (l.getD j []).length t.2.2.1) ∧ Rns F w t.2.1 t.2.2.1 (l.getD j []) t.2.2.2 := by
    intro j
    by_cases hj : j < l.length
    · obtain ⟨ad, cs, rfl, ⟨v1, rfl, hrow⟩, hcell⟩ := h.at_ (getD_of (d := []) hj)
      obtain ⟨A1, c1, ra, rfl, hr⟩ := hrow.rns
      exact ⟨⟨ad, A1, c1, ra⟩, fun _ => ⟨rfl, hcell 0 _ rfl, hr⟩⟩
    · exact ⟨⟨⟨0, 0, none⟩, none, 0, ⟨0, 0, none⟩⟩, fun h => absurd h hj⟩
  obtain ⟨f, hk⟩ := Classical.axiomOfChoice key
  refine ⟨A, c, (f 0).1, fun j => (f j).2.1, fun j => (f j).2.2.1, fun j => (f j).2.2.2, rfl, h, hc, hf.len, fun hj => (hk 0 (by omega)).1, fun j hj => ?_, fun j hj => (hk j hj).2.2.sl, fun j => ?_, fun j hj => (hk j hj).2.2.cap, fun j hj hk' => (hk j hj).2.2.a hk', fun j k hj hk' => (hk j hj).2.2.run k hk', fun hj => ?_, fun j hj hk' => (hk j hj).2.2.fa hk'⟩
  · have h1 := (hk j hj).1
    have h0 := (hk 0 (by omega)).1
    rw [h0] at h1
    have h2 := (hk j hj).2.1
    rw [← Option.some.inj h1] at h2
    exact h2
  · by_cases hj : j < l.length
    · exact (hk j hj).2.2.len
    · rw [List.getD_eq_getElem?_getD, List.getElem?_eq_none (by omega)]; simp
  · have h0 := (hk 0 (by omega)).1
    rw [h0] at h
    exact h.adF (by omega)
/-- Another world in which F's blocks are as they were. -/
theorem Rns.move {F : Nat → Prop} {w w' : World} {A : Option Addr} {c : Nat} {x : List Int} {ad : Addr} (h : Rns F w A c x ad) (hm : ∀ k, F k → k < w.heap.size → w'.heap[k]? = w.heap[k]?) : ∃ ad', Rns F w' A c x ad' := by
  obtain ⟨A', c', ad', he, hr⟩ := (h.sl.move hm).rns
  cases he
  exact ⟨ad', hr⟩
end Go.Ink
