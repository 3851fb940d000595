/-
  Lists of places, told once; the last place.
-/
import Derived.Test.YtcfbkoajhllcaaaW5
import Derived.Test.YtcfbkoajhllcaaaFv
set_option linter.unusedVariables false
set_option linter.unusedSimpArgs false
namespace Go.Ink
open Go Go.Proofs

theorem pss {G F : Nat → Prop} {w : World} {A : Option Addr} {c : Nat} {P : List Ps} (h : Ow kPs G F w (.slice A P.length c) P) (hF : ∀ k, ¬ F k) :
    ∃ ad : Addr, (0 < P.length → A = some ad ∧ G ad.block) ∧ ∀ u q, P[u]? = some q → ∀ j z, [Value.int .i64 q.1, .int .i64 q.2][j]? = some z → w.cell? ((ad.add (u * 2)).add j) = some z := by
  by_cases h0 : 0 < P.length
  · obtain ⟨ad, cs, rfl, -, -⟩ := h.sl.at_ (List.getElem?_eq_getElem h0)
    refine ⟨ad, fun _ => ⟨rfl, ?_⟩, fun u q hq j z hz => ?_⟩
    · obtain ⟨cells, h1, h2, h3⟩ := h
      rcases h3 with ⟨e, -⟩ | ⟨g, o, cap, cur, e, e1, hg, -⟩
      · cases e
      · cases e1; exact hg
    · obtain ⟨ad', csP, hA, ⟨cx, cy, rfl, ⟨rfl, -⟩, ⟨rfl, -⟩⟩, hcP⟩ := h.sl.at_ hq
      cases hA
      rw [add_add]
      exact hcP j z hz
  · refine ⟨⟨0, 0, none⟩, fun h => absurd h h0, fun u q hq => ?_⟩
    have := (List.getElem?_eq_some_iff.1 hq).1
    omega
end Go.Ink
