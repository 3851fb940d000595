/-
  word.places: one place behind the other.
-/
import Derived.Test.YtcfbkoajhllcaaaG2
set_option linter.unusedVariables false
set_option linter.unusedSimpArgs false
namespace Go.Ink
open Go Go.Proofs

/-- The place beside one. -/
def stepM (l : List (List Int)) (by_ : Int) (q : Ps) : Option Ps :=
  if q.2 + by_ < 0 ∨ ((rowOf l q).length : Int) ≤ q.2 + by_ then
    if q.1 + by_ < 0 ∨ (l.length : Int) ≤ q.1 + by_ then none
    else some (q.1 + by_, if by_ < 0 then (if 0 < ((l.getD (q.1 + by_).toNat []).length : Int) - 1 then ((l.getD (q.1 + by_).toNat []).length : Int) - 1 else 0) else 0)
  else some (q.1, q.2 + by_)
theorem at_get {l : List (List Int)} {q : Ps} (h : At l q) : ∃ t : Nat, (placesTo l l.length)[t]? = some q := by
  obtain ⟨i, k, rfl, hi, hk, hP⟩ := at_index h
  exact ⟨(placesTo l i ++ colsTo i k).length, by rw [hP]; simp⟩
theorem get_at {l : List (List Int)} {q : Ps} {t : Nat} (h : (placesTo l l.length)[t]? = some q) : At l q := by
  have h := List.mem_of_getElem? h
  unfold placesTo at h
  obtain ⟨i, hi, hq⟩ := List.mem_flatMap.1 h
  have hil := List.mem_range.1 hi
  unfold placesAt at hq
  split at hq
  · next h0 =>
    rw [List.mem_singleton] at hq
    subst hq
    exact ⟨⟨by simp only; omega, by simp only; omega⟩, .inl ⟨by rw [rowOf_at]; exact h0, rfl⟩⟩
  · next h0 =>
    unfold colsTo at hq
    obtain ⟨k, hk, rfl⟩ := List.mem_map.1 hq
    have := List.mem_range.1 hk
    exact ⟨⟨by simp only; omega, by simp only; omega⟩, .inr (by rw [rowOf_at]; simp only; omega)⟩
theorem ahead_t {p q : Ps} : aheadM p q = true ↔ (p.1 < q.1 ∨ (p.1 = q.1 ∧ p.2 < q.2)) := by unfold aheadM; exact decide_eq_true_iff
/-- Two places with none between them. -/
theorem adj {l : List (List Int)} {a b : Ps} {t u : Nat} (h1 : (placesTo l l.length)[t]? = some a) (h2 : (placesTo l l.length)[u]? = some b) (hab : aheadM a b = true) (hno : ∀ c, At l c → aheadM a c = true → aheadM c b = true → False) : u = t + 1 := by
  rw [places_ahead h1 h2] at hab
  have hlt := of_decide_eq_true hab
  have hul := (List.getElem?_eq_some_iff.1 h2).1
  by_cases h : t + 1 < u
  case neg => omega
  exfalso
  have h3 : (placesTo l l.length)[t + 1]? = some _ := List.getElem?_eq_getElem (by omega)
  refine hno _ (get_at h3) ?_ ?_
  · rw [places_ahead h1 h3]; exact decide_eq_true (by omega)
  · rw [places_ahead h3 h2]; exact decide_eq_true (by omega)
theorem at_of {l : List (List Int)} {i k : Nat} (hi : i < l.length) (hk : (l.getD i []).length = 0 ∧ k = 0 ∨ k < (l.getD i []).length) : At l ((i : Int), (k : Int)) :=
  ⟨⟨by simp only; omega, by simp only; omega⟩, by rw [rowOf_at]; simp only; omega⟩
theorem at_col {l : List (List Int)} {c : Ps} (h : At l c) : ∃ i k : Nat, c = ((i : Int), (k : Int)) ∧ i < l.length ∧ ((l.getD i []).length = 0 ∧ k = 0 ∨ k < (l.getD i []).length) := by
  obtain ⟨i, k, h1, h2, h3, -⟩ := at_index h
  exact ⟨i, k, h1, h2, h3⟩
theorem step_fwd {l : List (List Int)} {q : Ps} {t : Nat} (h : (placesTo l l.length)[t]? = some q) :
    (stepM l 1 q = none → t + 1 = (placesTo l l.length).length) ∧ ∀ q', stepM l 1 q = some q' → (placesTo l l.length)[t + 1]? = some q' := by
  obtain ⟨i, k, rfl, hi, hk⟩ := at_col (get_at h)
  have htl := (List.getElem?_eq_some_iff.1 h).1
  unfold stepM
  rw [rowOf_at]
  simp only
  have key : ∀ q', At l q' → aheadM ((i : Int), (k : Int)) q' = true → (∀ c, At l c → aheadM ((i : Int), (k : Int)) c = true → aheadM c q' = true → False) → (placesTo l l.length)[t + 1]? = some q' := by
    intro q' ha hb hc
    obtain ⟨u, hu⟩ := at_get ha
    rw [← adj h hu hb hc]; exact hu
  split
  · next h1 =>
    split
    · next h2 =>
      refine ⟨fun _ => ?_, (fun q' hq => by cases hq)⟩
      by_cases hlt : t + 1 < (placesTo l l.length).length
      case neg => omega
      exfalso
      have h3 : (placesTo l l.length)[t + 1]? = some _ := List.getElem?_eq_getElem hlt
      obtain ⟨i', k', he, hi', hk'⟩ := at_col (get_at h3)
      have ha := places_ahead h h3
      rw [decide_eq_true (by omega), he] at ha
      have ha := ahead_t.1 ha
      simp only at ha
      have : i' = i := by omega
      subst this
      omega
    · next h2 =>
      refine ⟨fun hq => by (split at hq <;> cases hq), fun q' hq => ?_⟩
      rw [if_neg (by decide)] at hq
      cases hq
      have e : (i : Int) + 1 = ((i + 1 : Nat) : Int) := by omega
      rw [e]
      refine key _ (at_of (k := 0) (by omega) (by omega)) (ahead_t.2 (.inl (by simp only; omega))) ?_
      intro c hc h4 h5
      obtain ⟨i', k', rfl, hi', hk'⟩ := at_col hc
      have h4 := ahead_t.1 h4
      have h5 := ahead_t.1 h5
      simp only at h4 h5
      have : i' = i := by omega
      subst this
      omega
  · next h1 =>
    refine ⟨(fun hq => by cases hq), fun q' hq => ?_⟩
    cases hq
    have e : (k : Int) + 1 = ((k + 1 : Nat) : Int) := by omega
    rw [e]
    refine key _ (at_of hi (by omega)) (ahead_t.2 (.inr ⟨rfl, by simp only; omega⟩)) ?_
    intro c hc h4 h5
    have h4 := ahead_t.1 h4
    have h5 := ahead_t.1 h5
    simp only at h4 h5
    omega
theorem step_bwd {l : List (List Int)} {q : Ps} {t : Nat} (h : (placesTo l l.length)[t]? = some q) :
    (stepM l (-1) q = none → t = 0) ∧ ∀ q', stepM l (-1) q = some q' → ∃ u, t = u + 1 ∧ (placesTo l l.length)[u]? = some q' := by
  obtain ⟨i, k, rfl, hi, hk⟩ := at_col (get_at h)
  have htl := (List.getElem?_eq_some_iff.1 h).1
  unfold stepM
  rw [rowOf_at]
  simp only
  have key : ∀ q', At l q' → aheadM q' ((i : Int), (k : Int)) = true → (∀ c, At l c → aheadM q' c = true → aheadM c ((i : Int), (k : Int)) = true → False) → ∃ u, t = u + 1 ∧ (placesTo l l.length)[u]? = some q' := by
    intro q' ha hb hc
    obtain ⟨u, hu⟩ := at_get ha
    exact ⟨u, adj hu h hb hc, hu⟩
  split
  · next h1 =>
    split
    · next h2 =>
      refine ⟨fun _ => ?_, (fun q' hq => by cases hq)⟩
      by_cases hlt : 0 < t
      case neg => omega
      exfalso
      have h3 : (placesTo l l.length)[t - 1]? = some _ := List.getElem?_eq_getElem (by omega)
      obtain ⟨i', k', he, hi', hk'⟩ := at_col (get_at h3)
      have ha := places_ahead h3 h
      rw [decide_eq_true (by omega), he] at ha
      have ha := ahead_t.1 ha
      simp only at ha
      have : i' = i := by omega
      subst this
      omega
    · next h2 =>
      refine ⟨fun hq => by (split at hq <;> cases hq), fun q' hq => ?_⟩
      rw [if_pos (by decide)] at hq
      obtain ⟨j, hj⟩ : ∃ j : Nat, (i : Int) + -1 = j := ⟨((i : Int) + -1).toNat, by omega⟩
      rw [hj, Int.toNat_natCast] at hq
      cases hq
      obtain ⟨m, hm⟩ : ∃ m : Nat, (if 0 < ((l.getD j []).length : Int) - 1 then ((l.getD j []).length : Int) - 1 else 0) = m ∧ ((l.getD j []).length = 0 ∧ m = 0 ∨ m + 1 = (l.getD j []).length) := by
        refine ⟨(l.getD j []).length - 1, ?_, by omega⟩
        split <;> omega
      rw [hm.1]
      refine key _ (at_of (by omega) (by omega)) (ahead_t.2 (.inl (by simp only; omega))) ?_
      intro c hc h4 h5
      obtain ⟨i', k', rfl, hi', hk'⟩ := at_col hc
      have h4 := ahead_t.1 h4
      have h5 := ahead_t.1 h5
      simp only at h4 h5
      have : i' = j := by omega
      subst this
      omega
  · next h1 =>
    refine ⟨(fun hq => by cases hq), fun q' hq => ?_⟩
    cases hq
    obtain ⟨m, hm⟩ : ∃ m : Nat, (k : Int) + -1 = m := ⟨((k : Int) + -1).toNat, by omega⟩
    rw [hm]
    refine key _ (at_of hi (by omega)) (ahead_t.2 (.inr ⟨rfl, by simp only; omega⟩)) ?_
    intro c hc h4 h5
    have h4 := ahead_t.1 h4
    have h5 := ahead_t.1 h5
    simp only at h4 h5
    omega
end Go.Ink
