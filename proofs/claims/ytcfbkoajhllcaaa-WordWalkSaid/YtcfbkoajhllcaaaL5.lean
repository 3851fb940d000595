/-
  Plain: the beginnings of words, in order.
-/
import Derived.Test.YtcfbkoajhllcaaaL0
set_option linter.unusedVariables false
set_option linter.unusedSimpArgs false
namespace Go.Ink
open Go Go.Proofs

section
variable {f : Ps → Bool} {P : List Ps}
/-- Those of the places 1 .. t that are such. -/
def wnt (f : Ps → Bool) (P : List Ps) : Nat → List Ps
  | 0 => []
  | t + 1 => wnt f P t ++ if f (P.getD (t + 1) (0, 0)) = true then [P.getD (t + 1) (0, 0)] else []
theorem wnt_succ (f : Ps → Bool) (P : List Ps) (t : Nat) : wnt f P (t + 1) = wnt f P t ++ if f (P.getD (t + 1) (0, 0)) = true then [P.getD (t + 1) (0, 0)] else [] := rfl
theorem wnt_pre : ∀ {s t : Nat}, s ≤ t → ∃ r, wnt f P t = wnt f P s ++ r
  | s, 0, h => ⟨[], by obtain rfl : s = 0 := (by omega); rw [List.append_nil]⟩
  | s, t + 1, h => by
    by_cases e : s = t + 1
    · subst e; exact ⟨[], by simp⟩
    · obtain ⟨r, hr⟩ := wnt_pre (show s ≤ t by omega)
      exact ⟨r ++ _, by rw [wnt_succ, hr, List.append_assoc]⟩
theorem wnt_le {s t : Nat} (h : s ≤ t) : (wnt f P s).length ≤ (wnt f P t).length := by
  obtain ⟨r, hr⟩ := wnt_pre (f := f) (P := P) h
  rw [hr, List.length_append]; omega
theorem wnt_len : ∀ t, (wnt f P t).length ≤ t
  | 0 => Nat.le_refl _
  | t + 1 => by
    have := wnt_len t
    rw [wnt_succ, List.length_append]
    split <;> simp <;> omega
theorem wnt_none {s : Nat} : ∀ {t : Nat}, s ≤ t → (∀ v, s < v → v ≤ t → f (P.getD v (0, 0)) = false) → wnt f P t = wnt f P s
  | 0, h, hn => by obtain rfl : s = 0 := (by omega); rfl
  | t + 1, h, hn => by
    by_cases e : s = t + 1
    · subst e; rfl
    · rw [wnt_succ, hn (t + 1) (by omega) (by omega), wnt_none (by omega) fun v h1 h2 => hn v h1 (by omega)]
      simp
theorem wnt_some {v : Nat} (h1 : 1 ≤ v) (hf : f (P.getD v (0, 0)) = true) : wnt f P v = wnt f P (v - 1) ++ [P.getD v (0, 0)] := by
  obtain ⟨v, rfl⟩ : ∃ t, v = t + 1 := ⟨v - 1, by omega⟩
  rw [wnt_succ, if_pos hf]
  rfl
/-- Where one stands among them all. -/
theorem wnt_get {v n : Nat} (h1 : 1 ≤ v) (hv : v ≤ n) (hf : f (P.getD v (0, 0)) = true) : (wnt f P n)[(wnt f P (v - 1)).length]? = some (P.getD v (0, 0)) ∧ (wnt f P v).length = (wnt f P (v - 1)).length + 1 := by
  obtain ⟨r, hr⟩ := wnt_pre (f := f) (P := P) hv
  have e := wnt_some h1 hf
  refine ⟨?_, by rw [e]; simp⟩
  rw [hr, e]
  simp
end
section
variable {f : Ps → Bool} {l : List (List Int)} {t i : Nat} {p q : Ps}
abbrev pl (l : List (List Int)) : List Ps := placesTo l l.length
theorem pl_clip (h : (pl l)[t]? = some p) : clipM l p = p := at_clip (get_at h)
theorem seek_at {by_ : Int} (h : (pl l)[t]? = some p) (hs : SeekM f l by_ p q) : ∃ r, Sk f (pl l) by_ t r ∧ q = tellM l by_ r := by
  rcases hs with ⟨rfl, -⟩ | ⟨t', r, h1, h2, h3⟩
  · simp [placesTo] at h
  · rw [pl_clip h] at h1
    have := places_inj h h1
    subst this
    exact ⟨r, h2, h3⟩
theorem lastM_get (h0 : l ≠ []) : (pl l)[(pl l).length - 1]? = some (lastM l) ∧ 0 < (pl l).length := by
  obtain ⟨n, hn⟩ : ∃ n, l.length = n + 1 := ⟨l.length - 1, by have := List.length_pos_iff.2 h0; omega⟩
  have e : lastM l = ((n : Int), (((l.getD n []).length - 1 : Nat) : Int)) := by
    unfold lastM
    rw [if_neg h0, hn, Nat.add_sub_cancel]
  unfold pl
  rw [hn, placesTo_succ, e]
  unfold placesAt
  by_cases h1 : (l.getD n []).length = 0
  · rw [if_pos h1, h1]
    simp
  · rw [if_neg h1]
    obtain ⟨m, hm⟩ : ∃ m, (l.getD n []).length = m + 1 := ⟨(l.getD n []).length - 1, by omega⟩
    rw [hm, colsTo_succ, ← List.append_assoc, Nat.add_sub_cancel]
    exact ⟨by simp, by rw [List.length_append]; show 0 < _ + 1; omega⟩
theorem first_get (h0 : l ≠ []) : (pl l)[0]? = some (0, 0) := by
  have h1 := List.length_pos_iff.2 h0
  have hat : At l (0, 0) := by
    refine ⟨⟨Int.le_refl _, by omega⟩, ?_⟩
    by_cases h : (rowOf l (0, 0)).length = 0
    · exact .inl ⟨h, rfl⟩
    · exact .inr ⟨Int.le_refl _, by show (0 : Int) < _; omega⟩
  obtain ⟨i, k, he, hi, hk, hP⟩ := at_index hat
  obtain ⟨rfl, rfl⟩ : i = 0 ∧ k = 0 := by simp only [Prod.mk.injEq] at he; omega
  unfold pl
  rw [hP]
  simp [placesTo, colsTo]
theorem min_of {Q : Nat → Prop} (h : ∃ v, Q v) : ∃ v, Q v ∧ ∀ u, u < v → ¬ Q u := by
  obtain ⟨v, hv⟩ := h
  induction v using Nat.strongRecOn with
  | ind v ih =>
    by_cases h : ∃ u, u < v ∧ Q u
    · obtain ⟨u, h1, h2⟩ := h; exact ih u h1 h2
    · exact ⟨v, hv, fun u hu hq => h ⟨u, hu, hq⟩⟩
theorem seek_ex {l : List (List Int)} {by_ : Int} (f : Ps → Bool) (p : Ps) (h0 : l ≠ []) (hby : by_ = 1 ∨ by_ = -1) : ∃ q, SeekM f l by_ p q := by
  obtain ⟨t, ht⟩ := at_get (clip_at (p := p) h0)
  have htl := (List.getElem?_eq_some_iff.1 ht).1
  by_cases h : ∃ v, v < (placesTo l l.length).length ∧ On by_ t v ∧ f ((placesTo l l.length).getD v (0, 0)) = true
  · have : ∃ d, ∃ v, v < (placesTo l l.length).length ∧ On by_ t v ∧ f ((placesTo l l.length).getD v (0, 0)) = true ∧ d = (if t < v then v - t else t - v) := by
      obtain ⟨v, h1, h2, h3⟩ := h
      exact ⟨_, v, h1, h2, h3, rfl⟩
    obtain ⟨d, ⟨v, h1, h2, h3, h4⟩, hmin⟩ := min_of this
    refine ⟨_, .inr ⟨t, some v, ht, ⟨h1, h2, h3, fun u hu1 hu2 => ?_⟩, rfl⟩⟩
    by_cases hf : f ((placesTo l l.length).getD u (0, 0)) = true
    · exfalso
      refine hmin (if t < u then u - t else t - u) ?_ ⟨u, ?_, hu1, hf, rfl⟩
      · subst h4
        unfold On at *
        rcases hby with rfl | rfl
        · rw [if_pos (by omega), if_pos (by omega)]; omega
        · rw [if_neg (by omega), if_neg (by omega)]; omega
      · unfold On at *; omega
    · exact Bool.eq_false_iff.2 hf
  · refine ⟨_, .inr ⟨t, none, ht, fun v h1 h2 => ?_, rfl⟩⟩
    by_cases hf : f ((placesTo l l.length).getD v (0, 0)) = true
    · exact absurd ⟨v, h1, h2, hf⟩ h
    · exact Bool.eq_false_iff.2 hf
theorem at_P64 {l : List (List Int)} {q : Ps} (hl : l.length ≤ 140737488355328) (hr : ∀ j, (l.getD j []).length ≤ 140737488355328) (h : At l q) : P64 q := by
  obtain ⟨i, k, rfl, hi, hk, -⟩ := at_index h
  have := hr i
  unfold P64
  simp only
  omega
/-- On: from a place behind which i of them are not, to the i-th, or the last place. -/
theorem walk_on (h0 : l ≠ []) (h : (pl l)[t]? = some p) (hi : (wnt f (pl l) t).length = i) (hs : SeekM f l 1 p q) :
    (∃ v, (pl l)[v]? = some q ∧ (wnt f (pl l) ((pl l).length - 1))[i]? = some q ∧ (wnt f (pl l) v).length = i + 1) ∨ (i = (wnt f (pl l) ((pl l).length - 1)).length ∧ q = lastM l) := by
  obtain ⟨r, h1, h2⟩ := seek_at h hs
  have ht := (List.getElem?_eq_some_iff.1 h).1
  match r, h1 with
  | some v, h1 =>
    have hv := h1.1
    have hq : (pl l)[v]? = some q := by rw [h2]; unfold tellM; exact getD_of hv
    have hon := h1.2.1
    unfold On at hon
    have hlt : t < v := by omega
    have hno : wnt f (pl l) (v - 1) = wnt f (pl l) t := wnt_none (by omega) fun u h3 h4 => h1.2.2.2 u (.inl ⟨rfl, h3⟩) (.inl ⟨rfl, by omega⟩)
    obtain ⟨g1, g2⟩ := wnt_get (n := (pl l).length - 1) (by omega) (by omega) h1.2.2.1
    have hqd : (pl l).getD v (0, 0) = q := by rw [List.getD_eq_getElem?_getD, hq]; rfl
    rw [hno, hi, hqd] at g1
    rw [hno, hi] at g2
    exact .inl ⟨v, hq, g1, g2⟩
  | none, h1 =>
    refine .inr ⟨?_, by rw [h2]; unfold tellM; rfl⟩
    rw [← hi]
    exact congrArg List.length (wnt_none (by omega) fun v h3 h4 => h1 v (by omega) (.inl ⟨rfl, h3⟩)).symm
/-- Back: to the i-th, where i + 1 stand ahead; to the first place, where none does. -/
theorem walk_back (h0 : l ≠ []) (h : (pl l)[t]? = some p) (hi : (wnt f (pl l) (t - 1)).length = i) (hs : SeekM f l (-1) p q) :
    (∃ j v, i = j + 1 ∧ v < t ∧ (pl l)[v]? = some q ∧ (wnt f (pl l) ((pl l).length - 1))[j]? = some q ∧ (wnt f (pl l) (v - 1)).length = j) ∨ (i = 0 ∧ q = (0, 0)) := by
  obtain ⟨r, h1, h2⟩ := seek_at h hs
  have ht := (List.getElem?_eq_some_iff.1 h).1
  match r, h1 with
  | some v, h1 =>
    have hv := h1.1
    have hq : (pl l)[v]? = some q := by rw [h2]; unfold tellM; exact getD_of hv
    have hqd : (pl l).getD v (0, 0) = q := by rw [List.getD_eq_getElem?_getD, hq]; rfl
    have hon := h1.2.1
    unfold On at hon
    have hlt : v < t := by omega
    by_cases hv0 : v = 0
    · subst hv0
      have hno : wnt f (pl l) (t - 1) = wnt f (pl l) 0 := wnt_none (by omega) fun u h3 h4 => h1.2.2.2 u (.inr ⟨rfl, by omega⟩) (.inr ⟨rfl, h3⟩)
      rw [hno] at hi
      rw [first_get h0] at hq
      exact .inr ⟨hi.symm, (Option.some.inj hq).symm⟩
    · have hno : wnt f (pl l) (t - 1) = wnt f (pl l) v := wnt_none (by omega) fun u h3 h4 => h1.2.2.2 u (.inr ⟨rfl, by omega⟩) (.inr ⟨rfl, h3⟩)
      obtain ⟨g1, g2⟩ := wnt_get (n := (pl l).length - 1) (by omega) (by omega) h1.2.2.1
      rw [hno, g2] at hi
      rw [hqd] at g1
      exact .inl ⟨_, v, hi.symm, hlt, hq, g1, rfl⟩
  | none, h1 =>
    refine .inr ⟨?_, by rw [h2]; unfold tellM; rfl⟩
    have hno : wnt f (pl l) (t - 1) = wnt f (pl l) 0 := wnt_none (by omega) fun u h3 h4 => h1 u (by omega) (.inr ⟨rfl, by omega⟩)
    rw [hno] at hi
    exact hi.symm
/-- The last place: what stands ahead of it. -/
theorem walk_last (h0 : l ≠ []) : (wnt f (pl l) ((pl l).length - 1 - 1)).length = (wnt f (pl l) ((pl l).length - 1)).length ∨
    ∃ j, (wnt f (pl l) ((pl l).length - 1)).length = j + 1 ∧ (wnt f (pl l) ((pl l).length - 1))[j]? = some (lastM l) ∧ (wnt f (pl l) ((pl l).length - 1 - 1)).length = j := by
  obtain ⟨hl, hp⟩ := lastM_get h0
  by_cases h1 : (pl l).length - 1 = 0
  · rw [h1]; exact .inl rfl
  · by_cases hf : f ((pl l).getD ((pl l).length - 1) (0, 0)) = true
    · obtain ⟨g1, g2⟩ := wnt_get (f := f) (P := pl l) (n := (pl l).length - 1) (by omega) (Nat.le_refl _) hf
      rw [List.getD_eq_getElem?_getD, hl] at g1
      exact .inr ⟨_, g2, g1, rfl⟩
    · refine .inl (congrArg List.length (wnt_none (by omega) fun v h2 h3 => ?_).symm)
      obtain rfl : v = (pl l).length - 1 := by omega
      simpa using hf
/-- All but the last are elsewhere. -/
theorem wnt_lt_last (h0 : l ≠ []) {t : Nat} {q : Ps} (hv : (pl l)[t]? = some q) (hlt : t < (pl l).length - 1) : q ≠ lastM l := by
  rintro rfl
  have := places_inj hv (lastM_get h0).1
  omega
end
end Go.Ink
