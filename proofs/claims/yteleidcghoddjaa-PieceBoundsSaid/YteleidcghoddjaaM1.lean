/-
  A row of runes in pieces, in plain words.
-/
import Derived.Test.YteleidcghoddjaaLst
set_option linter.unusedVariables false
namespace Go.Ink
abbrev Span := Int × Int
structure Tab where
  store : List Int
  row : List Span
  saved : List (List Span)
/-- What a piece tells. -/
def spanOf (st : List Int) (s : Span) : List Int := (st.drop s.1.toNat).take s.2.toNat
def flat (st : List Int) (row : List Span) : List Int := (row.map (spanOf st)).flatten
def tot (row : List Span) : Int := (row.map (·.2)).sum
/-- Every piece is one, and lies in the store. -/
def SpOK (st : List Int) (row : List Span) : Prop := ∀ s ∈ row, 0 ≤ s.1 ∧ 0 < s.2 ∧ s.1 + s.2 ≤ st.length
theorem tot_nil : tot [] = 0 := rfl
theorem tot_cons (s : Span) (r : List Span) : tot (s :: r) = s.2 + tot r := by simp [tot]
theorem tot_append (a b : List Span) : tot (a ++ b) = tot a + tot b := by simp [tot]
theorem flat_append (st : List Int) (a b : List Span) : flat st (a ++ b) = flat st a ++ flat st b := by simp [flat]
theorem flat_cons (st : List Int) (s : Span) (r : List Span) : flat st (s :: r) = spanOf st s ++ flat st r := by simp [flat]
theorem span_len {st : List Int} {s : Span} (h : 0 ≤ s.1 ∧ 0 < s.2 ∧ s.1 + s.2 ≤ st.length) : ((spanOf st s).length : Int) = s.2 := by
  unfold spanOf
  rw [List.length_take, List.length_drop]
  omega
theorem flat_len {st : List Int} : ∀ {row : List Span}, SpOK st row → ((flat st row).length : Int) = tot row
  | [], _ => by simp [flat, tot]
  | s :: r, h => by
    rw [flat_cons, List.length_append, tot_cons]
    have h1 := span_len (h s (by simp))
    have h2 := flat_len (row := r) (fun x hx => h x (List.mem_cons_of_mem _ hx))
    omega
theorem SpOK.append {st : List Int} {a b : List Span} (h : SpOK st a) (k : SpOK st b) : SpOK st (a ++ b) := fun s hs => (List.mem_append.1 hs).elim (h s) (k s)
theorem SpOK.left {st : List Int} {a b : List Span} (h : SpOK st (a ++ b)) : SpOK st a := fun s hs => h s (List.mem_append.2 (.inl hs))
theorem SpOK.right {st : List Int} {a b : List Span} (h : SpOK st (a ++ b)) : SpOK st b := fun s hs => h s (List.mem_append.2 (.inr hs))
theorem SpOK.tot_nonneg {st : List Int} {a : List Span} (h : SpOK st a) : 0 ≤ tot a := by
  have := flat_len h; omega
/-- The store grows: what was told is told still. -/
theorem SpOK.grow {st more : List Int} {row : List Span} (h : SpOK st row) : SpOK (st ++ more) row := fun s hs => by
  have := h s hs
  rw [List.length_append]
  omega
theorem flat_grow {st more : List Int} : ∀ {row : List Span}, SpOK st row → flat (st ++ more) row = flat st row
  | [], _ => rfl
  | s :: r, h => by
    have h1 := h s (by simp)
    rw [flat_cons, flat_cons, flat_grow (fun x hx => h x (List.mem_cons_of_mem _ hx))]
    congr 1
    unfold spanOf
    rw [List.drop_append_of_le_length (by omega), List.take_append_of_le_length (by rw [List.length_drop]; omega)]
/-- A border of pieces. -/
def cutM : List Span → Int → List Span × Nat
  | [], _ => ([], 0)
  | s :: r, at_ => if at_ = 0 then (s :: r, 0) else if at_ < s.2 then ((s.1, at_) :: (s.1 + at_, s.2 - at_) :: r, 1) else (s :: (cutM r (at_ - s.2)).1, (cutM r (at_ - s.2)).2 + 1)
theorem cutM_le : ∀ (row : List Span) (at_ : Int), (cutM row at_).2 ≤ (cutM row at_).1.length ∧ row.length ≤ (cutM row at_).1.length ∧ (cutM row at_).1.length ≤ row.length + 1
  | [], _ => by simp [cutM]
  | s :: r, at_ => by
    unfold cutM
    split
    · simp
    · split
      · simp
      · have := cutM_le r (at_ - s.2)
        simp
        omega
theorem cut_ok {st : List Int} : ∀ {row : List Span} {at_ : Int}, SpOK st row → 0 ≤ at_ → SpOK st (cutM row at_).1
  | [], _, h, _ => h
  | s :: r, at_, h, h0 => by
    have h1 := h s (by simp)
    unfold cutM
    split
    · exact h
    · split
      · intro x hx
        simp only [List.mem_cons] at hx
        rcases hx with rfl | rfl | hx
        · exact ⟨h1.1, by simp only; omega, by simp only; omega⟩
        · exact ⟨by simp only; omega, by simp only; omega, by simp only; omega⟩
        · exact h x (List.mem_cons_of_mem _ hx)
      · intro x hx
        simp only [List.mem_cons] at hx
        rcases hx with rfl | hx
        · exact h1
        · exact cut_ok (fun y hy => h y (List.mem_cons_of_mem _ hy)) (by omega) x hx
theorem span_cut {st : List Int} {s : Span} {k : Int} (h0 : 0 ≤ s.1) (h1 : 0 ≤ k) (h2 : k ≤ s.2) : spanOf st (s.1, k) ++ spanOf st (s.1 + k, s.2 - k) = spanOf st s := by
  unfold spanOf
  simp only
  have e1 : (s.1 + k).toNat = s.1.toNat + k.toNat := by omega
  have e2 : s.2.toNat = k.toNat + (s.2 - k).toNat := by omega
  rw [e1, e2, ← List.drop_drop, List.take_add]
theorem cut_flat {st : List Int} : ∀ {row : List Span} {at_ : Int}, SpOK st row → 0 ≤ at_ → at_ ≤ tot row → flat st (cutM row at_).1 = flat st row ∧ flat st ((cutM row at_).1.take (cutM row at_).2) = (flat st row).take at_.toNat
  | [], at_, h, h0, hle => by simp [cutM, flat]
  | s :: r, at_, h, h0, hle => by
    have h1 := h s (by simp)
    have hr : SpOK st r := fun y hy => h y (List.mem_cons_of_mem _ hy)
    have hl := span_len h1
    unfold cutM
    split
    · next h2 => subst h2; simp [flat]
    · split
      · next h3 =>
        have hc := span_cut (st := st) (s := s) (k := at_) h1.1 h0 (by omega)
        simp only [flat_cons, List.take_succ_cons, List.take_zero]
        refine ⟨by rw [← List.append_assoc, hc], ?_⟩
        rw [List.take_append_of_le_length (by omega), ← hc]
        have hl2 : ((spanOf st (s.1, at_)).length : Int) = at_ := span_len ⟨h1.1, by simp only; omega, by simp only; omega⟩
        rw [List.take_append_of_le_length (by omega), List.take_of_length_le (by omega)]
        simp [flat]
      · rw [tot_cons] at hle
        obtain ⟨h4, h5⟩ := cut_flat (row := r) (at_ := at_ - s.2) hr (by omega) (by omega)
        simp only [flat_cons, List.take_succ_cons, h4, h5]
        refine ⟨trivial, ?_⟩
        rw [List.take_append]
        congr 1
        · rw [List.take_of_length_le (by omega)]
        · congr 1; omega
end Go.Ink
