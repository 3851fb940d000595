/-
  What deeds on a table do to what it tells.
-/
import Derived.Test.YteleidcghoddjaaF4
set_option linter.unusedVariables false
set_option linter.unusedSimpArgs false
namespace Go.Ink
theorem cutM_take {st : List Int} : ∀ {row : List Span} {b : Int} {i : Nat}, SpOK st row → i ≤ row.length → tot (row.take i) ≤ b → (cutM row b).1.take i = row.take i ∧ i ≤ (cutM row b).2
  | row, b, 0, _, _, _ => by simp
  | [], b, i + 1, _, h, _ => by simp at h
  | s :: r, b, i + 1, h, hi, hb => by
    rw [List.take_succ_cons, tot_cons] at hb
    have h1 := h s (by simp)
    have hr : SpOK st r := fun y hy => h y (List.mem_cons_of_mem _ hy)
    have h2 : 0 ≤ tot (r.take i) := SpOK.tot_nonneg (st := st) fun y hy => hr y (List.mem_of_mem_take hy)
    have ih := cutM_take (b := b - s.2) (i := i) hr (by simpa using hi) (by omega)
    unfold cutM
    rw [if_neg (by omega), if_neg (by omega)]
    simp only [List.take_succ_cons, ih.1, true_and]
    omega
section
variable {st : List Int} {row : List Span} {a : Int}
theorem cut_drop (h : SpOK st row) (h0 : 0 ≤ a) (h1 : a ≤ tot row) : flat st ((cutM row a).1.drop (cutM row a).2) = (flat st row).drop a.toNat := by
  obtain ⟨h2, h3⟩ := cut_flat h h0 h1
  have h4 := flat_append st ((cutM row a).1.take (cutM row a).2) ((cutM row a).1.drop (cutM row a).2)
  rw [List.take_append_drop, h2, h3] at h4
  have h5 := List.take_append_drop a.toNat (flat st row)
  exact (List.append_cancel_left (h5.trans h4)).symm
theorem cut_tot (h : SpOK st row) (h0 : 0 ≤ a) (h1 : a ≤ tot row) : tot ((cutM row a).1.take (cutM row a).2) = a := by
  have h2 := flat_len (st := st) (row := (cutM row a).1.take (cutM row a).2) fun y hy => cut_ok (at_ := a) h h0 y (List.mem_of_mem_take hy)
  rw [(cut_flat h h0 h1).2, List.length_take] at h2
  have h3 := flat_len h
  omega
end
theorem span_new (st xs : List Int) : spanOf (st ++ xs) ((st.length : Int), (xs.length : Int)) = xs := by
  unfold spanOf
  simp
section
variable {T : Tab} {a n : Int} {xs : List Int}
theorem ins_flat (h : SpOK T.store T.row) (h0 : 0 ≤ a) (h1 : a ≤ tot T.row) (h2 : ¬ 65536 - tot T.row < xs.length) :
    (insM T a xs).2 = 0 ∧ (insM T a xs).1.saved = T.saved ∧ (∀ r, SpOK T.store r → flat (insM T a xs).1.store r = flat T.store r) ∧ flat (insM T a xs).1.store (insM T a xs).1.row = (flat T.store T.row).take a.toNat ++ xs ++ (flat T.store T.row).drop a.toNat ∧
    (insM T a xs).1.row.length ≤ T.row.length + 2 ∧ tot (insM T a xs).1.row = tot T.row + xs.length ∧ (insM T a xs).1.store.length = T.store.length + xs.length := by
  unfold insM
  rw [if_neg (by omega), if_neg h2]
  split
  · next hx => subst hx; simp
  · obtain ⟨c1, c2, c3⟩ := cutM_le T.row a
    have hok := cut_ok (at_ := a) h h0
    refine ⟨rfl, rfl, fun r hr => flat_grow hr, ?_, ?_, ?_, ?_⟩
    · simp only [flat_append]
      rw [flat_grow fun y hy => hok y (List.mem_of_mem_take hy), flat_grow fun y hy => hok y (List.mem_of_mem_drop hy), (cut_flat h h0 h1).2, cut_drop h h0 h1]
      simp [flat, span_new]
    · simp only [List.length_append, List.length_take, List.length_drop, List.length_singleton]
      omega
    · have h3 := tot_append ((cutM T.row a).1.take (cutM T.row a).2) ((cutM T.row a).1.drop (cutM T.row a).2)
      rw [List.take_append_drop, tot_cutM h h0 h1] at h3
      simp only [tot_append, tot_cons, tot_nil]
      omega
    · simp
theorem ins_bad (h0 : a < 0 ∨ tot T.row < a) : insM T a xs = (T, 2) := by unfold insM; rw [if_pos h0]
theorem ins_full (h0 : 0 ≤ a) (h1 : a ≤ tot T.row) (h2 : 65536 - tot T.row < xs.length) : insM T a xs = (T, 3) := by unfold insM; rw [if_neg (by omega), if_pos h2]
theorem fit_zero : fitM T a n = 0 ↔ 0 ≤ a ∧ 0 ≤ n ∧ a + n ≤ tot T.row := by
  unfold fitM
  split
  · simp; omega
  · simp; omega
theorem del_flat (h : SpOK T.store T.row) (h0 : 0 ≤ a) (hn : 0 ≤ n) (h1 : a + n ≤ tot T.row) :
    (delM T a n).2 = 0 ∧ (delM T a n).1.saved = T.saved ∧ (delM T a n).1.store = T.store ∧ flat T.store (delM T a n).1.row = (flat T.store T.row).take a.toNat ++ (flat T.store T.row).drop (a + n).toNat ∧
    (delM T a n).1.row.length ≤ T.row.length + 2 ∧ tot (delM T a n).1.row = tot T.row - n := by
  have hf : fitM T a n = 0 := fit_zero.2 ⟨h0, hn, h1⟩
  unfold delM
  rw [hf, if_neg (by simp)]
  split
  · next hx => subst hx; simp
  · have hok := cut_ok (at_ := a) h h0
    have t1 := tot_cutM h h0 (show a ≤ tot T.row by omega)
    have hok2 := cut_ok (at_ := a + n) hok (by omega)
    have ct := cut_tot h h0 (show a ≤ tot T.row by omega)
    obtain ⟨c1, c2, c3⟩ := cutM_le T.row a
    obtain ⟨d1, d2, d3⟩ := cutM_le (cutM T.row a).1 (a + n)
    obtain ⟨e1, e2⟩ := cutM_take (b := a + n) (i := (cutM T.row a).2) hok c1 (by omega)
    have f1 := cut_drop hok (show 0 ≤ a + n by omega) (by omega)
    have f2 := (cut_flat h h0 (show a ≤ tot T.row by omega))
    have hfl : flat T.store ((cutM (cutM T.row a).1 (a + n)).1.take (cutM T.row a).2 ++ (cutM (cutM T.row a).1 (a + n)).1.drop (cutM (cutM T.row a).1 (a + n)).2) = (flat T.store T.row).take a.toNat ++ (flat T.store T.row).drop (a + n).toNat := by
      rw [flat_append, f1, e1, f2.1, f2.2]
    refine ⟨rfl, rfl, rfl, hfl, ?_, ?_⟩
    · simp only [List.length_append, List.length_take, List.length_drop]
      omega
    · have g1 := flat_len (st := T.store) (row := (cutM (cutM T.row a).1 (a + n)).1.take (cutM T.row a).2 ++ (cutM (cutM T.row a).1 (a + n)).1.drop (cutM (cutM T.row a).1 (a + n)).2) (SpOK.append (fun y hy => hok2 y (List.mem_of_mem_take hy)) fun y hy => hok2 y (List.mem_of_mem_drop hy))
      rw [hfl, List.length_append, List.length_take, List.length_drop] at g1
      have g2 := flat_len h
      show tot ((cutM (cutM T.row a).1 (a + n)).1.take (cutM T.row a).2 ++ (cutM (cutM T.row a).1 (a + n)).1.drop (cutM (cutM T.row a).1 (a + n)).2) = _
      omega
theorem del_bad (h0 : ¬ (0 ≤ a ∧ 0 ≤ n ∧ a + n ≤ tot T.row)) : delM T a n = (T, 2) := by
  have hf : fitM T a n ≠ 0 := fun h => h0 (fit_zero.1 h)
  have hf2 : fitM T a n = 2 := by unfold fitM at hf ⊢; split at hf <;> simp_all
  unfold delM
  rw [if_pos hf, hf2]
end
end Go.Ink
