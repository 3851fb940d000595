/-
  The table and the document's table: the same deeds, the same answers.
-/
import Derived.Test.YteleidcghoddjaaF9
set_option linter.unusedVariables false
set_option linter.unusedSimpArgs false
namespace Go.Ink
structure Rel (T : Tab) (L : List Int) (S : List (List Int)) : Prop where
  fl : flat T.store T.row = L
  fs : T.saved.map (flat T.store) = S
  st : ∀ r ∈ T.saved, tot r ≤ 65536
section
variable {T : Tab} {L xs : List Int} {S : List (List Int)} {a n id : Int}
theorem Rel.len (h : Rel T L S) (ok : SpOK T.store T.row) : (L.length : Int) = tot T.row := by rw [← h.fl]; exact flat_len ok
theorem Rel.slen (h : Rel T L S) : S.length = T.saved.length := by rw [← h.fs]; simp
theorem rel_ins (h : Rel T L S) (ok : SpOK T.store T.row) (oks : ∀ r ∈ T.saved, SpOK T.store r) : Rel (insM T a xs).1 (rinsM L a xs).1 S ∧ (insM T a xs).2 = (rinsM L a xs).2 ∧ (insM T a xs).1.store.length ≤ T.store.length + xs.length ∧ (insM T a xs).1.saved = T.saved := by
  have hl := h.len ok
  by_cases h1 : a < 0 ∨ tot T.row < a
  · rw [ins_bad h1]
    unfold rinsM
    rw [if_pos (by omega)]
    exact ⟨h, rfl, by simp, rfl⟩
  · by_cases h2 : 65536 - tot T.row < xs.length
    · rw [ins_full (by omega) (by omega) h2]
      unfold rinsM
      rw [if_neg (by omega), if_pos (by omega)]
      exact ⟨h, rfl, by simp, rfl⟩
    · obtain ⟨g1, g2, g3, g4, g5, g6, g7⟩ := ins_flat ok (show 0 ≤ a by omega) (show a ≤ tot T.row by omega) h2
      have e : rinsM L a xs = (L.take a.toNat ++ xs ++ L.drop a.toNat, 0) := by unfold rinsM; rw [if_neg (by omega), if_neg (by omega)]
      rw [e]
      refine ⟨⟨by rw [g4, h.fl], ?_, by rw [g2]; exact h.st⟩, g1, by omega, g2⟩
      rw [g2, ← h.fs]
      exact List.map_congr_left fun r hr => g3 r (oks r hr)
theorem rfit_iff (h : Rel T L S) (ok : SpOK T.store T.row) : rfitM L a n ↔ 0 ≤ a ∧ 0 ≤ n ∧ a + n ≤ tot T.row := by
  have hl := h.len ok
  unfold rfitM
  omega
theorem rel_del (h : Rel T L S) (ok : SpOK T.store T.row) : Rel (delM T a n).1 (rdelM L a n).1 S ∧ (delM T a n).2 = (rdelM L a n).2 ∧ (delM T a n).1.store = T.store ∧ (delM T a n).1.saved = T.saved := by
  unfold rdelM
  by_cases h1 : rfitM L a n
  · rw [if_pos h1]
    rw [rfit_iff h ok] at h1
    obtain ⟨g1, g2, g3, g4, g5, g6⟩ := del_flat ok h1.1 h1.2.1 h1.2.2
    refine ⟨⟨by rw [g3, g4, h.fl], by rw [g2, g3]; exact h.fs, by rw [g2]; exact h.st⟩, g1, g3, g2⟩
  · rw [if_neg h1]
    rw [rfit_iff h ok] at h1
    rw [del_bad h1]
    exact ⟨h, rfl, rfl, rfl⟩
theorem rel_slice (h : Rel T L S) (ok : SpOK T.store T.row) : sliceM T a n = rsliceM L a n := by
  unfold sliceM rsliceM
  by_cases h1 : rfitM L a n
  · rw [if_pos h1, if_pos (fit_zero.2 ((rfit_iff h ok).1 h1)), h.fl]
  · rw [if_neg h1, if_neg fun hf => h1 ((rfit_iff h ok).2 (fit_zero.1 hf))]
theorem rel_save (h : Rel T L S) (ht : tot T.row ≤ 65536) : Rel (saveM T).1 L (S ++ [L]) ∧ (saveM T).2 = S.length + 1 := by
  refine ⟨⟨h.fl, ?_, ?_⟩, by rw [h.slen]; rfl⟩
  · show (T.saved ++ [T.row]).map (flat T.store) = _
    rw [List.map_append, h.fs]
    simp [h.fl]
  · intro r hr
    rcases List.mem_append.1 hr with hr | hr
    · exact h.st r hr
    · obtain rfl : r = T.row := by simpa using hr
      exact ht
theorem rel_back (h : Rel T L S) : Rel (backM T id).1 (rbackM L S id).1 S ∧ (backM T id).2 = (rbackM L S id).2 ∧ (backM T id).1.store = T.store ∧ (backM T id).1.saved = T.saved := by
  unfold backM rbackM
  rw [h.slen]
  by_cases h1 : id < 1 ∨ T.saved.length < id
  · rw [if_pos h1, if_pos h1]
    exact ⟨h, rfl, rfl, rfl⟩
  · rw [if_neg h1, if_neg h1]
    refine ⟨⟨?_, h.fs, h.st⟩, rfl, rfl, rfl⟩
    have hj : (id - 1).toNat < T.saved.length := by omega
    show flat T.store (T.saved.getD (id - 1).toNat []) = S.getD (id - 1).toNat []
    rw [← h.fs, List.getD_eq_getElem?_getD, List.getD_eq_getElem?_getD, List.getElem?_map, List.getElem?_eq_getElem hj]
    rfl
theorem ins_keeps (ok : SpOK T.store T.row) : (insM T a xs).1.store.length ≤ T.store.length + xs.length ∧ (insM T a xs).1.saved = T.saved ∧ ∀ r, SpOK T.store r → flat (insM T a xs).1.store r = flat T.store r := by
  by_cases h1 : a < 0 ∨ tot T.row < a
  · rw [ins_bad h1]; exact ⟨by simp, rfl, fun _ _ => rfl⟩
  · by_cases h2 : 65536 - tot T.row < xs.length
    · rw [ins_full (by omega) (by omega) h2]; exact ⟨by simp, rfl, fun _ _ => rfl⟩
    · obtain ⟨g1, g2, g3, g4, g5, g6, g7⟩ := ins_flat ok (show 0 ≤ a by omega) (show a ≤ tot T.row by omega) h2
      exact ⟨by omega, g2, g3⟩
theorem del_keeps : (delM T a n).1.store = T.store ∧ (delM T a n).1.saved = T.saved := by
  unfold delM
  split
  · exact ⟨rfl, rfl⟩
  · split <;> exact ⟨rfl, rfl⟩
theorem back_keeps : (backM T id).1.store = T.store ∧ (backM T id).1.saved = T.saved := by
  unfold backM
  split <;> exact ⟨rfl, rfl⟩
end
end Go.Ink
