/-
  Plain: places, blocks.
-/
import Derived.Test.YtabmggnljijhkaaF12
set_option linter.unusedVariables false
set_option linter.unusedSimpArgs false
namespace Go.Ink
open Go Go.Proofs

theorem rd_same {P : Program} {t : TypeId} {α : Type} {d : Kd α} {b : Nat} {hb : 0 < b} (h : RdT P t (kIso d id b hb)) (hb' : d.bytes = b) : RdT P t d := ⟨h.rd, h.sz, h.by_.trans hb'.symm⟩
instance : StrucT Try.prog 24 [3, 3] := ⟨by kernel_rfl, by kernel_rfl⟩
instance : RdT Try.prog 24 kPs := rd_same (b := 16) (hb := by decide) (rd_struct (g := id) inferInstance inferInstance (fun _ => rfl) (by kernel_rfl) (by kernel_rfl)) rfl
theorem ps_form {F : Nat → Prop} {w : World} {p : Ps} {cs : List Value} (h : kPs.R F w p cs) : cs = [.int .i64 p.1, .int .i64 p.2] ∧ P64 p := by
  obtain ⟨c1, c2, rfl, ⟨rfl, h1⟩, ⟨rfl, h2⟩⟩ := h
  exact ⟨rfl, h1, h2⟩
/-- A cursor's place. -/
structure At (l : List (List Int)) (q : Ps) : Prop where
  i : 0 ≤ q.1 ∧ q.1 < l.length
  k : (rowOf l q).length = 0 ∧ q.2 = 0 ∨ 0 ≤ q.2 ∧ q.2 < (rowOf l q).length
theorem clip_at {l : List (List Int)} {p : Ps} (h0 : l ≠ []) : At l (clipM l p) := by
  obtain ⟨h1, h2⟩ := lineOf_lt (p := p) h0
  have e1 : (clipM l p).1 = lineOf l p := by unfold clipM; rw [if_neg h0]
  have e2 : (clipM l p).2 = if (l.getD (lineOf l p) []).length = 0 then 0 else clampI p.2 (l.getD (lineOf l p) []).length := by unfold clipM; rw [if_neg h0]
  have e3 : rowOf l (clipM l p) = l.getD (lineOf l p) [] := by unfold rowOf; rw [e1, Int.toNat_natCast]
  refine ⟨by rw [e1]; omega, ?_⟩
  rw [e2, e3]
  unfold clampI
  split
  · exact .inl ⟨by assumption, rfl⟩
  · refine .inr ?_
    split <;> (try split) <;> omega
theorem at_clip {l : List (List Int)} {q : Ps} (h : At l q) : clipM l q = q := by
  have h0 : l ≠ [] := by rintro rfl; have := h.i; simp at this; omega
  have hi := h.i
  have e0 : lineOf l q = q.1.toNat := by unfold lineOf clampI; rw [if_neg (by omega), if_neg (by omega)]
  unfold clipM
  rw [if_neg h0, e0]
  have hk := h.k
  unfold rowOf at hk
  apply Prod.ext
  · show ((q.1.toNat : Nat) : Int) = q.1; omega
  · show (if (l.getD q.1.toNat []).length = 0 then (0 : Int) else clampI q.2 (l.getD q.1.toNat []).length) = q.2
    unfold clampI
    rcases hk with ⟨h1, h2⟩ | ⟨h1, h2⟩
    · rw [if_pos h1, h2]
    · rw [if_neg (by omega), if_neg (by omega), if_neg (by omega)]
theorem downM_emp {l : List (List Int)} : ∀ i j, downM l i ≤ j → j ≤ i → emptyAt l j = emptyAt l i
  | 0, j, h1, h2 => by rw [show j = 0 by omega]
  | i + 1, j, h1, h2 => by
    unfold downM at h1
    split at h1
    · next he =>
      by_cases hj : j = i + 1
      · rw [hj]
      · rw [downM_emp i j h1 (by omega), he]
    · rw [show j = i + 1 by omega]
theorem downM_stop {l : List (List Int)} : ∀ i, downM l i = 0 ∨ emptyAt l (downM l i - 1) ≠ emptyAt l i
  | 0 => .inl rfl
  | i + 1 => by
    unfold downM
    split
    · next he =>
      rcases downM_stop (l := l) i with h | h
      · exact .inl h
      · exact .inr (by rw [← he]; exact h)
    · next he => exact .inr (by rw [Nat.add_sub_cancel]; exact he)
theorem upM_emp {l : List (List Int)} : ∀ n i j, i ≤ j → j ≤ upM l n i → emptyAt l j = emptyAt l i
  | 0, i, j, h1, h2 => by unfold upM at h2; rw [show j = i by omega]
  | n + 1, i, j, h1, h2 => by
    unfold upM at h2
    split at h2
    · next hc =>
      by_cases hj : j = i
      · rw [hj]
      · rw [upM_emp n (i + 1) j (by omega) h2]; exact hc.2
    · rw [show j = i by omega]
theorem upM_stop {l : List (List Int)} : ∀ n i, i < l.length → l.length ≤ i + n → upM l n i + 1 = l.length ∨ emptyAt l (upM l n i + 1) ≠ emptyAt l i
  | 0, i, h1, h2 => by omega
  | n + 1, i, h1, h2 => by
    unfold upM
    split
    · next hc =>
      rcases upM_stop n (i + 1) hc.1 (by omega) with h | h
      · exact .inl h
      · exact .inr (by rw [← hc.2]; exact h)
    · next hc =>
      by_cases hl : i + 1 < l.length
      · exact .inr fun he => hc ⟨hl, he⟩
      · exact .inl (by omega)
end Go.Ink
