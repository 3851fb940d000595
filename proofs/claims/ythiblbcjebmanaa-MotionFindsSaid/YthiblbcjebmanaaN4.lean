/-
  Plain: f there, F back.
-/
import Derived.Test.YthiblbcjebmanaaMC
set_option linter.unusedVariables false
set_option linter.unusedSimpArgs false
namespace Go.Ink
open Go Go.Proofs

theorem cntU_cum (x : List Int) (r : Int) (a : Nat) : ∀ n, cntU x r a n + cntU x r 0 a = cntU x r 0 (a + n)
  | 0 => by show 0 + _ = cntU x r 0 a; omega
  | n + 1 => by
    have := cntU_cum x r a n
    rw [cntU_succ, ← Nat.add_assoc, cntU_succ, Nat.zero_add]
    omega
theorem cntD_cum (x : List Int) (r : Int) (b : Nat) : ∀ n, n ≤ b → cntD x r b n + cntU x r 0 (b - n) = cntU x r 0 b
  | 0, h => by show 0 + _ = _; rw [Nat.sub_zero]; omega
  | n + 1, h => by
    have := cntD_cum x r b n (by omega)
    rw [cntD_succ]
    have e : b - n = (b - (n + 1)) + 1 := by omega
    rw [e, cntU_succ, Nat.zero_add] at this
    rw [show b - 1 - n = b - (n + 1) by omega]
    omega
theorem cum_mono (x : List Int) (r : Int) {a b : Nat} (h : a ≤ b) : cntU x r 0 a ≤ cntU x r 0 b := by
  have := cntU_cum x r a (b - a)
  rw [show a + (b - a) = b by omega] at this
  omega
theorem cum_at (x : List Int) (r : Int) {a : Nat} (h : x.getD a 0 = r) : cntU x r 0 (a + 1) = cntU x r 0 a + 1 := by
  rw [cntU_succ, Nat.zero_add, if_pos h]
section
variable {x : List Int} {i : Int} {k j : Nat} {r n : Int} {res : Ps × Int × Bool}
/-- t, where f led to j. -/
theorem find_t (hk : k < j) (hj : j < x.length) (hr : x.getD j 0 = r) (hn : (cntU x r (k + 1) (j - k) : Int) = n) (h : FindM x (i, (k : Int)) r n 1 1 (-1) res) : res = ((i, (j : Int) - 1), 1, true) := by
  have c0 := cntU_cum x r (k + 1) (j - k)
  rw [show k + 1 + (j - k) = j + 1 by omega] at c0
  have c1 := cum_at x r hr
  cases h with
  | up j' h1 h2 h3 h4 h5 =>
    simp only [Int.toNat_natCast] at h2 h5
    have d0 := cntU_cum x r (k + 1) (j' - k)
    rw [show k + 1 + (j' - k) = j' + 1 by omega] at d0
    have d1 := cum_at x r h4
    have : j' = j := by
      rcases Nat.lt_trichotomy j' j with hlt | he | hlt
      · have := cum_mono x r (show j' + 1 ≤ j by omega); omega
      · exact he
      · have := cum_mono x r (show j + 1 ≤ j' by omega); omega
    subst this
    rfl
  | noUp h1 h2 =>
    simp only [Int.toNat_natCast] at h2
    have d0 := cntU_cum x r (k + 1) (x.length - (k + 1))
    rw [show k + 1 + (x.length - (k + 1)) = x.length by omega] at d0
    have := cum_mono x r (show j + 1 ≤ x.length by omega)
    omega
  | down j' h1 => omega
  | noDown h1 => omega
/-- F, from where f led. -/
theorem find_F (hk : k < j) (hj : j < x.length) (hr : x.getD j 0 = r) (hkr : x.getD k 0 = r) (hn : (cntU x r (k + 1) (j - k) : Int) = n) (h : FindM x (i, (j : Int)) r n (-1) 0 0 res) : res = ((i, (k : Int)), 0, true) := by
  have c0 := cntU_cum x r (k + 1) (j - k)
  rw [show k + 1 + (j - k) = j + 1 by omega] at c0
  have c1 := cum_at x r hr
  have c2 := cum_at x r hkr
  cases h with
  | up j' h1 => omega
  | noUp h1 => omega
  | down j' h1 h2 h3 h4 =>
    simp only [Int.toNat_natCast] at h2 h4
    have d0 := cntD_cum x r j (j - j') (by omega)
    rw [show j - (j - j') = j' by omega] at d0
    have d1 := cum_at x r h3
    have : j' = k := by
      rcases Nat.lt_trichotomy j' k with hlt | he | hlt
      · have := cum_mono x r (show j' + 1 ≤ k by omega); omega
      · exact he
      · have := cum_mono x r (show k + 1 ≤ j' by omega); omega
    subst this
    show ((i, (j' : Int) + 0), (0 : Int), true) = _
    rw [Int.add_zero]
  | noDown h1 h2 =>
    simp only [Int.toNat_natCast] at h2
    have d0 := cntD_cum x r j j (Nat.le_refl _)
    rw [Nat.sub_self] at d0
    have : cntU x r 0 0 = 0 := rfl
    omega
end
/-- What f tells. -/
theorem find_f {l : List (List Int)} {i k : Nat} {m : Mo} {r : Ps × Int × Bool} (hat : At l ((i : Int), (k : Int))) (hk : m.key = 102) (h : MoveM l ((i : Int), (k : Int)) m false r) :
    (∃ q, r = (q, 0, false) ∧ (cntU (l.getD i []) m.arg (k + 1) ((l.getD i []).length - (k + 1)) : Int) < cntN m) ∨ ∃ j : Nat, r = (((i : Int), (j : Int)), 1, true) ∧ k < j ∧ j < (l.getD i []).length ∧ (l.getD i []).getD j 0 = m.arg ∧ (cntU (l.getD i []) m.arg (k + 1) (j - k) : Int) = cntN m := by
  obtain ⟨r', h1, rfl⟩ := h.key (by rw [hk]; exact tab_has (by simp))
  rw [at_clip hat] at h1
  have h2 := h1.inv_find (.inl hk)
  rw [rowOf_at] at h2
  rw [at_clip hat]
  rw [show byF m.key = 1 by unfold byF; rw [if_neg (by omega)], show howM m.key = 1 by unfold howM; rw [if_neg (by omega)], show shortM m.key = 0 by unfold shortM; rw [if_neg (by omega), if_neg (by omega)]] at h2
  cases h2 with
  | up j h3 h4 h5 h6 h7 =>
    simp only [Int.toNat_natCast] at h4 h7
    refine .inr ⟨j, ?_, by omega, h5, h6, h7⟩
    show (((i : Int), (j : Int) + 0), (1 : Int), true) = _
    rw [Int.add_zero]
  | noUp h3 h4 => exact .inl ⟨_, rfl, by simpa using h4⟩
  | down j h3 => omega
  | noDown h3 => omega
theorem find_t_move {l : List (List Int)} {i k j : Nat} {m : Mo} {r : Ps × Int × Bool} (hat : At l ((i : Int), (k : Int))) (hm : m.key = 116) (hk : k < j) (hj : j < (l.getD i []).length) (hr : (l.getD i []).getD j 0 = m.arg) (hn : (cntU (l.getD i []) m.arg (k + 1) (j - k) : Int) = cntN m)
    (h : MoveM l ((i : Int), (k : Int)) m false r) : r = (((i : Int), (j : Int) - 1), 1, true) := by
  obtain ⟨r', h1, rfl⟩ := h.key (by rw [hm]; exact tab_has (by simp))
  rw [at_clip hat] at h1
  have h2 := h1.inv_find (.inr (.inl hm))
  rw [rowOf_at] at h2
  rw [show byF m.key = 1 by unfold byF; rw [if_neg (by omega)], show howM m.key = 1 by unfold howM; rw [if_neg (by omega)], show shortM m.key = -1 by unfold shortM; rw [if_pos (by omega)]] at h2
  rw [find_t hk hj hr hn h2]
  rfl
theorem find_F_move {l : List (List Int)} {i k j : Nat} {m : Mo} {r : Ps × Int × Bool} (hat : At l ((i : Int), (j : Int))) (hm : m.key = 70) (hk : k < j) (hj : j < (l.getD i []).length) (hr : (l.getD i []).getD j 0 = m.arg) (hkr : (l.getD i []).getD k 0 = m.arg) (hn : (cntU (l.getD i []) m.arg (k + 1) (j - k) : Int) = cntN m)
    (h : MoveM l ((i : Int), (j : Int)) m false r) : r = (((i : Int), (k : Int)), 0, true) := by
  obtain ⟨r', h1, rfl⟩ := h.key (by rw [hm]; exact tab_has (by simp))
  rw [at_clip hat] at h1
  have h2 := h1.inv_find (.inr (.inr (.inl hm)))
  rw [rowOf_at] at h2
  rw [show byF m.key = -1 by unfold byF; rw [if_pos (by omega)], show howM m.key = 0 by unfold howM; rw [if_pos (by omega)], show shortM m.key = 0 by unfold shortM; rw [if_neg (by omega), if_neg (by omega)]] at h2
  rw [find_F hk hj hr hkr hn h2]
  rfl
end Go.Ink
