/-
  Plain: runs of a row.
-/
import Derived.Test.YtabmggnljijhkaaP1
set_option linter.unusedVariables false
set_option linter.unusedSimpArgs false
namespace Go.Ink
open Go Go.Proofs

/-- A run of runes of one class. -/
structure IsRun (x : List Int) (big : Bool) (a b : Nat) : Prop where
  le : a ≤ b
  lt : b < x.length
  same : ∀ i, a ≤ i → i ≤ b → clsAt x big i = clsAt x big a
  lo : a = 0 ∨ clsAt x big (a - 1) ≠ clsAt x big a
  hi : b + 1 = x.length ∨ clsAt x big (b + 1) ≠ clsAt x big a
theorem IsRun.eq {x : List Int} {big : Bool} {a b a' b' c : Nat} (h : IsRun x big a b) (h' : IsRun x big a' b') (h1 : a ≤ c) (h2 : c ≤ b) (h1' : a' ≤ c) (h2' : c ≤ b') : a = a' ∧ b = b' := by
  have e1 := h.same c h1 h2
  have e2 := h'.same c h1' h2'
  constructor
  · rcases Nat.lt_trichotomy a a' with hlt | he | hlt
    · exfalso
      rcases h'.lo with h0 | hne
      · omega
      · exact hne (by rw [h.same (a' - 1) (by omega) (by omega), ← e1, e2])
    · exact he
    · exfalso
      rcases h.lo with h0 | hne
      · omega
      · exact hne (by rw [h'.same (a - 1) (by omega) (by omega), ← e2, e1])
  · have hl := h.lt
    have hl' := h'.lt
    rcases Nat.lt_trichotomy b b' with hlt | he | hlt
    · exfalso
      rcases h.hi with h0 | hne
      · omega
      · exact hne (by rw [h'.same (b + 1) (by omega) (by omega), ← e2, e1])
    · exact he
    · exfalso
      rcases h'.hi with h0 | hne
      · omega
      · exact hne (by rw [h.same (b' + 1) (by omega) (by omega), ← e1, e2])
theorem mem_runs {x : List Int} {big : Bool} {n i : Nat} (hi : i < n) (he : endAt x big i = true) : ((i : Int) + 1) ∈ runsTo x big n := by
  unfold runsTo
  exact List.mem_map.2 ⟨i, List.mem_filter.2 ⟨List.mem_range.2 hi, he⟩, rfl⟩
/-- The k-th run. -/
theorem seg_run {x : List Int} {big : Bool} {k : Nat} (hk : k < (runsTo x big x.length).length) :
    ∃ a b : Nat, beginM (runsTo x big x.length) k = a ∧ (runsTo x big x.length)[k] = (b : Int) + 1 ∧ IsRun x big a b := by
  have hp := runs_pair x big x.length
  obtain ⟨b, hb, he, hend⟩ := runs_mem (List.getElem_mem hk)
  have hbg := runs_begin hk
  obtain ⟨a, ha⟩ : ∃ a : Nat, beginM (runsTo x big x.length) k = a := ⟨(beginM (runsTo x big x.length) k).toNat, by omega⟩
  have hab : a ≤ b := by omega
  -- no end between
  have hno : ∀ i, a ≤ i → i < b → endAt x big i = false := by
    intro i h1 h2
    cases hc : endAt x big i with
    | false => rfl
    | true =>
      exfalso
      obtain ⟨j, hj, hje⟩ := List.mem_iff_getElem.1 (mem_runs (show i < x.length by omega) hc)
      rcases Nat.lt_trichotomy j k with hlt | hjk | hlt
      · have hk0 : k ≠ 0 := by omega
        unfold beginM at ha
        rw [if_neg hk0, getD_int (by omega)] at ha
        by_cases hj1 : j = k - 1
        · subst hj1; omega
        · have := List.pairwise_iff_getElem.1 hp j (k - 1) hj (by omega) (by omega)
          omega
      · subst hjk; omega
      · have := List.pairwise_iff_getElem.1 hp k j hk hj hlt
        omega
  have hstep : ∀ i, a ≤ i → i < b → clsAt x big i = clsAt x big (i + 1) := by
    intro i h1 h2
    have := hno i h1 h2
    unfold endAt at this
    have := of_decide_eq_false this
    simp only [not_or, ne_eq, Classical.not_not] at this
    exact this.2
  have hsame : ∀ i, a ≤ i → i ≤ b → clsAt x big i = clsAt x big a := by
    have key : ∀ d, a + d ≤ b → clsAt x big (a + d) = clsAt x big a := by
      intro d
      induction d with
      | zero => intro _; rfl
      | succ d ih => intro h2; rw [← Nat.add_assoc, ← hstep (a + d) (by omega) (by omega)]; exact ih (by omega)
    intro i h1 h2
    have := key (i - a) (by omega)
    rwa [show a + (i - a) = i by omega] at this
  refine ⟨a, b, ha, he, hab, hb, hsame, ?_, ?_⟩
  · by_cases hk0 : k = 0
    · unfold beginM at ha; rw [if_pos hk0] at ha; exact .inl (by omega)
    · unfold beginM at ha
      rw [if_neg hk0, getD_int (by omega)] at ha
      obtain ⟨j, hj, hje, hjend⟩ := runs_mem (List.getElem_mem (show k - 1 < (runsTo x big x.length).length by omega))
      obtain rfl : a = j + 1 := by omega
      refine .inr ?_
      rw [Nat.add_sub_cancel]
      have := of_decide_eq_true hjend
      exact this.resolve_left (by omega)
  · have := of_decide_eq_true hend
    rcases this with h | h
    · exact .inl h
    · exact .inr fun e => h (by rw [e]; exact hsame b hab (Nat.le_refl _))
theorem idx_facts {E : List Int} {col : Int} (h : idxM E col < E.length) : col < E[idxM E col] ∧ ∀ j, (hj : j < idxM E col) → E[j]'(by omega) ≤ col := by
  unfold idxM at *
  refine ⟨by simpa using List.findIdx_getElem (w := h), fun j hj => ?_⟩
  have := List.not_of_lt_findIdx hj
  simpa using this
theorem runs_last {x : List Int} {big : Bool} (h : 0 < x.length) : (x.length : Int) ∈ runsTo x big x.length := by
  have := mem_runs (x := x) (big := big) (n := x.length) (i := x.length - 1) (by omega) (by unfold endAt; exact decide_eq_true (.inl (by omega)))
  rwa [show ((x.length - 1 : Nat) : Int) + 1 = x.length by omega] at this
theorem idx_lt {x : List Int} {big : Bool} {col : Int} (h : col < x.length) (h0 : 0 ≤ col) : idxM (runsTo x big x.length) col < (runsTo x big x.length).length := by
  unfold idxM
  exact List.findIdx_lt_length_of_exists ⟨_, runs_last (by omega), by simpa using h⟩
/-- The run that has a column. -/
theorem idx_run {x : List Int} {big : Bool} {c : Nat} (hc : c < x.length) : ∃ (hk : idxM (runsTo x big x.length) c < (runsTo x big x.length).length) (a b : Nat),
    beginM (runsTo x big x.length) (idxM (runsTo x big x.length) c) = a ∧ (runsTo x big x.length)[idxM (runsTo x big x.length) c] = (b : Int) + 1 ∧ IsRun x big a b ∧ a ≤ c ∧ c ≤ b := by
  have hk := idx_lt (big := big) (x := x) (col := c) (by omega) (by omega)
  obtain ⟨a, b, h1, h2, h3⟩ := seg_run hk
  obtain ⟨h4, h5⟩ := idx_facts hk
  refine ⟨hk, a, b, h1, h2, h3, ?_, by omega⟩
  unfold beginM at h1
  split at h1
  · omega
  · next h0 =>
    rw [getD_int (by omega)] at h1
    have := h5 (idxM (runsTo x big x.length) c - 1) (by omega)
    omega
def kM (big : Bool) : Int := if big = true then 87 else 119
theorem kM_dec (big : Bool) : decide (kM big = 87) = big := by cases big <;> rfl
theorem find_word {l : List (List Int)} {q : Ps} (big : Bool) (h0 : l ≠ []) (hat : At l q) :
    ((rowOf l q).length = 0 → findM l q (kM big) false = none) ∧
    (∀ c : Nat, q.2 = c → c < (rowOf l q).length → ∃ a b : Nat, findM l q (kM big) false = some ((q.1, (a : Int)), (q.1, (b : Int)), 0) ∧ IsRun (rowOf l q) big a b ∧ a ≤ c ∧ c ≤ b) := by
  have hf : findM l q (kM big) false = charM q ((wordsM (runsTo (rowOf l q) big (rowOf l q).length) (rowOf l q) big q.2 false).map fun r => (r.1, r.2, true)) := by
    unfold findM
    rw [if_neg h0, at_clip hat]
    unfold findAt
    rw [kM_dec, if_pos (by cases big <;> decide)]
  rw [hf]
  generalize rowOf l q = x
  constructor
  · intro hx
    have : runsTo x big x.length = [] := List.eq_nil_of_length_eq_zero (by have := runsTo_le x big x.length; omega)
    rw [this]
    rfl
  · intro c hc hlt
    obtain ⟨hk, a, b, h1, h2, h3, h4, h5⟩ := idx_run (big := big) hlt
    refine ⟨a, b, ?_, h3, h4, h5⟩
    rw [hc]
    unfold wordsM
    rw [if_neg (by omega), if_pos rfl, h1, getD_int hk, h2]
    show some ((q.1, (a : Int)), (q.1, (b : Int) + 1 - 1), (0 : Int)) = _
    rw [Int.add_sub_cancel]
end Go.Ink
