/-
  Plain, fit.
-/
import Derived.Test.YtepjngapfmfkeaaRow
import Derived.Test.YtepjngapfmfkeaaSml
set_option linter.unusedVariables false
set_option linter.unusedSimpArgs false
namespace Go.Ink
open Go Go.Proofs Go.RowKit

def plainB (l : List (List Int)) : Bool := l.all fun x => decide (10 ∉ x)
theorem not_mem_getD {x : List Int} (h : ∀ k, k < x.length → x.getD k 0 ≠ 10) : 10 ∉ x := fun hm => by
  obtain ⟨k, hk, e⟩ := List.getElem_of_mem hm
  exact h k hk (by rw [List.getD_eq_getElem?_getD, List.getElem?_eq_getElem hk]; exact e)
theorem mem_getD {x : List Int} {k : Nat} (hk : k < x.length) (h : x.getD k 0 = 10) : 10 ∈ x := by
  rw [List.getD_eq_getElem?_getD, List.getElem?_eq_getElem hk] at h
  have h' : x[k] = 10 := h
  rw [← h']; exact List.getElem_mem hk
theorem plain_false {l : List (List Int)} {i : Nat} (hi : i < l.length) (h : 10 ∈ l.getD i []) : plainB l = false := by
  unfold plainB
  rw [List.all_eq_false]
  refine ⟨l.getD i [], ?_, by rw [decide_eq_true_iff]; exact fun hn => hn h⟩
  rw [List.getD_eq_getElem?_getD, List.getElem?_eq_getElem hi]; exact List.getElem_mem hi
theorem plain_true {l : List (List Int)} (h : ∀ i, i < l.length → 10 ∉ l.getD i []) : plainB l = true := by
  unfold plainB
  rw [List.all_eq_true]
  intro x hx
  obtain ⟨i, hi, e⟩ := List.getElem_of_mem hx
  have := h i hi
  rw [List.getD_eq_getElem?_getD, List.getElem?_eq_getElem hi] at this
  have h2 : 10 ∉ l[i] := this
  rw [e] at h2
  simp [h2]
section
variable {F : Nat → Prop} {w : World} {v : Value} {l : List (List Int)}
set_option maxHeartbeats 4000000 in
theorem plain_calls (h : Sl kRow F w v l) : CallsR Try.prog 37 #[v] w fun u w' => Kn w w' ∧ u = .bool (plainB l) := by
  obtain ⟨A, c, ad, rV, rc, ra, rfl, hR⟩ := h.rws
  have hlen := hR.len
  refine l_enter (fun _ => False) Try.func37 rfl rfl ?_
  repeat(first|refine lrun_ ?_|(refine lo_boxA rfl rfl ?_;intro _ _ _)|(refine lo_box1 rfl rfl rfl ?_;intro _ _ _)|(refine lo_alloc rfl ?_;intro _ _ _))
  refine l_while (fun i : Nat => l.length - i) (fun i => [(0, .slice A l.length c), (3, .int .i64 (i : Int))]) (fun _ => []) (fun i => i ≤ l.length ∧ ∀ j, j < i → 10 ∉ l.getD j []) 0 (by repeat (first | exact SubB.nil | refine SubB.cons rfl ?_)) (by repeat(first|exact MSub.refl|refine MSub.keep rfl ?_|exact MSub.nil|apply MSub.drop)) ⟨Nat.zero_le _, fun j hj => absurd hj (by omega)⟩ ?_
  rintro i ⟨hi, hb⟩ ih
  by_cases hlt : i < l.length
  · have hrl := hR.rl i
    repeat(first|refine lrun_ ?_|(refine lo_boxA rfl rfl ?_;intro _ _ _)|(refine lo_box1 rfl rfl rfl ?_;intro _ _ _)|(refine lo_alloc rfl ?_;intro _ _ _))
    refine l_yes rfl (by omega) ?_
    repeat(first|refine lrun_ ?_|(refine lo_boxA rfl rfl ?_;intro _ _ _)|(refine lo_box1 rfl rfl rfl ?_;intro _ _ _)|(refine lo_alloc rfl ?_;intro _ _ _))
    refine l_while (fun k : Nat => (l.getD i []).length - k) (fun k => [(0, .slice A l.length c), (3, .int .i64 (i : Int)), (4, .int .i64 (k : Int))]) (fun _ => []) (fun k => k ≤ (l.getD i []).length ∧ ∀ j, j < k → (l.getD i []).getD j 0 ≠ 10) 0 (by repeat (first | exact SubB.nil | refine SubB.cons rfl ?_)) (by repeat(first|exact MSub.refl|refine MSub.keep rfl ?_|exact MSub.nil|apply MSub.drop)) ⟨Nat.zero_le _, fun j hj => absurd hj (by omega)⟩ ?_
    rintro k ⟨hk, hbk⟩ ih2
    by_cases hlt2 : k < (l.getD i []).length
    · repeat(first|refine lrun_ ?_|(refine lo_boxA rfl rfl ?_;intro _ _ _)|(refine lo_box1 rfl rfl rfl ?_;intro _ _ _)|(refine lo_alloc rfl ?_;intro _ _ _))
      refine l_yes rfl (by omega) ?_
      repeat(first|refine lrun_ ?_|(refine lo_boxA rfl rfl ?_;intro _ _ _)|(refine lo_box1 rfl rfl rfl ?_;intro _ _ _)|(refine lo_alloc rfl ?_;intro _ _ _))
      by_cases h10 : (l.getD i []).getD k 0 = 10
      · refine l_yes rfl h10 ?_
        repeat(first|refine lrun_ ?_|(refine lo_boxA rfl rfl ?_;intro _ _ _)|(refine lo_box1 rfl rfl rfl ?_;intro _ _ _)|(refine lo_alloc rfl ?_;intro _ _ _))
        exact l_ret1 rfl rfl fun w' hw => ⟨hw.org, by rw [plain_false hlt (mem_getD hlt2 h10)]⟩
      · refine l_no rfl h10 ?_
        refine l_go .skip ?_
        repeat(first|refine lrun_ ?_|(refine lo_boxA rfl rfl ?_;intro _ _ _)|(refine lo_box1 rfl rfl rfl ?_;intro _ _ _)|(refine lo_alloc rfl ?_;intro _ _ _))
        exact ih2 (k + 1) ⟨hlt2, fun j hj => by
          rcases Nat.lt_succ_iff_lt_or_eq.1 hj with h | rfl
          · exact hbk j h
          · exact h10⟩ (by omega) _ _ (by repeat (first | exact SubB.nil | refine SubB.cons rfl ?_)) (by repeat(first|exact MSub.refl|refine MSub.keep rfl ?_|exact MSub.nil|apply MSub.drop))
    · obtain rfl : k = (l.getD i []).length := by omega
      repeat(first|refine lrun_ ?_|(refine lo_boxA rfl rfl ?_;intro _ _ _)|(refine lo_box1 rfl rfl rfl ?_;intro _ _ _)|(refine lo_alloc rfl ?_;intro _ _ _))
      refine l_no rfl (by omega) ?_
      refine l_go (.exit rfl) ?_
      repeat(first|refine lrun_ ?_|(refine lo_boxA rfl rfl ?_;intro _ _ _)|(refine lo_box1 rfl rfl rfl ?_;intro _ _ _)|(refine lo_alloc rfl ?_;intro _ _ _))
      exact ih (i + 1) ⟨hlt, fun j hj => by
        rcases Nat.lt_succ_iff_lt_or_eq.1 hj with h | rfl
        · exact hb j h
        · exact not_mem_getD hbk⟩ (by omega) _ _ (by repeat (first | exact SubB.nil | refine SubB.cons rfl ?_)) (by repeat(first|exact MSub.refl|refine MSub.keep rfl ?_|exact MSub.nil|apply MSub.drop))
  · obtain rfl : i = l.length := by omega
    repeat(first|refine lrun_ ?_|(refine lo_boxA rfl rfl ?_;intro _ _ _)|(refine lo_box1 rfl rfl rfl ?_;intro _ _ _)|(refine lo_alloc rfl ?_;intro _ _ _))
    refine l_no rfl (by omega) ?_
    refine l_go (.exit rfl) ?_
    repeat(first|refine lrun_ ?_|(refine lo_boxA rfl rfl ?_;intro _ _ _)|(refine lo_box1 rfl rfl rfl ?_;intro _ _ _)|(refine lo_alloc rfl ?_;intro _ _ _))
    exact l_ret1 rfl rfl fun w' hw => ⟨hw.org, by rw [plain_true hb]⟩
def fitB (l : List (List Int)) : Bool := smallM l && plainB l
theorem fit_calls (h : Sl kRow F w v l) : CallsR Try.prog 11 #[v] w fun u w' => Kn w w' ∧ u = .bool (fitB l) := by
  refine l_enter (fun _ => False) Try.func11 rfl rfl ?_
  unfold fitB
  repeat(first|refine lrun_ ?_|(refine lo_boxA rfl rfl ?_;intro _ _ _)|(refine lo_box1 rfl rfl rfl ?_;intro _ _ _)|(refine lo_alloc rfl ?_;intro _ _ _))
  refine lo_callP (n_call rfl) rfl (fun w' hw => small_calls (Kn.sl hw.org h)) ?_
  cases hs : smallM l with
  | true =>
    repeat(first|refine lrun_ ?_|(refine lo_boxA rfl rfl ?_;intro _ _ _)|(refine lo_box1 rfl rfl rfl ?_;intro _ _ _)|(refine lo_alloc rfl ?_;intro _ _ _))
    refine lo_call (n_call rfl) rfl (fun w' hw => plain_calls (Kn.sl hw.org h)) ?_
    repeat(first|refine lrun_ ?_|(refine lo_boxA rfl rfl ?_;intro _ _ _)|(refine lo_box1 rfl rfl rfl ?_;intro _ _ _)|(refine lo_alloc rfl ?_;intro _ _ _))
    exact l_ret1 rfl rfl fun w' hw => ⟨hw.org, rfl⟩
  | false =>
    repeat(first|refine lrun_ ?_|(refine lo_boxA rfl rfl ?_;intro _ _ _)|(refine lo_box1 rfl rfl rfl ?_;intro _ _ _)|(refine lo_alloc rfl ?_;intro _ _ _))
    exact l_ret1 rfl rfl fun w' hw => ⟨hw.org, rfl⟩
theorem small_iff : smallM l = true ↔ l.length ≤ 300 ∧ (l.length : Int) - 1 + runesM l ≤ 3000 := by unfold smallM; rw [decide_eq_true_iff]
theorem fit_iff : fitB l = true ↔ (l.length ≤ 300 ∧ (l.length : Int) - 1 + runesM l ≤ 3000) ∧ ∀ x ∈ l, 10 ∉ x := by
  unfold fitB plainB
  rw [Bool.and_eq_true, small_iff, List.all_eq_true]
  simp only [decide_eq_true_eq]
end
end Go.Ink
