/-
  The reference: Sentence, is.
-/
import Derived.Test.YtcfbkoajhllcaaaG8
set_option linter.unusedVariables false
set_option linter.unusedSimpArgs false
namespace Go.Ink
open Go Go.Proofs

section
variable {F : Nat → Prop} {w : World} {A : Option Addr} {c : Nat} {l : List (List Int)} {ad : Addr} {rV : Nat → Option Addr} {rc : Nat → Nat} {ra : Nat → Addr} {q : Ps}
set_option maxHeartbeats 4000000 in
theorem sentR_calls (hR : Rws F w A c l ad rV rc ra) (hq : At l q) :
    CallsR Try.prog 39 #[.slice A l.length c, posV q] w fun u w' => Kn w w' ∧ u = .bool (sentM l q) := by
  obtain ⟨i, k, rfl, hi, hk, -⟩ := at_index hq
  have hll := hR.len
  have hrl := hR.rl i
  have hrc := hR.rcap i hi
  have hem : sentM l ((i : Int), (k : Int)) = if (l.getD i []).length = 0 then decide ((0 : Int) < i ∧ 0 < (l.getD (i - 1) []).length)
      else if classM ((l.getD i []).getD k 0) false = 0 then false
      else if 0 < trimN (l.getD i []) k then decide (trimN (l.getD i []) k < k) && endM (l.getD i []) (trimN (l.getD i []) k)
      else if (i : Int) = 0 then true
      else decide (trimN (l.getD (i - 1) []) (l.getD (i - 1) []).length = 0) || endM (l.getD (i - 1) []) (trimN (l.getD (i - 1) []) (l.getD (i - 1) []).length) := by
    unfold sentM; rw [rowOf_at]; rfl
  rw [hem]
  refine l_enter (fun _ => False) Try.func39 rfl rfl ?_
  repeat(first|refine lrun_ ?_|(refine lo_boxA rfl rfl ?_;intro _ _ _)|(refine lo_box1 rfl rfl rfl ?_;intro _ _ _)|(refine lo_alloc rfl ?_;intro _ _ _))
  rename_i g3 _ _
  by_cases h0 : (l.getD i []).length = 0
  · rw [if_pos h0]
    refine l_yes rfl (by omega) ?_
    by_cases hi0 : (0 : Int) < i
    · repeat(first|refine lrun_ ?_|(refine lo_boxA rfl rfl ?_;intro _ _ _)|(refine lo_box1 rfl rfl rfl ?_;intro _ _ _)|(refine lo_alloc rfl ?_;intro _ _ _))
      obtain ⟨j, rfl⟩ : ∃ j, i = j + 1 := ⟨i - 1, by omega⟩
      have hjl := hR.rl j
      rw [show (((j + 1 : Nat) : Int), (k : Int)).fst - 1 = (j : Nat) by show ((j + 1 : Nat) : Int) - 1 = (j : Nat); omega]
      repeat(first|refine lrun_ ?_|(refine lo_boxA rfl rfl ?_;intro _ _ _)|(refine lo_box1 rfl rfl rfl ?_;intro _ _ _)|(refine lo_alloc rfl ?_;intro _ _ _))
      exact l_ret1 rfl rfl fun w hw => ⟨hw.org, by congr 1; rw [decide_eq_decide, Nat.add_sub_cancel]; omega⟩
    · repeat(first|refine lrun_ ?_|(refine lo_boxA rfl rfl ?_;intro _ _ _)|(refine lo_box1 rfl rfl rfl ?_;intro _ _ _)|(refine lo_alloc rfl ?_;intro _ _ _))
      exact l_ret1 rfl rfl fun w hw => ⟨hw.org, by rw [decide_eq_false (fun h => hi0 h.1)]⟩
  rw [if_neg h0]
  have hkl : k < (l.getD i []).length := by omega
  refine l_no rfl (by omega) ?_
  repeat(first|refine lrun_ ?_|(refine lo_boxA rfl rfl ?_;intro _ _ _)|(refine lo_box1 rfl rfl rfl ?_;intro _ _ _)|(refine lo_alloc rfl ?_;intro _ _ _))
  refine lo_callP (n_call rfl) rfl (fun w hw => classR_calls) ?_
  by_cases hC : classM ((l.getD i []).getD k 0) false = 0
  · rw [if_pos hC, hC]
    repeat(first|refine lrun_ ?_|(refine lo_boxA rfl rfl ?_;intro _ _ _)|(refine lo_box1 rfl rfl rfl ?_;intro _ _ _)|(refine lo_alloc rfl ?_;intro _ _ _))
    refine l_yes rfl rfl ?_
    repeat(first|refine lrun_ ?_|(refine lo_boxA rfl rfl ?_;intro _ _ _)|(refine lo_box1 rfl rfl rfl ?_;intro _ _ _)|(refine lo_alloc rfl ?_;intro _ _ _))
    exact l_ret1 rfl rfl fun w hw => ⟨hw.org, rfl⟩
  rw [if_neg hC]
  repeat(first|refine lrun_ ?_|(refine lo_boxA rfl rfl ?_;intro _ _ _)|(refine lo_box1 rfl rfl rfl ?_;intro _ _ _)|(refine lo_alloc rfl ?_;intro _ _ _))
  refine l_no rfl hC ?_
  repeat(first|refine lrun_ ?_|(refine lo_boxA rfl rfl ?_;intro _ _ _)|(refine lo_box1 rfl rfl rfl ?_;intro _ _ _)|(refine lo_alloc rfl ?_;intro _ _ _))
  have hX := hR.rns hi
  refine l_while (fun m => m) (fun m : Nat => [(0, .slice A l.length c), (3, .pointer (some ⟨g3, 0, none⟩)), (5, .slice (rV i) (l.getD i []).length (rc i)), (6, .int .i64 m)]) (fun _ => [(g3, cb [.int .i64 (i : Int), .int .i64 (k : Int)] 24)])
    (fun m => m ≤ k ∧ trimN (l.getD i []) m = trimN (l.getD i []) k) k (by repeat (first | exact SubB.nil | refine SubB.cons rfl ?_)) (by repeat(first|exact MSub.refl|refine MSub.keep rfl ?_|exact MSub.nil|apply MSub.drop)) ⟨Nat.le_refl _, rfl⟩ ?_
  rintro m ⟨hm, ht⟩ ih
  have J : trimN (l.getD i []) k = m → ∀ σ', SubB σ' [(0, .slice A l.length c), (3, .pointer (some ⟨g3, 0, none⟩)), (5, .slice (rV i) (l.getD i []).length (rc i)), (6, .int .i64 m)] → ∀ M', MSub [(g3, cb [.int .i64 (i : Int), .int .i64 (k : Int)] 24)] M' →
      WL Try.prog Try.f39 [.code (bodyC Try.f39 [1, 1, 1, 1, 1, 1])] σ' w (fun _ => False) w (fun _ => False) M' fun u w' => Kn w w' ∧ u = .bool (if 0 < trimN (l.getD i []) k then decide (trimN (l.getD i []) k < k) && endM (l.getD i []) (trimN (l.getD i []) k)
      else if (i : Int) = 0 then true
      else decide (trimN (l.getD (i - 1) []) (l.getD (i - 1) []).length = 0) || endM (l.getD (i - 1) []) (trimN (l.getD (i - 1) []) (l.getD (i - 1) []).length)) := by
    intro hT σ' hs M' hM
    refine WL.sub hs hM ?_
    rw [hT]
    clear ih ht hT
    repeat(first|refine lrun_ ?_|(refine lo_boxA rfl rfl ?_;intro _ _ _)|(refine lo_box1 rfl rfl rfl ?_;intro _ _ _)|(refine lo_alloc rfl ?_;intro _ _ _))
    by_cases hT0 : 0 < m
    · rw [if_pos hT0]
      refine l_yes rfl (by omega) ?_
      by_cases hTk : m < k
      · repeat(first|refine lrun_ ?_|(refine lo_boxA rfl rfl ?_;intro _ _ _)|(refine lo_box1 rfl rfl rfl ?_;intro _ _ _)|(refine lo_alloc rfl ?_;intro _ _ _))
        refine lo_call (n_call rfl) rfl (fun w hw => by obtain ⟨ad', hX'⟩ := hX.move hw.org.st_all; exact stop_calls hX' (by omega)) ?_
        repeat(first|refine lrun_ ?_|(refine lo_boxA rfl rfl ?_;intro _ _ _)|(refine lo_box1 rfl rfl rfl ?_;intro _ _ _)|(refine lo_alloc rfl ?_;intro _ _ _))
        exact l_ret1 rfl rfl fun w hw => ⟨hw.org, by rw [decide_eq_true hTk, Bool.true_and]⟩
      · repeat(first|refine lrun_ ?_|(refine lo_boxA rfl rfl ?_;intro _ _ _)|(refine lo_box1 rfl rfl rfl ?_;intro _ _ _)|(refine lo_alloc rfl ?_;intro _ _ _))
        exact l_ret1 rfl rfl fun w hw => ⟨hw.org, by rw [decide_eq_false hTk, Bool.false_and]⟩
    rw [if_neg hT0]
    refine l_no rfl (by omega) ?_
    by_cases hi0 : (i : Int) = 0
    · rw [if_pos hi0]
      repeat(first|refine lrun_ ?_|(refine lo_boxA rfl rfl ?_;intro _ _ _)|(refine lo_box1 rfl rfl rfl ?_;intro _ _ _)|(refine lo_alloc rfl ?_;intro _ _ _))
      refine l_true rfl ?_
      repeat(first|refine lrun_ ?_|(refine lo_boxA rfl rfl ?_;intro _ _ _)|(refine lo_box1 rfl rfl rfl ?_;intro _ _ _)|(refine lo_alloc rfl ?_;intro _ _ _))
      exact l_ret1 rfl rfl fun w hw => ⟨hw.org, rfl⟩
    rw [if_neg hi0]
    obtain ⟨j, rfl⟩ : ∃ j, i = j + 1 := ⟨i - 1, by omega⟩
    have hjl := hR.rl j
    have hjc := hR.rcap j (by omega)
    rw [Nat.add_sub_cancel]
    have hY := hR.rns (i := j) (by omega)
    repeat(first|refine lrun_ ?_|(refine lo_boxA rfl rfl ?_;intro _ _ _)|(refine lo_box1 rfl rfl rfl ?_;intro _ _ _)|(refine lo_alloc rfl ?_;intro _ _ _))
    rw [show ((j + 1 : Nat) : Int) - 1 = (j : Nat) by omega]
    repeat(first|refine lrun_ ?_|(refine lo_boxA rfl rfl ?_;intro _ _ _)|(refine lo_box1 rfl rfl rfl ?_;intro _ _ _)|(refine lo_alloc rfl ?_;intro _ _ _))
    refine lo_call (n_call rfl) rfl (fun w hw => by obtain ⟨ad', hX'⟩ := hY.move hw.org.st_all; exact blank_calls hX') ?_
    have htl2 := trimN_le (x := l.getD j []) (l.getD j []).length
    by_cases hU0 : trimN (l.getD j []) (l.getD j []).length = 0
    · rw [decide_eq_true hU0, Bool.true_or]
      repeat(first|refine lrun_ ?_|(refine lo_boxA rfl rfl ?_;intro _ _ _)|(refine lo_box1 rfl rfl rfl ?_;intro _ _ _)|(refine lo_alloc rfl ?_;intro _ _ _))
      refine l_true rfl ?_
      repeat(first|refine lrun_ ?_|(refine lo_boxA rfl rfl ?_;intro _ _ _)|(refine lo_box1 rfl rfl rfl ?_;intro _ _ _)|(refine lo_alloc rfl ?_;intro _ _ _))
      exact l_ret1 rfl rfl fun w hw => ⟨hw.org, rfl⟩
    rw [decide_eq_false hU0, Bool.false_or]
    repeat(first|refine lrun_ ?_|(refine lo_boxA rfl rfl ?_;intro _ _ _)|(refine lo_box1 rfl rfl rfl ?_;intro _ _ _)|(refine lo_alloc rfl ?_;intro _ _ _))
    refine l_false rfl ?_
    repeat(first|refine lrun_ ?_|(refine lo_boxA rfl rfl ?_;intro _ _ _)|(refine lo_box1 rfl rfl rfl ?_;intro _ _ _)|(refine lo_alloc rfl ?_;intro _ _ _))
    rw [show ((j + 1 : Nat) : Int) - 1 = (j : Nat) by omega]
    repeat(first|refine lrun_ ?_|(refine lo_boxA rfl rfl ?_;intro _ _ _)|(refine lo_box1 rfl rfl rfl ?_;intro _ _ _)|(refine lo_alloc rfl ?_;intro _ _ _))
    refine l_while (fun m => m) (fun m : Nat => [(7, .slice (rV j) (l.getD j []).length (rc j)), (8, .int .i64 m)]) (fun _ => [])
      (fun m => m ≤ (l.getD j []).length ∧ trimN (l.getD j []) m = trimN (l.getD j []) (l.getD j []).length) (l.getD j []).length (by repeat (first | exact SubB.nil | refine SubB.cons rfl ?_)) (by repeat(first|exact MSub.refl|refine MSub.keep rfl ?_|exact MSub.nil|apply MSub.drop)) ⟨Nat.le_refl _, rfl⟩ ?_
    rintro n ⟨hn, ht⟩ ih
    cases n with
    | zero => exact absurd ht.symm hU0
    | succ n =>
      repeat(first|refine lrun_ ?_|(refine lo_boxA rfl rfl ?_;intro _ _ _)|(refine lo_box1 rfl rfl rfl ?_;intro _ _ _)|(refine lo_alloc rfl ?_;intro _ _ _))
      rw [show (((n + 1 : Nat) : Int) - 1) = (n : Nat) by omega]
      repeat(first|refine lrun_ ?_|(refine lo_boxA rfl rfl ?_;intro _ _ _)|(refine lo_box1 rfl rfl rfl ?_;intro _ _ _)|(refine lo_alloc rfl ?_;intro _ _ _))
      refine lo_callP (n_call rfl) rfl (fun w hw => classR_calls) ?_
      rw [trimN_succ] at ht
      by_cases hb : classM ((l.getD j []).getD n 0) false = 0
      · rw [if_pos hb] at ht
        rw [hb]
        repeat(first|refine lrun_ ?_|(refine lo_boxA rfl rfl ?_;intro _ _ _)|(refine lo_box1 rfl rfl rfl ?_;intro _ _ _)|(refine lo_alloc rfl ?_;intro _ _ _))
        refine l_yes rfl rfl ?_
        repeat(first|refine lrun_ ?_|(refine lo_boxA rfl rfl ?_;intro _ _ _)|(refine lo_box1 rfl rfl rfl ?_;intro _ _ _)|(refine lo_alloc rfl ?_;intro _ _ _))
        rw [show (((n + 1 : Nat) : Int) - 1) = (n : Nat) by omega]
        exact ih n ⟨by omega, ht⟩ (by omega) _ _ (by repeat (first | exact SubB.nil | refine SubB.cons rfl ?_)) (by repeat(first|exact MSub.refl|refine MSub.keep rfl ?_|exact MSub.nil|apply MSub.drop))
      · rw [if_neg hb] at ht
        repeat(first|refine lrun_ ?_|(refine lo_boxA rfl rfl ?_;intro _ _ _)|(refine lo_box1 rfl rfl rfl ?_;intro _ _ _)|(refine lo_alloc rfl ?_;intro _ _ _))
        refine l_no rfl hb ?_
        repeat(first|refine lrun_ ?_|(refine lo_boxA rfl rfl ?_;intro _ _ _)|(refine lo_box1 rfl rfl rfl ?_;intro _ _ _)|(refine lo_alloc rfl ?_;intro _ _ _))
        refine lo_call (n_call rfl) rfl (fun w hw => by obtain ⟨ad', hX'⟩ := hY.move hw.org.st_all; exact stop_calls hX' hn) ?_
        rw [← ht]
        repeat(first|refine lrun_ ?_|(refine lo_boxA rfl rfl ?_;intro _ _ _)|(refine lo_box1 rfl rfl rfl ?_;intro _ _ _)|(refine lo_alloc rfl ?_;intro _ _ _))
        exact l_ret1 rfl rfl fun w hw => ⟨hw.org, rfl⟩
  cases m with
  | zero =>
    repeat(first|refine lrun_ ?_|(refine lo_boxA rfl rfl ?_;intro _ _ _)|(refine lo_box1 rfl rfl rfl ?_;intro _ _ _)|(refine lo_alloc rfl ?_;intro _ _ _))
    refine l_false rfl ?_
    refine l_go (.exit rfl) ?_
    exact J ht.symm _ (by repeat (first | exact SubB.nil | refine SubB.cons rfl ?_)) _ (by repeat(first|exact MSub.refl|refine MSub.keep rfl ?_|exact MSub.nil|apply MSub.drop))
  | succ m =>
    repeat(first|refine lrun_ ?_|(refine lo_boxA rfl rfl ?_;intro _ _ _)|(refine lo_box1 rfl rfl rfl ?_;intro _ _ _)|(refine lo_alloc rfl ?_;intro _ _ _))
    rw [show (((m + 1 : Nat) : Int) - 1) = (m : Nat) by omega]
    repeat(first|refine lrun_ ?_|(refine lo_boxA rfl rfl ?_;intro _ _ _)|(refine lo_box1 rfl rfl rfl ?_;intro _ _ _)|(refine lo_alloc rfl ?_;intro _ _ _))
    refine lo_callP (n_call rfl) rfl (fun w hw => classR_calls) ?_
    rw [trimN_succ] at ht
    by_cases hb : classM ((l.getD i []).getD m 0) false = 0
    · rw [if_pos hb] at ht
      rw [hb]
      repeat(first|refine lrun_ ?_|(refine lo_boxA rfl rfl ?_;intro _ _ _)|(refine lo_box1 rfl rfl rfl ?_;intro _ _ _)|(refine lo_alloc rfl ?_;intro _ _ _))
      refine l_true rfl ?_
      repeat(first|refine lrun_ ?_|(refine lo_boxA rfl rfl ?_;intro _ _ _)|(refine lo_box1 rfl rfl rfl ?_;intro _ _ _)|(refine lo_alloc rfl ?_;intro _ _ _))
      rw [show (((m + 1 : Nat) : Int) - 1) = (m : Nat) by omega]
      exact ih m ⟨by omega, ht⟩ (by omega) _ _ (by repeat (first | exact SubB.nil | refine SubB.cons rfl ?_)) (by repeat(first|exact MSub.refl|refine MSub.keep rfl ?_|exact MSub.nil|apply MSub.drop))
    · rw [if_neg hb] at ht
      repeat(first|refine lrun_ ?_|(refine lo_boxA rfl rfl ?_;intro _ _ _)|(refine lo_box1 rfl rfl rfl ?_;intro _ _ _)|(refine lo_alloc rfl ?_;intro _ _ _))
      refine l_no rfl hb ?_
      refine l_go (.exit rfl) ?_
      exact J ht.symm _ (by repeat (first | exact SubB.nil | refine SubB.cons rfl ?_)) _ (by repeat(first|exact MSub.refl|refine MSub.keep rfl ?_|exact MSub.nil|apply MSub.drop))
end
end Go.Ink
