/-
  The reference: Begins, Ends, blank, stop, Sentence.
-/
import Derived.Test.YtcfbkoajhllcaaaGA
import Derived.Test.YtcfbkoajhllcaaaW5
import Derived.Test.YtcfbkoajhllcaaaW3
import Derived.Test.YtcfbkoajhllcaaaW1r
import Derived.Test.YtcfbkoajhllcaaaW2r
set_option linter.unusedVariables false
set_option linter.unusedSimpArgs false
namespace Go.Ink
open Go Go.Proofs

section
variable {F : Nat → Prop} {w : World} {A : Option Addr} {c : Nat} {l : List (List Int)} {ad : Addr} {rV : Nat → Option Addr} {rc : Nat → Nat} {ra : Nat → Addr} {q : Ps} {big : Bool} {x : List Int} {cx n : Nat}
set_option maxHeartbeats 2000000 in
theorem begins_calls (hR : Rws F w A c l ad rV rc ra) (hq : At l q) :
    CallsR Try.prog 17 #[.slice A l.length c, posV q, .bool big] w fun u w' => Kn w w' ∧ u = .bool (edgeM l big (-1) q) := by
  obtain ⟨i, k, rfl, hi, hk, -⟩ := at_index hq
  have hll := hR.len
  have hrl := hR.rl i
  have hrc := hR.rcap i hi
  have hem : edgeM l big (-1) ((i : Int), (k : Int)) = if (l.getD i []).length = 0 then true
      else decide (classM ((l.getD i []).getD k 0) big ≠ 0 ∧ (k = 0 ∨ classM ((l.getD i []).getD (k - 1) 0) big ≠ classM ((l.getD i []).getD k 0) big)) := by
    unfold edgeM; rw [rowOf_at]
    simp only [Int.toNat_natCast]
    split
    · rfl
    · rw [decide_eq_decide]
      rw [show ((k : Int) + -1).toNat = k - 1 by omega]
      have : (k : Int) + -1 < 0 ↔ k = 0 := by omega
      rw [this]
      have : ¬ (((l.getD i []).length : Int) ≤ (k : Int) + -1) := by omega
      simp only [this, false_or]
  rw [hem]
  refine l_enter (fun _ => False) Try.func17 rfl rfl ?_
  repeat(first|refine lrun_ ?_|(refine lo_boxA rfl rfl ?_;intro _ _ _)|(refine lo_box1 rfl rfl rfl ?_;intro _ _ _)|(refine lo_alloc rfl ?_;intro _ _ _))
  by_cases h0 : (l.getD i []).length = 0
  · rw [if_pos h0]
    refine l_yes rfl (by omega) ?_
    repeat(first|refine lrun_ ?_|(refine lo_boxA rfl rfl ?_;intro _ _ _)|(refine lo_box1 rfl rfl rfl ?_;intro _ _ _)|(refine lo_alloc rfl ?_;intro _ _ _))
    exact l_ret1 rfl rfl fun w hw => ⟨hw.org, rfl⟩
  rw [if_neg h0]
  have hkl : k < (l.getD i []).length := by omega
  refine l_no rfl (by omega) ?_
  repeat(first|refine lrun_ ?_|(refine lo_boxA rfl rfl ?_;intro _ _ _)|(refine lo_box1 rfl rfl rfl ?_;intro _ _ _)|(refine lo_alloc rfl ?_;intro _ _ _))
  refine lo_callP (n_call rfl) rfl (fun w hw => classR_calls) ?_
  generalize hC : classM ((l.getD i []).getD k 0) big = C
  repeat(first|refine lrun_ ?_|(refine lo_boxA rfl rfl ?_;intro _ _ _)|(refine lo_box1 rfl rfl rfl ?_;intro _ _ _)|(refine lo_alloc rfl ?_;intro _ _ _))
  by_cases hC0 : C = 0
  · subst hC0
    repeat(first|refine lrun_ ?_|(refine lo_boxA rfl rfl ?_;intro _ _ _)|(refine lo_box1 rfl rfl rfl ?_;intro _ _ _)|(refine lo_alloc rfl ?_;intro _ _ _))
    exact l_ret1 rfl rfl fun w hw => ⟨hw.org, by simp⟩
  by_cases hk0 : k = 0
  · subst hk0
    repeat(first|refine lrun_ ?_|(refine lo_boxA rfl rfl ?_;intro _ _ _)|(refine lo_box1 rfl rfl rfl ?_;intro _ _ _)|(refine lo_alloc rfl ?_;intro _ _ _))
    exact l_ret1 rfl rfl fun w hw => ⟨hw.org, by simp [hC0]⟩
  repeat(first|refine lrun_ ?_|(refine lo_boxA rfl rfl ?_;intro _ _ _)|(refine lo_box1 rfl rfl rfl ?_;intro _ _ _)|(refine lo_alloc rfl ?_;intro _ _ _))
  obtain ⟨m, rfl⟩ : ∃ m, k = m + 1 := ⟨k - 1, by omega⟩
  rw [show (((m + 1 : Nat) : Int)) - 1 = (m : Nat) by omega]
  repeat(first|refine lrun_ ?_|(refine lo_boxA rfl rfl ?_;intro _ _ _)|(refine lo_box1 rfl rfl rfl ?_;intro _ _ _)|(refine lo_alloc rfl ?_;intro _ _ _))
  refine lo_callP (n_call rfl) rfl (fun w hw => classR_calls) ?_
  repeat(first|refine lrun_ ?_|(refine lo_boxA rfl rfl ?_;intro _ _ _)|(refine lo_box1 rfl rfl rfl ?_;intro _ _ _)|(refine lo_alloc rfl ?_;intro _ _ _))
  exact l_ret1 rfl rfl fun w hw => ⟨hw.org, by congr 1; rw [decide_eq_decide, Nat.add_sub_cancel]; exact ⟨fun h => ⟨hC0, .inr h⟩, fun h => h.2.elim (fun h => absurd h (by omega)) id⟩⟩
set_option maxHeartbeats 2000000 in
theorem ends_calls (hR : Rws F w A c l ad rV rc ra) (hq : At l q) :
    CallsR Try.prog 38 #[.slice A l.length c, posV q, .bool big] w fun u w' => Kn w w' ∧ u = .bool (edgeM l big 1 q) := by
  obtain ⟨i, k, rfl, hi, hk, -⟩ := at_index hq
  have hll := hR.len
  have hrl := hR.rl i
  have hrc := hR.rcap i hi
  have hem : edgeM l big 1 ((i : Int), (k : Int)) = if (l.getD i []).length = 0 then false
      else decide (classM ((l.getD i []).getD k 0) big ≠ 0 ∧ (k + 1 = (l.getD i []).length ∨ classM ((l.getD i []).getD (k + 1) 0) big ≠ classM ((l.getD i []).getD k 0) big)) := by
    unfold edgeM; rw [rowOf_at]
    simp only [Int.toNat_natCast]
    split
    · rfl
    · rw [decide_eq_decide]
      rw [show ((k : Int) + 1).toNat = k + 1 by omega]
      have : ¬ ((k : Int) + 1 < 0) := by omega
      simp only [this, false_or]
      have : ((l.getD i []).length : Int) ≤ (k : Int) + 1 ↔ k + 1 = (l.getD i []).length := by omega
      rw [this]
  rw [hem]
  refine l_enter (fun _ => False) Try.func38 rfl rfl ?_
  repeat(first|refine lrun_ ?_|(refine lo_boxA rfl rfl ?_;intro _ _ _)|(refine lo_box1 rfl rfl rfl ?_;intro _ _ _)|(refine lo_alloc rfl ?_;intro _ _ _))
  by_cases h0 : (l.getD i []).length = 0
  · rw [if_pos h0]
    refine l_yes rfl (by omega) ?_
    repeat(first|refine lrun_ ?_|(refine lo_boxA rfl rfl ?_;intro _ _ _)|(refine lo_box1 rfl rfl rfl ?_;intro _ _ _)|(refine lo_alloc rfl ?_;intro _ _ _))
    exact l_ret1 rfl rfl fun w hw => ⟨hw.org, rfl⟩
  rw [if_neg h0]
  have hkl : k < (l.getD i []).length := by omega
  refine l_no rfl (by omega) ?_
  repeat(first|refine lrun_ ?_|(refine lo_boxA rfl rfl ?_;intro _ _ _)|(refine lo_box1 rfl rfl rfl ?_;intro _ _ _)|(refine lo_alloc rfl ?_;intro _ _ _))
  refine lo_callP (n_call rfl) rfl (fun w hw => classR_calls) ?_
  generalize hC : classM ((l.getD i []).getD k 0) big = C
  repeat(first|refine lrun_ ?_|(refine lo_boxA rfl rfl ?_;intro _ _ _)|(refine lo_box1 rfl rfl rfl ?_;intro _ _ _)|(refine lo_alloc rfl ?_;intro _ _ _))
  by_cases hC0 : C = 0
  · subst hC0
    repeat(first|refine lrun_ ?_|(refine lo_boxA rfl rfl ?_;intro _ _ _)|(refine lo_box1 rfl rfl rfl ?_;intro _ _ _)|(refine lo_alloc rfl ?_;intro _ _ _))
    exact l_ret1 rfl rfl fun w hw => ⟨hw.org, by simp⟩
  by_cases hk0 : (k : Int) = ((l.getD i []).length : Int) - 1
  · repeat(first|refine lrun_ ?_|(refine lo_boxA rfl rfl ?_;intro _ _ _)|(refine lo_box1 rfl rfl rfl ?_;intro _ _ _)|(refine lo_alloc rfl ?_;intro _ _ _))
    exact l_ret1 rfl rfl fun w hw => ⟨hw.org, by rw [decide_eq_true (⟨hC0, .inl (by omega)⟩ : C ≠ 0 ∧ _)]⟩
  repeat(first|refine lrun_ ?_|(refine lo_boxA rfl rfl ?_;intro _ _ _)|(refine lo_box1 rfl rfl rfl ?_;intro _ _ _)|(refine lo_alloc rfl ?_;intro _ _ _))
  rw [show (k : Int) + 1 = ((k + 1 : Nat) : Int) by omega]
  repeat(first|refine lrun_ ?_|(refine lo_boxA rfl rfl ?_;intro _ _ _)|(refine lo_box1 rfl rfl rfl ?_;intro _ _ _)|(refine lo_alloc rfl ?_;intro _ _ _))
  refine lo_callP (n_call rfl) rfl (fun w hw => classR_calls) ?_
  repeat(first|refine lrun_ ?_|(refine lo_boxA rfl rfl ?_;intro _ _ _)|(refine lo_box1 rfl rfl rfl ?_;intro _ _ _)|(refine lo_alloc rfl ?_;intro _ _ _))
  exact l_ret1 rfl rfl fun w hw => ⟨hw.org, by congr 1; rw [decide_eq_decide]; exact ⟨fun h => ⟨hC0, .inr h⟩, fun h => h.2.elim (fun h => absurd h (by omega)) id⟩⟩
theorem trimN_zero {x : List Int} : ∀ n, (trimN x n = 0 ↔ ∀ j, j < n → classM (x.getD j 0) false = 0)
  | 0 => ⟨fun _ j hj => by omega, fun _ => rfl⟩
  | n + 1 => by
    rw [trimN_succ]
    constructor
    · intro h j hj
      split at h
      · next hb =>
        by_cases e : j = n
        · subst e; exact hb
        · exact (trimN_zero n).1 h j (by omega)
      · omega
    · intro h
      rw [if_pos (h n (by omega))]
      exact (trimN_zero n).2 fun j hj => h j (by omega)
theorem blank_calls (hX : Rns F w A cx x ad) : CallsR Try.prog 45 #[.slice A x.length cx] w fun u w' => Kn w w' ∧ u = .bool (decide (trimN x x.length = 0)) := by
  have hl := hX.len
  have hc := hX.cap
  refine l_enter (fun _ => False) Try.func45 rfl rfl ?_
  repeat(first|refine lrun_ ?_|(refine lo_boxA rfl rfl ?_;intro _ _ _)|(refine lo_box1 rfl rfl rfl ?_;intro _ _ _)|(refine lo_alloc rfl ?_;intro _ _ _))
  refine l_while (fun m => x.length - m) (fun m : Nat => [(0, .slice A x.length cx), (3, .int .i64 m)]) (fun _ => []) (fun m => m ≤ x.length ∧ ∀ j, j < m → classM (x.getD j 0) false = 0) 0 (by repeat (first | exact SubB.nil | refine SubB.cons rfl ?_)) (by repeat(first|exact MSub.refl|refine MSub.keep rfl ?_|exact MSub.nil|apply MSub.drop)) ⟨Nat.zero_le _, fun j hj => by omega⟩ ?_
  rintro m ⟨hm, ht⟩ ih
  repeat(first|refine lrun_ ?_|(refine lo_boxA rfl rfl ?_;intro _ _ _)|(refine lo_box1 rfl rfl rfl ?_;intro _ _ _)|(refine lo_alloc rfl ?_;intro _ _ _))
  refine l_ite rfl (fun hlt => ?_) (fun hge => ?_)
  · repeat(first|refine lrun_ ?_|(refine lo_boxA rfl rfl ?_;intro _ _ _)|(refine lo_box1 rfl rfl rfl ?_;intro _ _ _)|(refine lo_alloc rfl ?_;intro _ _ _))
    refine lo_callP (n_call rfl) rfl (fun w hw => classR_calls) ?_
    repeat(first|refine lrun_ ?_|(refine lo_boxA rfl rfl ?_;intro _ _ _)|(refine lo_box1 rfl rfl rfl ?_;intro _ _ _)|(refine lo_alloc rfl ?_;intro _ _ _))
    refine l_ite rfl (fun hb => ?_) (fun hb => ?_)
    · repeat(first|refine lrun_ ?_|(refine lo_boxA rfl rfl ?_;intro _ _ _)|(refine lo_box1 rfl rfl rfl ?_;intro _ _ _)|(refine lo_alloc rfl ?_;intro _ _ _))
      exact l_ret1 rfl rfl fun w hw => ⟨hw.org, by rw [decide_eq_false (fun h => hb ((trimN_zero _).1 h m (by omega)))]⟩
    · repeat(first|refine lrun_ ?_|(refine lo_boxA rfl rfl ?_;intro _ _ _)|(refine lo_box1 rfl rfl rfl ?_;intro _ _ _)|(refine lo_alloc rfl ?_;intro _ _ _))
      exact ih (m + 1) ⟨by omega, fun j hj => by
        by_cases e : j = m
        · subst e; exact Decidable.not_not.1 hb
        · exact ht j (by omega)⟩ (by omega) _ _ (by repeat (first | exact SubB.nil | refine SubB.cons rfl ?_)) (by repeat(first|exact MSub.refl|refine MSub.keep rfl ?_|exact MSub.nil|apply MSub.drop))
  · obtain rfl : m = x.length := by omega
    repeat(first|refine lrun_ ?_|(refine lo_boxA rfl rfl ?_;intro _ _ _)|(refine lo_box1 rfl rfl rfl ?_;intro _ _ _)|(refine lo_alloc rfl ?_;intro _ _ _))
    exact l_ret1 rfl rfl fun w hw => ⟨hw.org, by rw [decide_eq_true ((trimN_zero _).2 ht)]⟩
set_option maxHeartbeats 2000000 in
theorem stop_calls (hX : Rns F w A cx x ad) (hn : n ≤ x.length) : CallsR Try.prog 44 #[.slice A x.length cx, .int .i64 n] w fun u w' => Kn w w' ∧ u = .bool (endM x n) := by
  have hl := hX.len
  have hc := hX.cap
  refine l_enter (fun _ => False) Try.func44 rfl rfl ?_
  repeat(first|refine lrun_ ?_|(refine lo_boxA rfl rfl ?_;intro _ _ _)|(refine lo_box1 rfl rfl rfl ?_;intro _ _ _)|(refine lo_alloc rfl ?_;intro _ _ _))
  refine l_while (fun m => m) (fun m : Nat => [(0, .slice A x.length cx), (5, .int .i64 ((m : Int) - 1))]) (fun _ => []) (fun m => m ≤ n ∧ endM x m = endM x n) n (by repeat (first | exact SubB.nil | refine SubB.cons rfl ?_)) (by repeat(first|exact MSub.refl|refine MSub.keep rfl ?_|exact MSub.nil|apply MSub.drop)) ⟨Nat.le_refl _, rfl⟩ ?_
  rintro m ⟨hm, ht⟩ ih
  cases m with
  | zero =>
    repeat(first|refine lrun_ ?_|(refine lo_boxA rfl rfl ?_;intro _ _ _)|(refine lo_box1 rfl rfl rfl ?_;intro _ _ _)|(refine lo_alloc rfl ?_;intro _ _ _))
    refine l_false rfl ?_
    repeat(first|refine lrun_ ?_|(refine lo_boxA rfl rfl ?_;intro _ _ _)|(refine lo_box1 rfl rfl rfl ?_;intro _ _ _)|(refine lo_alloc rfl ?_;intro _ _ _))
    exact l_ret1 rfl rfl fun w hw => ⟨hw.org, by rw [← ht]; rfl⟩
  | succ m =>
    rw [show (((m + 1 : Nat) : Int) - 1) = (m : Nat) by omega]
    rw [endM_succ] at ht
    have go : shutM (x.getD m 0) → ∀ σ' M', SubB σ' [(0, .slice A x.length cx), (5, .int .i64 ((m : Int) - 1))] → MSub [] M' → _ :=
      fun hs σ' M' h1 h2 => ih m ⟨by omega, by rw [← ht, if_pos hs]⟩ (by omega) σ' M' h1 h2
    by_cases e1 : x.getD m 0 = 41
    · repeat(first|refine lrun_ ?_|(refine lo_boxA rfl rfl ?_;intro _ _ _)|(refine lo_box1 rfl rfl rfl ?_;intro _ _ _)|(refine lo_alloc rfl ?_;intro _ _ _))
      refine l_true rfl ?_
      repeat(first|refine lrun_ ?_|(refine lo_boxA rfl rfl ?_;intro _ _ _)|(refine lo_box1 rfl rfl rfl ?_;intro _ _ _)|(refine lo_alloc rfl ?_;intro _ _ _))
      exact go (.inl e1) _ _ (by repeat (first | exact SubB.nil | refine SubB.cons rfl ?_)) (by repeat(first|exact MSub.refl|refine MSub.keep rfl ?_|exact MSub.nil|apply MSub.drop))
    by_cases e2 : x.getD m 0 = 93
    · repeat(first|refine lrun_ ?_|(refine lo_boxA rfl rfl ?_;intro _ _ _)|(refine lo_box1 rfl rfl rfl ?_;intro _ _ _)|(refine lo_alloc rfl ?_;intro _ _ _))
      refine l_true rfl ?_
      repeat(first|refine lrun_ ?_|(refine lo_boxA rfl rfl ?_;intro _ _ _)|(refine lo_box1 rfl rfl rfl ?_;intro _ _ _)|(refine lo_alloc rfl ?_;intro _ _ _))
      exact go (.inr (.inl e2)) _ _ (by repeat (first | exact SubB.nil | refine SubB.cons rfl ?_)) (by repeat(first|exact MSub.refl|refine MSub.keep rfl ?_|exact MSub.nil|apply MSub.drop))
    by_cases e3 : x.getD m 0 = 34
    · repeat(first|refine lrun_ ?_|(refine lo_boxA rfl rfl ?_;intro _ _ _)|(refine lo_box1 rfl rfl rfl ?_;intro _ _ _)|(refine lo_alloc rfl ?_;intro _ _ _))
      refine l_true rfl ?_
      repeat(first|refine lrun_ ?_|(refine lo_boxA rfl rfl ?_;intro _ _ _)|(refine lo_box1 rfl rfl rfl ?_;intro _ _ _)|(refine lo_alloc rfl ?_;intro _ _ _))
      exact go (.inr (.inr (.inl e3))) _ _ (by repeat (first | exact SubB.nil | refine SubB.cons rfl ?_)) (by repeat(first|exact MSub.refl|refine MSub.keep rfl ?_|exact MSub.nil|apply MSub.drop))
    by_cases e4 : x.getD m 0 = 39
    · repeat(first|refine lrun_ ?_|(refine lo_boxA rfl rfl ?_;intro _ _ _)|(refine lo_box1 rfl rfl rfl ?_;intro _ _ _)|(refine lo_alloc rfl ?_;intro _ _ _))
      refine l_yes rfl e4 ?_
      repeat(first|refine lrun_ ?_|(refine lo_boxA rfl rfl ?_;intro _ _ _)|(refine lo_box1 rfl rfl rfl ?_;intro _ _ _)|(refine lo_alloc rfl ?_;intro _ _ _))
      exact go (.inr (.inr (.inr e4))) _ _ (by repeat (first | exact SubB.nil | refine SubB.cons rfl ?_)) (by repeat(first|exact MSub.refl|refine MSub.keep rfl ?_|exact MSub.nil|apply MSub.drop))
    rw [if_neg (by unfold shutM; omega)] at ht
    repeat(first|refine lrun_ ?_|(refine lo_boxA rfl rfl ?_;intro _ _ _)|(refine lo_box1 rfl rfl rfl ?_;intro _ _ _)|(refine lo_alloc rfl ?_;intro _ _ _))
    refine l_no rfl e4 ?_
    by_cases f1 : x.getD m 0 = 46
    · repeat(first|refine lrun_ ?_|(refine lo_boxA rfl rfl ?_;intro _ _ _)|(refine lo_box1 rfl rfl rfl ?_;intro _ _ _)|(refine lo_alloc rfl ?_;intro _ _ _))
      exact l_ret1 rfl rfl fun w hw => ⟨hw.org, by rw [← ht, decide_eq_true (.inl f1)]⟩
    by_cases f2 : x.getD m 0 = 33
    · repeat(first|refine lrun_ ?_|(refine lo_boxA rfl rfl ?_;intro _ _ _)|(refine lo_box1 rfl rfl rfl ?_;intro _ _ _)|(refine lo_alloc rfl ?_;intro _ _ _))
      exact l_ret1 rfl rfl fun w hw => ⟨hw.org, by rw [← ht, decide_eq_true (.inr (.inl f2))]⟩
    repeat(first|refine lrun_ ?_|(refine lo_boxA rfl rfl ?_;intro _ _ _)|(refine lo_box1 rfl rfl rfl ?_;intro _ _ _)|(refine lo_alloc rfl ?_;intro _ _ _))
    exact l_ret1 rfl rfl fun w hw => ⟨hw.org, by rw [← ht]; congr 1; rw [decide_eq_decide]; unfold stopM; omega⟩
end
end Go.Ink
