/-
  Which places are sought.
-/
import Derived.Test.YtcfbkoajhllcaaaG1
set_option linter.unusedVariables false
set_option linter.unusedSimpArgs false
namespace Go.Ink
open Go Go.Proofs

/-- A rune that is not blank, none of its class beside it. -/
def edgeM (l : List (List Int)) (big : Bool) (by_ : Int) (q : Ps) : Bool :=
  if (rowOf l q).length = 0 then decide (by_ < 0)
  else decide (classM ((rowOf l q).getD q.2.toNat 0) big ≠ 0 ∧ (q.2 + by_ < 0 ∨ ((rowOf l q).length : Int) ≤ q.2 + by_ ∨ classM ((rowOf l q).getD (q.2 + by_).toNat 0) big ≠ classM ((rowOf l q).getD q.2.toNat 0) big))
/-- A sentence begins. -/
def sentM (l : List (List Int)) (q : Ps) : Bool :=
  if (rowOf l q).length = 0 then decide (0 < q.1 ∧ 0 < (l.getD (q.1.toNat - 1) []).length)
  else if classM ((rowOf l q).getD q.2.toNat 0) false = 0 then false
  else if 0 < trimN (rowOf l q) q.2.toNat then decide (trimN (rowOf l q) q.2.toNat < q.2.toNat) && endM (rowOf l q) (trimN (rowOf l q) q.2.toNat)
  else if q.1 = 0 then true
  else decide (trimN (l.getD (q.1.toNat - 1) []) (l.getD (q.1.toNat - 1) []).length = 0) || endM (l.getD (q.1.toNat - 1) []) (trimN (l.getD (q.1.toNat - 1) []) (l.getD (q.1.toNat - 1) []).length)
theorem Kp.st_all {F : Nat → Prop} {w w' : World} (h : Kn w w') : ∀ k, F k → k < w.heap.size → w'.heap[k]? = w.heap[k]? := fun k _ hk => h.st k hk
section
variable {F : Nat → Prop} {w : World} {A : Option Addr} {c : Nat} {l : List (List Int)} {ad : Addr} {rV : Nat → Option Addr} {rc : Nat → Nat} {ra : Nat → Addr} {q : Ps} {g1 g2 g3 : Nat} {by_ : Int} {big : Bool}
theorem Rws.rns {i : Nat} (hR : Rws F w A c l ad rV rc ra) (hi : i < l.length) : Rns F w (rV i) (rc i) (l.getD i []) (ra i) :=
  ⟨hR.rs i hi, hR.rcap i hi, hR.rl i, fun h => hR.aa i hi h, fun k hk => hR.run i k hi hk, fun k => by
    obtain ⟨A', c', ad', e, hr⟩ := (hR.rs i hi).rns
    exact hr.lo k, fun h => hR.fr i hi h⟩
set_option maxHeartbeats 2000000 in
theorem edge1_calls (hR : Rws F w A c l ad rV rc ra) (hc1 : w.cell? ⟨g1, 0, none⟩ = some (.slice A l.length c)) (hc2 : w.cell? ⟨g2, 0, none⟩ = some (.int .i64 by_)) (hc3 : w.cell? ⟨g3, 0, none⟩ = some (.bool big)) (hq : At l q) (hby : by_ = 1 ∨ by_ = -1) :
    CallsR Try.prog 37 #[posV q, .pointer (some ⟨g1, 0, none⟩), .pointer (some ⟨g2, 0, none⟩), .pointer (some ⟨g3, 0, none⟩)] w fun u w' => Kn w w' ∧ u = .bool (edgeM l big by_ q) := by
  obtain ⟨i, k, rfl, hi, hk, -⟩ := at_index hq
  have hll := hR.len
  have hrl := hR.rl i
  have hem : edgeM l big by_ ((i : Int), (k : Int)) = if (l.getD i []).length = 0 then decide (by_ < 0)
      else decide (classM ((l.getD i []).getD k 0) big ≠ 0 ∧ ((k : Int) + by_ < 0 ∨ ((l.getD i []).length : Int) ≤ (k : Int) + by_ ∨ classM ((l.getD i []).getD ((k : Int) + by_).toNat 0) big ≠ classM ((l.getD i []).getD k 0) big)) := by
    unfold edgeM; rw [rowOf_at]; rfl
  rw [hem]
  refine l_enter (fun _ => False) Try.func37 rfl rfl ?_
  repeat(first|refine lrun_ ?_|(refine lo_boxA rfl rfl ?_;intro _ _ _)|(refine lo_box1 rfl rfl rfl ?_;intro _ _ _)|(refine lo_alloc rfl ?_;intro _ _ _))
  by_cases h0 : (l.getD i []).length = 0
  · rw [if_pos h0]
    refine l_yes rfl (by omega) ?_
    repeat(first|refine lrun_ ?_|(refine lo_boxA rfl rfl ?_;intro _ _ _)|(refine lo_box1 rfl rfl rfl ?_;intro _ _ _)|(refine lo_alloc rfl ?_;intro _ _ _))
    exact l_ret1 rfl rfl fun w hw => ⟨hw.org, rfl⟩
  rw [if_neg h0]
  have hkl : k < (l.getD i []).length := by omega
  refine l_no rfl (by omega) ?_
  repeat(first|refine lrun_ ?_|(refine lo_boxA rfl rfl ?_;intro _ _ _)|(refine lo_box1 rfl rfl rfl ?_;intro _ _ _)|(refine lo_alloc rfl ?_;intro _ _ _))
  refine l_draw [(0, 0), (1, 0), (2, 0), (3, 0), (4, 0), (5, 0), (6, 1), (7, 0)] (by kernel_rfl) (by kernel_rfl) rfl (by kernel_rfl) ?_
  repeat(first|refine lrund_ ?_|(refine ld_open rfl ?_;first|(refine ld_boxA rfl wy_ rfl ?_;intro _ _ _)|(refine ld_box1 rfl rfl wy_ rfl ?_;intro _ _ _)|(refine ld_alloc wy_ rfl ?_;intro _ _ _)))
  refine ld_open rfl ?_; refine ld_callP (n_call rfl) (wants_none rfl) rfl (fun w hw => classP_calls) ?_
  repeat(first|refine lrund_ ?_|(refine ld_open rfl ?_;first|(refine ld_boxA rfl wy_ rfl ?_;intro _ _ _)|(refine ld_box1 rfl rfl wy_ rfl ?_;intro _ _ _)|(refine ld_alloc wy_ rfl ?_;intro _ _ _)))
  generalize hC : classM ((l.getD i []).getD k 0) big = C
  repeat(first|refine lrun_ ?_|(refine lo_boxA rfl rfl ?_;intro _ _ _)|(refine lo_box1 rfl rfl rfl ?_;intro _ _ _)|(refine lo_alloc rfl ?_;intro _ _ _))
  refine l_draw [(0, 0), (1, 0), (2, 0), (3, 0), (4, 0), (5, 0), (6, 0), (7, 0), (8, 0), (9, 0), (10, 0), (11, 0), (12, 0), (13, 0), (14, 0), (15, 0), (16, 0), (18, 0), (17, 1), (19, 0), (20, 0), (21, 0), (22, 0)] (by kernel_rfl) (by kernel_rfl) rfl (by kernel_rfl) ?_
  repeat(first|refine lrund_ ?_|(refine ld_open rfl ?_;first|(refine ld_boxA rfl wy_ rfl ?_;intro _ _ _)|(refine ld_box1 rfl rfl wy_ rfl ?_;intro _ _ _)|(refine ld_alloc wy_ rfl ?_;intro _ _ _)))
  by_cases hC0 : C = 0
  · subst hC0
    repeat(first|refine lrund_ ?_|(refine ld_open rfl ?_;first|(refine ld_boxA rfl wy_ rfl ?_;intro _ _ _)|(refine ld_box1 rfl rfl wy_ rfl ?_;intro _ _ _)|(refine ld_alloc wy_ rfl ?_;intro _ _ _)))
    exact l_ret1 rfl rfl fun w hw => ⟨hw.org, by simp⟩
  repeat(first|refine lrund_ ?_|(refine ld_open rfl ?_;first|(refine ld_boxA rfl wy_ rfl ?_;intro _ _ _)|(refine ld_box1 rfl rfl wy_ rfl ?_;intro _ _ _)|(refine ld_alloc wy_ rfl ?_;intro _ _ _)))
  by_cases hlt : (k : Int) + by_ < 0
  · repeat(first|refine lrund_ ?_|(refine ld_open rfl ?_;first|(refine ld_boxA rfl wy_ rfl ?_;intro _ _ _)|(refine ld_box1 rfl rfl wy_ rfl ?_;intro _ _ _)|(refine ld_alloc wy_ rfl ?_;intro _ _ _)))
    exact l_ret1 rfl rfl fun w hw => ⟨hw.org, by rw [decide_eq_true (⟨hC0, .inl hlt⟩ : C ≠ 0 ∧ _)]⟩
  repeat(first|refine lrund_ ?_|(refine ld_open rfl ?_;first|(refine ld_boxA rfl wy_ rfl ?_;intro _ _ _)|(refine ld_box1 rfl rfl wy_ rfl ?_;intro _ _ _)|(refine ld_alloc wy_ rfl ?_;intro _ _ _)))
  by_cases hge : ((l.getD i []).length : Int) ≤ (k : Int) + by_
  · repeat(first|refine lrund_ ?_|(refine ld_open rfl ?_;first|(refine ld_boxA rfl wy_ rfl ?_;intro _ _ _)|(refine ld_box1 rfl rfl wy_ rfl ?_;intro _ _ _)|(refine ld_alloc wy_ rfl ?_;intro _ _ _)))
    exact l_ret1 rfl rfl fun w hw => ⟨hw.org, by rw [decide_eq_true (⟨hC0, .inr (.inl hge)⟩ : C ≠ 0 ∧ _)]⟩
  repeat(first|refine lrund_ ?_|(refine ld_open rfl ?_;first|(refine ld_boxA rfl wy_ rfl ?_;intro _ _ _)|(refine ld_box1 rfl rfl wy_ rfl ?_;intro _ _ _)|(refine ld_alloc wy_ rfl ?_;intro _ _ _)))
  obtain ⟨m, hm⟩ : ∃ m : Nat, (k : Int) + by_ = m := ⟨((k : Int) + by_).toNat, by omega⟩
  rw [hm]
  repeat(first|refine lrund_ ?_|(refine ld_open rfl ?_;first|(refine ld_boxA rfl wy_ rfl ?_;intro _ _ _)|(refine ld_box1 rfl rfl wy_ rfl ?_;intro _ _ _)|(refine ld_alloc wy_ rfl ?_;intro _ _ _)))
  refine ld_open rfl ?_; refine ld_callP (n_call rfl) wy_ rfl (fun w hw => classP_calls) ?_
  repeat(first|refine lrund_ ?_|(refine ld_open rfl ?_;first|(refine ld_boxA rfl wy_ rfl ?_;intro _ _ _)|(refine ld_box1 rfl rfl wy_ rfl ?_;intro _ _ _)|(refine ld_alloc wy_ rfl ?_;intro _ _ _)))
  exact l_ret1 rfl rfl fun w hw => ⟨hw.org, by rw [Int.toNat_natCast]; congr 1; rw [decide_eq_decide]; constructor; exact fun h => ⟨hC0, .inr (.inr h)⟩; exact fun h => h.2.elim (fun h => absurd h (by omega)) fun h => h.elim (fun h => absurd h (by omega)) id⟩
set_option maxHeartbeats 4000000 in
theorem sent1_calls (hR : Rws F w A c l ad rV rc ra) (hc1 : w.cell? ⟨g1, 0, none⟩ = some (.slice A l.length c)) (hq : At l q) :
    CallsR Try.prog 40 #[posV q, .pointer (some ⟨g1, 0, none⟩)] w fun u w' => Kn w w' ∧ u = .bool (sentM l q) := by
  obtain ⟨i, k, rfl, hi, hk, -⟩ := at_index hq
  have hll := hR.len
  have hrl := hR.rl i
  have hrc := hR.rcap i hi
  have hem : sentM l ((i : Int), (k : Int)) = if (l.getD i []).length = 0 then decide ((0 : Int) < i ∧ 0 < (l.getD (i - 1) []).length)
      else if classM ((l.getD i []).getD k 0) false = 0 then false
      else if 0 < trimN (l.getD i []) k then decide (trimN (l.getD i []) k < k) && endM (l.getD i []) (trimN (l.getD i []) k)
      else if (i : Int) = 0 then true
      else decide (trimN (l.getD (i - 1) []) (l.getD (i - 1) []).length = 0) || endM (l.getD (i - 1) []) (trimN (l.getD (i - 1) []) (l.getD (i - 1) []).length) := by
    unfold sentM; rw [rowOf_at]; rfl
  rw [hem]
  refine l_enter (fun _ => False) Try.func40 rfl rfl ?_
  repeat(first|refine lrun_ ?_|(refine lo_boxA rfl rfl ?_;intro _ _ _)|(refine lo_box1 rfl rfl rfl ?_;intro _ _ _)|(refine lo_alloc rfl ?_;intro _ _ _))
  by_cases h0 : (l.getD i []).length = 0
  · rw [if_pos h0]
    refine l_yes rfl (by omega) ?_
    by_cases hi0 : (0 : Int) < i
    · repeat(first|refine lrun_ ?_|(refine lo_boxA rfl rfl ?_;intro _ _ _)|(refine lo_box1 rfl rfl rfl ?_;intro _ _ _)|(refine lo_alloc rfl ?_;intro _ _ _))
      obtain ⟨j, rfl⟩ : ∃ j, i = j + 1 := ⟨i - 1, by omega⟩
      have hjl := hR.rl j
      rw [show (((j + 1 : Nat) : Int), (k : Int)).fst - 1 = (j : Nat) by show ((j + 1 : Nat) : Int) - 1 = (j : Nat); omega]
      repeat(first|refine lrun_ ?_|(refine lo_boxA rfl rfl ?_;intro _ _ _)|(refine lo_box1 rfl rfl rfl ?_;intro _ _ _)|(refine lo_alloc rfl ?_;intro _ _ _))
      exact l_ret1 rfl rfl fun w hw => ⟨hw.org, by congr 1; rw [decide_eq_decide, Nat.add_sub_cancel]; omega⟩
    · repeat(first|refine lrun_ ?_|(refine lo_boxA rfl rfl ?_;intro _ _ _)|(refine lo_box1 rfl rfl rfl ?_;intro _ _ _)|(refine lo_alloc rfl ?_;intro _ _ _))
      exact l_ret1 rfl rfl fun w hw => ⟨hw.org, by rw [decide_eq_false (fun h => hi0 h.1)]⟩
  rw [if_neg h0]
  have hkl : k < (l.getD i []).length := by omega
  refine l_no rfl (by omega) ?_
  repeat(first|refine lrun_ ?_|(refine lo_boxA rfl rfl ?_;intro _ _ _)|(refine lo_box1 rfl rfl rfl ?_;intro _ _ _)|(refine lo_alloc rfl ?_;intro _ _ _))
  refine lo_callP (n_call rfl) rfl (fun w hw => classP_calls) ?_
  by_cases hC : classM ((l.getD i []).getD k 0) false = 0
  · rw [if_pos hC, hC]
    repeat(first|refine lrun_ ?_|(refine lo_boxA rfl rfl ?_;intro _ _ _)|(refine lo_box1 rfl rfl rfl ?_;intro _ _ _)|(refine lo_alloc rfl ?_;intro _ _ _))
    refine l_yes rfl rfl ?_
    repeat(first|refine lrun_ ?_|(refine lo_boxA rfl rfl ?_;intro _ _ _)|(refine lo_box1 rfl rfl rfl ?_;intro _ _ _)|(refine lo_alloc rfl ?_;intro _ _ _))
    exact l_ret1 rfl rfl fun w hw => ⟨hw.org, rfl⟩
  rw [if_neg hC]
  repeat(first|refine lrun_ ?_|(refine lo_boxA rfl rfl ?_;intro _ _ _)|(refine lo_box1 rfl rfl rfl ?_;intro _ _ _)|(refine lo_alloc rfl ?_;intro _ _ _))
  refine l_no rfl hC ?_
  repeat(first|refine lrun_ ?_|(refine lo_boxA rfl rfl ?_;intro _ _ _)|(refine lo_box1 rfl rfl rfl ?_;intro _ _ _)|(refine lo_alloc rfl ?_;intro _ _ _))
  have hX := hR.rns hi
  refine lo_call (n_call rfl) rfl (fun w hw => by obtain ⟨ad', hX'⟩ := hX.move hw.org.st_all; exact trimmed_calls hX' (Nat.le_of_lt hkl)) ?_
  have htl := trimN_le (x := l.getD i []) k
  generalize hT : trimN (l.getD i []) k = T at *
  repeat(first|refine lrun_ ?_|(refine lo_boxA rfl rfl ?_;intro _ _ _)|(refine lo_box1 rfl rfl rfl ?_;intro _ _ _)|(refine lo_alloc rfl ?_;intro _ _ _))
  by_cases hT0 : 0 < T
  · rw [if_pos hT0]
    refine l_yes rfl (by omega) ?_
    by_cases hTk : T < k
    · repeat(first|refine lrun_ ?_|(refine lo_boxA rfl rfl ?_;intro _ _ _)|(refine lo_box1 rfl rfl rfl ?_;intro _ _ _)|(refine lo_alloc rfl ?_;intro _ _ _))
      refine lo_call (n_call rfl) rfl (fun w hw => by obtain ⟨ad', hX'⟩ := hX.move hw.org.st_all; exact ended_calls hX' (by omega)) ?_
      repeat(first|refine lrun_ ?_|(refine lo_boxA rfl rfl ?_;intro _ _ _)|(refine lo_box1 rfl rfl rfl ?_;intro _ _ _)|(refine lo_alloc rfl ?_;intro _ _ _))
      exact l_ret1 rfl rfl fun w hw => ⟨hw.org, by rw [decide_eq_true hTk, Bool.true_and]⟩
    · repeat(first|refine lrun_ ?_|(refine lo_boxA rfl rfl ?_;intro _ _ _)|(refine lo_box1 rfl rfl rfl ?_;intro _ _ _)|(refine lo_alloc rfl ?_;intro _ _ _))
      exact l_ret1 rfl rfl fun w hw => ⟨hw.org, by rw [decide_eq_false hTk, Bool.false_and]⟩
  rw [if_neg hT0]
  refine l_no rfl (by omega) ?_
  repeat(first|refine lrun_ ?_|(refine lo_boxA rfl rfl ?_;intro _ _ _)|(refine lo_box1 rfl rfl rfl ?_;intro _ _ _)|(refine lo_alloc rfl ?_;intro _ _ _))
  by_cases hi0 : (i : Int) = 0
  · rw [if_pos hi0]
    refine l_yes rfl hi0 ?_
    repeat(first|refine lrun_ ?_|(refine lo_boxA rfl rfl ?_;intro _ _ _)|(refine lo_box1 rfl rfl rfl ?_;intro _ _ _)|(refine lo_alloc rfl ?_;intro _ _ _))
    exact l_ret1 rfl rfl fun w hw => ⟨hw.org, rfl⟩
  rw [if_neg hi0]
  refine l_no rfl hi0 ?_
  repeat(first|refine lrun_ ?_|(refine lo_boxA rfl rfl ?_;intro _ _ _)|(refine lo_box1 rfl rfl rfl ?_;intro _ _ _)|(refine lo_alloc rfl ?_;intro _ _ _))
  obtain ⟨j, rfl⟩ : ∃ j, i = j + 1 := ⟨i - 1, by omega⟩
  have hjl := hR.rl j
  rw [show (((j + 1 : Nat) : Int), (k : Int)).fst - 1 = (j : Nat) by show ((j + 1 : Nat) : Int) - 1 = (j : Nat); omega]
  rw [Nat.add_sub_cancel]
  have hY := hR.rns (i := j) (by omega)
  repeat(first|refine lrun_ ?_|(refine lo_boxA rfl rfl ?_;intro _ _ _)|(refine lo_box1 rfl rfl rfl ?_;intro _ _ _)|(refine lo_alloc rfl ?_;intro _ _ _))
  refine lo_call (n_call rfl) rfl (fun w hw => by obtain ⟨ad', hX'⟩ := hY.move hw.org.st_all; exact trimmed_calls hX' (Nat.le_refl _)) ?_
  have htl2 := trimN_le (x := l.getD j []) (l.getD j []).length
  generalize hU : trimN (l.getD j []) (l.getD j []).length = U at *
  repeat(first|refine lrun_ ?_|(refine lo_boxA rfl rfl ?_;intro _ _ _)|(refine lo_box1 rfl rfl rfl ?_;intro _ _ _)|(refine lo_alloc rfl ?_;intro _ _ _))
  by_cases hU0 : U = 0
  · repeat(first|refine lrun_ ?_|(refine lo_boxA rfl rfl ?_;intro _ _ _)|(refine lo_box1 rfl rfl rfl ?_;intro _ _ _)|(refine lo_alloc rfl ?_;intro _ _ _))
    exact l_ret1 rfl rfl fun w hw => ⟨hw.org, by rw [decide_eq_true hU0, Bool.true_or]⟩
  · repeat(first|refine lrun_ ?_|(refine lo_boxA rfl rfl ?_;intro _ _ _)|(refine lo_box1 rfl rfl rfl ?_;intro _ _ _)|(refine lo_alloc rfl ?_;intro _ _ _))
    refine lo_call (n_call rfl) rfl (fun w hw => by obtain ⟨ad', hX'⟩ := hY.move hw.org.st_all; exact ended_calls hX' (by omega)) ?_
    repeat(first|refine lrun_ ?_|(refine lo_boxA rfl rfl ?_;intro _ _ _)|(refine lo_box1 rfl rfl rfl ?_;intro _ _ _)|(refine lo_alloc rfl ?_;intro _ _ _))
    exact l_ret1 rfl rfl fun w hw => ⟨hw.org, by rw [decide_eq_false hU0, Bool.false_or]⟩
end
end Go.Ink
