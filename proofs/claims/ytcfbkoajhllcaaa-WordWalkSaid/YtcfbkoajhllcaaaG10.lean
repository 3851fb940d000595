/-
  The reference: is, Last, Behind, Before.
-/
import Derived.Test.YtcfbkoajhllcaaaG9
import Derived.Test.YtcfbkoajhllcaaaPss
set_option linter.unusedVariables false
set_option linter.unusedSimpArgs false
namespace Go.Ink
open Go Go.Proofs

/-- A place of that kind. -/
def isM (l : List (List Int)) (kind : Int) : Ps → Bool :=
  if kind = 0 then edgeM l false (-1) else if kind = 1 then edgeM l true (-1) else if kind = 2 then edgeM l false 1 else if kind = 3 then edgeM l true 1 else if kind = 4 then parE l else if kind = 5 then parB l else sentM l
section
variable {F : Nat → Prop} {w : World} {A : Option Addr} {c : Nat} {l : List (List Int)} {ad : Addr} {rV : Nat → Option Addr} {rc : Nat → Nat} {ra : Nat → Addr} {q : Ps}
theorem parE_q {i k : Nat} : parE l ((i : Int), (k : Int)) = decide ((l.getD i []).length = 0 ∧ 0 < i ∧ 0 < (l.getD (i - 1) []).length) := by
  unfold parE
  rw [decide_eq_decide, rowOf_at]
  simp only [Int.toNat_natCast]
  omega
theorem parB_q {i k : Nat} : parB l ((i : Int), (k : Int)) = decide ((l.getD i []).length = 0 ∧ i + 1 < l.length ∧ 0 < (l.getD (i + 1) []).length) := by
  unfold parB
  rw [decide_eq_decide, rowOf_at]
  simp only [Int.toNat_natCast]
  omega
set_option maxHeartbeats 4000000 in
theorem is_calls {kind : Int} (hR : Rws F w A c l ad rV rc ra) (hq : At l q) (hk : kind = 0 ∨ kind = 1 ∨ kind = 2 ∨ kind = 3 ∨ kind = 4 ∨ kind = 5 ∨ kind = 6) :
    CallsR Try.prog 34 #[.slice A l.length c, posV q, .int .i64 kind] w fun u w' => Kn w w' ∧ u = .bool (isM l kind q) := by
  have hmv : ∀ w', Kn w w' → ∃ ad' rV' rc' ra', Rws F w' A c l ad' rV' rc' ra' := fun w' hw => by
    obtain ⟨A', c', ad', rV', rc', ra', he, hR'⟩ := (Kn.sl hw hR.sl).rws
    cases he
    exact ⟨_, _, _, _, hR'⟩
  refine l_enter (fun _ => False) Try.func34 rfl rfl ?_
  rcases hk with rfl | rfl | rfl | rfl | rfl | rfl | rfl
  · repeat(first|refine lrun_ ?_|(refine lo_boxA rfl rfl ?_;intro _ _ _)|(refine lo_box1 rfl rfl rfl ?_;intro _ _ _)|(refine lo_alloc rfl ?_;intro _ _ _))
    refine l_yes rfl rfl ?_
    repeat(first|refine lrun_ ?_|(refine lo_boxA rfl rfl ?_;intro _ _ _)|(refine lo_box1 rfl rfl rfl ?_;intro _ _ _)|(refine lo_alloc rfl ?_;intro _ _ _))
    refine l_yes rfl rfl ?_
    repeat(first|refine lrun_ ?_|(refine lo_boxA rfl rfl ?_;intro _ _ _)|(refine lo_box1 rfl rfl rfl ?_;intro _ _ _)|(refine lo_alloc rfl ?_;intro _ _ _))
    refine lo_call (n_call rfl) rfl (fun w hw => by obtain ⟨_, _, _, _, hR'⟩ := hmv w hw.org; exact begins_calls hR' hq) ?_
    repeat(first|refine lrun_ ?_|(refine lo_boxA rfl rfl ?_;intro _ _ _)|(refine lo_box1 rfl rfl rfl ?_;intro _ _ _)|(refine lo_alloc rfl ?_;intro _ _ _))
    exact l_ret1 rfl rfl fun w hw => ⟨hw.org, rfl⟩
  · repeat(first|refine lrun_ ?_|(refine lo_boxA rfl rfl ?_;intro _ _ _)|(refine lo_box1 rfl rfl rfl ?_;intro _ _ _)|(refine lo_alloc rfl ?_;intro _ _ _))
    refine l_no rfl (by decide) ?_
    repeat(first|refine lrun_ ?_|(refine lo_boxA rfl rfl ?_;intro _ _ _)|(refine lo_box1 rfl rfl rfl ?_;intro _ _ _)|(refine lo_alloc rfl ?_;intro _ _ _))
    refine l_yes rfl rfl ?_
    repeat(first|refine lrun_ ?_|(refine lo_boxA rfl rfl ?_;intro _ _ _)|(refine lo_box1 rfl rfl rfl ?_;intro _ _ _)|(refine lo_alloc rfl ?_;intro _ _ _))
    refine lo_call (n_call rfl) rfl (fun w hw => by obtain ⟨_, _, _, _, hR'⟩ := hmv w hw.org; exact begins_calls hR' hq) ?_
    repeat(first|refine lrun_ ?_|(refine lo_boxA rfl rfl ?_;intro _ _ _)|(refine lo_box1 rfl rfl rfl ?_;intro _ _ _)|(refine lo_alloc rfl ?_;intro _ _ _))
    exact l_ret1 rfl rfl fun w hw => ⟨hw.org, rfl⟩
  · repeat(first|refine lrun_ ?_|(refine lo_boxA rfl rfl ?_;intro _ _ _)|(refine lo_box1 rfl rfl rfl ?_;intro _ _ _)|(refine lo_alloc rfl ?_;intro _ _ _))
    refine l_no rfl (by decide) ?_
    repeat(first|refine lrun_ ?_|(refine lo_boxA rfl rfl ?_;intro _ _ _)|(refine lo_box1 rfl rfl rfl ?_;intro _ _ _)|(refine lo_alloc rfl ?_;intro _ _ _))
    refine l_no rfl (by decide) ?_
    repeat(first|refine lrun_ ?_|(refine lo_boxA rfl rfl ?_;intro _ _ _)|(refine lo_box1 rfl rfl rfl ?_;intro _ _ _)|(refine lo_alloc rfl ?_;intro _ _ _))
    refine l_yes rfl rfl ?_
    repeat(first|refine lrun_ ?_|(refine lo_boxA rfl rfl ?_;intro _ _ _)|(refine lo_box1 rfl rfl rfl ?_;intro _ _ _)|(refine lo_alloc rfl ?_;intro _ _ _))
    refine l_yes rfl rfl ?_
    repeat(first|refine lrun_ ?_|(refine lo_boxA rfl rfl ?_;intro _ _ _)|(refine lo_box1 rfl rfl rfl ?_;intro _ _ _)|(refine lo_alloc rfl ?_;intro _ _ _))
    refine lo_call (n_call rfl) rfl (fun w hw => by obtain ⟨_, _, _, _, hR'⟩ := hmv w hw.org; exact ends_calls hR' hq) ?_
    repeat(first|refine lrun_ ?_|(refine lo_boxA rfl rfl ?_;intro _ _ _)|(refine lo_box1 rfl rfl rfl ?_;intro _ _ _)|(refine lo_alloc rfl ?_;intro _ _ _))
    exact l_ret1 rfl rfl fun w hw => ⟨hw.org, rfl⟩
  · repeat(first|refine lrun_ ?_|(refine lo_boxA rfl rfl ?_;intro _ _ _)|(refine lo_box1 rfl rfl rfl ?_;intro _ _ _)|(refine lo_alloc rfl ?_;intro _ _ _))
    refine l_no rfl (by decide) ?_
    repeat(first|refine lrun_ ?_|(refine lo_boxA rfl rfl ?_;intro _ _ _)|(refine lo_box1 rfl rfl rfl ?_;intro _ _ _)|(refine lo_alloc rfl ?_;intro _ _ _))
    refine l_no rfl (by decide) ?_
    repeat(first|refine lrun_ ?_|(refine lo_boxA rfl rfl ?_;intro _ _ _)|(refine lo_box1 rfl rfl rfl ?_;intro _ _ _)|(refine lo_alloc rfl ?_;intro _ _ _))
    refine l_no rfl (by decide) ?_
    repeat(first|refine lrun_ ?_|(refine lo_boxA rfl rfl ?_;intro _ _ _)|(refine lo_box1 rfl rfl rfl ?_;intro _ _ _)|(refine lo_alloc rfl ?_;intro _ _ _))
    refine l_yes rfl rfl ?_
    repeat(first|refine lrun_ ?_|(refine lo_boxA rfl rfl ?_;intro _ _ _)|(refine lo_box1 rfl rfl rfl ?_;intro _ _ _)|(refine lo_alloc rfl ?_;intro _ _ _))
    refine lo_call (n_call rfl) rfl (fun w hw => by obtain ⟨_, _, _, _, hR'⟩ := hmv w hw.org; exact ends_calls hR' hq) ?_
    repeat(first|refine lrun_ ?_|(refine lo_boxA rfl rfl ?_;intro _ _ _)|(refine lo_box1 rfl rfl rfl ?_;intro _ _ _)|(refine lo_alloc rfl ?_;intro _ _ _))
    exact l_ret1 rfl rfl fun w hw => ⟨hw.org, rfl⟩
  · obtain ⟨i, k, rfl, hi, hk, -⟩ := at_index hq
    have hll := hR.len
    have hrl := hR.rl i
    have hpe : isM l 4 ((i : Int), (k : Int)) = decide ((l.getD i []).length = 0 ∧ 0 < i ∧ 0 < (l.getD (i - 1) []).length) := parE_q
    rw [hpe]
    repeat(first|refine lrun_ ?_|(refine lo_boxA rfl rfl ?_;intro _ _ _)|(refine lo_box1 rfl rfl rfl ?_;intro _ _ _)|(refine lo_alloc rfl ?_;intro _ _ _))
    refine l_no rfl (by decide) ?_
    repeat(first|refine lrun_ ?_|(refine lo_boxA rfl rfl ?_;intro _ _ _)|(refine lo_box1 rfl rfl rfl ?_;intro _ _ _)|(refine lo_alloc rfl ?_;intro _ _ _))
    refine l_no rfl (by decide) ?_
    repeat(first|refine lrun_ ?_|(refine lo_boxA rfl rfl ?_;intro _ _ _)|(refine lo_box1 rfl rfl rfl ?_;intro _ _ _)|(refine lo_alloc rfl ?_;intro _ _ _))
    refine l_no rfl (by decide) ?_
    repeat(first|refine lrun_ ?_|(refine lo_boxA rfl rfl ?_;intro _ _ _)|(refine lo_box1 rfl rfl rfl ?_;intro _ _ _)|(refine lo_alloc rfl ?_;intro _ _ _))
    refine l_no rfl (by decide) ?_
    repeat(first|refine lrun_ ?_|(refine lo_boxA rfl rfl ?_;intro _ _ _)|(refine lo_box1 rfl rfl rfl ?_;intro _ _ _)|(refine lo_alloc rfl ?_;intro _ _ _))
    refine l_yes rfl rfl ?_
    by_cases h0 : (l.getD i []).length = 0
    · by_cases hi0 : (0 : Int) < i
      · obtain ⟨j, rfl⟩ : ∃ j, i = j + 1 := ⟨i - 1, by omega⟩
        have hjl := hR.rl j
        repeat(first|refine lrun_ ?_|(refine lo_boxA rfl rfl ?_;intro _ _ _)|(refine lo_box1 rfl rfl rfl ?_;intro _ _ _)|(refine lo_alloc rfl ?_;intro _ _ _))
        rw [show ((j + 1 : Nat) : Int) - 1 = (j : Nat) by omega]
        repeat(first|refine lrun_ ?_|(refine lo_boxA rfl rfl ?_;intro _ _ _)|(refine lo_box1 rfl rfl rfl ?_;intro _ _ _)|(refine lo_alloc rfl ?_;intro _ _ _))
        exact l_ret1 rfl rfl fun w hw => ⟨hw.org, by congr 1; rw [decide_eq_decide, Nat.add_sub_cancel]; omega⟩
      · repeat(first|refine lrun_ ?_|(refine lo_boxA rfl rfl ?_;intro _ _ _)|(refine lo_box1 rfl rfl rfl ?_;intro _ _ _)|(refine lo_alloc rfl ?_;intro _ _ _))
        exact l_ret1 rfl rfl fun w hw => ⟨hw.org, by rw [decide_eq_false (fun h => hi0 (by omega))]⟩
    · repeat(first|refine lrun_ ?_|(refine lo_boxA rfl rfl ?_;intro _ _ _)|(refine lo_box1 rfl rfl rfl ?_;intro _ _ _)|(refine lo_alloc rfl ?_;intro _ _ _))
      exact l_ret1 rfl rfl fun w hw => ⟨hw.org, by rw [decide_eq_false (fun h => h0 h.1)]⟩
  · obtain ⟨i, k, rfl, hi, hk, -⟩ := at_index hq
    have hll := hR.len
    have hrl := hR.rl i
    have hpe : isM l 5 ((i : Int), (k : Int)) = decide ((l.getD i []).length = 0 ∧ i + 1 < l.length ∧ 0 < (l.getD (i + 1) []).length) := parB_q
    rw [hpe]
    repeat(first|refine lrun_ ?_|(refine lo_boxA rfl rfl ?_;intro _ _ _)|(refine lo_box1 rfl rfl rfl ?_;intro _ _ _)|(refine lo_alloc rfl ?_;intro _ _ _))
    refine l_no rfl (by decide) ?_
    repeat(first|refine lrun_ ?_|(refine lo_boxA rfl rfl ?_;intro _ _ _)|(refine lo_box1 rfl rfl rfl ?_;intro _ _ _)|(refine lo_alloc rfl ?_;intro _ _ _))
    refine l_no rfl (by decide) ?_
    repeat(first|refine lrun_ ?_|(refine lo_boxA rfl rfl ?_;intro _ _ _)|(refine lo_box1 rfl rfl rfl ?_;intro _ _ _)|(refine lo_alloc rfl ?_;intro _ _ _))
    refine l_no rfl (by decide) ?_
    repeat(first|refine lrun_ ?_|(refine lo_boxA rfl rfl ?_;intro _ _ _)|(refine lo_box1 rfl rfl rfl ?_;intro _ _ _)|(refine lo_alloc rfl ?_;intro _ _ _))
    refine l_no rfl (by decide) ?_
    repeat(first|refine lrun_ ?_|(refine lo_boxA rfl rfl ?_;intro _ _ _)|(refine lo_box1 rfl rfl rfl ?_;intro _ _ _)|(refine lo_alloc rfl ?_;intro _ _ _))
    refine l_no rfl (by decide) ?_
    repeat(first|refine lrun_ ?_|(refine lo_boxA rfl rfl ?_;intro _ _ _)|(refine lo_box1 rfl rfl rfl ?_;intro _ _ _)|(refine lo_alloc rfl ?_;intro _ _ _))
    refine l_yes rfl rfl ?_
    by_cases h0 : (l.getD i []).length = 0
    · by_cases hi0 : (i : Int) < (l.length : Int) - 1
      · have hjl := hR.rl (i + 1)
        have hi1 : i + 1 < l.length := by omega
        repeat(first|refine lrun_ ?_|(refine lo_boxA rfl rfl ?_;intro _ _ _)|(refine lo_box1 rfl rfl rfl ?_;intro _ _ _)|(refine lo_alloc rfl ?_;intro _ _ _))
        rw [show (i : Int) + 1 = ((i + 1 : Nat) : Int) by omega]
        repeat(first|refine lrun_ ?_|(refine lo_boxA rfl rfl ?_;intro _ _ _)|(refine lo_box1 rfl rfl rfl ?_;intro _ _ _)|(refine lo_alloc rfl ?_;intro _ _ _))
        exact l_ret1 rfl rfl fun w hw => ⟨hw.org, by congr 1; rw [decide_eq_decide]; exact ⟨fun h => ⟨h0, hi1, Int.ofNat_lt.1 h⟩, fun h => Int.ofNat_lt.2 h.2.2⟩⟩
      · repeat(first|refine lrun_ ?_|(refine lo_boxA rfl rfl ?_;intro _ _ _)|(refine lo_box1 rfl rfl rfl ?_;intro _ _ _)|(refine lo_alloc rfl ?_;intro _ _ _))
        exact l_ret1 rfl rfl fun w hw => ⟨hw.org, by rw [decide_eq_false (fun h => hi0 (by omega))]⟩
    · repeat(first|refine lrun_ ?_|(refine lo_boxA rfl rfl ?_;intro _ _ _)|(refine lo_box1 rfl rfl rfl ?_;intro _ _ _)|(refine lo_alloc rfl ?_;intro _ _ _))
      exact l_ret1 rfl rfl fun w hw => ⟨hw.org, by rw [decide_eq_false (fun h => h0 h.1)]⟩
  · repeat(first|refine lrun_ ?_|(refine lo_boxA rfl rfl ?_;intro _ _ _)|(refine lo_box1 rfl rfl rfl ?_;intro _ _ _)|(refine lo_alloc rfl ?_;intro _ _ _))
    refine l_no rfl (by decide) ?_
    repeat(first|refine lrun_ ?_|(refine lo_boxA rfl rfl ?_;intro _ _ _)|(refine lo_box1 rfl rfl rfl ?_;intro _ _ _)|(refine lo_alloc rfl ?_;intro _ _ _))
    refine l_no rfl (by decide) ?_
    repeat(first|refine lrun_ ?_|(refine lo_boxA rfl rfl ?_;intro _ _ _)|(refine lo_box1 rfl rfl rfl ?_;intro _ _ _)|(refine lo_alloc rfl ?_;intro _ _ _))
    refine l_no rfl (by decide) ?_
    repeat(first|refine lrun_ ?_|(refine lo_boxA rfl rfl ?_;intro _ _ _)|(refine lo_box1 rfl rfl rfl ?_;intro _ _ _)|(refine lo_alloc rfl ?_;intro _ _ _))
    refine l_no rfl (by decide) ?_
    repeat(first|refine lrun_ ?_|(refine lo_boxA rfl rfl ?_;intro _ _ _)|(refine lo_box1 rfl rfl rfl ?_;intro _ _ _)|(refine lo_alloc rfl ?_;intro _ _ _))
    refine l_no rfl (by decide) ?_
    repeat(first|refine lrun_ ?_|(refine lo_boxA rfl rfl ?_;intro _ _ _)|(refine lo_box1 rfl rfl rfl ?_;intro _ _ _)|(refine lo_alloc rfl ?_;intro _ _ _))
    refine l_no rfl (by decide) ?_
    repeat(first|refine lrun_ ?_|(refine lo_boxA rfl rfl ?_;intro _ _ _)|(refine lo_box1 rfl rfl rfl ?_;intro _ _ _)|(refine lo_alloc rfl ?_;intro _ _ _))
    refine lo_call (n_call rfl) rfl (fun w hw => by obtain ⟨_, _, _, _, hR'⟩ := hmv w hw.org; exact sentR_calls hR' hq) ?_
    repeat(first|refine lrun_ ?_|(refine lo_boxA rfl rfl ?_;intro _ _ _)|(refine lo_box1 rfl rfl rfl ?_;intro _ _ _)|(refine lo_alloc rfl ?_;intro _ _ _))
    exact l_ret1 rfl rfl fun w hw => ⟨hw.org, rfl⟩
theorem last_get (h0 : l ≠ []) : (placesTo l l.length)[(placesTo l l.length).length - 1]? = some (lastM l) := by
  obtain ⟨n, hn⟩ : ∃ n, l.length = n + 1 := ⟨l.length - 1, by have := List.length_pos_iff.2 h0; omega⟩
  have e : lastM l = ((n : Int), (((l.getD n []).length - 1 : Nat) : Int)) := by
    unfold lastM
    rw [if_neg h0, hn, Nat.add_sub_cancel]
  rw [hn, placesTo_succ, e]
  unfold placesAt
  by_cases h1 : (l.getD n []).length = 0
  · rw [if_pos h1, h1]
    simp
  · rw [if_neg h1]
    obtain ⟨m, hm⟩ : ∃ m, (l.getD n []).length = m + 1 := ⟨(l.getD n []).length - 1, by omega⟩
    rw [hm, colsTo_succ, ← List.append_assoc, Nat.add_sub_cancel]
    simp
theorem places_nil : placesTo ([] : List (List Int)) 0 = [] := rfl
set_option maxHeartbeats 1000000 in
theorem lastR_calls {v : Value} (hs0 : l.length + runesM l ≤ 4000) (h : Sl kRow F w v l) : CallsR Try.prog 12 #[v] w fun u w' => Kn w w' ∧ u = posV (lastM l) := by
  refine l_enter (fun _ => False) Try.func12 rfl rfl ?_
  repeat(first|refine lrun_ ?_|(refine lo_boxA rfl rfl ?_;intro _ _ _)|(refine lo_box1 rfl rfl rfl ?_;intro _ _ _)|(refine lo_alloc rfl ?_;intro _ _ _))
  rename_i g2 _ _
  refine lo_callB (n_call rfl) rfl (fun w hw => places_calls (Kn.sl hw.org h) hs0) ?_
  rintro wa _ b K hwa kab hkb ⟨Ae, ce, rfl, hOe⟩ hK
  obtain ⟨adP, hP1, hP2⟩ := pss hOe (fun _ h => h)
  have hnk : 0 < (placesTo l l.length).length → ∀ u, ¬ K (adP.add (u * 2)).block := by
    intro h0 u hm
    have := hK _ hm
    have h2 := (hP1 h0).2
    rw [add_block] at this
    unfold noB at h2
    omega
  have hlast := fun h0 => last_get (l := l) h0
  have hpl : (placesTo l l.length).length ≤ 4000 := Nat.le_trans (placesTo_le l.length (Nat.le_refl _)) (by rw [List.take_length]; exact hs0)
  have hnil : l = [] → (placesTo l l.length).length = 0 := by rintro rfl; rfl
  generalize hP : placesTo l l.length = P at *
  repeat(first|refine lrun_ ?_|(refine lo_boxA rfl rfl ?_;intro _ _ _)|(refine lo_box1 rfl rfl rfl ?_;intro _ _ _)|(refine lo_alloc rfl ?_;intro _ _ _))
  by_cases h0 : l = []
  · have := hnil h0
    refine l_yes rfl (by omega) ?_
    repeat(first|refine lrun_ ?_|(refine lo_boxA rfl rfl ?_;intro _ _ _)|(refine lo_box1 rfl rfl rfl ?_;intro _ _ _)|(refine lo_alloc rfl ?_;intro _ _ _))
    refine l_retR1 rfl (by repeat(first|exact LRes.nil|refine LRes.tmp rfl ?_|refine LRes.agg rfl (by(repeat(first|exact MIn.hd|refine MIn.tl ?_));done) (by rfl) (by rfl) ?_|refine LRes.one rfl (by(repeat(first|exact MIn.hd|refine MIn.tl ?_));done) (by rfl) ?_)) fun w hw => ⟨hw.org, ?_⟩
    unfold lastM
    rw [if_pos h0]
    rfl
  · have hl := hlast h0
    have := (List.getElem?_eq_some_iff.1 hl).1
    refine l_no rfl (by omega) ?_
    generalize hN : P.length - 1 = N at *
    repeat(first|refine lrun_ ?_|(refine lo_boxA rfl rfl ?_;intro _ _ _)|(refine lo_box1 rfl rfl rfl ?_;intro _ _ _)|(refine lo_alloc rfl ?_;intro _ _ _))
    rw [show ((P.length : Int)) - 1 = (N : Nat) by omega]
    repeat(first|refine lrun_ ?_|(refine lo_boxA rfl rfl ?_;intro _ _ _)|(refine lo_box1 rfl rfl rfl ?_;intro _ _ _)|(refine lo_alloc rfl ?_;intro _ _ _))
    exact l_retR1 rfl (by repeat(first|exact LRes.nil|refine LRes.tmp rfl ?_|refine LRes.agg rfl (by(repeat(first|exact MIn.hd|refine MIn.tl ?_));done) (by rfl) (by rfl) ?_|refine LRes.one rfl (by(repeat(first|exact MIn.hd|refine MIn.tl ?_));done) (by rfl) ?_)) fun w hw => ⟨hw.org, rfl⟩
end
end Go.Ink
