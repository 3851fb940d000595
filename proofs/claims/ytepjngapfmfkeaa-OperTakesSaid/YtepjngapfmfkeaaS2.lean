/-
  The reference: parted.
-/
import Derived.Test.YtepjngapfmfkeaaS1
set_option linter.unusedVariables false
set_option linter.unusedSimpArgs false
namespace Go.Ink
open Go Go.Proofs Go.RowKit

theorem mk_eq {M M' : Mm} (h : M.map (·.1) = M'.map (·.1)) {k : Nat} : MK M k ↔ MK M' k := by rw [MK_iff, MK_iff, h]
section
variable {F : Nat → Prop} {w : World} {v : Value} {l : List (List Int)} {r : Rg} {i : Nat}
set_option maxHeartbeats 8000000 in
theorem parted_calls (h : Sl kRow F w v l) (hi : i < l.length) (hb : (l.getD i []).length ≤ 1048576) :
    CallsR Try.prog 44 #[v, .int .i64 (i : Int), rgV r] w fun u w' => Kn w w' ∧ ∃ s t, u = .tuple #[s, t] ∧ Ow kRune (noB w) (fun _ => False) w' s (pinM (l.getD i []) (fun k => hasR r ((i : Int), (k : Int))) (l.getD i []).length) ∧ Ow kRune (noB w) (fun _ => False) w' t (poutM (l.getD i []) (fun k => hasR r ((i : Int), (k : Int))) (l.getD i []).length) := by
  obtain ⟨A, c, ad, rV, rc, ra, rfl, hR⟩ := h.rws
  have hlen := hR.len
  refine l_enter (fun _ => False) Try.func44 rfl rfl ?_
  repeat(first|refine lrun_ ?_|(refine lo_boxA rfl rfl ?_;intro _ _ _)|(refine lo_box1 rfl rfl rfl ?_;intro _ _ _)|(refine lo_alloc rfl ?_;intro _ _ _))
  rename_i g5 _ _
  generalize hrow : l.getD i [] = row at *
  generalize hP : (fun k : Nat => hasR r ((i : Int), (k : Int))) = P
  have hPk : ∀ k : Nat, hasR r ((i : Int), (k : Int)) = P k := fun k => by rw [← hP]
  refine l_whileB (fun s : Nat × Option Addr × Nat × Option Addr × Nat => row.length - s.1) (fun s => [(0, .slice A l.length c), (1, .int .i64 i), (5, .pointer (some ⟨g5, 0, none⟩)), (8, .slice s.2.1 (pinM row P s.1).length s.2.2.1), (9, .slice s.2.2.2.1 (poutM row P s.1).length s.2.2.2.2), (10, .int .i64 (s.1 : Int))]) (fun _ => [(g5, cb [.int .i64 r.fr.1, .int .i64 r.fr.2, .int .i64 r.to.1, .int .i64 r.to.2, .int .i64 r.kind] 26)])
    (fun s b => s.1 ≤ row.length ∧ Og kRune w b (MK [(g5, cb [.int .i64 r.fr.1, .int .i64 r.fr.2, .int .i64 r.to.1, .int .i64 r.to.2, .int .i64 r.kind] 26)]) (fun _ => False) (.slice s.2.1 (pinM row P s.1).length s.2.2.1) (pinM row P s.1) ∧ Og kRune w b (MK [(g5, cb [.int .i64 r.fr.1, .int .i64 r.fr.2, .int .i64 r.to.1, .int .i64 r.to.2, .int .i64 r.kind] 26)]) (fun _ => False) (.slice s.2.2.2.1 (poutM row P s.1).length s.2.2.2.2) (poutM row P s.1) ∧ ∀ k, (Value.slice s.2.1 (pinM row P s.1).length s.2.2.1).ownBlock = some k → (Value.slice s.2.2.2.1 (poutM row P s.1).length s.2.2.2.2).ownBlock ≠ some k) (0, none, 0, none, 0) (by repeat (first | exact SubB.nil | refine SubB.cons rfl ?_)) (by repeat(first|exact MSub.refl|refine MSub.keep rfl ?_|exact MSub.nil|apply MSub.drop)) (fun w' hw => ⟨Nat.zero_le _, Ow.nil _ _ _ _, Ow.nil _ _ _ _, fun k e => by cases e⟩) ?_
  rintro ⟨k, A1, c1, A2, c2⟩ b ⟨hk, hO1, hO2, hne⟩ hkb ih
  simp only at hk hO1 hO2 hne
  have hpl := pin_len row P k
  dsimp only
  by_cases hlt : k < row.length
  · have hlt2 : k < (l.getD i []).length := by rw [hrow]; exact hlt
    have hlo := ((hR.rs i hi).rns).choose_spec.choose_spec.choose_spec.2.lo k
    rw [hrow] at hlo
    have hb1 := hO1.block
    have hb2 := hO2.block
    cases hPc : P k with
    | true =>
      have e1 : pinM row P (k + 1) = pinM row P k ++ [row.getD k 0] := by rw [pin_succ, hPc, if_pos rfl]
      have e2 : poutM row P (k + 1) = poutM row P k := by rw [pout_succ, hPc, if_pos rfl, List.append_nil]
      repeat(first|refine lrun_ ?_|(refine lo_boxA rfl rfl ?_;intro _ _ _)|(refine lo_box1 rfl rfl rfl ?_;intro _ _ _)|(refine lo_alloc rfl ?_;intro _ _ _))
      rw [hrow]
      refine l_yes rfl (by omega) ?_
      repeat(first|refine lrun_ ?_|(refine lo_boxA rfl rfl ?_;intro _ _ _)|(refine lo_box1 rfl rfl rfl ?_;intro _ _ _)|(refine lo_alloc rfl ?_;intro _ _ _))
      refine lo_call (n_call rfl) rfl (fun w' hw => has_calls (r := r) (p := ((i : Int), (k : Int)))) ?_
      rw [hPk, hPc]
      repeat(first|refine lrun_ ?_|(refine lo_boxA rfl rfl ?_;intro _ _ _)|(refine lo_box1 rfl rfl rfl ?_;intro _ _ _)|(refine lo_alloc rfl ?_;intro _ _ _))
      refine l_true rfl ?_
      repeat(first|refine lrun_ ?_|(refine lo_boxA rfl rfl ?_;intro _ _ _)|(refine lo_box1 rfl rfl rfl ?_;intro _ _ _)|(refine lo_alloc rfl ?_;intro _ _ _))
      rw [hrow]
      refine lo_lit (cs := [.int .i32 (row.getD k 0)]) rfl (by decide) (by kernel_rfl) rfl ?_
      intro g9 _ _
      refine lo_append1 (d := kRune) (q := row.getD k 0) rfl rfl hO1 (fun _ h => h.elim) (by(repeat(first|exact MIn.hd|refine MIn.tl ?_));done) (fun w' hw => ⟨rfl, hlo⟩) (by show ((pinM row P k).length + 1) * 4 ≤ 140737488355328; omega) rfl rfl rfl rfl ?_
      intro w3 A3 c3 w4 hw3 hk3 hk4 hown hog
      have hO2' : Ow kRune (fre w (MK [(g5, cb [.int .i64 r.fr.1, .int .i64 r.fr.2, .int .i64 r.to.1, .int .i64 r.to.2, .int .i64 r.kind] 26)])) (fun _ => False) w4 (.slice A2 (poutM row P k).length c2) (poutM row P k) := hO2.keep fun j hj => hk4.block j (hb2 j hj).2 fun h => h.elim (hb2 j hj).1.2 fun h => hne j h hj
      repeat(first|refine lops_ ?_|(refine lo_boxA rfl rfl ?_;intro _ _ _)|(refine lo_box1 rfl rfl rfl ?_;intro _ _ _)|(refine lo_alloc rfl ?_;intro _ _ _))
      refine lo_nil ?_
      refine l_baseM (M3 := [(g5, cb [.int .i64 r.fr.1, .int .i64 r.fr.2, .int .i64 r.to.1, .int .i64 r.to.2, .int .i64 r.kind] 26)]) (by repeat(first|exact MSub.refl|refine MSub.keep rfl ?_|exact MSub.nil|apply MSub.drop)) fun w5 hw5 => ?_
      have hog5 : Og kRune w w5 (MK [(g5, cb [.int .i64 r.fr.1, .int .i64 r.fr.2, .int .i64 r.to.1, .int .i64 r.to.2, .int .i64 r.kind] 26)]) (fun _ => False) (.slice A3 (pinM row P k ++ [row.getD k 0]).length c3) (pinM row P k ++ [row.getD k 0]) := (hog.now (fun _ h => h.elim) hw5).mono (fun j hj _ => ⟨hj.1, fun ⟨o, hm⟩ => hj.2 ⟨o, .tl hm⟩⟩) fun _ h _ => h
      have hO5 : Og kRune w w5 (MK [(g5, cb [.int .i64 r.fr.1, .int .i64 r.fr.2, .int .i64 r.to.1, .int .i64 r.to.2, .int .i64 r.kind] 26)]) (fun _ => False) (.slice A2 (poutM row P k).length c2) (poutM row P k) := hO2'.keep fun j hj => hw5.kp.block j (by have := (hb2 j hj).2; have := hkb; exact ((hO2'.block j hj).2)) fun ⟨o, hm⟩ => by
        cases hm with
        | hd => have := (hb2 _ hj).2; have := hw3.kp.size; omega
        | tl hm => exact (hb2 j hj).1.2 ⟨o, hm⟩
      have hdj : ∀ j, (Value.slice A3 (pinM row P k ++ [row.getD k 0]).length c3).ownBlock = some j → (Value.slice A2 (poutM row P k).length c2).ownBlock ≠ some j := fun j hj hj2 => by
        rcases hown j hj with h | h
        · exact hne j h hj2
        · have := (hb2 j hj2).2; have := hw3.kp.size; omega
      repeat(first|refine lrun_ ?_|(refine lo_boxA rfl rfl ?_;intro _ _ _)|(refine lo_box1 rfl rfl rfl ?_;intro _ _ _)|(refine lo_alloc rfl ?_;intro _ _ _))
      refine ih (k + 1, A3, c3, A2, c2) w5 _ ⟨hlt, by simp only [e1]; exact hog5, by simp only [e2]; exact hO5, by simp only [e1, e2]; exact hdj⟩ (by simp only; omega) _ _ (by simp only [e1, e2]; exact (by repeat (first | exact SubB.nil | refine SubB.cons rfl ?_))) (by repeat(first|exact MSub.refl|refine MSub.keep rfl ?_|exact MSub.nil|apply MSub.drop)) (fun w' hw' => ⟨hlt, by simp only [e1]; exact hog5.now (fun _ h => h.elim) hw', by simp only [e2]; exact hO5.now (fun _ h => h.elim) hw', by simp only [e1, e2]; exact hdj⟩)
    | false =>
      have e1 : pinM row P (k + 1) = pinM row P k := by rw [pin_succ, hPc, if_neg (by decide), List.append_nil]
      have e2 : poutM row P (k + 1) = poutM row P k ++ [row.getD k 0] := by rw [pout_succ, hPc, if_neg (by decide)]
      repeat(first|refine lrun_ ?_|(refine lo_boxA rfl rfl ?_;intro _ _ _)|(refine lo_box1 rfl rfl rfl ?_;intro _ _ _)|(refine lo_alloc rfl ?_;intro _ _ _))
      rw [hrow]
      refine l_yes rfl (by omega) ?_
      repeat(first|refine lrun_ ?_|(refine lo_boxA rfl rfl ?_;intro _ _ _)|(refine lo_box1 rfl rfl rfl ?_;intro _ _ _)|(refine lo_alloc rfl ?_;intro _ _ _))
      refine lo_call (n_call rfl) rfl (fun w' hw => has_calls (r := r) (p := ((i : Int), (k : Int)))) ?_
      rw [hPk, hPc]
      repeat(first|refine lrun_ ?_|(refine lo_boxA rfl rfl ?_;intro _ _ _)|(refine lo_box1 rfl rfl rfl ?_;intro _ _ _)|(refine lo_alloc rfl ?_;intro _ _ _))
      refine l_false rfl ?_
      repeat(first|refine lrun_ ?_|(refine lo_boxA rfl rfl ?_;intro _ _ _)|(refine lo_box1 rfl rfl rfl ?_;intro _ _ _)|(refine lo_alloc rfl ?_;intro _ _ _))
      rw [hrow]
      refine lo_lit (cs := [.int .i32 (row.getD k 0)]) rfl (by decide) (by kernel_rfl) rfl ?_
      intro g9 _ _
      refine lo_append1 (d := kRune) (q := row.getD k 0) rfl rfl hO2 (fun _ h => h.elim) (by(repeat(first|exact MIn.hd|refine MIn.tl ?_));done) (fun w' hw => ⟨rfl, hlo⟩) (by show ((poutM row P k).length + 1) * 4 ≤ 140737488355328; omega) rfl rfl rfl rfl ?_
      intro w3 A3 c3 w4 hw3 hk3 hk4 hown hog
      have hO1' : Ow kRune (fre w (MK [(g5, cb [.int .i64 r.fr.1, .int .i64 r.fr.2, .int .i64 r.to.1, .int .i64 r.to.2, .int .i64 r.kind] 26)])) (fun _ => False) w4 (.slice A1 (pinM row P k).length c1) (pinM row P k) := hO1.keep fun j hj => hk4.block j (hb1 j hj).2 fun h => h.elim (hb1 j hj).1.2 fun h => hne j hj h
      repeat(first|refine lops_ ?_|(refine lo_boxA rfl rfl ?_;intro _ _ _)|(refine lo_box1 rfl rfl rfl ?_;intro _ _ _)|(refine lo_alloc rfl ?_;intro _ _ _))
      refine lo_nil ?_
      refine l_baseM (M3 := [(g5, cb [.int .i64 r.fr.1, .int .i64 r.fr.2, .int .i64 r.to.1, .int .i64 r.to.2, .int .i64 r.kind] 26)]) (by repeat(first|exact MSub.refl|refine MSub.keep rfl ?_|exact MSub.nil|apply MSub.drop)) fun w5 hw5 => ?_
      have hog5 : Og kRune w w5 (MK [(g5, cb [.int .i64 r.fr.1, .int .i64 r.fr.2, .int .i64 r.to.1, .int .i64 r.to.2, .int .i64 r.kind] 26)]) (fun _ => False) (.slice A3 (poutM row P k ++ [row.getD k 0]).length c3) (poutM row P k ++ [row.getD k 0]) := (hog.now (fun _ h => h.elim) hw5).mono (fun j hj _ => ⟨hj.1, fun ⟨o, hm⟩ => hj.2 ⟨o, .tl hm⟩⟩) fun _ h _ => h
      have hO5 : Og kRune w w5 (MK [(g5, cb [.int .i64 r.fr.1, .int .i64 r.fr.2, .int .i64 r.to.1, .int .i64 r.to.2, .int .i64 r.kind] 26)]) (fun _ => False) (.slice A1 (pinM row P k).length c1) (pinM row P k) := hO1'.keep fun j hj => hw5.kp.block j ((hO1'.block j hj).2) fun ⟨o, hm⟩ => by
        cases hm with
        | hd => have := (hb1 _ hj).2; have := hw3.kp.size; omega
        | tl hm => exact (hb1 j hj).1.2 ⟨o, hm⟩
      have hdj : ∀ j, (Value.slice A1 (pinM row P k).length c1).ownBlock = some j → (Value.slice A3 (poutM row P k ++ [row.getD k 0]).length c3).ownBlock ≠ some j := fun j hj hj2 => by
        rcases hown j hj2 with h | h
        · exact hne j hj h
        · have := (hb1 j hj).2; have := hw3.kp.size; omega
      repeat(first|refine lrun_ ?_|(refine lo_boxA rfl rfl ?_;intro _ _ _)|(refine lo_box1 rfl rfl rfl ?_;intro _ _ _)|(refine lo_alloc rfl ?_;intro _ _ _))
      refine ih (k + 1, A1, c1, A3, c3) w5 _ ⟨hlt, by simp only [e1]; exact hO5, by simp only [e2]; exact hog5, by simp only [e1, e2]; exact hdj⟩ (by simp only; omega) _ _ (by simp only [e1, e2]; exact (by repeat (first | exact SubB.nil | refine SubB.cons rfl ?_))) (by repeat(first|exact MSub.refl|refine MSub.keep rfl ?_|exact MSub.nil|apply MSub.drop)) (fun w' hw' => ⟨hlt, by simp only [e1]; exact hO5.now (fun _ h => h.elim) hw', by simp only [e2]; exact hog5.now (fun _ h => h.elim) hw', by simp only [e1, e2]; exact hdj⟩)
  · obtain rfl : k = row.length := by omega
    repeat(first|refine lrun_ ?_|(refine lo_boxA rfl rfl ?_;intro _ _ _)|(refine lo_box1 rfl rfl rfl ?_;intro _ _ _)|(refine lo_alloc rfl ?_;intro _ _ _))
    rw [hrow]
    refine l_no rfl (by omega) ?_
    refine l_go (.exit rfl) ?_
    repeat(first|refine lrun_ ?_|(refine lo_boxA rfl rfl ?_;intro _ _ _)|(refine lo_box1 rfl rfl rfl ?_;intro _ _ _)|(refine lo_alloc rfl ?_;intro _ _ _))
    exact l_retR2 rfl (by repeat(first|exact LRes.nil|refine LRes.tmp rfl ?_|refine LRes.agg rfl (by(repeat(first|exact MIn.hd|refine MIn.tl ?_));done) (by rfl) (by rfl) ?_|refine LRes.one rfl (by(repeat(first|exact MIn.hd|refine MIn.tl ?_));done) (by rfl) ?_)) fun w7 hw => ⟨hw.org, _, _, rfl, (hO1.now (fun _ h => h.elim) hw).mono (fun k hk _ => hk.1) fun _ h _ => h, (hO2.now (fun _ h => h.elim) hw).mono (fun k hk _ => hk.1) fun _ h _ => h⟩
end
end Go.Ink
