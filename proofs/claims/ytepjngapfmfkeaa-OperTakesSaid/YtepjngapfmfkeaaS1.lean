/-
  The reference: there, ends, has, parted.
-/
import Derived.Test.YtepjngapfmfkeaaQA
import Derived.Test.YtepjngapfmfkeaaW2r
import Derived.Test.YtepjngapfmfkeaaW3
import Derived.Test.YtepjngapfmfkeaaTb
set_option linter.unusedVariables false
set_option linter.unusedSimpArgs false
namespace Go.Ink
open Go Go.Proofs Go.RowKit

section
variable {F : Nat → Prop} {w : World} {v : Value} {l : List (List Int)} {r : Rg} {p : Ps}
set_option maxHeartbeats 8000000 in
theorem thereR_calls (h : Sl kRow F w v l) (hr : RgP r) : CallsR Try.prog 42 #[v, rgV r] w fun u w' => Kn w w' ∧ u = .int .i64 (thereR l r) := by
  obtain ⟨A, c, e⟩ : ∃ A c, v = .slice A l.length c := by obtain ⟨A, c, e, _⟩ := h.form; exact ⟨A, c, e⟩
  subst e
  obtain ⟨fr, to, k⟩ := r
  refine l_enter (fun _ => False) Try.func42 rfl rfl ?_
  by_cases h1 : k < 0
  · rw [show thereR l ⟨fr, to, k⟩ = 1 from if_pos (.inl h1)]
    repeat(first|refine lrun_ ?_|(refine lo_boxA rfl rfl ?_;intro _ _ _)|(refine lo_box1 rfl rfl rfl ?_;intro _ _ _)|(refine lo_alloc rfl ?_;intro _ _ _))
    refine l_true rfl ?_
    repeat(first|refine lrun_ ?_|(refine lo_boxA rfl rfl ?_;intro _ _ _)|(refine lo_box1 rfl rfl rfl ?_;intro _ _ _)|(refine lo_alloc rfl ?_;intro _ _ _))
    exact l_ret1 rfl rfl fun w' hw => ⟨hw.org, rfl⟩
  by_cases h2 : 2 < k
  · rw [show thereR l ⟨fr, to, k⟩ = 1 from if_pos (.inr h2)]
    repeat(first|refine lrun_ ?_|(refine lo_boxA rfl rfl ?_;intro _ _ _)|(refine lo_box1 rfl rfl rfl ?_;intro _ _ _)|(refine lo_alloc rfl ?_;intro _ _ _))
    refine l_yes rfl h2 ?_
    repeat(first|refine lrun_ ?_|(refine lo_boxA rfl rfl ?_;intro _ _ _)|(refine lo_box1 rfl rfl rfl ?_;intro _ _ _)|(refine lo_alloc rfl ?_;intro _ _ _))
    exact l_ret1 rfl rfl fun w' hw => ⟨hw.org, rfl⟩
  have e0 : thereR l ⟨fr, to, k⟩ = if l = [] ∨ clipM l fr ≠ fr ∨ clipM l to ≠ to then 2 else 0 := if_neg (fun h => h.elim h1 h2)
  by_cases h3 : l.length = 0
  · rw [e0, if_pos (.inl (List.length_eq_zero_iff.1 h3))]
    repeat(first|refine lrun_ ?_|(refine lo_boxA rfl rfl ?_;intro _ _ _)|(refine lo_box1 rfl rfl rfl ?_;intro _ _ _)|(refine lo_alloc rfl ?_;intro _ _ _))
    refine l_no rfl h2 ?_
    refine l_go .skip ?_
    repeat(first|refine lrun_ ?_|(refine lo_boxA rfl rfl ?_;intro _ _ _)|(refine lo_box1 rfl rfl rfl ?_;intro _ _ _)|(refine lo_alloc rfl ?_;intro _ _ _))
    refine l_draw [(0, 0), (1, 0), (2, 0), (3, 0), (4, 0), (5, 0), (6, 0), (8, 0), (9, 0), (7, 1), (10, 0), (11, 0), (12, 0), (13, 0), (14, 0), (15, 0), (17, 0), (18, 0), (16, 1), (19, 0), (20, 0)] (by kernel_rfl) (by kernel_rfl) rfl (by kernel_rfl) ?_
    repeat(first|refine lrund_ ?_|(refine ld_open rfl ?_;first|(refine ld_boxA rfl wy_ rfl ?_;intro _ _ _)|(refine ld_box1 rfl rfl wy_ rfl ?_;intro _ _ _)|(refine ld_alloc wy_ rfl ?_;intro _ _ _)))
    refine l_true rfl ?_
    repeat(first|refine lrun_ ?_|(refine lo_boxA rfl rfl ?_;intro _ _ _)|(refine lo_box1 rfl rfl rfl ?_;intro _ _ _)|(refine lo_alloc rfl ?_;intro _ _ _))
    exact l_ret1 rfl rfl fun w' hw => ⟨hw.org, rfl⟩
  have h3' : l ≠ [] := fun e => h3 (by rw [e]; rfl)
  by_cases h4 : clipM l fr = fr
  case neg =>
    have h4' : ¬ ((clipM l fr).1 = fr.1 ∧ (clipM l fr).2 = fr.2) := fun h => h4 (Prod.ext h.1 h.2)
    rw [e0, if_pos (.inr (.inl h4))]
    repeat(first|refine lrun_ ?_|(refine lo_boxA rfl rfl ?_;intro _ _ _)|(refine lo_box1 rfl rfl rfl ?_;intro _ _ _)|(refine lo_alloc rfl ?_;intro _ _ _))
    refine l_no rfl h2 ?_
    refine l_go .skip ?_
    repeat(first|refine lrun_ ?_|(refine lo_boxA rfl rfl ?_;intro _ _ _)|(refine lo_box1 rfl rfl rfl ?_;intro _ _ _)|(refine lo_alloc rfl ?_;intro _ _ _))
    refine l_draw [(0, 0), (1, 0), (2, 0), (3, 0), (4, 0), (5, 0), (6, 0), (8, 0), (9, 0), (7, 1), (10, 0), (11, 0), (12, 0), (13, 0), (14, 0), (15, 0), (17, 0), (18, 0), (16, 1), (19, 0), (20, 0)] (by kernel_rfl) (by kernel_rfl) rfl (by kernel_rfl) ?_
    repeat(first|refine lrund_ ?_|(refine ld_open rfl ?_;first|(refine ld_boxA rfl wy_ rfl ?_;intro _ _ _)|(refine ld_box1 rfl rfl wy_ rfl ?_;intro _ _ _)|(refine ld_alloc wy_ rfl ?_;intro _ _ _)))
    refine ld_open rfl ?_; refine ld_call (n_call rfl) wy_ rfl (fun w' hw => clipR_calls (Kn.sl hw.org h) hr.fr) ?_
    repeat(first|refine lrund_ ?_|(refine ld_open rfl ?_;first|(refine ld_boxA rfl wy_ rfl ?_;intro _ _ _)|(refine ld_box1 rfl rfl wy_ rfl ?_;intro _ _ _)|(refine ld_alloc wy_ rfl ?_;intro _ _ _)))
    refine l_true rfl ?_
    repeat(first|refine lrun_ ?_|(refine lo_boxA rfl rfl ?_;intro _ _ _)|(refine lo_box1 rfl rfl rfl ?_;intro _ _ _)|(refine lo_alloc rfl ?_;intro _ _ _))
    exact l_ret1 rfl rfl fun w' hw => ⟨hw.org, rfl⟩
  by_cases h5 : clipM l to = to
  case neg =>
    have h5' : ¬ ((clipM l to).1 = to.1 ∧ (clipM l to).2 = to.2) := fun h => h5 (Prod.ext h.1 h.2)
    rw [e0, if_pos (.inr (.inr h5))]
    repeat(first|refine lrun_ ?_|(refine lo_boxA rfl rfl ?_;intro _ _ _)|(refine lo_box1 rfl rfl rfl ?_;intro _ _ _)|(refine lo_alloc rfl ?_;intro _ _ _))
    refine l_no rfl h2 ?_
    refine l_go .skip ?_
    repeat(first|refine lrun_ ?_|(refine lo_boxA rfl rfl ?_;intro _ _ _)|(refine lo_box1 rfl rfl rfl ?_;intro _ _ _)|(refine lo_alloc rfl ?_;intro _ _ _))
    refine l_draw [(0, 0), (1, 0), (2, 0), (3, 0), (4, 0), (5, 0), (6, 0), (8, 0), (9, 0), (7, 1), (10, 0), (11, 0), (12, 0), (13, 0), (14, 0), (15, 0), (17, 0), (18, 0), (16, 1), (19, 0), (20, 0)] (by kernel_rfl) (by kernel_rfl) rfl (by kernel_rfl) ?_
    repeat(first|refine lrund_ ?_|(refine ld_open rfl ?_;first|(refine ld_boxA rfl wy_ rfl ?_;intro _ _ _)|(refine ld_box1 rfl rfl wy_ rfl ?_;intro _ _ _)|(refine ld_alloc wy_ rfl ?_;intro _ _ _)))
    refine ld_open rfl ?_; refine ld_call (n_call rfl) wy_ rfl (fun w' hw => clipR_calls (Kn.sl hw.org h) hr.fr) ?_
    rw [h4]
    repeat(first|refine lrund_ ?_|(refine ld_open rfl ?_;first|(refine ld_boxA rfl wy_ rfl ?_;intro _ _ _)|(refine ld_box1 rfl rfl wy_ rfl ?_;intro _ _ _)|(refine ld_alloc wy_ rfl ?_;intro _ _ _)))
    refine ld_open rfl ?_; refine ld_call (n_call rfl) wy_ rfl (fun w' hw => clipR_calls (Kn.sl hw.org h) hr.to) ?_
    repeat(first|refine lrund_ ?_|(refine ld_open rfl ?_;first|(refine ld_boxA rfl wy_ rfl ?_;intro _ _ _)|(refine ld_box1 rfl rfl wy_ rfl ?_;intro _ _ _)|(refine ld_alloc wy_ rfl ?_;intro _ _ _)))
    refine l_yes rfl h5' ?_
    repeat(first|refine lrun_ ?_|(refine lo_boxA rfl rfl ?_;intro _ _ _)|(refine lo_box1 rfl rfl rfl ?_;intro _ _ _)|(refine lo_alloc rfl ?_;intro _ _ _))
    exact l_ret1 rfl rfl fun w' hw => ⟨hw.org, rfl⟩
  rw [e0, if_neg (fun h => h.elim h3' fun h => h.elim (fun h => h h4) fun h => h h5)]
  repeat(first|refine lrun_ ?_|(refine lo_boxA rfl rfl ?_;intro _ _ _)|(refine lo_box1 rfl rfl rfl ?_;intro _ _ _)|(refine lo_alloc rfl ?_;intro _ _ _))
  refine l_no rfl h2 ?_
  refine l_go .skip ?_
  repeat(first|refine lrun_ ?_|(refine lo_boxA rfl rfl ?_;intro _ _ _)|(refine lo_box1 rfl rfl rfl ?_;intro _ _ _)|(refine lo_alloc rfl ?_;intro _ _ _))
  refine l_draw [(0, 0), (1, 0), (2, 0), (3, 0), (4, 0), (5, 0), (6, 0), (8, 0), (9, 0), (7, 1), (10, 0), (11, 0), (12, 0), (13, 0), (14, 0), (15, 0), (17, 0), (18, 0), (16, 1), (19, 0), (20, 0)] (by kernel_rfl) (by kernel_rfl) rfl (by kernel_rfl) ?_
  repeat(first|refine lrund_ ?_|(refine ld_open rfl ?_;first|(refine ld_boxA rfl wy_ rfl ?_;intro _ _ _)|(refine ld_box1 rfl rfl wy_ rfl ?_;intro _ _ _)|(refine ld_alloc wy_ rfl ?_;intro _ _ _)))
  refine ld_open rfl ?_; refine ld_call (n_call rfl) wy_ rfl (fun w' hw => clipR_calls (Kn.sl hw.org h) hr.fr) ?_
  rw [h4]
  repeat(first|refine lrund_ ?_|(refine ld_open rfl ?_;first|(refine ld_boxA rfl wy_ rfl ?_;intro _ _ _)|(refine ld_box1 rfl rfl wy_ rfl ?_;intro _ _ _)|(refine ld_alloc wy_ rfl ?_;intro _ _ _)))
  refine ld_open rfl ?_; refine ld_call (n_call rfl) wy_ rfl (fun w' hw => clipR_calls (Kn.sl hw.org h) hr.to) ?_
  rw [h5]
  repeat(first|refine lrund_ ?_|(refine ld_open rfl ?_;first|(refine ld_boxA rfl wy_ rfl ?_;intro _ _ _)|(refine ld_box1 rfl rfl wy_ rfl ?_;intro _ _ _)|(refine ld_alloc wy_ rfl ?_;intro _ _ _)))
  refine l_no rfl (fun h => h ⟨rfl, rfl⟩) ?_
  refine l_go .skip ?_
  repeat(first|refine lrun_ ?_|(refine lo_boxA rfl rfl ?_;intro _ _ _)|(refine lo_box1 rfl rfl rfl ?_;intro _ _ _)|(refine lo_alloc rfl ?_;intro _ _ _))
  exact l_ret1 rfl rfl fun w' hw => ⟨hw.org, rfl⟩
set_option maxHeartbeats 4000000 in
theorem ends_calls : CallsR Try.prog 43 #[rgV r] w fun u w' => Kn w w' ∧ u = .tuple #[posV (endsR r).1, posV (endsR r).2] := by
  obtain ⟨fr, to, k⟩ := r
  refine l_enter (fun _ => False) Try.func43 rfl rfl ?_
  unfold endsR
  repeat(first|refine lrun_ ?_|(refine lo_boxA rfl rfl ?_;intro _ _ _)|(refine lo_box1 rfl rfl rfl ?_;intro _ _ _)|(refine lo_alloc rfl ?_;intro _ _ _))
  rename_i g1 _ _ g2 _ _ g3 _ _
  refine lo_call (n_call rfl) rfl (fun w' hw => ahead_calls (p := to) (q := fr)) ?_
  cases ha : aheadM to fr with
  | true =>
    rw [if_pos rfl]
    repeat(first|refine lrun_ ?_|(refine lo_boxA rfl rfl ?_;intro _ _ _)|(refine lo_box1 rfl rfl rfl ?_;intro _ _ _)|(refine lo_alloc rfl ?_;intro _ _ _))
    refine l_true rfl ?_
    repeat(first|refine lrun_ ?_|(refine lo_boxA rfl rfl ?_;intro _ _ _)|(refine lo_box1 rfl rfl rfl ?_;intro _ _ _)|(refine lo_alloc rfl ?_;intro _ _ _))
    refine l_drawQ [g3, g2] (by repeat(first|exact MPart.nil|apply MPart.turn|apply MPart.keep)) [(0, 0), (1, 0), (2, 0), (3, 0), (4, 1), (5, 1)] (by kernel_rfl) (by kernel_rfl) rfl (by kernel_rfl) ?_
    repeat(refine lrunq_ ?_)
    exact l_retR2 rfl (by repeat(first|exact LRes.nil|refine LRes.tmp rfl ?_|refine LRes.agg rfl (by(repeat(first|exact MIn.hd|refine MIn.tl ?_));done) (by rfl) (by rfl) ?_|refine LRes.one rfl (by(repeat(first|exact MIn.hd|refine MIn.tl ?_));done) (by rfl) ?_)) fun w' hw => ⟨hw.org, rfl⟩
  | false =>
    rw [if_neg (by decide)]
    repeat(first|refine lrun_ ?_|(refine lo_boxA rfl rfl ?_;intro _ _ _)|(refine lo_box1 rfl rfl rfl ?_;intro _ _ _)|(refine lo_alloc rfl ?_;intro _ _ _))
    refine l_false rfl ?_
    refine l_go .skip ?_
    repeat(first|refine lrun_ ?_|(refine lo_boxA rfl rfl ?_;intro _ _ _)|(refine lo_box1 rfl rfl rfl ?_;intro _ _ _)|(refine lo_alloc rfl ?_;intro _ _ _))
    refine l_drawQ [g3, g2] (by repeat(first|exact MPart.nil|apply MPart.turn|apply MPart.keep)) [(0, 0), (1, 0), (2, 0), (3, 0), (4, 1), (5, 1)] (by kernel_rfl) (by kernel_rfl) rfl (by kernel_rfl) ?_
    repeat(refine lrunq_ ?_)
    exact l_retR2 rfl (by repeat(first|exact LRes.nil|refine LRes.tmp rfl ?_|refine LRes.agg rfl (by(repeat(first|exact MIn.hd|refine MIn.tl ?_));done) (by rfl) (by rfl) ?_|refine LRes.one rfl (by(repeat(first|exact MIn.hd|refine MIn.tl ?_));done) (by rfl) ?_)) fun w' hw => ⟨hw.org, rfl⟩
set_option maxHeartbeats 8000000 in
theorem has_calls : CallsR Try.prog 70 #[rgV r, posV p] w fun u w' => Kn w w' ∧ u = .bool (hasR r p) := by
  refine l_enter (fun _ => False) Try.func70 rfl rfl ?_
  repeat(first|refine lrun_ ?_|(refine lo_boxA rfl rfl ?_;intro _ _ _)|(refine lo_box1 rfl rfl rfl ?_;intro _ _ _)|(refine lo_alloc rfl ?_;intro _ _ _))
  refine lo_call (n_call rfl) rfl (fun w' hw => ends_calls (r := r)) ?_
  generalize hae : (endsR r).1 = a
  generalize hbe : (endsR r).2 = b
  obtain ⟨a1, a2⟩ := a
  obtain ⟨b1, b2⟩ := b
  repeat(first|refine lrun_ ?_|(refine lo_boxA rfl rfl ?_;intro _ _ _)|(refine lo_box1 rfl rfl rfl ?_;intro _ _ _)|(refine lo_alloc rfl ?_;intro _ _ _))
  by_cases h0 : r.kind = 0
  · have e : hasR r p = (!aheadM p (a1, a2) && !aheadM (b1, b2) p) := by unfold hasR; rw [if_pos h0, hae, hbe]
    rw [e]
    refine l_yes rfl h0 ?_
    repeat(first|refine lrun_ ?_|(refine lo_boxA rfl rfl ?_;intro _ _ _)|(refine lo_box1 rfl rfl rfl ?_;intro _ _ _)|(refine lo_alloc rfl ?_;intro _ _ _))
    refine lo_call (n_call rfl) rfl (fun w' hw => ahead_calls (p := p) (q := (a1, a2))) ?_
    cases h1 : aheadM p (a1, a2) with
    | true =>
      repeat(first|refine lrun_ ?_|(refine lo_boxA rfl rfl ?_;intro _ _ _)|(refine lo_box1 rfl rfl rfl ?_;intro _ _ _)|(refine lo_alloc rfl ?_;intro _ _ _))
      exact l_ret1 rfl rfl fun w' hw => ⟨hw.org, rfl⟩
    | false =>
      repeat(first|refine lrun_ ?_|(refine lo_boxA rfl rfl ?_;intro _ _ _)|(refine lo_box1 rfl rfl rfl ?_;intro _ _ _)|(refine lo_alloc rfl ?_;intro _ _ _))
      refine lo_call (n_call rfl) rfl (fun w' hw => ahead_calls (p := (b1, b2)) (q := p)) ?_
      repeat(first|refine lrun_ ?_|(refine lo_boxA rfl rfl ?_;intro _ _ _)|(refine lo_box1 rfl rfl rfl ?_;intro _ _ _)|(refine lo_alloc rfl ?_;intro _ _ _))
      exact l_ret1 rfl rfl fun w' hw => ⟨hw.org, by simp⟩
  by_cases h1 : r.kind = 1
  · have e : hasR r p = decide (a1 ≤ p.1 ∧ p.1 ≤ b1) := by unfold hasR; rw [if_neg h0, if_pos h1, hae, hbe]
    rw [e]
    refine l_no rfl h0 ?_
    repeat(first|refine lrun_ ?_|(refine lo_boxA rfl rfl ?_;intro _ _ _)|(refine lo_box1 rfl rfl rfl ?_;intro _ _ _)|(refine lo_alloc rfl ?_;intro _ _ _))
    refine l_yes rfl h1 ?_
    by_cases h2 : a1 ≤ p.1
    · rw [show decide (a1 ≤ p.1 ∧ p.1 ≤ b1) = decide (p.1 ≤ b1) from decide_eq_decide.2 ⟨fun h => h.2, fun h => ⟨h2, h⟩⟩]
      repeat(first|refine lrun_ ?_|(refine lo_boxA rfl rfl ?_;intro _ _ _)|(refine lo_box1 rfl rfl rfl ?_;intro _ _ _)|(refine lo_alloc rfl ?_;intro _ _ _))
      exact l_ret1 rfl rfl fun w' hw => ⟨hw.org, rfl⟩
    · rw [show decide (a1 ≤ p.1 ∧ p.1 ≤ b1) = false from decide_eq_false fun h => h2 h.1]
      repeat(first|refine lrun_ ?_|(refine lo_boxA rfl rfl ?_;intro _ _ _)|(refine lo_box1 rfl rfl rfl ?_;intro _ _ _)|(refine lo_alloc rfl ?_;intro _ _ _))
      exact l_ret1 rfl rfl fun w' hw => ⟨hw.org, rfl⟩
  have e : hasR r p = decide ((a1 ≤ p.1 ∧ p.1 ≤ b1) ∧ (if b2 < a2 then b2 else a2) ≤ p.2 ∧ p.2 ≤ (if a2 < b2 then b2 else a2)) := by unfold hasR; rw [if_neg h0, if_neg h1, hae, hbe]
  rw [e]
  refine l_no rfl h0 ?_
  repeat(first|refine lrun_ ?_|(refine lo_boxA rfl rfl ?_;intro _ _ _)|(refine lo_box1 rfl rfl rfl ?_;intro _ _ _)|(refine lo_alloc rfl ?_;intro _ _ _))
  refine l_no rfl h1 ?_
  refine l_go .skip ?_
  by_cases h2 : a1 ≤ p.1
  case neg =>
    rw [show decide ((a1 ≤ p.1 ∧ p.1 ≤ b1) ∧ (if b2 < a2 then b2 else a2) ≤ p.2 ∧ p.2 ≤ (if a2 < b2 then b2 else a2)) = false from decide_eq_false fun h => h2 h.1.1]
    repeat(first|refine lrun_ ?_|(refine lo_boxA rfl rfl ?_;intro _ _ _)|(refine lo_box1 rfl rfl rfl ?_;intro _ _ _)|(refine lo_alloc rfl ?_;intro _ _ _))
    exact l_ret1 rfl rfl fun w' hw => ⟨hw.org, rfl⟩
  by_cases h3 : p.1 ≤ b1
  case neg =>
    rw [show decide ((a1 ≤ p.1 ∧ p.1 ≤ b1) ∧ (if b2 < a2 then b2 else a2) ≤ p.2 ∧ p.2 ≤ (if a2 < b2 then b2 else a2)) = false from decide_eq_false fun h => h3 h.1.2]
    repeat(first|refine lrun_ ?_|(refine lo_boxA rfl rfl ?_;intro _ _ _)|(refine lo_box1 rfl rfl rfl ?_;intro _ _ _)|(refine lo_alloc rfl ?_;intro _ _ _))
    exact l_ret1 rfl rfl fun w' hw => ⟨hw.org, rfl⟩
  by_cases h4 : (if b2 < a2 then b2 else a2) ≤ p.2
  case neg =>
    rw [show decide ((a1 ≤ p.1 ∧ p.1 ≤ b1) ∧ (if b2 < a2 then b2 else a2) ≤ p.2 ∧ p.2 ≤ (if a2 < b2 then b2 else a2)) = false from decide_eq_false fun h => h4 h.2.1]
    repeat(first|refine lrun_ ?_|(refine lo_boxA rfl rfl ?_;intro _ _ _)|(refine lo_box1 rfl rfl rfl ?_;intro _ _ _)|(refine lo_alloc rfl ?_;intro _ _ _))
    exact l_ret1 rfl rfl fun w' hw => ⟨hw.org, rfl⟩
  rw [show decide ((a1 ≤ p.1 ∧ p.1 ≤ b1) ∧ (if b2 < a2 then b2 else a2) ≤ p.2 ∧ p.2 ≤ (if a2 < b2 then b2 else a2)) = decide (p.2 ≤ (if a2 < b2 then b2 else a2)) from decide_eq_decide.2 ⟨fun h => h.2.2, fun h => ⟨⟨h2, h3⟩, h4, h⟩⟩]
  repeat(first|refine lrun_ ?_|(refine lo_boxA rfl rfl ?_;intro _ _ _)|(refine lo_box1 rfl rfl rfl ?_;intro _ _ _)|(refine lo_alloc rfl ?_;intro _ _ _))
  exact l_ret1 rfl rfl fun w' hw => ⟨hw.org, rfl⟩
end
end Go.Ink
