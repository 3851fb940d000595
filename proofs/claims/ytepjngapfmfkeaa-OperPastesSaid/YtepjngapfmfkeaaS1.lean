/-
  The reference: there, ends, has, parted.
  The reference: parted.
  The reference: Take; Same and Twin of registers.
  OperTakes.
  The reference: First, Cut.
  The reference: Cut; OperCuts.
  The reference: blanks.
-/
import Derived.Test.YtepjngapfmfkeaaQA
import Derived.Test.YtepjngapfmfkeaaW2r
import Derived.Test.YtepjngapfmfkeaaW3
import Derived.Test.YtepjngapfmfkeaaTb
import Derived.Test.YtepjngapfmfkeaaTw
import Derived.Test.YtepjngapfmfkeaaV2
import Derived.Test.YtepjngapfmfkeaaLap
import Derived.Test.YtepjngapfmfkeaaR3
import Derived.Test.YtepjngapfmfkeaaRead
import Derived.Test.YtepjngapfmfkeaaW1r
import Derived.Test.YtepjngapfmfkeaaQB
set_option linter.unusedVariables false
set_option linter.unusedSimpArgs false
namespace Go.Ink
open Go Go.Proofs Go.RowKit

section
variable {F : Nat → Prop} {w : World} {v : Value} {l : List (List Int)} {r : Rg} {p : Ps}
set_option maxHeartbeats 8000000 in
theorem thereR_calls (h : Sl kRow F w v l) (hr : RgP r) : CallsR Try.prog 42 #[v, rgV r] w fun u w' => Kn w w' ∧ u = .int .i64 (thereR l r) := by
  obtain ⟨A, c, e⟩ : ∃ A c, v = .slice A l.length c := by obtain ⟨A, c, e, _⟩ := h.form; exact ⟨A, c, e⟩
  subst e
  obtain ⟨fr, to, k⟩ := r
  refine l_enter (fun _ => False) Try.func42 rfl rfl ?_
  by_cases h1 : k < 0
  · rw [show thereR l ⟨fr, to, k⟩ = 1 from if_pos (.inl h1)]
    repeat(first|refine lrun_ ?_|(refine lo_boxA rfl rfl ?_;intro _ _ _)|(refine lo_box1 rfl rfl rfl ?_;intro _ _ _)|(refine lo_alloc rfl ?_;intro _ _ _))
    refine l_true rfl ?_
    repeat(first|refine lrun_ ?_|(refine lo_boxA rfl rfl ?_;intro _ _ _)|(refine lo_box1 rfl rfl rfl ?_;intro _ _ _)|(refine lo_alloc rfl ?_;intro _ _ _))
    exact l_ret1 rfl rfl fun w' hw => ⟨hw.org, rfl⟩
  by_cases h2 : 2 < k
  · rw [show thereR l ⟨fr, to, k⟩ = 1 from if_pos (.inr h2)]
    repeat(first|refine lrun_ ?_|(refine lo_boxA rfl rfl ?_;intro _ _ _)|(refine lo_box1 rfl rfl rfl ?_;intro _ _ _)|(refine lo_alloc rfl ?_;intro _ _ _))
    refine l_yes rfl h2 ?_
    repeat(first|refine lrun_ ?_|(refine lo_boxA rfl rfl ?_;intro _ _ _)|(refine lo_box1 rfl rfl rfl ?_;intro _ _ _)|(refine lo_alloc rfl ?_;intro _ _ _))
    exact l_ret1 rfl rfl fun w' hw => ⟨hw.org, rfl⟩
  have e0 : thereR l ⟨fr, to, k⟩ = if l = [] ∨ clipM l fr ≠ fr ∨ clipM l to ≠ to then 2 else 0 := if_neg (fun h => h.elim h1 h2)
  by_cases h3 : l.length = 0
  · rw [e0, if_pos (.inl (List.length_eq_zero_iff.1 h3))]
    repeat(first|refine lrun_ ?_|(refine lo_boxA rfl rfl ?_;intro _ _ _)|(refine lo_box1 rfl rfl rfl ?_;intro _ _ _)|(refine lo_alloc rfl ?_;intro _ _ _))
    refine l_no rfl h2 ?_
    refine l_go .skip ?_
    repeat(first|refine lrun_ ?_|(refine lo_boxA rfl rfl ?_;intro _ _ _)|(refine lo_box1 rfl rfl rfl ?_;intro _ _ _)|(refine lo_alloc rfl ?_;intro _ _ _))
    refine l_draw [(0, 0), (1, 0), (2, 0), (3, 0), (4, 0), (5, 0), (6, 0), (8, 0), (9, 0), (7, 1), (10, 0), (11, 0), (12, 0), (13, 0), (14, 0), (15, 0), (17, 0), (18, 0), (16, 1), (19, 0), (20, 0)] (by kernel_rfl) (by kernel_rfl) rfl (by kernel_rfl) ?_
    repeat(first|refine lrund_ ?_|(refine ld_open rfl ?_;first|(refine ld_boxA rfl wy_ rfl ?_;intro _ _ _)|(refine ld_box1 rfl rfl wy_ rfl ?_;intro _ _ _)|(refine ld_alloc wy_ rfl ?_;intro _ _ _)))
    refine l_true rfl ?_
    repeat(first|refine lrun_ ?_|(refine lo_boxA rfl rfl ?_;intro _ _ _)|(refine lo_box1 rfl rfl rfl ?_;intro _ _ _)|(refine lo_alloc rfl ?_;intro _ _ _))
    exact l_ret1 rfl rfl fun w' hw => ⟨hw.org, rfl⟩
  have h3' : l ≠ [] := fun e => h3 (by rw [e]; rfl)
  by_cases h4 : clipM l fr = fr
  case neg =>
    have h4' : ¬ ((clipM l fr).1 = fr.1 ∧ (clipM l fr).2 = fr.2) := fun h => h4 (Prod.ext h.1 h.2)
    rw [e0, if_pos (.inr (.inl h4))]
    repeat(first|refine lrun_ ?_|(refine lo_boxA rfl rfl ?_;intro _ _ _)|(refine lo_box1 rfl rfl rfl ?_;intro _ _ _)|(refine lo_alloc rfl ?_;intro _ _ _))
    refine l_no rfl h2 ?_
    refine l_go .skip ?_
    repeat(first|refine lrun_ ?_|(refine lo_boxA rfl rfl ?_;intro _ _ _)|(refine lo_box1 rfl rfl rfl ?_;intro _ _ _)|(refine lo_alloc rfl ?_;intro _ _ _))
    refine l_draw [(0, 0), (1, 0), (2, 0), (3, 0), (4, 0), (5, 0), (6, 0), (8, 0), (9, 0), (7, 1), (10, 0), (11, 0), (12, 0), (13, 0), (14, 0), (15, 0), (17, 0), (18, 0), (16, 1), (19, 0), (20, 0)] (by kernel_rfl) (by kernel_rfl) rfl (by kernel_rfl) ?_
    repeat(first|refine lrund_ ?_|(refine ld_open rfl ?_;first|(refine ld_boxA rfl wy_ rfl ?_;intro _ _ _)|(refine ld_box1 rfl rfl wy_ rfl ?_;intro _ _ _)|(refine ld_alloc wy_ rfl ?_;intro _ _ _)))
    refine ld_open rfl ?_; refine ld_call (n_call rfl) wy_ rfl (fun w' hw => clipR_calls (Kn.sl hw.org h) hr.fr) ?_
    repeat(first|refine lrund_ ?_|(refine ld_open rfl ?_;first|(refine ld_boxA rfl wy_ rfl ?_;intro _ _ _)|(refine ld_box1 rfl rfl wy_ rfl ?_;intro _ _ _)|(refine ld_alloc wy_ rfl ?_;intro _ _ _)))
    refine l_true rfl ?_
    repeat(first|refine lrun_ ?_|(refine lo_boxA rfl rfl ?_;intro _ _ _)|(refine lo_box1 rfl rfl rfl ?_;intro _ _ _)|(refine lo_alloc rfl ?_;intro _ _ _))
    exact l_ret1 rfl rfl fun w' hw => ⟨hw.org, rfl⟩
  by_cases h5 : clipM l to = to
  case neg =>
    have h5' : ¬ ((clipM l to).1 = to.1 ∧ (clipM l to).2 = to.2) := fun h => h5 (Prod.ext h.1 h.2)
    rw [e0, if_pos (.inr (.inr h5))]
    repeat(first|refine lrun_ ?_|(refine lo_boxA rfl rfl ?_;intro _ _ _)|(refine lo_box1 rfl rfl rfl ?_;intro _ _ _)|(refine lo_alloc rfl ?_;intro _ _ _))
    refine l_no rfl h2 ?_
    refine l_go .skip ?_
    repeat(first|refine lrun_ ?_|(refine lo_boxA rfl rfl ?_;intro _ _ _)|(refine lo_box1 rfl rfl rfl ?_;intro _ _ _)|(refine lo_alloc rfl ?_;intro _ _ _))
    refine l_draw [(0, 0), (1, 0), (2, 0), (3, 0), (4, 0), (5, 0), (6, 0), (8, 0), (9, 0), (7, 1), (10, 0), (11, 0), (12, 0), (13, 0), (14, 0), (15, 0), (17, 0), (18, 0), (16, 1), (19, 0), (20, 0)] (by kernel_rfl) (by kernel_rfl) rfl (by kernel_rfl) ?_
    repeat(first|refine lrund_ ?_|(refine ld_open rfl ?_;first|(refine ld_boxA rfl wy_ rfl ?_;intro _ _ _)|(refine ld_box1 rfl rfl wy_ rfl ?_;intro _ _ _)|(refine ld_alloc wy_ rfl ?_;intro _ _ _)))
    refine ld_open rfl ?_; refine ld_call (n_call rfl) wy_ rfl (fun w' hw => clipR_calls (Kn.sl hw.org h) hr.fr) ?_
    rw [h4]
    repeat(first|refine lrund_ ?_|(refine ld_open rfl ?_;first|(refine ld_boxA rfl wy_ rfl ?_;intro _ _ _)|(refine ld_box1 rfl rfl wy_ rfl ?_;intro _ _ _)|(refine ld_alloc wy_ rfl ?_;intro _ _ _)))
    refine ld_open rfl ?_; refine ld_call (n_call rfl) wy_ rfl (fun w' hw => clipR_calls (Kn.sl hw.org h) hr.to) ?_
    repeat(first|refine lrund_ ?_|(refine ld_open rfl ?_;first|(refine ld_boxA rfl wy_ rfl ?_;intro _ _ _)|(refine ld_box1 rfl rfl wy_ rfl ?_;intro _ _ _)|(refine ld_alloc wy_ rfl ?_;intro _ _ _)))
    refine l_yes rfl h5' ?_
    repeat(first|refine lrun_ ?_|(refine lo_boxA rfl rfl ?_;intro _ _ _)|(refine lo_box1 rfl rfl rfl ?_;intro _ _ _)|(refine lo_alloc rfl ?_;intro _ _ _))
    exact l_ret1 rfl rfl fun w' hw => ⟨hw.org, rfl⟩
  rw [e0, if_neg (fun h => h.elim h3' fun h => h.elim (fun h => h h4) fun h => h h5)]
  repeat(first|refine lrun_ ?_|(refine lo_boxA rfl rfl ?_;intro _ _ _)|(refine lo_box1 rfl rfl rfl ?_;intro _ _ _)|(refine lo_alloc rfl ?_;intro _ _ _))
  refine l_no rfl h2 ?_
  refine l_go .skip ?_
  repeat(first|refine lrun_ ?_|(refine lo_boxA rfl rfl ?_;intro _ _ _)|(refine lo_box1 rfl rfl rfl ?_;intro _ _ _)|(refine lo_alloc rfl ?_;intro _ _ _))
  refine l_draw [(0, 0), (1, 0), (2, 0), (3, 0), (4, 0), (5, 0), (6, 0), (8, 0), (9, 0), (7, 1), (10, 0), (11, 0), (12, 0), (13, 0), (14, 0), (15, 0), (17, 0), (18, 0), (16, 1), (19, 0), (20, 0)] (by kernel_rfl) (by kernel_rfl) rfl (by kernel_rfl) ?_
  repeat(first|refine lrund_ ?_|(refine ld_open rfl ?_;first|(refine ld_boxA rfl wy_ rfl ?_;intro _ _ _)|(refine ld_box1 rfl rfl wy_ rfl ?_;intro _ _ _)|(refine ld_alloc wy_ rfl ?_;intro _ _ _)))
  refine ld_open rfl ?_; refine ld_call (n_call rfl) wy_ rfl (fun w' hw => clipR_calls (Kn.sl hw.org h) hr.fr) ?_
  rw [h4]
  repeat(first|refine lrund_ ?_|(refine ld_open rfl ?_;first|(refine ld_boxA rfl wy_ rfl ?_;intro _ _ _)|(refine ld_box1 rfl rfl wy_ rfl ?_;intro _ _ _)|(refine ld_alloc wy_ rfl ?_;intro _ _ _)))
  refine ld_open rfl ?_; refine ld_call (n_call rfl) wy_ rfl (fun w' hw => clipR_calls (Kn.sl hw.org h) hr.to) ?_
  rw [h5]
  repeat(first|refine lrund_ ?_|(refine ld_open rfl ?_;first|(refine ld_boxA rfl wy_ rfl ?_;intro _ _ _)|(refine ld_box1 rfl rfl wy_ rfl ?_;intro _ _ _)|(refine ld_alloc wy_ rfl ?_;intro _ _ _)))
  refine l_no rfl (fun h => h ⟨rfl, rfl⟩) ?_
  refine l_go .skip ?_
  repeat(first|refine lrun_ ?_|(refine lo_boxA rfl rfl ?_;intro _ _ _)|(refine lo_box1 rfl rfl rfl ?_;intro _ _ _)|(refine lo_alloc rfl ?_;intro _ _ _))
  exact l_ret1 rfl rfl fun w' hw => ⟨hw.org, rfl⟩
set_option maxHeartbeats 4000000 in
theorem ends_calls : CallsR Try.prog 43 #[rgV r] w fun u w' => Kn w w' ∧ u = .tuple #[posV (endsR r).1, posV (endsR r).2] := by
  obtain ⟨fr, to, k⟩ := r
  refine l_enter (fun _ => False) Try.func43 rfl rfl ?_
  unfold endsR
  repeat(first|refine lrun_ ?_|(refine lo_boxA rfl rfl ?_;intro _ _ _)|(refine lo_box1 rfl rfl rfl ?_;intro _ _ _)|(refine lo_alloc rfl ?_;intro _ _ _))
  rename_i g1 _ _ g2 _ _ g3 _ _
  refine lo_call (n_call rfl) rfl (fun w' hw => ahead_calls (p := to) (q := fr)) ?_
  cases ha : aheadM to fr with
  | true =>
    rw [if_pos rfl]
    repeat(first|refine lrun_ ?_|(refine lo_boxA rfl rfl ?_;intro _ _ _)|(refine lo_box1 rfl rfl rfl ?_;intro _ _ _)|(refine lo_alloc rfl ?_;intro _ _ _))
    refine l_true rfl ?_
    repeat(first|refine lrun_ ?_|(refine lo_boxA rfl rfl ?_;intro _ _ _)|(refine lo_box1 rfl rfl rfl ?_;intro _ _ _)|(refine lo_alloc rfl ?_;intro _ _ _))
    refine l_drawQ [g3, g2] (by repeat(first|exact MPart.nil|apply MPart.turn|apply MPart.keep)) [(0, 0), (1, 0), (2, 0), (3, 0), (4, 1), (5, 1)] (by kernel_rfl) (by kernel_rfl) rfl (by kernel_rfl) ?_
    repeat(refine lrunq_ ?_)
    exact l_retR2 rfl (by repeat(first|exact LRes.nil|refine LRes.tmp rfl ?_|refine LRes.agg rfl (by(repeat(first|exact MIn.hd|refine MIn.tl ?_));done) (by rfl) (by rfl) ?_|refine LRes.one rfl (by(repeat(first|exact MIn.hd|refine MIn.tl ?_));done) (by rfl) ?_)) fun w' hw => ⟨hw.org, rfl⟩
  | false =>
    rw [if_neg (by decide)]
    repeat(first|refine lrun_ ?_|(refine lo_boxA rfl rfl ?_;intro _ _ _)|(refine lo_box1 rfl rfl rfl ?_;intro _ _ _)|(refine lo_alloc rfl ?_;intro _ _ _))
    refine l_false rfl ?_
    refine l_go .skip ?_
    repeat(first|refine lrun_ ?_|(refine lo_boxA rfl rfl ?_;intro _ _ _)|(refine lo_box1 rfl rfl rfl ?_;intro _ _ _)|(refine lo_alloc rfl ?_;intro _ _ _))
    refine l_drawQ [g3, g2] (by repeat(first|exact MPart.nil|apply MPart.turn|apply MPart.keep)) [(0, 0), (1, 0), (2, 0), (3, 0), (4, 1), (5, 1)] (by kernel_rfl) (by kernel_rfl) rfl (by kernel_rfl) ?_
    repeat(refine lrunq_ ?_)
    exact l_retR2 rfl (by repeat(first|exact LRes.nil|refine LRes.tmp rfl ?_|refine LRes.agg rfl (by(repeat(first|exact MIn.hd|refine MIn.tl ?_));done) (by rfl) (by rfl) ?_|refine LRes.one rfl (by(repeat(first|exact MIn.hd|refine MIn.tl ?_));done) (by rfl) ?_)) fun w' hw => ⟨hw.org, rfl⟩
set_option maxHeartbeats 8000000 in
theorem has_calls : CallsR Try.prog 70 #[rgV r, posV p] w fun u w' => Kn w w' ∧ u = .bool (hasR r p) := by
  refine l_enter (fun _ => False) Try.func70 rfl rfl ?_
  repeat(first|refine lrun_ ?_|(refine lo_boxA rfl rfl ?_;intro _ _ _)|(refine lo_box1 rfl rfl rfl ?_;intro _ _ _)|(refine lo_alloc rfl ?_;intro _ _ _))
  refine lo_call (n_call rfl) rfl (fun w' hw => ends_calls (r := r)) ?_
  generalize hae : (endsR r).1 = a
  generalize hbe : (endsR r).2 = b
  obtain ⟨a1, a2⟩ := a
  obtain ⟨b1, b2⟩ := b
  repeat(first|refine lrun_ ?_|(refine lo_boxA rfl rfl ?_;intro _ _ _)|(refine lo_box1 rfl rfl rfl ?_;intro _ _ _)|(refine lo_alloc rfl ?_;intro _ _ _))
  by_cases h0 : r.kind = 0
  · have e : hasR r p = (!aheadM p (a1, a2) && !aheadM (b1, b2) p) := by unfold hasR; rw [if_pos h0, hae, hbe]
    rw [e]
    refine l_yes rfl h0 ?_
    repeat(first|refine lrun_ ?_|(refine lo_boxA rfl rfl ?_;intro _ _ _)|(refine lo_box1 rfl rfl rfl ?_;intro _ _ _)|(refine lo_alloc rfl ?_;intro _ _ _))
    refine lo_call (n_call rfl) rfl (fun w' hw => ahead_calls (p := p) (q := (a1, a2))) ?_
    cases h1 : aheadM p (a1, a2) with
    | true =>
      repeat(first|refine lrun_ ?_|(refine lo_boxA rfl rfl ?_;intro _ _ _)|(refine lo_box1 rfl rfl rfl ?_;intro _ _ _)|(refine lo_alloc rfl ?_;intro _ _ _))
      exact l_ret1 rfl rfl fun w' hw => ⟨hw.org, rfl⟩
    | false =>
      repeat(first|refine lrun_ ?_|(refine lo_boxA rfl rfl ?_;intro _ _ _)|(refine lo_box1 rfl rfl rfl ?_;intro _ _ _)|(refine lo_alloc rfl ?_;intro _ _ _))
      refine lo_call (n_call rfl) rfl (fun w' hw => ahead_calls (p := (b1, b2)) (q := p)) ?_
      repeat(first|refine lrun_ ?_|(refine lo_boxA rfl rfl ?_;intro _ _ _)|(refine lo_box1 rfl rfl rfl ?_;intro _ _ _)|(refine lo_alloc rfl ?_;intro _ _ _))
      exact l_ret1 rfl rfl fun w' hw => ⟨hw.org, by simp⟩
  by_cases h1 : r.kind = 1
  · have e : hasR r p = decide (a1 ≤ p.1 ∧ p.1 ≤ b1) := by unfold hasR; rw [if_neg h0, if_pos h1, hae, hbe]
    rw [e]
    refine l_no rfl h0 ?_
    repeat(first|refine lrun_ ?_|(refine lo_boxA rfl rfl ?_;intro _ _ _)|(refine lo_box1 rfl rfl rfl ?_;intro _ _ _)|(refine lo_alloc rfl ?_;intro _ _ _))
    refine l_yes rfl h1 ?_
    by_cases h2 : a1 ≤ p.1
    · rw [show decide (a1 ≤ p.1 ∧ p.1 ≤ b1) = decide (p.1 ≤ b1) from decide_eq_decide.2 ⟨fun h => h.2, fun h => ⟨h2, h⟩⟩]
      repeat(first|refine lrun_ ?_|(refine lo_boxA rfl rfl ?_;intro _ _ _)|(refine lo_box1 rfl rfl rfl ?_;intro _ _ _)|(refine lo_alloc rfl ?_;intro _ _ _))
      exact l_ret1 rfl rfl fun w' hw => ⟨hw.org, rfl⟩
    · rw [show decide (a1 ≤ p.1 ∧ p.1 ≤ b1) = false from decide_eq_false fun h => h2 h.1]
      repeat(first|refine lrun_ ?_|(refine lo_boxA rfl rfl ?_;intro _ _ _)|(refine lo_box1 rfl rfl rfl ?_;intro _ _ _)|(refine lo_alloc rfl ?_;intro _ _ _))
      exact l_ret1 rfl rfl fun w' hw => ⟨hw.org, rfl⟩
  have e : hasR r p = decide ((a1 ≤ p.1 ∧ p.1 ≤ b1) ∧ (if b2 < a2 then b2 else a2) ≤ p.2 ∧ p.2 ≤ (if a2 < b2 then b2 else a2)) := by unfold hasR; rw [if_neg h0, if_neg h1, hae, hbe]
  rw [e]
  refine l_no rfl h0 ?_
  repeat(first|refine lrun_ ?_|(refine lo_boxA rfl rfl ?_;intro _ _ _)|(refine lo_box1 rfl rfl rfl ?_;intro _ _ _)|(refine lo_alloc rfl ?_;intro _ _ _))
  refine l_no rfl h1 ?_
  refine l_go .skip ?_
  by_cases h2 : a1 ≤ p.1
  case neg =>
    rw [show decide ((a1 ≤ p.1 ∧ p.1 ≤ b1) ∧ (if b2 < a2 then b2 else a2) ≤ p.2 ∧ p.2 ≤ (if a2 < b2 then b2 else a2)) = false from decide_eq_false fun h => h2 h.1.1]
    repeat(first|refine lrun_ ?_|(refine lo_boxA rfl rfl ?_;intro _ _ _)|(refine lo_box1 rfl rfl rfl ?_;intro _ _ _)|(refine lo_alloc rfl ?_;intro _ _ _))
    exact l_ret1 rfl rfl fun w' hw => ⟨hw.org, rfl⟩
  by_cases h3 : p.1 ≤ b1
  case neg =>
    rw [show decide ((a1 ≤ p.1 ∧ p.1 ≤ b1) ∧ (if b2 < a2 then b2 else a2) ≤ p.2 ∧ p.2 ≤ (if a2 < b2 then b2 else a2)) = false from decide_eq_false fun h => h3 h.1.2]
    repeat(first|refine lrun_ ?_|(refine lo_boxA rfl rfl ?_;intro _ _ _)|(refine lo_box1 rfl rfl rfl ?_;intro _ _ _)|(refine lo_alloc rfl ?_;intro _ _ _))
    exact l_ret1 rfl rfl fun w' hw => ⟨hw.org, rfl⟩
  by_cases h4 : (if b2 < a2 then b2 else a2) ≤ p.2
  case neg =>
    rw [show decide ((a1 ≤ p.1 ∧ p.1 ≤ b1) ∧ (if b2 < a2 then b2 else a2) ≤ p.2 ∧ p.2 ≤ (if a2 < b2 then b2 else a2)) = false from decide_eq_false fun h => h4 h.2.1]
    repeat(first|refine lrun_ ?_|(refine lo_boxA rfl rfl ?_;intro _ _ _)|(refine lo_box1 rfl rfl rfl ?_;intro _ _ _)|(refine lo_alloc rfl ?_;intro _ _ _))
    exact l_ret1 rfl rfl fun w' hw => ⟨hw.org, rfl⟩
  rw [show decide ((a1 ≤ p.1 ∧ p.1 ≤ b1) ∧ (if b2 < a2 then b2 else a2) ≤ p.2 ∧ p.2 ≤ (if a2 < b2 then b2 else a2)) = decide (p.2 ≤ (if a2 < b2 then b2 else a2)) from decide_eq_decide.2 ⟨fun h => h.2.2, fun h => ⟨⟨h2, h3⟩, h4, h⟩⟩]
  repeat(first|refine lrun_ ?_|(refine lo_boxA rfl rfl ?_;intro _ _ _)|(refine lo_box1 rfl rfl rfl ?_;intro _ _ _)|(refine lo_alloc rfl ?_;intro _ _ _))
  exact l_ret1 rfl rfl fun w' hw => ⟨hw.org, rfl⟩
end
end Go.Ink

set_option linter.unusedVariables false
set_option linter.unusedSimpArgs false
namespace Go.Ink
open Go Go.Proofs Go.RowKit

theorem mk_eq {M M' : Mm} (h : M.map (·.1) = M'.map (·.1)) {k : Nat} : MK M k ↔ MK M' k := by rw [MK_iff, MK_iff, h]
section
variable {F : Nat → Prop} {w : World} {v : Value} {l : List (List Int)} {r : Rg} {i : Nat}
set_option maxHeartbeats 8000000 in
theorem parted_calls (h : Sl kRow F w v l) (hi : i < l.length) (hb : (l.getD i []).length ≤ 1048576) :
    CallsR Try.prog 44 #[v, .int .i64 (i : Int), rgV r] w fun u w' => Kn w w' ∧ ∃ s t, u = .tuple #[s, t] ∧ Ow kRune (noB w) (fun _ => False) w' s (pinM (l.getD i []) (fun k => hasR r ((i : Int), (k : Int))) (l.getD i []).length) ∧ Ow kRune (noB w) (fun _ => False) w' t (poutM (l.getD i []) (fun k => hasR r ((i : Int), (k : Int))) (l.getD i []).length) := by
  obtain ⟨A, c, ad, rV, rc, ra, rfl, hR⟩ := h.rws
  have hlen := hR.len
  refine l_enter (fun _ => False) Try.func44 rfl rfl ?_
  repeat(first|refine lrun_ ?_|(refine lo_boxA rfl rfl ?_;intro _ _ _)|(refine lo_box1 rfl rfl rfl ?_;intro _ _ _)|(refine lo_alloc rfl ?_;intro _ _ _))
  rename_i g5 _ _
  generalize hrow : l.getD i [] = row at *
  generalize hP : (fun k : Nat => hasR r ((i : Int), (k : Int))) = P
  have hPk : ∀ k : Nat, hasR r ((i : Int), (k : Int)) = P k := fun k => by rw [← hP]
  refine l_whileB (fun s : Nat × Option Addr × Nat × Option Addr × Nat => row.length - s.1) (fun s => [(0, .slice A l.length c), (1, .int .i64 i), (5, .pointer (some ⟨g5, 0, none⟩)), (8, .slice s.2.1 (pinM row P s.1).length s.2.2.1), (9, .slice s.2.2.2.1 (poutM row P s.1).length s.2.2.2.2), (10, .int .i64 (s.1 : Int))]) (fun _ => [(g5, cb [.int .i64 r.fr.1, .int .i64 r.fr.2, .int .i64 r.to.1, .int .i64 r.to.2, .int .i64 r.kind] 26)])
    (fun s b => s.1 ≤ row.length ∧ Og kRune w b (MK [(g5, cb [.int .i64 r.fr.1, .int .i64 r.fr.2, .int .i64 r.to.1, .int .i64 r.to.2, .int .i64 r.kind] 26)]) (fun _ => False) (.slice s.2.1 (pinM row P s.1).length s.2.2.1) (pinM row P s.1) ∧ Og kRune w b (MK [(g5, cb [.int .i64 r.fr.1, .int .i64 r.fr.2, .int .i64 r.to.1, .int .i64 r.to.2, .int .i64 r.kind] 26)]) (fun _ => False) (.slice s.2.2.2.1 (poutM row P s.1).length s.2.2.2.2) (poutM row P s.1) ∧ ∀ k, (Value.slice s.2.1 (pinM row P s.1).length s.2.2.1).ownBlock = some k → (Value.slice s.2.2.2.1 (poutM row P s.1).length s.2.2.2.2).ownBlock ≠ some k) (0, none, 0, none, 0) (by repeat (first | exact SubB.nil | refine SubB.cons rfl ?_)) (by repeat(first|exact MSub.refl|refine MSub.keep rfl ?_|exact MSub.nil|apply MSub.drop)) (fun w' hw => ⟨Nat.zero_le _, Ow.nil _ _ _ _, Ow.nil _ _ _ _, fun k e => by cases e⟩) ?_
  rintro ⟨k, A1, c1, A2, c2⟩ b ⟨hk, hO1, hO2, hne⟩ hkb ih
  simp only at hk hO1 hO2 hne
  have hpl := pin_len row P k
  dsimp only
  by_cases hlt : k < row.length
  · have hlt2 : k < (l.getD i []).length := by rw [hrow]; exact hlt
    have hlo := ((hR.rs i hi).rns).choose_spec.choose_spec.choose_spec.2.lo k
    rw [hrow] at hlo
    have hb1 := hO1.block
    have hb2 := hO2.block
    cases hPc : P k with
    | true =>
      have e1 : pinM row P (k + 1) = pinM row P k ++ [row.getD k 0] := by rw [pin_succ, hPc, if_pos rfl]
      have e2 : poutM row P (k + 1) = poutM row P k := by rw [pout_succ, hPc, if_pos rfl, List.append_nil]
      repeat(first|refine lrun_ ?_|(refine lo_boxA rfl rfl ?_;intro _ _ _)|(refine lo_box1 rfl rfl rfl ?_;intro _ _ _)|(refine lo_alloc rfl ?_;intro _ _ _))
      rw [hrow]
      refine l_yes rfl (by omega) ?_
      repeat(first|refine lrun_ ?_|(refine lo_boxA rfl rfl ?_;intro _ _ _)|(refine lo_box1 rfl rfl rfl ?_;intro _ _ _)|(refine lo_alloc rfl ?_;intro _ _ _))
      refine lo_call (n_call rfl) rfl (fun w' hw => has_calls (r := r) (p := ((i : Int), (k : Int)))) ?_
      rw [hPk, hPc]
      repeat(first|refine lrun_ ?_|(refine lo_boxA rfl rfl ?_;intro _ _ _)|(refine lo_box1 rfl rfl rfl ?_;intro _ _ _)|(refine lo_alloc rfl ?_;intro _ _ _))
      refine l_true rfl ?_
      repeat(first|refine lrun_ ?_|(refine lo_boxA rfl rfl ?_;intro _ _ _)|(refine lo_box1 rfl rfl rfl ?_;intro _ _ _)|(refine lo_alloc rfl ?_;intro _ _ _))
      rw [hrow]
      refine lo_lit (cs := [.int .i32 (row.getD k 0)]) rfl (by decide) (by kernel_rfl) rfl ?_
      intro g9 _ _
      refine lo_append1 (d := kRune) (q := row.getD k 0) rfl rfl hO1 (fun _ h => h.elim) (by(repeat(first|exact MIn.hd|refine MIn.tl ?_));done) (fun w' hw => ⟨rfl, hlo⟩) (by show ((pinM row P k).length + 1) * 4 ≤ 140737488355328; omega) rfl rfl rfl rfl ?_
      intro w3 A3 c3 w4 hw3 hk3 hk4 hown hog
      have hO2' : Ow kRune (fre w (MK [(g5, cb [.int .i64 r.fr.1, .int .i64 r.fr.2, .int .i64 r.to.1, .int .i64 r.to.2, .int .i64 r.kind] 26)])) (fun _ => False) w4 (.slice A2 (poutM row P k).length c2) (poutM row P k) := hO2.keep fun j hj => hk4.block j (hb2 j hj).2 fun h => h.elim (hb2 j hj).1.2 fun h => hne j h hj
      repeat(first|refine lops_ ?_|(refine lo_boxA rfl rfl ?_;intro _ _ _)|(refine lo_box1 rfl rfl rfl ?_;intro _ _ _)|(refine lo_alloc rfl ?_;intro _ _ _))
      refine lo_nil ?_
      refine l_baseM (M3 := [(g5, cb [.int .i64 r.fr.1, .int .i64 r.fr.2, .int .i64 r.to.1, .int .i64 r.to.2, .int .i64 r.kind] 26)]) (by repeat(first|exact MSub.refl|refine MSub.keep rfl ?_|exact MSub.nil|apply MSub.drop)) fun w5 hw5 => ?_
      have hog5 : Og kRune w w5 (MK [(g5, cb [.int .i64 r.fr.1, .int .i64 r.fr.2, .int .i64 r.to.1, .int .i64 r.to.2, .int .i64 r.kind] 26)]) (fun _ => False) (.slice A3 (pinM row P k ++ [row.getD k 0]).length c3) (pinM row P k ++ [row.getD k 0]) := (hog.now (fun _ h => h.elim) hw5).mono (fun j hj _ => ⟨hj.1, fun ⟨o, hm⟩ => hj.2 ⟨o, .tl hm⟩⟩) fun _ h _ => h
      have hO5 : Og kRune w w5 (MK [(g5, cb [.int .i64 r.fr.1, .int .i64 r.fr.2, .int .i64 r.to.1, .int .i64 r.to.2, .int .i64 r.kind] 26)]) (fun _ => False) (.slice A2 (poutM row P k).length c2) (poutM row P k) := hO2'.keep fun j hj => hw5.kp.block j (by have := (hb2 j hj).2; have := hkb; exact ((hO2'.block j hj).2)) fun ⟨o, hm⟩ => by
        cases hm with
        | hd => have := (hb2 _ hj).2; have := hw3.kp.size; omega
        | tl hm => exact (hb2 j hj).1.2 ⟨o, hm⟩
      have hdj : ∀ j, (Value.slice A3 (pinM row P k ++ [row.getD k 0]).length c3).ownBlock = some j → (Value.slice A2 (poutM row P k).length c2).ownBlock ≠ some j := fun j hj hj2 => by
        rcases hown j hj with h | h
        · exact hne j h hj2
        · have := (hb2 j hj2).2; have := hw3.kp.size; omega
      repeat(first|refine lrun_ ?_|(refine lo_boxA rfl rfl ?_;intro _ _ _)|(refine lo_box1 rfl rfl rfl ?_;intro _ _ _)|(refine lo_alloc rfl ?_;intro _ _ _))
      refine ih (k + 1, A3, c3, A2, c2) w5 _ ⟨hlt, by simp only [e1]; exact hog5, by simp only [e2]; exact hO5, by simp only [e1, e2]; exact hdj⟩ (by simp only; omega) _ _ (by simp only [e1, e2]; exact (by repeat (first | exact SubB.nil | refine SubB.cons rfl ?_))) (by repeat(first|exact MSub.refl|refine MSub.keep rfl ?_|exact MSub.nil|apply MSub.drop)) (fun w' hw' => ⟨hlt, by simp only [e1]; exact hog5.now (fun _ h => h.elim) hw', by simp only [e2]; exact hO5.now (fun _ h => h.elim) hw', by simp only [e1, e2]; exact hdj⟩)
    | false =>
      have e1 : pinM row P (k + 1) = pinM row P k := by rw [pin_succ, hPc, if_neg (by decide), List.append_nil]
      have e2 : poutM row P (k + 1) = poutM row P k ++ [row.getD k 0] := by rw [pout_succ, hPc, if_neg (by decide)]
      repeat(first|refine lrun_ ?_|(refine lo_boxA rfl rfl ?_;intro _ _ _)|(refine lo_box1 rfl rfl rfl ?_;intro _ _ _)|(refine lo_alloc rfl ?_;intro _ _ _))
      rw [hrow]
      refine l_yes rfl (by omega) ?_
      repeat(first|refine lrun_ ?_|(refine lo_boxA rfl rfl ?_;intro _ _ _)|(refine lo_box1 rfl rfl rfl ?_;intro _ _ _)|(refine lo_alloc rfl ?_;intro _ _ _))
      refine lo_call (n_call rfl) rfl (fun w' hw => has_calls (r := r) (p := ((i : Int), (k : Int)))) ?_
      rw [hPk, hPc]
      repeat(first|refine lrun_ ?_|(refine lo_boxA rfl rfl ?_;intro _ _ _)|(refine lo_box1 rfl rfl rfl ?_;intro _ _ _)|(refine lo_alloc rfl ?_;intro _ _ _))
      refine l_false rfl ?_
      repeat(first|refine lrun_ ?_|(refine lo_boxA rfl rfl ?_;intro _ _ _)|(refine lo_box1 rfl rfl rfl ?_;intro _ _ _)|(refine lo_alloc rfl ?_;intro _ _ _))
      rw [hrow]
      refine lo_lit (cs := [.int .i32 (row.getD k 0)]) rfl (by decide) (by kernel_rfl) rfl ?_
      intro g9 _ _
      refine lo_append1 (d := kRune) (q := row.getD k 0) rfl rfl hO2 (fun _ h => h.elim) (by(repeat(first|exact MIn.hd|refine MIn.tl ?_));done) (fun w' hw => ⟨rfl, hlo⟩) (by show ((poutM row P k).length + 1) * 4 ≤ 140737488355328; omega) rfl rfl rfl rfl ?_
      intro w3 A3 c3 w4 hw3 hk3 hk4 hown hog
      have hO1' : Ow kRune (fre w (MK [(g5, cb [.int .i64 r.fr.1, .int .i64 r.fr.2, .int .i64 r.to.1, .int .i64 r.to.2, .int .i64 r.kind] 26)])) (fun _ => False) w4 (.slice A1 (pinM row P k).length c1) (pinM row P k) := hO1.keep fun j hj => hk4.block j (hb1 j hj).2 fun h => h.elim (hb1 j hj).1.2 fun h => hne j hj h
      repeat(first|refine lops_ ?_|(refine lo_boxA rfl rfl ?_;intro _ _ _)|(refine lo_box1 rfl rfl rfl ?_;intro _ _ _)|(refine lo_alloc rfl ?_;intro _ _ _))
      refine lo_nil ?_
      refine l_baseM (M3 := [(g5, cb [.int .i64 r.fr.1, .int .i64 r.fr.2, .int .i64 r.to.1, .int .i64 r.to.2, .int .i64 r.kind] 26)]) (by repeat(first|exact MSub.refl|refine MSub.keep rfl ?_|exact MSub.nil|apply MSub.drop)) fun w5 hw5 => ?_
      have hog5 : Og kRune w w5 (MK [(g5, cb [.int .i64 r.fr.1, .int .i64 r.fr.2, .int .i64 r.to.1, .int .i64 r.to.2, .int .i64 r.kind] 26)]) (fun _ => False) (.slice A3 (poutM row P k ++ [row.getD k 0]).length c3) (poutM row P k ++ [row.getD k 0]) := (hog.now (fun _ h => h.elim) hw5).mono (fun j hj _ => ⟨hj.1, fun ⟨o, hm⟩ => hj.2 ⟨o, .tl hm⟩⟩) fun _ h _ => h
      have hO5 : Og kRune w w5 (MK [(g5, cb [.int .i64 r.fr.1, .int .i64 r.fr.2, .int .i64 r.to.1, .int .i64 r.to.2, .int .i64 r.kind] 26)]) (fun _ => False) (.slice A1 (pinM row P k).length c1) (pinM row P k) := hO1'.keep fun j hj => hw5.kp.block j ((hO1'.block j hj).2) fun ⟨o, hm⟩ => by
        cases hm with
        | hd => have := (hb1 _ hj).2; have := hw3.kp.size; omega
        | tl hm => exact (hb1 j hj).1.2 ⟨o, hm⟩
      have hdj : ∀ j, (Value.slice A1 (pinM row P k).length c1).ownBlock = some j → (Value.slice A3 (poutM row P k ++ [row.getD k 0]).length c3).ownBlock ≠ some j := fun j hj hj2 => by
        rcases hown j hj2 with h | h
        · exact hne j hj h
        · have := (hb1 j hj).2; have := hw3.kp.size; omega
      repeat(first|refine lrun_ ?_|(refine lo_boxA rfl rfl ?_;intro _ _ _)|(refine lo_box1 rfl rfl rfl ?_;intro _ _ _)|(refine lo_alloc rfl ?_;intro _ _ _))
      refine ih (k + 1, A1, c1, A3, c3) w5 _ ⟨hlt, by simp only [e1]; exact hO5, by simp only [e2]; exact hog5, by simp only [e1, e2]; exact hdj⟩ (by simp only; omega) _ _ (by simp only [e1, e2]; exact (by repeat (first | exact SubB.nil | refine SubB.cons rfl ?_))) (by repeat(first|exact MSub.refl|refine MSub.keep rfl ?_|exact MSub.nil|apply MSub.drop)) (fun w' hw' => ⟨hlt, by simp only [e1]; exact hO5.now (fun _ h => h.elim) hw', by simp only [e2]; exact hog5.now (fun _ h => h.elim) hw', by simp only [e1, e2]; exact hdj⟩)
  · obtain rfl : k = row.length := by omega
    repeat(first|refine lrun_ ?_|(refine lo_boxA rfl rfl ?_;intro _ _ _)|(refine lo_box1 rfl rfl rfl ?_;intro _ _ _)|(refine lo_alloc rfl ?_;intro _ _ _))
    rw [hrow]
    refine l_no rfl (by omega) ?_
    refine l_go (.exit rfl) ?_
    repeat(first|refine lrun_ ?_|(refine lo_boxA rfl rfl ?_;intro _ _ _)|(refine lo_box1 rfl rfl rfl ?_;intro _ _ _)|(refine lo_alloc rfl ?_;intro _ _ _))
    exact l_retR2 rfl (by repeat(first|exact LRes.nil|refine LRes.tmp rfl ?_|refine LRes.agg rfl (by(repeat(first|exact MIn.hd|refine MIn.tl ?_));done) (by rfl) (by rfl) ?_|refine LRes.one rfl (by(repeat(first|exact MIn.hd|refine MIn.tl ?_));done) (by rfl) ?_)) fun w7 hw => ⟨hw.org, _, _, rfl, (hO1.now (fun _ h => h.elim) hw).mono (fun k hk _ => hk.1) fun _ h _ => h, (hO2.now (fun _ h => h.elim) hw).mono (fun k hk _ => hk.1) fun _ h _ => h⟩
end
end Go.Ink

set_option linter.unusedVariables false
set_option linter.unusedSimpArgs false
namespace Go.Ink
open Go Go.Proofs Go.RowKit

section
variable {F : Nat → Prop} {w B : World} {A : Option Addr} {c : Nat} {l : List (List Int)} {r : Rg} {a b : Ps} {g3 g4 g7 g8 g9 : Nat} {kk : List Item} {R : Value → World → Prop}
set_option maxHeartbeats 8000000 in
theorem rt_loop (h : Sl kRow F w (.slice A l.length c) l) (hr : RgOk l r) (ha : (endsR r).1 = a) (hb : (endsR r).2 = b) (hl : l.length ≤ 4096) (hk : ∀ j, (l.getD j []).length ≤ 1048576) {i0 n : Nat} (ha0 : a.1 = (i0 : Int)) (hn : b.1 + 1 = ((i0 + n : Nat) : Int)) (hin : i0 + n ≤ l.length)
    (done : ∀ (bw : World) (s : Value) (us : List Value), Tab (fun k => w.heap.size ≤ k ∧ k ≠ g9 ∧ k ≠ g8 ∧ k ≠ g7 ∧ k ≠ g4 ∧ k ≠ g3) (fun _ => True) bw s us (gatM (inR l r) i0 n) → ∀ σ', SubB σ' [(4, .pointer (some ⟨g4, 0, none⟩)), (9, .pointer (some ⟨g9, 0, none⟩))] → ∀ M', MSub [(g9, cb [.int .i64 r.kind, s] 30), (g8, cb [.int .i64 b.1, .int .i64 b.2] 24), (g7, cb [.int .i64 a.1, .int .i64 a.2] 24), (g4, cb [.int .i64 0, .slice none 0 0] 30), (g3, cb [.int .i64 r.fr.1, .int .i64 r.fr.2, .int .i64 r.to.1, .int .i64 r.to.2, .int .i64 r.kind] 26)] M' → WL Try.prog Try.f14 kk σ' w (fun _ => False) bw (MK [(g9, cb [.int .i64 r.kind, s] 30), (g8, cb [.int .i64 b.1, .int .i64 b.2] 24), (g7, cb [.int .i64 a.1, .int .i64 a.2] 24), (g4, cb [.int .i64 0, .slice none 0 0] 30), (g3, cb [.int .i64 r.fr.1, .int .i64 r.fr.2, .int .i64 r.to.1, .int .i64 r.to.2, .int .i64 r.kind] 26)]) M' R) :
    ∀ σ', SubB σ' [(0, .slice A l.length c), (3, .pointer (some ⟨g3, 0, none⟩)), (4, .pointer (some ⟨g4, 0, none⟩)), (8, .pointer (some ⟨g8, 0, none⟩)), (9, .pointer (some ⟨g9, 0, none⟩)), (10, .int .i64 ((i0 + 0 : Nat) : Int))] → ∀ M', MSub [(g9, cb [.int .i64 r.kind, .slice none 0 0] 30), (g8, cb [.int .i64 b.1, .int .i64 b.2] 24), (g7, cb [.int .i64 a.1, .int .i64 a.2] 24), (g4, cb [.int .i64 0, .slice none 0 0] 30), (g3, cb [.int .i64 r.fr.1, .int .i64 r.fr.2, .int .i64 r.to.1, .int .i64 r.to.2, .int .i64 r.kind] 26)] M' →
      WL Try.prog Try.f14 (.code (.loop (bodyC Try.f14 [1, 1, 1, 1, 1, 0, 1, 0, 0])) :: .inBlock 0 :: kk) σ' w (fun _ => False) B (MK [(g9, cb [.int .i64 r.kind, .slice none 0 0] 30), (g8, cb [.int .i64 b.1, .int .i64 b.2] 24), (g7, cb [.int .i64 a.1, .int .i64 a.2] 24), (g4, cb [.int .i64 0, .slice none 0 0] 30), (g3, cb [.int .i64 r.fr.1, .int .i64 r.fr.2, .int .i64 r.to.1, .int .i64 r.to.2, .int .i64 r.kind] 26)]) M' R := by
  intro σ' hs M' hM
  refine WL.sub hs hM ?_
  have hmk : ∀ (s : Value) k, ¬ MK [(g9, cb [.int .i64 r.kind, s] 30), (g8, cb [.int .i64 b.1, .int .i64 b.2] 24), (g7, cb [.int .i64 a.1, .int .i64 a.2] 24), (g4, cb [.int .i64 0, .slice none 0 0] 30), (g3, cb [.int .i64 r.fr.1, .int .i64 r.fr.2, .int .i64 r.to.1, .int .i64 r.to.2, .int .i64 r.kind] 26)] k ↔ (k ≠ g9 ∧ k ≠ g8 ∧ k ≠ g7 ∧ k ≠ g4 ∧ k ≠ g3) := fun s k => by
    rw [MK_iff]; simp
  refine l_whileB (fun s : Nat × Option Addr × Nat × List Value => n - s.1) (fun s => [(0, .slice A l.length c), (3, .pointer (some ⟨g3, 0, none⟩)), (4, .pointer (some ⟨g4, 0, none⟩)), (8, .pointer (some ⟨g8, 0, none⟩)), (9, .pointer (some ⟨g9, 0, none⟩)), (10, .int .i64 ((i0 + s.1 : Nat) : Int))]) (fun s => [(g9, cb [.int .i64 r.kind, .slice s.2.1 (gatM (inR l r) i0 s.1).length s.2.2.1] 30), (g8, cb [.int .i64 b.1, .int .i64 b.2] 24), (g7, cb [.int .i64 a.1, .int .i64 a.2] 24), (g4, cb [.int .i64 0, .slice none 0 0] 30), (g3, cb [.int .i64 r.fr.1, .int .i64 r.fr.2, .int .i64 r.to.1, .int .i64 r.to.2, .int .i64 r.kind] 26)])
    (fun s bw => s.1 ≤ n ∧ Tab (fun k => w.heap.size ≤ k ∧ k ≠ g9 ∧ k ≠ g8 ∧ k ≠ g7 ∧ k ≠ g4 ∧ k ≠ g3) (fun _ => True) bw (.slice s.2.1 (gatM (inR l r) i0 s.1).length s.2.2.1) s.2.2.2 (gatM (inR l r) i0 s.1)) (0, none, 0, []) (by repeat (first | exact SubB.nil | refine SubB.cons rfl ?_)) (by repeat(first|exact MSub.refl|refine MSub.keep rfl ?_|exact MSub.nil|apply MSub.drop)) (fun w' hw => ⟨Nat.zero_le _, Tab.nil _ _ _⟩) ?_
  rintro ⟨j, A1, c1, us⟩ bw ⟨hj, hT⟩ hkb ih
  simp only at hj hT
  have hgl := gat_len (inR l r) i0 j
  dsimp only
  by_cases hlt : j < n
  · have hil : i0 + j < l.length := by omega
    have hpe := parted_eq (l := l) (i := i0 + j) hr (by rw [ha, ha0]; omega) (by rw [hb]; omega)
    repeat(first|refine lrun_ ?_|(refine lo_boxA rfl rfl ?_;intro _ _ _)|(refine lo_box1 rfl rfl rfl ?_;intro _ _ _)|(refine lo_alloc rfl ?_;intro _ _ _))
    refine l_yes rfl (by omega) ?_
    repeat(first|refine lrun_ ?_|(refine lo_boxA rfl rfl ?_;intro _ _ _)|(refine lo_box1 rfl rfl rfl ?_;intro _ _ _)|(refine lo_alloc rfl ?_;intro _ _ _))
    refine lo_callM (n_call rfl) rfl (fun w' hw => parted_calls (r := r) (i := i0 + j) (Kn.sl hw.org h) hil (hk _)) ?_
    rintro w1 _ w2 hw1 kn1 ko1 ⟨s, t, rfl, hOs, _⟩
    rw [hpe.1] at hOs
    obtain ⟨As, cs, rfl, _, _⟩ := hOs.form
    have hs1 := hw1.kp.size
    have hs1o := hw1.org.size
    have hsb := hOs.block
    have hT1 := (hT.less (L' := fun i => i < (gatM (inR l r) i0 j).length) fun _ _ => trivial).bound
    have hT2 := (hT1.kp hw1.kp fun k hk hm => (hmk _ k).2 hk.1.2 hm).kn kn1
    have hT3 := hT2.mono (G' := fre w (MK [(g9, cb [.int .i64 r.kind, .slice A1 (gatM (inR l r) i0 j).length c1] 30), (g8, cb [.int .i64 b.1, .int .i64 b.2] 24), (g7, cb [.int .i64 a.1, .int .i64 a.2] 24), (g4, cb [.int .i64 0, .slice none 0 0] 30), (g3, cb [.int .i64 r.fr.1, .int .i64 r.fr.2, .int .i64 r.to.1, .int .i64 r.to.2, .int .i64 r.kind] 26)])) fun k hk _ => ⟨hk.1.1, (hmk _ k).2 hk.1.2⟩
    have hvb : ∀ k, (Value.slice A1 (gatM (inR l r) i0 j).length c1).ownBlock = some k → k < bw.heap.size := fun k hk => (hT1.t.block k hk).2
    have hrb : ∀ i u2 k, i < (gatM (inR l r) i0 j).length → us[i]? = some u2 → u2.ownBlock = some k → k < bw.heap.size := fun i u2 k hi hu hk => (hT1.blk hi hu hk).2.1
    have hlm : ∀ k, MK [(g9, cb [.int .i64 r.kind, .slice A1 (gatM (inR l r) i0 j).length c1] 30), (g8, cb [.int .i64 b.1, .int .i64 b.2] 24), (g7, cb [.int .i64 a.1, .int .i64 a.2] 24), (g4, cb [.int .i64 0, .slice none 0 0] 30), (g3, cb [.int .i64 r.fr.1, .int .i64 r.fr.2, .int .i64 r.to.1, .int .i64 r.to.2, .int .i64 r.kind] 26)] k → k < w1.heap.size := fun k hm => hw1.lt hm
    repeat(first|refine lrun_ ?_|(refine lo_boxA rfl rfl ?_;intro _ _ _)|(refine lo_box1 rfl rfl rfl ?_;intro _ _ _)|(refine lo_alloc rfl ?_;intro _ _ _))
    refine lo_lit (cs := [.slice As (inR l r (i0 + j)).length cs]) rfl (by decide) (by kernel_rfl) rfl ?_
    intro g46 _ hg46
    refine lo_tabPush (r := inR l r (i0 + j)) rfl rfl hT3 (by(repeat(first|exact MIn.hd|refine MIn.tl ?_));done) (hOs.nE.mono (fun k hk _ => ⟨⟨by have := hk.1; unfold noB at this; omega, fun hm => by have := hlm k hm; have := hk.1; unfold noB at this; omega⟩, fun e => by have := hvb k e; have := hk.1; unfold noB at this; omega⟩) fun _ h _ => h) (Nat.lt_irrefl _) (fun i u2 k hi hu hk hk2 => by have := hrb i u2 k hi hu hk; have := (hsb k hk2).1; unfold noB at this; omega) (by omega) rfl rfl ?_
    intro w3 A4 n4 w4 hw3 ko3 kp3 hT4
    have eg : gatM (inR l r) i0 j ++ [inR l r (i0 + j)] = gatM (inR l r) i0 (j + 1) := rfl
    rw [eg] at hT4 ⊢
    have hT5 := (hT4.all fun i hi => by rw [gat_len] at hi; rw [hgl]; omega).mono (G' := fun k => (w.heap.size ≤ k ∧ k ≠ g9 ∧ k ≠ g8 ∧ k ≠ g7 ∧ k ≠ g4 ∧ k ≠ g3) ∧ k ≠ g46) fun k hk _ => ⟨⟨hk.1, (hmk (.slice A1 (gatM (inR l r) i0 j).length c1) k).1 fun ⟨o, hm⟩ => hk.2 ⟨o, .tl hm⟩⟩, fun e => hk.2 ⟨_, by subst e; exact .hd⟩⟩
    clear hT hT1 hT2 hT3 hT4
    repeat(first|refine lrun_ ?_|(refine lo_boxA rfl rfl ?_;intro _ _ _)|(refine lo_box1 rfl rfl rfl ?_;intro _ _ _)|(refine lo_alloc rfl ?_;intro _ _ _))
    refine l_baseM (M3 := [(g9, cb [.int .i64 r.kind, .slice A4 (gatM (inR l r) i0 (j + 1)).length n4] 30), (g8, cb [.int .i64 b.1, .int .i64 b.2] 24), (g7, cb [.int .i64 a.1, .int .i64 a.2] 24), (g4, cb [.int .i64 0, .slice none 0 0] 30), (g3, cb [.int .i64 r.fr.1, .int .i64 r.fr.2, .int .i64 r.to.1, .int .i64 r.to.2, .int .i64 r.kind] 26)]) (by repeat(first|exact MSub.refl|refine MSub.keep rfl ?_|exact MSub.nil|apply MSub.drop)) fun w5 hw5 => ?_
    have hT6 := (hT5.kp hw5.kp fun k hk hm => by
      rcases mk_app (A := [(g46, _)]).1 hm with ⟨o, hm⟩ | hm
      · cases hm with
        | hd => exact hk.2 rfl
        | tl hm => cases hm
      · exact (hmk _ k).2 hk.1.2 hm).mono (G' := fun k => w.heap.size ≤ k ∧ k ≠ g9 ∧ k ≠ g8 ∧ k ≠ g7 ∧ k ≠ g4 ∧ k ≠ g3) fun k hk _ => hk.1
    rw [show ((i0 + j : Nat) : Int) + 1 = ((i0 + (j + 1) : Nat) : Int) by omega]
    exact ih (j + 1, A4, n4, _) w5 _ ⟨hlt, hT6⟩ (by simp only; omega) _ _ (by repeat (first | exact SubB.nil | refine SubB.cons rfl ?_)) (by repeat(first|exact MSub.refl|refine MSub.keep rfl ?_|exact MSub.nil|apply MSub.drop)) fun w' hw' => ⟨hlt, hT6.kp hw'.kp fun k hk hm => (hmk _ k).2 hk.2 hm⟩
  · obtain rfl : j = n := by omega
    repeat(first|refine lrun_ ?_|(refine lo_boxA rfl rfl ?_;intro _ _ _)|(refine lo_box1 rfl rfl rfl ?_;intro _ _ _)|(refine lo_alloc rfl ?_;intro _ _ _))
    refine l_no rfl (by omega) ?_
    refine l_go (.exit rfl) ?_
    exact done bw _ us hT _ (by repeat (first | exact SubB.nil | refine SubB.cons rfl ?_)) _ (by repeat(first|exact MSub.refl|refine MSub.keep rfl ?_|exact MSub.nil|apply MSub.drop))
end
section
variable {F : Nat → Prop} {w : World} {v : Value} {l : List (List Int)} {r : Rg}
set_option maxHeartbeats 8000000 in
theorem takeR_calls (h : Sl kRow F w v l) (hr : RgP r) (hl : l.length ≤ 4096) (hk : ∀ j, (l.getD j []).length ≤ 1048576) :
    CallsR Try.prog 14 #[v, rgV r] w fun u w' => Kn w w' ∧ ∃ s, u = .tuple #[.agg #[.int .i64 (if thereR l r = 0 then r.kind else 0), s], .int .i64 (thereR l r)] ∧ Ow kRow (noB w) (noB w) w' s (takeM l r) := by
  obtain ⟨A, c, e⟩ : ∃ A c, v = .slice A l.length c := by obtain ⟨A, c, e, _⟩ := h.form; exact ⟨A, c, e⟩
  subst e
  refine l_enter (fun _ => False) Try.func14 rfl rfl ?_
  repeat(first|refine lrun_ ?_|(refine lo_boxA rfl rfl ?_;intro _ _ _)|(refine lo_box1 rfl rfl rfl ?_;intro _ _ _)|(refine lo_alloc rfl ?_;intro _ _ _))
  rename_i g3 _ _ g4 _ _
  refine lo_call (n_call rfl) rfl (fun w' hw => thereR_calls (Kn.sl hw.org h) hr) ?_
  by_cases h0 : thereR l r = 0
  case neg =>
    unfold takeM
    rw [if_neg h0, if_neg h0]
    repeat(first|refine lrun_ ?_|(refine lo_boxA rfl rfl ?_;intro _ _ _)|(refine lo_box1 rfl rfl rfl ?_;intro _ _ _)|(refine lo_alloc rfl ?_;intro _ _ _))
    refine l_yes rfl h0 ?_
    repeat(first|refine lrun_ ?_|(refine lo_boxA rfl rfl ?_;intro _ _ _)|(refine lo_box1 rfl rfl rfl ?_;intro _ _ _)|(refine lo_alloc rfl ?_;intro _ _ _))
    exact l_retR2 rfl (by repeat(first|exact LRes.nil|refine LRes.tmp rfl ?_|refine LRes.agg rfl (by(repeat(first|exact MIn.hd|refine MIn.tl ?_));done) (by rfl) (by rfl) ?_|refine LRes.one rfl (by(repeat(first|exact MIn.hd|refine MIn.tl ?_));done) (by rfl) ?_)) fun w' hw => ⟨hw.org, _, rfl, Ow.nil _ _ _ _⟩
  have ok := there_ok h0
  have ha1 := ok.a.i
  have hb1 := ok.b.i
  have hle := ok.le
  unfold takeM
  rw [if_pos h0, if_pos h0, h0]
  obtain ⟨i0, hi0⟩ : ∃ i0 : Nat, (endsR r).1.1 = (i0 : Int) := ⟨(endsR r).1.1.toNat, by omega⟩
  obtain ⟨n, hn⟩ : ∃ n : Nat, (endsR r).2.1 + 1 = ((i0 + n : Nat) : Int) := ⟨((endsR r).2.1 + 1 - i0).toNat, by omega⟩
  have e1 : (endsR r).1.1.toNat = i0 := by omega
  have e2 : ((endsR r).2.1 + 1 - (endsR r).1.1).toNat = n := by omega
  rw [e1, e2]
  repeat(first|refine lrun_ ?_|(refine lo_boxA rfl rfl ?_;intro _ _ _)|(refine lo_box1 rfl rfl rfl ?_;intro _ _ _)|(refine lo_alloc rfl ?_;intro _ _ _))
  refine l_no rfl (fun h => h rfl) ?_
  refine l_go .skip ?_
  repeat(first|refine lrun_ ?_|(refine lo_boxA rfl rfl ?_;intro _ _ _)|(refine lo_box1 rfl rfl rfl ?_;intro _ _ _)|(refine lo_alloc rfl ?_;intro _ _ _))
  refine lo_call (n_call rfl) rfl (fun w' hw => ends_calls (r := r)) ?_
  generalize hae : (endsR r).1 = a at *
  generalize hbe : (endsR r).2 = b at *
  obtain ⟨a1, a2⟩ := a
  simp only at hi0
  subst hi0
  repeat(first|refine lrun_ ?_|(refine lo_boxA rfl rfl ?_;intro _ _ _)|(refine lo_box1 rfl rfl rfl ?_;intro _ _ _)|(refine lo_alloc rfl ?_;intro _ _ _))
  rename_i g7 _ _ g8 _ _ g9 _ _
  refine l_baseM (M3 := [(g9, cb [.int .i64 r.kind, .slice none 0 0] 30), (g8, cb [.int .i64 b.1, .int .i64 b.2] 24), (g7, cb [.int .i64 (i0 : Int), .int .i64 a2] 24), (g4, cb [.int .i64 0, .slice none 0 0] 30), (g3, cb [.int .i64 r.fr.1, .int .i64 r.fr.2, .int .i64 r.to.1, .int .i64 r.to.2, .int .i64 r.kind] 26)]) (by repeat(first|exact MSub.refl|refine MSub.keep rfl ?_|exact MSub.nil|apply MSub.drop)) fun w5 hw5 => ?_
  refine rt_loop h ok hae hbe hl hk rfl hn (by omega) ?_ _ (by repeat (first | exact SubB.nil | refine SubB.cons rfl ?_)) _ (by repeat(first|exact MSub.refl|refine MSub.keep rfl ?_|exact MSub.nil|apply MSub.drop))
  intro bw s us hT σ' hs M' hM
  refine WL.sub hs hM ?_
  obtain ⟨As, cs, rfl, _, _⟩ := hT.form
  repeat(first|refine lrun_ ?_|(refine lo_boxA rfl rfl ?_;intro _ _ _)|(refine lo_box1 rfl rfl rfl ?_;intro _ _ _)|(refine lo_alloc rfl ?_;intro _ _ _))
  refine l_retR2 rfl (by repeat(first|exact LRes.nil|refine LRes.tmp rfl ?_|refine LRes.agg rfl (by(repeat(first|exact MIn.hd|refine MIn.tl ?_));done) (by rfl) (by rfl) ?_|refine LRes.one rfl (by(repeat(first|exact MIn.hd|refine MIn.tl ?_));done) (by rfl) ?_)) fun w' hw => ⟨hw.org, _, rfl, ?_⟩
  exact (((hT.kp hw.kp fun k hk hm => by rw [MK_iff] at hm; simp at hm; omega).ow fun _ _ => trivial).mono (fun k hk _ => hk.1) fun k hk _ => hk.1)
/-! ### Registers -/
theorem sameG_calls {F' : Nat → Prop} {u v : Value} {l m : List (List Int)} {a b : Int} (h : Sl kRow F w u l) (h' : Sl kRow F' w v m) : CallsR Try.prog 15 #[.agg #[.int .i64 a, u], .agg #[.int .i64 b, v]] w fun x w' => Kn w w' ∧ x = .bool (decide (a = b ∧ l = m)) := by
  obtain ⟨A, c, rfl, _⟩ := h.form
  obtain ⟨A', c', rfl, _⟩ := h'.form
  refine l_enter (fun _ => False) Try.func15 rfl rfl ?_
  by_cases h0 : a = b
  · rw [show decide (a = b ∧ l = m) = decide (l = m) from decide_eq_decide.2 ⟨fun h => h.2, fun h => ⟨h0, h⟩⟩]
    repeat(first|refine lrun_ ?_|(refine lo_boxA rfl rfl ?_;intro _ _ _)|(refine lo_box1 rfl rfl rfl ?_;intro _ _ _)|(refine lo_alloc rfl ?_;intro _ _ _))
    refine lo_call (n_call rfl) rfl (fun w' hw => same04_calls (Kn.sl hw.org h) (Kn.sl hw.org h')) ?_
    repeat(first|refine lrun_ ?_|(refine lo_boxA rfl rfl ?_;intro _ _ _)|(refine lo_box1 rfl rfl rfl ?_;intro _ _ _)|(refine lo_alloc rfl ?_;intro _ _ _))
    exact l_ret1 rfl rfl fun w' hw => ⟨hw.org, rfl⟩
  · rw [decide_eq_false fun h => h0 h.1]
    repeat(first|refine lrun_ ?_|(refine lo_boxA rfl rfl ?_;intro _ _ _)|(refine lo_box1 rfl rfl rfl ?_;intro _ _ _)|(refine lo_alloc rfl ?_;intro _ _ _))
    exact l_ret1 rfl rfl fun w' hw => ⟨hw.org, rfl⟩
theorem twinG_calls {u : Value} {l : List (List Int)} {a : Int} (h : Sl kRow F w u l) : CallsR Try.prog 21 #[.agg #[.int .i64 a, u]] w fun x w' => Kn w w' ∧ ∃ s us, x = .agg #[.int .i64 a, s] ∧ Tab (noB w) (fun _ => True) w' s us l := by
  obtain ⟨A, c, rfl, _⟩ := h.form
  refine l_enter (fun _ => False) Try.func21 rfl rfl ?_
  repeat(first|refine lrun_ ?_|(refine lo_boxA rfl rfl ?_;intro _ _ _)|(refine lo_box1 rfl rfl rfl ?_;intro _ _ _)|(refine lo_alloc rfl ?_;intro _ _ _))
  rename_i g1 _ _ g2 _ _
  refine l_draw [(0, 0), (1, 0), (2, 0), (3, 0), (4, 1), (5, 0), (6, 1)] (by kernel_rfl) (by kernel_rfl) rfl (by kernel_rfl) ?_
  repeat(first|refine lrund_ ?_|(refine ld_open rfl ?_;first|(refine ld_boxA rfl wy_ rfl ?_;intro _ _ _)|(refine ld_box1 rfl rfl wy_ rfl ?_;intro _ _ _)|(refine ld_alloc wy_ rfl ?_;intro _ _ _)))
  refine ld_open rfl ?_; refine ld_callN (n_call rfl) wy_ rfl (fun w' hw => twinT_calls (Kn.sl hw.org h)) ?_
  rintro w1 s w2 N hw1 kn1 ⟨us, hT⟩ hN
  obtain ⟨As, cs, rfl, _, _⟩ := hT.form
  repeat(first|refine lrund_ ?_|(refine ld_open rfl ?_;first|(refine ld_boxA rfl wy_ rfl ?_;intro _ _ _)|(refine ld_box1 rfl rfl wy_ rfl ?_;intro _ _ _)|(refine ld_alloc wy_ rfl ?_;intro _ _ _)))
  refine ld_open rfl ?_
  refine ld_storeWM (mcat_app (by repeat constructor)) rfl rfl (min_app (by(repeat(first|exact MIn.hd|refine MIn.tl ?_));done)) (by rfl) rfl (by rfl) (by rfl) (mup_app (by first|exact .hd|exact .tl .hd|exact .tl (.tl .hd)|exact .tl (.tl (.tl .hd))|exact .tl (.tl (.tl (.tl .hd)))|exact .tl (.tl (.tl (.tl (.tl .hd))))|exact .tl (.tl (.tl (.tl (.tl (.tl .hd)))))|exact .tl (.tl (.tl (.tl (.tl (.tl (.tl .hd))))))|exact .tl (.tl (.tl (.tl (.tl (.tl (.tl (.tl .hd))))))))) (by kernel_rfl) wy_ rfl ?_
  repeat(first|refine lrund_ ?_|(refine ld_open rfl ?_;first|(refine ld_boxA rfl wy_ rfl ?_;intro _ _ _)|(refine ld_box1 rfl rfl wy_ rfl ?_;intro _ _ _)|(refine ld_alloc wy_ rfl ?_;intro _ _ _)))
  refine l_cover hN fun w3 hw3 ko _ => ?_
  have h1 := hT.move fun k hk hl => hw3 k hk hl
  refine l_retR1 rfl (by repeat(first|exact LRes.nil|refine LRes.tmp rfl ?_|refine LRes.agg rfl (by(repeat(first|exact MIn.hd|refine MIn.tl ?_));done) (by rfl) (by rfl) ?_|refine LRes.one rfl (by(repeat(first|exact MIn.hd|refine MIn.tl ?_));done) (by rfl) ?_)) fun w4 hw => ⟨hw.org, _, us, rfl, ?_⟩
  have hs1 := hw1.org.size
  have h2 := h1.kp hw.kp fun k hk hm => by have := hw1.ltI (by rfl) hm; unfold noB at hk; omega
  exact h2.mono fun k hk _ => by unfold noB at *; omega
end
end Go.Ink

set_option linter.unusedVariables false
set_option linter.unusedSimpArgs false
namespace Go.Ink
open Go Go.Proofs Go.RowKit

section
variable {F : Nat → Prop} {w B : World} {v tv : Value} {l : List (List Int)} {r : Rg} {A Al : Option Addr} {n c cl g6 N0 : Nat} {us : List Value} {kd : Int}
/-- What the loops keep. -/
structure Fil (N0 g6 n : Nat) (A : Option Addr) (c : Nat) (us : List Value) (tv : Value) (l : List (List Int)) (rows : List (List Int)) (b : World) : Prop where
  len : rows.length = n
  t : Tab (fun k => N0 ≤ k ∧ k ≠ g6) (fun _ => True) b (.slice A n c) us rows
  h : ∃ F : Nat → Prop, Sl kRow F b tv l ∧ ∀ k, F k → k < N0
theorem om_K {k : Nat} : MK [(g6, cb [.int .i64 kd, .slice A n c] 30)] k ↔ k = g6 := by rw [MK_iff]; simp
theorem Fil.now {O b w' : World} {S : Nat → Prop} {rows : List (List Int)} (h : Fil N0 g6 n A c us tv l rows b) (h6 : N0 ≤ g6) (hw : Kp (MK [(g6, cb [.int .i64 kd, .slice A n c] 30)]) b w') : Fil N0 g6 n A c us tv l rows w' := by
  obtain ⟨h1, h2, F, h3, h4⟩ := h
  exact ⟨h1, h2.kp hw fun k hk hm => hk.2 (om_K.1 hm), F, Kp.sl hw h3 fun k hk hm => by have := om_K.1 hm; have := h4 k hk; omega, h4⟩
/-- One rune is 7 now. -/
theorem Fil.set {w1 w2 : World} {rows : List (List Int)} {i y : Nat} {u : Value} (h : Fil N0 g6 n A c us tv l rows w1) (hu : us[i]? = some u) (hi : i < n) (kp : Kp (fun k => u.ownBlock = some k) w1 w2) (hO : Ow kRune (fun _ => True) (fun _ => False) w2 u ((rows.getD i []).set y 7)) : Fil N0 g6 n A c us tv l (rows.set i ((rows.getD i []).set y 7)) w2 := by
  obtain ⟨h1, h2, F, h3, h4⟩ := h
  obtain ⟨u', hu', hOu⟩ := h2.at_ (j := i) trivial (by omega)
  obtain rfl : u = u' := by rw [hu] at hu'; exact Option.some.inj hu'
  have hb := hOu.block
  refine ⟨by rw [List.length_set]; exact h1, ?_, F, Kp.sl kp h3 fun k hk hm => by have := (hb k hm).1.1.1; have := h4 k hk; omega, h4⟩
  have h5 := (h2.take (j := i) trivial hu).kp kp fun k hk e => hk.2 e
  refine (h5.back (u := u) (j := i) (x' := (rows.getD i []).set y 7) (G' := fun k => N0 ≤ k ∧ k ≠ g6) hu (fun k hk _ => hk.1) (fun hk => hk.2 rfl) (hO.nE.mono (fun k hk _ => (hb k hk.2).1) fun _ h _ => h) fun i' u2 k hi' hu2 hk hk2 => ?_).all fun j hj => by
    by_cases e : j = i
    · exact .inr e
    · exact .inl ⟨trivial, e⟩
  exact hi'.2 (h2.apart i' i u2 u k trivial trivial hu2 hu hk hk2)
set_option maxHeartbeats 8000000 in
theorem fil_loop {kk : List Item} {R : Value → World → Prop} {rows : List (List Int)} (h0 : Fil N0 g6 n A c us tv l rows B) (h6 : N0 ≤ g6) (hw0 : w.heap.size ≤ N0)
    (done : ∀ (bw : World) (rows : List (List Int)), Fil N0 g6 n A c us tv l rows bw → ∀ σ', SubB σ' [(0, .slice Al l.length cl), (5, tv), (6, .pointer (some ⟨g6, 0, none⟩))] → ∀ M', MSub [(g6, cb [.int .i64 kd, .slice A n c] 30)] M' → WL Try.prog Try.f3 kk σ' w (fun _ => False) bw (MK [(g6, cb [.int .i64 kd, .slice A n c] 30)]) M' R) :
    ∀ σ', SubB σ' [(0, .slice Al l.length cl), (5, tv), (6, .pointer (some ⟨g6, 0, none⟩)), (10, .int .i64 ((0 : Nat) : Int))] → ∀ M', MSub [(g6, cb [.int .i64 kd, .slice A n c] 30)] M' →
      WL Try.prog Try.f3 (.code (.loop (bodyC Try.f3 [1, 1, 1, 1, 1, 1, 0, 1, 0, 0])) :: .inBlock 0 :: kk) σ' w (fun _ => False) B (MK [(g6, cb [.int .i64 kd, .slice A n c] 30)]) M' R := by
  intro σ' hs M' hM
  refine WL.sub hs hM ?_
  refine l_whileB (fun s : Nat × List (List Int) => n - s.1) (fun s => [(0, .slice Al l.length cl), (5, tv), (6, .pointer (some ⟨g6, 0, none⟩)), (10, .int .i64 (s.1 : Int))]) (fun _ => [(g6, cb [.int .i64 kd, .slice A n c] 30)])
    (fun s bw => s.1 ≤ n ∧ Fil N0 g6 n A c us tv l s.2 bw) (0, rows) (by repeat (first | exact SubB.nil | refine SubB.cons rfl ?_)) (by repeat(first|exact MSub.refl|refine MSub.keep rfl ?_|exact MSub.nil|apply MSub.drop)) (fun w' hw => ⟨Nat.zero_le _, h0.now (O := w) (S := fun _ => False) h6 hw.kp⟩) ?_
  rintro ⟨i, rs⟩ b ⟨hin, hf⟩ hkb ih
  simp only at hin hf
  dsimp only
  have hcap := hf.t.form
  obtain ⟨_, _, _, _, hn24⟩ := hcap
  rw [hf.len] at hn24
  by_cases hlt : i < n
  · obtain ⟨ad, rfl⟩ := hf.t.ad (by rw [hf.len]; omega)
    obtain ⟨u, hu, hOu⟩ := hf.t.at_ (j := i) trivial (by rw [hf.len]; exact hlt)
    obtain ⟨m, hm⟩ : ∃ m, (rs.getD i []).length = m := ⟨_, rfl⟩
    obtain ⟨As, cs, rfl, _, hfit⟩ := hOu.form
    rw [hm] at hu hfit
    have hfit' : m * 4 ≤ 140737488355328 := hfit
    repeat(first|refine lrun_ ?_|(refine lo_boxA rfl rfl ?_;intro _ _ _)|(refine lo_box1 rfl rfl rfl ?_;intro _ _ _)|(refine lo_alloc rfl ?_;intro _ _ _))
    refine l_yes rfl (by omega) ?_
    repeat(first|refine lrun_ ?_|(refine lo_boxA rfl rfl ?_;intro _ _ _)|(refine lo_box1 rfl rfl rfl ?_;intro _ _ _)|(refine lo_alloc rfl ?_;intro _ _ _))
    refine l_whileB (fun s : Nat × List (List Int) => m - s.1) (fun s => [(0, .slice Al l.length cl), (5, tv), (6, .pointer (some ⟨g6, 0, none⟩)), (10, .int .i64 (i : Int)), (11, .int .i64 (s.1 : Int))]) (fun _ => [(g6, cb [.int .i64 kd, .slice (some ad) n c] 30)])
      (fun s bw => s.1 ≤ m ∧ (s.2.getD i []).length = m ∧ Fil N0 g6 n (some ad) c us tv l s.2 bw) (0, rs) (by repeat (first | exact SubB.nil | refine SubB.cons rfl ?_)) (by repeat(first|exact MSub.refl|refine MSub.keep rfl ?_|exact MSub.nil|apply MSub.drop)) (fun w' hw => ⟨Nat.zero_le _, hm, hf.now (O := w) (S := fun _ => False) h6 hw.kp⟩) ?_
    clear hOu hm
    rintro ⟨y, rq⟩ b2 ⟨hym, hm, hg⟩ hkb2 ih2
    simp only at hym hg hm
    dsimp only
    have hcell := hg.t.cell hu
    have hab := hg.t.t.block ad.block rfl
    have hnk : ¬ MK [(g6, cb [.int .i64 kd, .slice (some ad) n c] 30)] (ad.add (i * 1)).block := fun h => by rw [add_block] at h; exact hab.1.2 (om_K.1 h)
    by_cases hlt2 : y < m
    · obtain ⟨u', hu', hOu⟩ := hg.t.at_ (j := i) trivial (by rw [hg.len]; exact hlt)
      obtain rfl : Value.slice As m cs = u' := by rw [hu] at hu'; exact Option.some.inj hu'
      obtain ⟨ad2, rfl⟩ : ∃ ad2, As = some ad2 := by
        obtain ⟨_, _, _, h⟩ := hOu
        rcases h with ⟨_, h⟩ | ⟨_, _, _, _, _, h, _⟩
        · rw [h] at hm; simp at hm; omega
        · cases h; exact ⟨_, rfl⟩
      have hOg : Og kRune w b2 (MK [(g6, cb [.int .i64 kd, .slice (some ad) n c] 30)]) (fun _ => False) (.slice (some ad2) m cs) (rq.getD i []) := hOu.mono (fun k hk _ => ⟨by have := hk.1.1; omega, fun h => hk.1.2 (om_K.1 h)⟩) fun _ h _ => h
      repeat(first|refine lrun_ ?_|(refine lo_boxA rfl rfl ?_;intro _ _ _)|(refine lo_box1 rfl rfl rfl ?_;intro _ _ _)|(refine lo_alloc rfl ?_;intro _ _ _))
      refine lo_index rfl rfl rfl hlt rfl rfl ?_
      refine lo_loadB rfl hcell hnk rfl ?_
      repeat(first|refine lrun_ ?_|(refine lo_boxA rfl rfl ?_;intro _ _ _)|(refine lo_box1 rfl rfl rfl ?_;intro _ _ _)|(refine lo_alloc rfl ?_;intro _ _ _))
      refine l_yes rfl (by omega) ?_
      repeat(first|refine lrun_ ?_|(refine lo_boxA rfl rfl ?_;intro _ _ _)|(refine lo_box1 rfl rfl rfl ?_;intro _ _ _)|(refine lo_alloc rfl ?_;intro _ _ _))
      refine lo_index rfl rfl rfl hlt rfl rfl ?_
      refine lo_loadB rfl hcell hnk rfl ?_
      repeat(first|refine lrun_ ?_|(refine lo_boxA rfl rfl ?_;intro _ _ _)|(refine lo_box1 rfl rfl rfl ?_;intro _ _ _)|(refine lo_alloc rfl ?_;intro _ _ _))
      refine lo_index rfl rfl rfl hlt2 rfl rfl ?_
      refine lo_setM (d := kRune) (F := fun _ => False) (xs := rq.getD i []) (q := 7) (j := y) rfl rfl hOg (fun _ h => h.elim) (by rw [hm]; exact hlt2) (fun w' hw => ⟨rfl, by decide, by decide⟩) rfl rfl ?_
      intro w1 w2 hw1 ko kp hog
      have hg1 := hg.now (O := w) (S := fun _ => False) h6 hw1.kp
      have hg2 := hg1.set (y := y) hu hlt (kp.mono fun k _ e => by rw [e]; rfl) (hog.mono (fun _ _ _ => trivial) fun _ h _ => h)
      refine lo_nil ?_
      repeat(first|refine lrun_ ?_|(refine lo_boxA rfl rfl ?_;intro _ _ _)|(refine lo_box1 rfl rfl rfl ?_;intro _ _ _)|(refine lo_alloc rfl ?_;intro _ _ _))
      refine ih2 (y + 1, rq.set i ((rq.getD i []).set y 7)) w2 _ ⟨hlt2, ?_, hg2⟩ (by simp only; omega) _ _ (by repeat (first | exact SubB.nil | refine SubB.cons rfl ?_)) (by repeat(first|exact MSub.refl|refine MSub.keep rfl ?_|exact MSub.nil|apply MSub.drop)) fun w' hw' => ⟨hlt2, ?_, hg2.now (O := w) (S := fun _ => False) h6 hw'.kp⟩
      all_goals
        simp only
        rw [List.getD_eq_getElem?_getD, List.getElem?_set_self (by rw [hg.len]; exact hlt), Option.getD_some, List.length_set]
        exact hm
    · obtain rfl : y = m := by omega
      repeat(first|refine lrun_ ?_|(refine lo_boxA rfl rfl ?_;intro _ _ _)|(refine lo_box1 rfl rfl rfl ?_;intro _ _ _)|(refine lo_alloc rfl ?_;intro _ _ _))
      refine lo_index rfl rfl rfl hlt rfl rfl ?_
      refine lo_loadB rfl hcell hnk rfl ?_
      repeat(first|refine lrun_ ?_|(refine lo_boxA rfl rfl ?_;intro _ _ _)|(refine lo_box1 rfl rfl rfl ?_;intro _ _ _)|(refine lo_alloc rfl ?_;intro _ _ _))
      refine l_no rfl (by omega) ?_
      refine l_go (.exit rfl) ?_
      repeat(first|refine lrun_ ?_|(refine lo_boxA rfl rfl ?_;intro _ _ _)|(refine lo_box1 rfl rfl rfl ?_;intro _ _ _)|(refine lo_alloc rfl ?_;intro _ _ _))
      exact ih (i + 1, rq) b2 _ ⟨hlt, hg⟩ (by simp only; omega) _ _ (by repeat (first | exact SubB.nil | refine SubB.cons rfl ?_)) (by repeat(first|exact MSub.refl|refine MSub.keep rfl ?_|exact MSub.nil|apply MSub.drop)) fun w' hw' => ⟨hlt, hg.now (O := w) (S := fun _ => False) h6 hw'.kp⟩
  · obtain rfl : i = n := by omega
    repeat(first|refine lrun_ ?_|(refine lo_boxA rfl rfl ?_;intro _ _ _)|(refine lo_box1 rfl rfl rfl ?_;intro _ _ _)|(refine lo_alloc rfl ?_;intro _ _ _))
    refine l_no rfl (by omega) ?_
    refine l_go (.exit rfl) ?_
    exact done b _ hf _ (by repeat (first | exact SubB.nil | refine SubB.cons rfl ?_)) _ (by repeat(first|exact MSub.refl|refine MSub.keep rfl ?_|exact MSub.nil|apply MSub.drop))
end
section
variable {F : Nat → Prop} {w : World} {v : Value} {l : List (List Int)} {r : Rg}
set_option maxHeartbeats 8000000 in
theorem takes_calls (h : Sl kRow F w v l) (hr : RgP r) :
    CallsR Try.prog 3 #[v, rgV r] w fun u w' => Kn w w' ∧ u = .bool true := by
  obtain ⟨A, c, e⟩ : ∃ A c, v = .slice A l.length c := by obtain ⟨A, c, e, _⟩ := h.form; exact ⟨A, c, e⟩
  subst e
  refine l_enter (fun _ => False) Try.func3 rfl rfl ?_
  repeat(first|refine lrun_ ?_|(refine lo_boxA rfl rfl ?_;intro _ _ _)|(refine lo_box1 rfl rfl rfl ?_;intro _ _ _)|(refine lo_alloc rfl ?_;intro _ _ _))
  rename_i g3 _ _
  refine lo_call (n_call rfl) rfl (fun w' hw => fit_calls (Kn.sl hw.org h)) ?_
  cases hf : fitB l with
  | false =>
    repeat(first|refine lrun_ ?_|(refine lo_boxA rfl rfl ?_;intro _ _ _)|(refine lo_box1 rfl rfl rfl ?_;intro _ _ _)|(refine lo_alloc rfl ?_;intro _ _ _))
    refine l_true rfl ?_
    repeat(first|refine lrun_ ?_|(refine lo_boxA rfl rfl ?_;intro _ _ _)|(refine lo_box1 rfl rfl rfl ?_;intro _ _ _)|(refine lo_alloc rfl ?_;intro _ _ _))
    exact l_ret1 rfl rfl fun w' hw => ⟨hw.org, rfl⟩
  | true =>
  obtain ⟨⟨hll, hlr⟩, hpl⟩ := fit_iff.1 hf
  have hsum : (l.map List.length).sum = runesM l := rfl
  repeat(first|refine lrun_ ?_|(refine lo_boxA rfl rfl ?_;intro _ _ _)|(refine lo_box1 rfl rfl rfl ?_;intro _ _ _)|(refine lo_alloc rfl ?_;intro _ _ _))
  refine l_false rfl ?_
  refine l_go .skip ?_
  repeat(first|refine lrun_ ?_|(refine lo_boxA rfl rfl ?_;intro _ _ _)|(refine lo_box1 rfl rfl rfl ?_;intro _ _ _)|(refine lo_alloc rfl ?_;intro _ _ _))
  refine lo_callM (n_call rfl) rfl (fun w' hw => twinT_calls (Kn.sl hw.org h)) ?_
  rintro w3 tv w4 hw3 kn3 ko3 ⟨us3, hT3⟩
  have ht := Hd.of (hT3.ow fun _ _ => trivial) hw3
  obtain ⟨At, ct, rfl, _, _⟩ := hT3.form
  clear hT3
  repeat(first|refine lrun_ ?_|(refine lo_boxA rfl rfl ?_;intro _ _ _)|(refine lo_box1 rfl rfl rfl ?_;intro _ _ _)|(refine lo_alloc rfl ?_;intro _ _ _))
  refine lo_callM (n_call rfl) rfl (fun w' hw => takeT_calls (ht.now hw) hr (by omega)) ?_
  rintro w5 _ w6 hw5 kn5 ko5 ⟨s, us, rfl, hT5⟩
  have hTs := Hd.of (hT5.ow fun _ _ => trivial) hw5
  obtain ⟨Ft, hS, hFt⟩ := ht
  have hs5 := hw5.kp.size
  have hs5o := hw5.org.size
  have hS6 := Kn.sl kn5 (Kp.sl hw5.kp hS fun k hk => (hFt k hk).1)
  have hT6 := hT5.bound
  have hk3 : ∀ k, MK [(g3, cb [.int .i64 r.fr.1, .int .i64 r.fr.2, .int .i64 r.to.1, .int .i64 r.to.2, .int .i64 r.kind] 26)] k → k < w5.heap.size := fun k hm => hw5.lt hm
  obtain ⟨A5, c5, rfl, _, _⟩ := hT5.form
  clear hT5
  repeat(first|refine lrun_ ?_|(refine lo_boxA rfl rfl ?_;intro _ _ _)|(refine lo_box1 rfl rfl rfl ?_;intro _ _ _)|(refine lo_alloc rfl ?_;intro _ _ _))
  rename_i g6 _ hg6
  refine lo_callM (n_call rfl) rfl (fun w' hw => takeR_calls (Kn.sl hw.org h) hr (by omega) (fun j => Nat.le_trans (runes_getD _ j) (by omega))) ?_
  rintro w7 _ w8 hw7 kn7 ko7 ⟨s8, rfl, hO8⟩
  have hTs := hTs.next hw7 kn7
  have hT8 := (hT6.kp hw7.kp fun k hk hm => by have := hk3 k hm; have := hk.1; unfold noB at this; omega).kn kn7
  have hS8 := Kn.sl kn7 (Kp.sl hw7.kp hS6 fun k hk hm => hw5.apart (hFt k hk).1 (hFt k hk).2 hm)
  have hR8 := Hd.of hO8 hw7
  obtain ⟨A8, c8, rfl, _, _⟩ := hO8.form
  clear hO8
  repeat(first|refine lrun_ ?_|(refine lo_boxA rfl rfl ?_;intro _ _ _)|(refine lo_box1 rfl rfl rfl ?_;intro _ _ _)|(refine lo_alloc rfl ?_;intro _ _ _))
  rw [show decide (thereR l r ≠ thereR l r) = false from decide_eq_false fun h => h rfl]
  repeat(first|refine lrun_ ?_|(refine lo_boxA rfl rfl ?_;intro _ _ _)|(refine lo_box1 rfl rfl rfl ?_;intro _ _ _)|(refine lo_alloc rfl ?_;intro _ _ _))
  refine lo_call (n_call rfl) rfl (fun w' hw => sameG_calls (hTs.now hw) (hR8.now hw)) ?_
  rw [decide_eq_true (⟨rfl, rfl⟩ : _ ∧ takeM l r = takeM l r)]
  repeat(first|refine lrun_ ?_|(refine lo_boxA rfl rfl ?_;intro _ _ _)|(refine lo_box1 rfl rfl rfl ?_;intro _ _ _)|(refine lo_alloc rfl ?_;intro _ _ _))
  refine l_false rfl ?_
  refine l_go .skip ?_
  repeat(first|refine lrun_ ?_|(refine lo_boxA rfl rfl ?_;intro _ _ _)|(refine lo_box1 rfl rfl rfl ?_;intro _ _ _)|(refine lo_alloc rfl ?_;intro _ _ _))
  generalize hkd : (if thereR l r = 0 then r.kind else 0) = kd at *
  refine l_baseM (M3 := [(g6, cb [.int .i64 kd, .slice A5 (takeM l r).length c5] 30)]) (by repeat(first|exact MSub.refl|refine MSub.keep rfl ?_|exact MSub.nil|apply MSub.drop)) fun w9 hw9 => ?_
  have hk8 : ∀ k, MK [(g6, cb [.int .i64 kd, .slice A5 (takeM l r).length c5] 30), (g3, cb [.int .i64 r.fr.1, .int .i64 r.fr.2, .int .i64 r.to.1, .int .i64 r.to.2, .int .i64 r.kind] 26)] k → k = g6 ∨ k = g3 := fun k hm => by rw [MK_iff] at hm; simpa using hm
  have hg3 : g3 < w5.heap.size := hk3 g3 ⟨_, .hd⟩
  have hg65 : w5.heap.size ≤ g6 := by have := hw5.lt (k := g3) ⟨_, .hd⟩; have := kn5.size; omega
  have hF0 : Fil w5.heap.size g6 (takeM l r).length A5 c5 us (.slice At l.length ct) l (takeM l r) w9 := by
    refine ⟨rfl, (hT8.kp hw9.kp fun k hk hm => ?_).mono fun k hk _ => ⟨hk.1, by have := hk.2; omega⟩, Ft, Kp.sl hw9.kp hS8 fun k hk hm => ?_, fun k hk => by have := (hFt k hk).2; omega⟩
    · have h1 := hk.1
      have h2 := hk.2
      unfold noB at h1
      rcases hk8 k hm with e | e <;> omega
    · have h1 := hFt k hk
      rcases hk8 k hm with e | e
      · omega
      · subst e; exact h1.1 ⟨_, .hd⟩
  refine fil_loop hF0 hg65 (by omega) ?_ _ (by repeat (first | exact SubB.nil | refine SubB.cons rfl ?_)) _ (by repeat(first|exact MSub.refl|refine MSub.keep rfl ?_|exact MSub.nil|apply MSub.drop))
  intro bw rows hf9 σ' hs M' hM
  refine WL.sub hs hM ?_
  obtain ⟨_, _, F9, hS9, hF9⟩ := hf9
  repeat(first|refine lrun_ ?_|(refine lo_boxA rfl rfl ?_;intro _ _ _)|(refine lo_box1 rfl rfl rfl ?_;intro _ _ _)|(refine lo_alloc rfl ?_;intro _ _ _))
  refine lo_call (n_call rfl) rfl (fun w' hw => same04_calls (Kp.sl hw.kp hS9 fun k hk hm => by have := om_K.1 hm; have := hF9 k hk; omega) (Kn.sl hw.org h)) ?_
  rw [decide_eq_true (rfl : l = l)]
  repeat(first|refine lrun_ ?_|(refine lo_boxA rfl rfl ?_;intro _ _ _)|(refine lo_box1 rfl rfl rfl ?_;intro _ _ _)|(refine lo_alloc rfl ?_;intro _ _ _))
  refine lo_call (n_call (args := []) rfl) rfl (fun w' hw => awake_calls) ?_
  repeat(first|refine lrun_ ?_|(refine lo_boxA rfl rfl ?_;intro _ _ _)|(refine lo_box1 rfl rfl rfl ?_;intro _ _ _)|(refine lo_alloc rfl ?_;intro _ _ _))
  exact l_ret1 rfl rfl fun w' hw => ⟨hw.org, rfl⟩
end
abbrev kRg : Kd Rg := kIso (kPair kPs (kPair kPs kI64)) (fun r => (r.fr, r.to, r.kind)) 40 (by decide)
instance : StrucT Try.prog 26 [24, 24, 3] := ⟨by kernel_rfl, by kernel_rfl⟩
instance : RdT Try.prog 26 kRg := rd_struct (g := fun a => ⟨a.1, a.2.1, a.2.2⟩) inferInstance inferInstance (fun _ => rfl) (by kernel_rfl) (by kernel_rfl)
theorem rg_form {F : Nat → Prop} {w : World} {r : Rg} {cs : List Value} (h : kRg.R F w r cs) : (Value.agg cs.toArray = rgV r) ∧ RgP r := by
  obtain ⟨c1, c2, rfl, h1, c3, c4, rfl, h2, ⟨rfl, h3⟩⟩ := h
  obtain ⟨rfl, h1'⟩ := ps_form h1
  obtain ⟨rfl, h2'⟩ := ps_form h2
  exact ⟨rfl, h1', h2', h3⟩
theorem law_OperTakes {W : World} {u : Value} {l : List (List Int)} {r : Rg} {cs : List Value} (h : Sl kRow (fun _ => True) W u l) (hr : kRg.R (fun _ => True) W r cs) :
    CallsR Try.prog 3 #[u, .agg cs.toArray] W fun r w' => r = .bool true ∧ Kn W w' := by
  obtain ⟨e, hr'⟩ := rg_form hr
  rw [e]
  exact (takes_calls h hr').mono fun r w' ⟨h1, h2⟩ => ⟨h2, h1⟩
end Go.Ink

set_option linter.unusedVariables false
set_option linter.unusedSimpArgs false
namespace Go.Ink
open Go Go.Proofs Go.RowKit

theorem firstI_hit {x : List Int} {k : Nat} (hk : k < x.length) (hc : classM (x.getD k 0) false ≠ 0) (hb : ∀ j, j < k → classM (x.getD j 0) false = 0) : firstI x = k := by
  have e : x.findIdx? (fun r => decide (classM r false ≠ 0)) = some k := by
    rw [List.findIdx?_eq_some_iff_getElem]
    refine ⟨hk, ?_, fun j hj => ?_⟩
    · rw [decide_eq_true_iff]
      rw [List.getD_eq_getElem?_getD, List.getElem?_eq_getElem hk] at hc
      exact hc
    · have hj' : j < x.length := by omega
      have := hb j hj
      rw [List.getD_eq_getElem?_getD, List.getElem?_eq_getElem hj', Option.getD_some] at this
      rw [this]
      decide
  unfold firstI
  rw [e]
  rfl
theorem firstI_no {x : List Int} (hb : ∀ j, j < x.length → classM (x.getD j 0) false = 0) : firstI x = x.length - 1 := by
  have e : x.findIdx? (fun r => decide (classM r false ≠ 0)) = none := by
    rw [List.findIdx?_eq_none_iff]
    intro a ha
    obtain ⟨j, hj, rfl⟩ := List.mem_iff_getElem.1 ha
    have := hb j hj
    rw [List.getD_eq_getElem?_getD, List.getElem?_eq_getElem hj, Option.getD_some] at this
    rw [this]
    decide
  unfold firstI
  rw [e]
  rfl
theorem firstR_calls {F : Nat → Prop} {w : World} {v : Value} {x : List Int} (h : Sl kRune F w v x) : CallsR Try.prog 50 #[v] w fun u w' => Kn w w' ∧ u = .int .i64 ((firstI x : Nat) : Int) := by
  obtain ⟨A, c, ad, rfl, hX⟩ := h.rns
  have hlen := hX.len
  refine l_enter (fun _ => False) Try.func50 rfl rfl ?_
  repeat(first|refine lrun_ ?_|(refine lo_boxA rfl rfl ?_;intro _ _ _)|(refine lo_box1 rfl rfl rfl ?_;intro _ _ _)|(refine lo_alloc rfl ?_;intro _ _ _))
  refine l_while (fun k : Nat => x.length - k) (fun k => [(0, .slice A x.length c), (3, .int .i64 (k : Int))]) (fun _ => []) (fun k => k ≤ x.length ∧ ∀ j, j < k → classM (x.getD j 0) false = 0) 0 (by repeat (first | exact SubB.nil | refine SubB.cons rfl ?_)) (by repeat(first|exact MSub.refl|refine MSub.keep rfl ?_|exact MSub.nil|apply MSub.drop)) ⟨Nat.zero_le _, fun j h => absurd h (Nat.not_lt_zero _)⟩ ?_
  rintro k ⟨hk, hb⟩ ih
  by_cases hlt : k < x.length
  · repeat(first|refine lrun_ ?_|(refine lo_boxA rfl rfl ?_;intro _ _ _)|(refine lo_box1 rfl rfl rfl ?_;intro _ _ _)|(refine lo_alloc rfl ?_;intro _ _ _))
    refine l_yes rfl (by omega) ?_
    repeat(first|refine lrun_ ?_|(refine lo_boxA rfl rfl ?_;intro _ _ _)|(refine lo_box1 rfl rfl rfl ?_;intro _ _ _)|(refine lo_alloc rfl ?_;intro _ _ _))
    refine lo_callP (n_call rfl) rfl (fun w' hw => classR_calls) ?_
    repeat(first|refine lrun_ ?_|(refine lo_boxA rfl rfl ?_;intro _ _ _)|(refine lo_box1 rfl rfl rfl ?_;intro _ _ _)|(refine lo_alloc rfl ?_;intro _ _ _))
    by_cases hc : classM (x.getD k 0) false = 0
    · refine l_no rfl (fun h => h hc) ?_
      refine l_go .skip ?_
      repeat(first|refine lrun_ ?_|(refine lo_boxA rfl rfl ?_;intro _ _ _)|(refine lo_box1 rfl rfl rfl ?_;intro _ _ _)|(refine lo_alloc rfl ?_;intro _ _ _))
      exact ih (k + 1) ⟨hlt, fun j hj => by
        rcases Nat.lt_succ_iff_lt_or_eq.1 hj with h | rfl
        · exact hb j h
        · exact hc⟩ (by omega) _ _ (by repeat (first | exact SubB.nil | refine SubB.cons rfl ?_)) (by repeat(first|exact MSub.refl|refine MSub.keep rfl ?_|exact MSub.nil|apply MSub.drop))
    · refine l_yes rfl hc ?_
      repeat(first|refine lrun_ ?_|(refine lo_boxA rfl rfl ?_;intro _ _ _)|(refine lo_box1 rfl rfl rfl ?_;intro _ _ _)|(refine lo_alloc rfl ?_;intro _ _ _))
      rw [← firstI_hit hlt hc hb]
      exact l_ret1 rfl rfl fun w' hw => ⟨hw.org, rfl⟩
  · obtain rfl : k = x.length := by omega
    repeat(first|refine lrun_ ?_|(refine lo_boxA rfl rfl ?_;intro _ _ _)|(refine lo_box1 rfl rfl rfl ?_;intro _ _ _)|(refine lo_alloc rfl ?_;intro _ _ _))
    refine l_no rfl (by omega) ?_
    refine l_go (.exit rfl) ?_
    repeat(first|refine lrun_ ?_|(refine lo_boxA rfl rfl ?_;intro _ _ _)|(refine lo_box1 rfl rfl rfl ?_;intro _ _ _)|(refine lo_alloc rfl ?_;intro _ _ _))
    refine l_ret1 rfl rfl fun w' hw => ⟨hw.org, ?_⟩
    rw [firstI_no hb]
    congr 1
    split <;> omega
theorem Ow.nW {α : Type} {d : Kd α} {G F : Nat → Prop} {w : World} {v : Value} {xs : List α} (h : Ow d G F w v xs) : Ow d (fun k => G k ∧ v.ownBlock = some k) F w v xs := by
  obtain ⟨cells, h1, h2, h3⟩ := h
  refine ⟨cells, h1, h2, h3.imp id ?_⟩
  rintro ⟨g, o, cap, cur, e, rfl, hg, r⟩
  exact ⟨g, o, cap, cur, e, rfl, ⟨hg, rfl⟩, r⟩
theorem Tab.and {G L Q : Nat → Prop} {w : World} {v : Value} {us : List Value} {rows : List (List Int)} (h : Tab G L w v us rows) (hv : ∀ k, v.ownBlock = some k → Q k) (hr : ∀ i u k, L i → us[i]? = some u → u.ownBlock = some k → Q k) : Tab (fun k => G k ∧ Q k) L w v us rows :=
  ⟨h.t.nW.mono (fun k hk _ => ⟨hk.1, hv k hk.2⟩) fun _ h _ => h, h.len, fun j u x hj hu hx => (h.row j u x hj hu hx).nW.mono (fun k hk _ => ⟨⟨hk.1.1, hr j u k hj hu hk.2⟩, hk.1.2⟩) fun _ h _ => h, h.apart⟩
section
variable {P : Program} {fn : Func} {k : List Item} {σ : Sig} {O B : World} {S K L : Nat → Prop} {M : Mm} {R : Pt} {ops : Array Oper} {rest : List Oper}
variable {dd : Option Nat} {oty : TypeId} {opos : String} {oaf : Array Edge}
theorem lo_tabPush2 {x y : Operand} {t e : TypeId} {z : Value} [hT : SlT P t e] [hE : ElT P e 1 24 z] {v : Value} {us : List Value} {rows : List (List Int)} {u : Value} {r : List Int} {g : Nat} {eb : TypeId} (hx : ev σ x = some v) (hy : ev σ y = some (.slice (some ⟨g, 0, none⟩) 1 1))
    (hO : Tab (fre O K) L B v us rows) (hm : MIn g (cb [u] eb) M) (hr : Ow kRune (fun k => fre O K k ∧ v.ownBlock ≠ some k) (fun _ => False) B u r) (hL : ¬ L rows.length) (ha : ∀ i u2 k, L i → us[i]? = some u2 → u2.ownBlock = some k → u.ownBlock = some k → False) (hlen : (rows.length + 1) * 24 ≤ 140737488355328) (hz : z.cells.size = 1) (hd : okD dd fn.ntmps = true)
    (h : ∀ w A n w', Lw O S B K M w → Kp S O w' → Kp (fun k => K k ∨ v.ownBlock = some k) B w' → (∀ k, (Value.slice A (rows ++ [r]).length n).ownBlock = some k → v.ownBlock = some k ∨ B.heap.size ≤ k) → Tab (fre O (MK M)) (fun i => L i ∨ i = rows.length) w' (.slice A (rows ++ [r]).length n) (us ++ [u]) (rows ++ [r]) → WLo P fn ops rest k (putS dd (.slice A (rows ++ [r]).length n) σ) O S w' (MK M) M R) :
    WLo P fn ops ((⟨dd, .call { callee := .builtin .append, args := #[x, y], argTypes := #[t, t] }, oty, opos, oaf, none⟩ : Oper) :: rest) k σ O S B K M R := by
  have hul : us.length = rows.length := hO.len
  refine lo_append1 (d := kRaw) (q := u) hx hy hO.t (fun _ h => h.elim) hm (fun w' hw => ⟨rfl, by obtain ⟨_, _, rfl, _⟩ := hr.form; rfl⟩) (by rw [hul]; exact hlen) rfl rfl hz hd fun w A n w' hw ko kp hown hog => ?_
  have e : (us ++ [u]).length = (rows ++ [r]).length := by rw [List.length_append, List.length_append, hul]; rfl
  rw [e] at hog hown ⊢
  refine h w A n w' hw ko kp hown ?_
  have hvne : ∀ k, fre O K k → k < B.heap.size → v.ownBlock ≠ some k → fre O (MK M) k ∧ (Value.slice A (rows ++ [r]).length n).ownBlock ≠ some k := fun k hk hl hv => ⟨⟨hk.1, hw.apart hk.2 hl⟩, fun e => (hown k e).elim hv fun h => by omega⟩
  refine hO.push (fun k hk hv hl => kp.block k hl fun h => h.elim hk.2 hv) hog hvne hL ?_ ha
  have h1 := hr.mono (G' := fun k => (fre O K k ∧ v.ownBlock ≠ some k) ∧ k < B.heap.size) (F' := fun _ => False) (fun k hk hl => ⟨hk, hl⟩) fun _ h _ => h
  exact (Kp.ow kp h1 (fun k hk h => h.elim hk.1.1.2 hk.1.2) fun _ h => h.elim).mono (fun k hk _ => hvne k hk.1.1 hk.2 hk.1.2) fun _ h _ => h
end
section
variable {F : Nat → Prop} {w B : World} {A : Option Addr} {c : Nat} {l : List (List Int)} {r : Rg} {a b : Ps} {g3 g5 g8 g9 : Nat} {kk : List Item} {R : Value → World → Prop} {i0 n : Nat}
/-- What the loop has so far. -/
def outX (l : List (List Int)) (r : Rg) (i0 j : Nat) : List (List Int) := l.take i0 ++ (if r.kind = 2 then gatM (outR l r) i0 j else [])
def keptX (l : List (List Int)) (r : Rg) (i0 j : Nat) : List Int := (gatM (outR l r) i0 j).flatten
structure CutI (w : World) (M : Mm) (b : World) (u v : Value) (us : List Value) (rows : List (List Int)) (kept : List Int) : Prop where
  t : Tab (fun k => fre w (MK M) k ∧ v.ownBlock ≠ some k) (fun _ => True) b u us rows
  k : Og kRune w b (MK M) (fun _ => False) v kept
theorem CutI.now {M : Mm} {b w' : World} {u v : Value} {us : List Value} {rows : List (List Int)} {kept : List Int} {S : Nat → Prop} (h : CutI w M b u v us rows kept) (hw : Lw w S b (MK M) M w') : CutI w M w' u v us rows kept :=
  ⟨h.t.kp hw.kp fun k hk hm => hk.1.2 hm, h.k.now (fun _ h => h.elim) hw⟩
theorem CutI.kn {M : Mm} {b w' : World} {u v : Value} {us : List Value} {rows : List (List Int)} {kept : List Int} (h : CutI w M b u v us rows kept) (hk : Kn b w') : CutI w M w' u v us rows kept :=
  ⟨h.t.kn hk, Kp.ow hk h.k (fun _ _ h => h) fun _ h => h.elim⟩
theorem keptX_succ (l : List (List Int)) (r : Rg) (i0 j : Nat) : keptX l r i0 (j + 1) = keptX l r i0 j ++ outR l r (i0 + j) := by
  unfold keptX
  show ((gatM (outR l r) i0 j) ++ [outR l r (i0 + j)]).flatten = _
  rw [List.flatten_append]
  simp
theorem outX_2 (l : List (List Int)) (r : Rg) (i0 j : Nat) (h : r.kind = 2) : outX l r i0 (j + 1) = outX l r i0 j ++ [outR l r (i0 + j)] := by
  unfold outX
  rw [if_pos h, if_pos h]
  show _ ++ ((gatM (outR l r) i0 j) ++ [outR l r (i0 + j)]) = _
  rw [List.append_assoc]
theorem outX_n (l : List (List Int)) (r : Rg) (i0 j : Nat) (h : r.kind ≠ 2) : outX l r i0 (j + 1) = outX l r i0 j := by
  unfold outX
  rw [if_neg h, if_neg h]
theorem outX_len (l : List (List Int)) (r : Rg) (i0 j : Nat) : (outX l r i0 j).length ≤ l.length + j := by
  unfold outX
  rw [List.length_append, List.length_take]
  split
  · rw [gat_len]; omega
  · simp only [List.length_nil]; omega
set_option maxHeartbeats 8000000 in
theorem rc_loop (h : Sl kRow F w (.slice A l.length c) l) (hr : RgOk l r) (ha : (endsR r).1 = a) (hb : (endsR r).2 = b) (hl : l.length ≤ 4096) (hk : ∀ j, (l.getD j []).length ≤ 1048576) (hg : ∀ j, j ≤ n → (keptX l r i0 j).length ≤ 4194304) (ha0 : a.1 = (i0 : Int)) (hn : b.1 + 1 = ((i0 + n : Nat) : Int)) (hin : i0 + n ≤ l.length)
    {A0 : Option Addr} {c0 : Nat} {us0 : List Value} (h0 : CutI w [(g9, cb [.int .i64 b.1, .int .i64 b.2] 24), (g8, cb [.int .i64 a.1, .int .i64 a.2] 24), (g5, cb [.int .i64 0, .int .i64 0] 24), (g3, cb [.int .i64 r.fr.1, .int .i64 r.fr.2, .int .i64 r.to.1, .int .i64 r.to.2, .int .i64 r.kind] 26)] B (.slice A0 (outX l r i0 0).length c0) (.slice none 0 0) us0 (outX l r i0 0) [])
    (done : ∀ (bw : World) (A1 : Option Addr) (c1 : Nat) (us : List Value) (A2 : Option Addr) (c2 : Nat), CutI w [(g9, cb [.int .i64 b.1, .int .i64 b.2] 24), (g8, cb [.int .i64 a.1, .int .i64 a.2] 24), (g5, cb [.int .i64 0, .int .i64 0] 24), (g3, cb [.int .i64 r.fr.1, .int .i64 r.fr.2, .int .i64 r.to.1, .int .i64 r.to.2, .int .i64 r.kind] 26)] bw (.slice A1 (outX l r i0 n).length c1) (.slice A2 (keptX l r i0 n).length c2) us (outX l r i0 n) (keptX l r i0 n) → ∀ σ', SubB σ' [(0, .slice A l.length c), (3, .pointer (some ⟨g3, 0, none⟩)), (5, .pointer (some ⟨g5, 0, none⟩)), (8, .pointer (some ⟨g8, 0, none⟩)), (9, .pointer (some ⟨g9, 0, none⟩)), (10, .slice A1 (outX l r i0 n).length c1), (11, .slice A2 (keptX l r i0 n).length c2)] → ∀ M', MSub [(g9, cb [.int .i64 b.1, .int .i64 b.2] 24), (g8, cb [.int .i64 a.1, .int .i64 a.2] 24), (g5, cb [.int .i64 0, .int .i64 0] 24), (g3, cb [.int .i64 r.fr.1, .int .i64 r.fr.2, .int .i64 r.to.1, .int .i64 r.to.2, .int .i64 r.kind] 26)] M' → WL Try.prog Try.f19 kk σ' w (fun _ => False) bw (MK [(g9, cb [.int .i64 b.1, .int .i64 b.2] 24), (g8, cb [.int .i64 a.1, .int .i64 a.2] 24), (g5, cb [.int .i64 0, .int .i64 0] 24), (g3, cb [.int .i64 r.fr.1, .int .i64 r.fr.2, .int .i64 r.to.1, .int .i64 r.to.2, .int .i64 r.kind] 26)]) M' R) :
    ∀ σ', SubB σ' [(0, .slice A l.length c), (3, .pointer (some ⟨g3, 0, none⟩)), (5, .pointer (some ⟨g5, 0, none⟩)), (8, .pointer (some ⟨g8, 0, none⟩)), (9, .pointer (some ⟨g9, 0, none⟩)), (10, .slice A0 (outX l r i0 0).length c0), (11, .slice none 0 0), (12, .int .i64 ((i0 + 0 : Nat) : Int))] → ∀ M', MSub [(g9, cb [.int .i64 b.1, .int .i64 b.2] 24), (g8, cb [.int .i64 a.1, .int .i64 a.2] 24), (g5, cb [.int .i64 0, .int .i64 0] 24), (g3, cb [.int .i64 r.fr.1, .int .i64 r.fr.2, .int .i64 r.to.1, .int .i64 r.to.2, .int .i64 r.kind] 26)] M' →
      WL Try.prog Try.f19 (.code (.loop (bodyC Try.f19 [1, 1, 1, 1, 1, 1, 0, 1, 0, 0])) :: .inBlock 0 :: kk) σ' w (fun _ => False) B (MK [(g9, cb [.int .i64 b.1, .int .i64 b.2] 24), (g8, cb [.int .i64 a.1, .int .i64 a.2] 24), (g5, cb [.int .i64 0, .int .i64 0] 24), (g3, cb [.int .i64 r.fr.1, .int .i64 r.fr.2, .int .i64 r.to.1, .int .i64 r.to.2, .int .i64 r.kind] 26)]) M' R := by
  intro σ' hs M' hM
  refine WL.sub hs hM ?_
  refine l_whileB (fun s : Nat × Option Addr × Nat × List Value × Option Addr × Nat => n - s.1) (fun s => [(0, .slice A l.length c), (3, .pointer (some ⟨g3, 0, none⟩)), (5, .pointer (some ⟨g5, 0, none⟩)), (8, .pointer (some ⟨g8, 0, none⟩)), (9, .pointer (some ⟨g9, 0, none⟩)), (10, .slice s.2.1 (outX l r i0 s.1).length s.2.2.1), (11, .slice s.2.2.2.2.1 (keptX l r i0 s.1).length s.2.2.2.2.2), (12, .int .i64 ((i0 + s.1 : Nat) : Int))]) (fun _ => [(g9, cb [.int .i64 b.1, .int .i64 b.2] 24), (g8, cb [.int .i64 a.1, .int .i64 a.2] 24), (g5, cb [.int .i64 0, .int .i64 0] 24), (g3, cb [.int .i64 r.fr.1, .int .i64 r.fr.2, .int .i64 r.to.1, .int .i64 r.to.2, .int .i64 r.kind] 26)])
    (fun s bw => s.1 ≤ n ∧ CutI w [(g9, cb [.int .i64 b.1, .int .i64 b.2] 24), (g8, cb [.int .i64 a.1, .int .i64 a.2] 24), (g5, cb [.int .i64 0, .int .i64 0] 24), (g3, cb [.int .i64 r.fr.1, .int .i64 r.fr.2, .int .i64 r.to.1, .int .i64 r.to.2, .int .i64 r.kind] 26)] bw (.slice s.2.1 (outX l r i0 s.1).length s.2.2.1) (.slice s.2.2.2.2.1 (keptX l r i0 s.1).length s.2.2.2.2.2) s.2.2.2.1 (outX l r i0 s.1) (keptX l r i0 s.1)) (0, A0, c0, us0, none, 0) (by repeat (first | exact SubB.nil | refine SubB.cons rfl ?_)) (by repeat(first|exact MSub.refl|refine MSub.keep rfl ?_|exact MSub.nil|apply MSub.drop)) (fun w' hw => ⟨Nat.zero_le _, h0.now hw⟩) ?_
  rintro ⟨j, A1, c1, us, A2, c2⟩ bw ⟨hj, hC⟩ hkb ih
  simp only at hj hC
  dsimp only
  have hxl := outX_len l r i0 j
  by_cases hlt : j < n
  · have hil : i0 + j < l.length := by omega
    have hpe := parted_eq (l := l) (i := i0 + j) hr (by rw [ha, ha0]; omega) (by rw [hb]; omega)
    have J : ∀ (B5 : World) (A1 : Option Addr) (c1 : Nat) (us : List Value) (As : Option Addr) (cs : Nat) (Ft : Nat → Prop), CutI w [(g9, cb [.int .i64 b.1, .int .i64 b.2] 24), (g8, cb [.int .i64 a.1, .int .i64 a.2] 24), (g5, cb [.int .i64 0, .int .i64 0] 24), (g3, cb [.int .i64 r.fr.1, .int .i64 r.fr.2, .int .i64 r.to.1, .int .i64 r.to.2, .int .i64 r.kind] 26)] B5 (.slice A1 (outX l r i0 (j + 1)).length c1) (.slice A2 (keptX l r i0 j).length c2) us (outX l r i0 (j + 1)) (keptX l r i0 j) → Sl kRune Ft B5 (.slice As (outR l r (i0 + j)).length cs) (outR l r (i0 + j)) → (∀ k, Ft k → (Value.slice A2 (keptX l r i0 j).length c2).ownBlock ≠ some k ∧ ¬ MK [(g9, cb [.int .i64 b.1, .int .i64 b.2] 24), (g8, cb [.int .i64 a.1, .int .i64 a.2] 24), (g5, cb [.int .i64 0, .int .i64 0] 24), (g3, cb [.int .i64 r.fr.1, .int .i64 r.fr.2, .int .i64 r.to.1, .int .i64 r.to.2, .int .i64 r.kind] 26)] k) → bw.heap.size ≤ B5.heap.size →
        ∀ σ', SubB σ' [(0, .slice A l.length c), (3, .pointer (some ⟨g3, 0, none⟩)), (5, .pointer (some ⟨g5, 0, none⟩)), (8, .pointer (some ⟨g8, 0, none⟩)), (9, .pointer (some ⟨g9, 0, none⟩)), (10, .slice A1 (outX l r i0 (j + 1)).length c1), (11, .slice A2 (keptX l r i0 j).length c2), (12, .int .i64 ((i0 + j : Nat) : Int)), (14, .slice As (outR l r (i0 + j)).length cs)] → ∀ M', MSub [(g9, cb [.int .i64 b.1, .int .i64 b.2] 24), (g8, cb [.int .i64 a.1, .int .i64 a.2] 24), (g5, cb [.int .i64 0, .int .i64 0] 24), (g3, cb [.int .i64 r.fr.1, .int .i64 r.fr.2, .int .i64 r.to.1, .int .i64 r.to.2, .int .i64 r.kind] 26)] M' →
        WL Try.prog Try.f19 (.code (bodyC Try.f19 [1, 1, 1, 1, 1, 1, 0, 1, 0, 0, 1, 0, 0, 1, 1]) :: .inBlock 1 :: .code (bodyC Try.f19 [1, 1, 1, 1, 1, 1, 0, 1, 0, 0, 1, 1]) :: .inLoop (bodyC Try.f19 [1, 1, 1, 1, 1, 1, 0, 1, 0, 0]) :: .inBlock 0 :: kk) σ' w (fun _ => False) B5 (MK [(g9, cb [.int .i64 b.1, .int .i64 b.2] 24), (g8, cb [.int .i64 a.1, .int .i64 a.2] 24), (g5, cb [.int .i64 0, .int .i64 0] 24), (g3, cb [.int .i64 r.fr.1, .int .i64 r.fr.2, .int .i64 r.to.1, .int .i64 r.to.2, .int .i64 r.kind] 26)]) M' R := by
      intro B5 A1 c1 us As cs Ft hC5 hSt hFt hB5 σ' hs M' hM
      refine WL.sub hs hM ?_
      repeat(first|refine lrun_ ?_|(refine lo_boxA rfl rfl ?_;intro _ _ _)|(refine lo_box1 rfl rfl rfl ?_;intro _ _ _)|(refine lo_alloc rfl ?_;intro _ _ _))
      have hg1 := hg j (by omega)
      have ho1 := outs_le l r (i0 + j)
      have hk1 := hk (i0 + j)
      refine lo_appendS (d := kRune) (ys := outR l r (i0 + j)) rfl rfl hC5.k (fun w' hw => Kp.sl hw.kp hSt fun k hk => (hFt k hk).2) (fun k hk ho => (hFt k hk).1 ho) (by show ((keptX l r i0 j).length + (outR l r (i0 + j)).length) * 4 ≤ 140737488355328; omega) rfl rfl rfl rfl ?_
      intro w3 A3 c3 w4 hw3 ko3 kp3 hown hog
      rw [← keptX_succ] at hog hown ⊢
      have hC4 : CutI w [(g9, cb [.int .i64 b.1, .int .i64 b.2] 24), (g8, cb [.int .i64 a.1, .int .i64 a.2] 24), (g5, cb [.int .i64 0, .int .i64 0] 24), (g3, cb [.int .i64 r.fr.1, .int .i64 r.fr.2, .int .i64 r.to.1, .int .i64 r.to.2, .int .i64 r.kind] 26)] w4 (.slice A1 (outX l r i0 (j + 1)).length c1) (.slice A3 (keptX l r i0 (j + 1)).length c3) us (outX l r i0 (j + 1)) (keptX l r i0 (j + 1)) := by
        refine ⟨(hC5.t.bound.kp kp3 fun k hk hm => hm.elim hk.1.1.2 hk.1.2).mono fun k hk _ => ⟨hk.1.1, fun e => ?_⟩, hog⟩
        rcases hown k e with h | h
        · exact hk.1.2 h
        · have := hk.2; omega
      repeat(first|refine lrun_ ?_|(refine lo_boxA rfl rfl ?_;intro _ _ _)|(refine lo_box1 rfl rfl rfl ?_;intro _ _ _)|(refine lo_alloc rfl ?_;intro _ _ _))
      exact ih (j + 1, A1, c1, us, A3, c3) w4 _ ⟨hlt, hC4⟩ (by simp only; omega) _ _ (by repeat (first | exact SubB.nil | refine SubB.cons rfl ?_)) (by repeat(first|exact MSub.refl|refine MSub.keep rfl ?_|exact MSub.nil|apply MSub.drop)) fun w' hw' => ⟨hlt, hC4.now hw'⟩
    repeat(first|refine lrun_ ?_|(refine lo_boxA rfl rfl ?_;intro _ _ _)|(refine lo_box1 rfl rfl rfl ?_;intro _ _ _)|(refine lo_alloc rfl ?_;intro _ _ _))
    refine l_yes rfl (by omega) ?_
    repeat(first|refine lrun_ ?_|(refine lo_boxA rfl rfl ?_;intro _ _ _)|(refine lo_box1 rfl rfl rfl ?_;intro _ _ _)|(refine lo_alloc rfl ?_;intro _ _ _))
    refine lo_callM (n_call rfl) rfl (fun w' hw => parted_calls (r := r) (i := i0 + j) (Kn.sl hw.org h) hil (hk _)) ?_
    rintro w1 _ w2 hw1 kn1 ko1 ⟨s, t, rfl, _, hOt⟩
    rw [hpe.2] at hOt
    obtain ⟨At, ct, rfl, _, _⟩ := hOt.form
    have hs1 := hw1.kp.size
    have hs1o := hw1.org.size
    have hs2 := kn1.size
    have htb := hOt.block
    have hkb := hC.k.block
    have hC2 := (hC.now hw1).kn kn1
    have hlm : ∀ k, MK [(g9, cb [.int .i64 b.1, .int .i64 b.2] 24), (g8, cb [.int .i64 a.1, .int .i64 a.2] 24), (g5, cb [.int .i64 0, .int .i64 0] 24), (g3, cb [.int .i64 r.fr.1, .int .i64 r.fr.2, .int .i64 r.to.1, .int .i64 r.to.2, .int .i64 r.kind] 26)] k → k < w1.heap.size := fun k hm => hw1.lt hm
    have hvb : ∀ k, (Value.slice A1 (outX l r i0 j).length c1).ownBlock = some k → k < bw.heap.size := fun k hk => (hC.t.t.block k hk).2
    have hrb : ∀ (i : Nat) (u2 : Value) (k : Nat), us[i]? = some u2 → u2.ownBlock = some k → k < bw.heap.size := fun i u2 k hu hk => (hC.t.blk trivial hu hk).2.1
    repeat(first|refine lrun_ ?_|(refine lo_boxA rfl rfl ?_;intro _ _ _)|(refine lo_box1 rfl rfl rfl ?_;intro _ _ _)|(refine lo_alloc rfl ?_;intro _ _ _))
    by_cases hk2 : r.kind = 2
    case neg =>
      refine l_no rfl hk2 ?_
      refine l_go .skip ?_
      rw [← outX_n l r i0 j hk2] at hC2 ⊢
      exact J w2 A1 c1 us At ct (noB w1) hC2 (hOt.slF (fun _ h => h) fun _ h => h.elim) (fun k hk => ⟨fun e => by have := (hkb k e).2; unfold noB at hk; omega, fun hm => by have := hlm k hm; unfold noB at hk; omega⟩) (by omega) _ (by repeat (first | exact SubB.nil | refine SubB.cons rfl ?_)) _ (by repeat(first|exact MSub.refl|refine MSub.keep rfl ?_|exact MSub.nil|apply MSub.drop))
    refine l_yes rfl hk2 ?_
    refine l_region ?_
    repeat(first|refine lops_ ?_|(refine lo_boxA rfl rfl ?_;intro _ _ _)|(refine lo_box1 rfl rfl rfl ?_;intro _ _ _)|(refine lo_alloc rfl ?_;intro _ _ _))
    refine lo_lit (cs := [.slice At (outR l r (i0 + j)).length ct]) rfl (by decide) (by kernel_rfl) rfl ?_
    intro g53 _ hg53
    refine lo_tabPush2 (r := outR l r (i0 + j)) rfl rfl ((hC2.t.mono (G' := fre w (MK [(g9, cb [.int .i64 b.1, .int .i64 b.2] 24), (g8, cb [.int .i64 a.1, .int .i64 a.2] 24), (g5, cb [.int .i64 0, .int .i64 0] 24), (g3, cb [.int .i64 r.fr.1, .int .i64 r.fr.2, .int .i64 r.to.1, .int .i64 r.to.2, .int .i64 r.kind] 26)])) fun k hk _ => hk.1).less (L' := fun i => i < (outX l r i0 j).length) fun _ _ => trivial) (by(repeat(first|exact MIn.hd|refine MIn.tl ?_));done) (hOt.nE.mono (fun k hk _ => ⟨⟨by have := hk.1; unfold noB at this; omega, fun hm => by have := hlm k hm; have := hk.1; unfold noB at this; omega⟩, fun e => by have := hvb k e; have := hk.1; unfold noB at this; omega⟩) fun _ h _ => h) (Nat.lt_irrefl _) (fun i u2 k hi hu hk hk2 => by have := hrb i u2 k hu hk; have := (htb k hk2).1; unfold noB at this; omega) (by omega) rfl rfl ?_
    intro w3 A4 n4 w4 hw3 ko3 kp3 hown hT4
    rw [← outX_2 l r i0 j hk2] at hT4 hown ⊢
    have hs3 := hw3.kp.size
    have hT5 := (hT4.and (Q := fun k => (Value.slice A2 (keptX l r i0 j).length c2).ownBlock ≠ some k) (fun k e he => by
      rcases hown k e with h | h
      · exact (hC2.t.t.block k h).1.2 he
      · have := (hkb k he).2; omega) fun i u2 k hi hu hk he => by
        by_cases hiu : i < us.length
        · rw [List.getElem?_append_left hiu] at hu
          exact (hC2.t.blk trivial hu hk).1.2 he
        · rw [List.getElem?_append_right (by omega)] at hu
          have : i - us.length = 0 := by have := (List.getElem?_eq_some_iff.1 hu).1; simp at this; omega
          rw [this] at hu
          simp at hu
          rw [← hu] at hk
          have := (htb k hk).1
          have := (hkb k he).2
          unfold noB at *
          omega).all fun i hi => by
        rw [outX_2 l r i0 j hk2, List.length_append] at hi
        show i < _ ∨ i = _
        simp only [List.length_cons, List.length_nil] at hi
        omega
    have hk4 : Og kRune w w4 (MK [(g9, cb [.int .i64 b.1, .int .i64 b.2] 24), (g8, cb [.int .i64 a.1, .int .i64 a.2] 24), (g5, cb [.int .i64 0, .int .i64 0] 24), (g3, cb [.int .i64 r.fr.1, .int .i64 r.fr.2, .int .i64 r.to.1, .int .i64 r.to.2, .int .i64 r.kind] 26)]) (fun _ => False) (.slice A2 (keptX l r i0 j).length c2) (keptX l r i0 j) := Kp.ow kp3 hC2.k.nW (fun k hk hm => hm.elim hk.1.2 fun e => (hC2.t.t.block k e).1.2 hk.2) (fun _ h => h.elim) |>.mono (fun k hk _ => hk.1) fun _ h _ => h
    have hb4 : ∀ k, MK [(g9, cb [.int .i64 b.1, .int .i64 b.2] 24), (g8, cb [.int .i64 a.1, .int .i64 a.2] 24), (g5, cb [.int .i64 0, .int .i64 0] 24), (g3, cb [.int .i64 r.fr.1, .int .i64 r.fr.2, .int .i64 r.to.1, .int .i64 r.to.2, .int .i64 r.kind] 26)] k → MK ((g53, cb [.slice At (outR l r (i0 + j)).length ct] 35) :: [(g9, cb [.int .i64 b.1, .int .i64 b.2] 24), (g8, cb [.int .i64 a.1, .int .i64 a.2] 24), (g5, cb [.int .i64 0, .int .i64 0] 24), (g3, cb [.int .i64 r.fr.1, .int .i64 r.fr.2, .int .i64 r.to.1, .int .i64 r.to.2, .int .i64 r.kind] 26)]) k := fun k ⟨o, hm⟩ => ⟨o, .tl hm⟩
    repeat(first|refine lops_ ?_|(refine lo_boxA rfl rfl ?_;intro _ _ _)|(refine lo_box1 rfl rfl rfl ?_;intro _ _ _)|(refine lo_alloc rfl ?_;intro _ _ _))
    refine lo_nil ?_
    refine l_baseM (M3 := [(g9, cb [.int .i64 b.1, .int .i64 b.2] 24), (g8, cb [.int .i64 a.1, .int .i64 a.2] 24), (g5, cb [.int .i64 0, .int .i64 0] 24), (g3, cb [.int .i64 r.fr.1, .int .i64 r.fr.2, .int .i64 r.to.1, .int .i64 r.to.2, .int .i64 r.kind] 26)]) (by repeat(first|exact MSub.refl|refine MSub.keep rfl ?_|exact MSub.nil|apply MSub.drop)) fun w5 hw5 => ?_
    have hs5 := hw5.kp.size
    have hs4 := kp3.size
    have hC5 : CutI w [(g9, cb [.int .i64 b.1, .int .i64 b.2] 24), (g8, cb [.int .i64 a.1, .int .i64 a.2] 24), (g5, cb [.int .i64 0, .int .i64 0] 24), (g3, cb [.int .i64 r.fr.1, .int .i64 r.fr.2, .int .i64 r.to.1, .int .i64 r.to.2, .int .i64 r.kind] 26)] w5 (.slice A4 (outX l r i0 (j + 1)).length n4) (.slice A2 (keptX l r i0 j).length c2) (us ++ [.slice At (outR l r (i0 + j)).length ct]) (outX l r i0 (j + 1)) (keptX l r i0 j) := by
      refine ⟨(hT5.kp hw5.kp fun k hk hm => hk.1.2 hm).mono fun k hk _ => ⟨⟨hk.1.1, fun hm => hk.1.2 (hb4 k hm)⟩, hk.2⟩, ?_⟩
      refine (Kp.ow hw5.kp hk4.nW (fun k hk hm => ?_) fun _ h => h.elim).mono (fun k hk _ => hk.1) fun _ h _ => h
      obtain ⟨o, hm⟩ := hm
      cases hm with
      | hd => have := (hkb _ hk.2).2; omega
      | tl hm => exact hk.1.2 ⟨o, hm⟩
    exact J w5 A4 n4 _ At ct (fun k => noB w1 k ∧ k < w2.heap.size) hC5 (Kp.sl hw5.kp (Kp.sl kp3 ((hOt.slF (F' := noB w1) (fun _ h => h) fun _ h => h.elim).mono (F' := fun k => noB w1 k ∧ k < w2.heap.size) fun k hk hl => ⟨hk, hl⟩) fun k hk hm => hm.elim (fun hm => by have := hlm k hm; have := hk.1; unfold noB at this; omega) fun e => by have := hvb k e; have := hk.1; unfold noB at this; omega) fun k hk ⟨o, hm⟩ => by
        cases hm with
        | hd => have := hk.2; omega
        | tl hm => have := hlm k ⟨o, hm⟩; have := hk.1; unfold noB at this; omega) (fun k hk => ⟨fun e => by have := (hkb k e).2; have := hk.1; unfold noB at this; omega, fun hm => by have := hlm k hm; have := hk.1; unfold noB at this; omega⟩) (by omega) _ (by repeat (first | exact SubB.nil | refine SubB.cons rfl ?_)) _ (by repeat(first|exact MSub.refl|refine MSub.keep rfl ?_|exact MSub.nil|apply MSub.drop))
  · obtain rfl : j = n := by omega
    repeat(first|refine lrun_ ?_|(refine lo_boxA rfl rfl ?_;intro _ _ _)|(refine lo_box1 rfl rfl rfl ?_;intro _ _ _)|(refine lo_alloc rfl ?_;intro _ _ _))
    refine l_no rfl (by omega) ?_
    refine l_go (.exit rfl) ?_
    exact done bw _ _ us _ _ hC _ (by repeat (first | exact SubB.nil | refine SubB.cons rfl ?_)) _ (by repeat(first|exact MSub.refl|refine MSub.keep rfl ?_|exact MSub.nil|apply MSub.drop))
end
end Go.Ink

set_option linter.unusedVariables false
set_option linter.unusedSimpArgs false
namespace Go.Ink
open Go Go.Proofs Go.RowKit

theorem og_lit1 {O B w : World} {S K F : Nat → Prop} {M M' : Mm} {g : Nat} {e : TypeId} {u : Value} {x : List Int} (hw : Lw O S B K M w) (hm : MIn g (cb [u] e) M) (hO : O.heap.size ≤ g) (hn : ¬ MK M' g) (hu : Sl kRune (fun k => F k ∧ g ≠ k) w u x) : Og kRow O w (MK M') F (.slice (some ⟨g, 0, none⟩) 1 1) [x] :=
  ⟨[u], ⟨_, [], rfl, ⟨u, rfl, hu.mono fun k hk _ => ⟨hk.1, fun e => hk.2 (by cases e; rfl)⟩⟩, rfl⟩, by unfold Fits; show 1 * 24 ≤ _; decide, .inr ⟨g, 0, 1, #[u], e, rfl, ⟨hO, hn⟩, hw.mem g _ hm, Nat.le_refl _, by unfold maxLen; decide, Nat.le_refl 1, fun j u hu => by simpa using hu⟩⟩
section
variable {F : Nat → Prop} {w B : World} {A A1 : Option Addr} {c c1 : Nat} {l xs o : List (List Int)} {r : Rg} {a b : Ps} {g3 g5 g8 g9 : Nat} {i0 n : Nat}
/-- What is said of Cut. -/
def CutR (w : World) (l : List (List Int)) (r : Rg) (u : Value) (w' : World) : Prop := Kn w w' ∧ ∃ s, u = .tuple #[s, posV (cutM l r).2, .int .i64 (thereR l r)] ∧ Ow kRow (noB w) (noB w) w' s (cutM l r).1
set_option maxHeartbeats 8000000 in
/-- Of whole lines, the place behind. -/
theorem rc_whole (h0 : thereR l r = 0) (he : cutM l r = (o, (((min i0 (o.length - 1) : Nat) : Int), (firstI (o.getD (min i0 (o.length - 1)) []) : Int)))) (ho : o ≠ []) (hol : o.length ≤ 16384) (ha : a.1 = (i0 : Int))
    (hO : Og kRow w B (MK [(g9, cb [.int .i64 b.1, .int .i64 b.2] 24), (g8, cb [.int .i64 a.1, .int .i64 a.2] 24), (g5, cb [.int .i64 0, .int .i64 0] 24), (g3, cb [.int .i64 r.fr.1, .int .i64 r.fr.2, .int .i64 r.to.1, .int .i64 r.to.2, .int .i64 r.kind] 26)]) (fre w (MK [(g9, cb [.int .i64 b.1, .int .i64 b.2] 24), (g8, cb [.int .i64 a.1, .int .i64 a.2] 24), (g5, cb [.int .i64 0, .int .i64 0] 24), (g3, cb [.int .i64 r.fr.1, .int .i64 r.fr.2, .int .i64 r.to.1, .int .i64 r.to.2, .int .i64 r.kind] 26)])) (.slice A1 o.length c1) o) :
    ∀ σ', SubB σ' [(5, .pointer (some ⟨g5, 0, none⟩)), (8, .pointer (some ⟨g8, 0, none⟩)), (10, .slice A1 o.length c1)] → ∀ M', MSub [(g9, cb [.int .i64 b.1, .int .i64 b.2] 24), (g8, cb [.int .i64 a.1, .int .i64 a.2] 24), (g5, cb [.int .i64 0, .int .i64 0] 24), (g3, cb [.int .i64 r.fr.1, .int .i64 r.fr.2, .int .i64 r.to.1, .int .i64 r.to.2, .int .i64 r.kind] 26)] M' →
      WL Try.prog Try.f19 (.code (bodyC Try.f19 [1, 1, 1, 1, 1, 1, 1, 1, 1, 0, 1, 0, 1]) :: [.code (bodyC Try.f19 [1, 1, 1, 1, 1, 1, 1, 1, 1, 1])]) σ' w (fun _ => False) B (MK [(g9, cb [.int .i64 b.1, .int .i64 b.2] 24), (g8, cb [.int .i64 a.1, .int .i64 a.2] 24), (g5, cb [.int .i64 0, .int .i64 0] 24), (g3, cb [.int .i64 r.fr.1, .int .i64 r.fr.2, .int .i64 r.to.1, .int .i64 r.to.2, .int .i64 r.kind] 26)]) M' (CutR w l r) := by
  intro σ' hs M' hM
  refine WL.sub hs hM ?_
  have hol0 : 0 < o.length := List.length_pos_iff.2 ho
  obtain ⟨a1, a2⟩ := a
  simp only at ha
  subst ha
  repeat(first|refine lrun_ ?_|(refine lo_boxA rfl rfl ?_;intro _ _ _)|(refine lo_box1 rfl rfl rfl ?_;intro _ _ _)|(refine lo_alloc rfl ?_;intro _ _ _))
  rw [show (if (o.length : Int) - 1 < (i0 : Int) then (o.length : Int) - 1 else (i0 : Int)) = ((min i0 (o.length - 1) : Nat) : Int) by split <;> omega]
  generalize hi : min i0 (o.length - 1) = i at *
  have hio : i < o.length := by omega
  have hOs := hO.sl
  obtain ⟨_, _, ad, rV, rc, ra, e, hR⟩ := hOs.rws
  cases e
  obtain rfl := hR.a hol0
  refine lo_index rfl rfl rfl hio rfl rfl ?_
  refine lo_loadB rfl (hR.row i hio) (by rw [add_block]; exact (hR.fa hol0).elim (·.2) (·.2)) rfl ?_
  refine lo_call (n_call rfl) rfl (fun w' hw => firstR_calls (Kp.sl hw.kp (hR.rs i hio) fun k hk => hk.elim (·.2) (·.2))) ?_
  repeat(first|refine lrun_ ?_|(refine lo_boxA rfl rfl ?_;intro _ _ _)|(refine lo_box1 rfl rfl rfl ?_;intro _ _ _)|(refine lo_alloc rfl ?_;intro _ _ _))
  refine l_retR3 rfl (by repeat(first|exact LRes.nil|refine LRes.tmp rfl ?_|refine LRes.agg rfl (by(repeat(first|exact MIn.hd|refine MIn.tl ?_));done) (by rfl) (by rfl) ?_|refine LRes.one rfl (by(repeat(first|exact MIn.hd|refine MIn.tl ?_));done) (by rfl) ?_)) fun w' hw => ⟨hw.org, .slice (some ad) o.length c1, ?_, ?_⟩
  · rw [he, h0]; rfl
  · rw [he]
    exact (Kp.ow hw.kp hO (fun k hk => hk.2) fun k hk => hk.2).mono (fun k hk _ => hk.1) fun k hk _ => hk.1
set_option maxHeartbeats 8000000 in
theorem rc_tail (h : Sl kRow F w (.slice A l.length c) l) (h0 : thereR l r = 0) (hl : l.length ≤ 4096) (hrg : RgOk l r) (hp : P64 a) (hpb : P64 b) (ha0 : a.1 = (i0 : Int)) (hn : b.1 + 1 = ((i0 + n : Nat) : Int)) (hin : i0 + n ≤ l.length) (hxl : xs.length ≤ 8193)
    (e1 : r.kind = 1 → ∀ o, o = (if xs ++ l.drop (i0 + n) = [] then [[]] else xs ++ l.drop (i0 + n)) → cutM l r = (o, (((min i0 (o.length - 1) : Nat) : Int), (firstI (o.getD (min i0 (o.length - 1)) []) : Int))))
    (e0 : r.kind = 0 → cutM l r = (xs ++ l.drop (i0 + n), clipM (xs ++ l.drop (i0 + n)) a))
    (e2 : r.kind = 2 → cutM l r = (xs ++ l.drop (i0 + n), clipM (xs ++ l.drop (i0 + n)) (a.1, if b.2 < a.2 then b.2 else a.2)))
    (hO : Og kRow w B (MK [(g9, cb [.int .i64 b.1, .int .i64 b.2] 24), (g8, cb [.int .i64 a.1, .int .i64 a.2] 24), (g5, cb [.int .i64 0, .int .i64 0] 24), (g3, cb [.int .i64 r.fr.1, .int .i64 r.fr.2, .int .i64 r.to.1, .int .i64 r.to.2, .int .i64 r.kind] 26)]) (fre w (MK [(g9, cb [.int .i64 b.1, .int .i64 b.2] 24), (g8, cb [.int .i64 a.1, .int .i64 a.2] 24), (g5, cb [.int .i64 0, .int .i64 0] 24), (g3, cb [.int .i64 r.fr.1, .int .i64 r.fr.2, .int .i64 r.to.1, .int .i64 r.to.2, .int .i64 r.kind] 26)])) (.slice A1 xs.length c1) xs) :
    ∀ σ', SubB σ' [(0, .slice A l.length c), (3, .pointer (some ⟨g3, 0, none⟩)), (5, .pointer (some ⟨g5, 0, none⟩)), (8, .pointer (some ⟨g8, 0, none⟩)), (9, .pointer (some ⟨g9, 0, none⟩)), (10, .slice A1 xs.length c1)] → ∀ M', MSub [(g9, cb [.int .i64 b.1, .int .i64 b.2] 24), (g8, cb [.int .i64 a.1, .int .i64 a.2] 24), (g5, cb [.int .i64 0, .int .i64 0] 24), (g3, cb [.int .i64 r.fr.1, .int .i64 r.fr.2, .int .i64 r.to.1, .int .i64 r.to.2, .int .i64 r.kind] 26)] M' →
      WL Try.prog Try.f19 [.code (bodyC Try.f19 [1, 1, 1, 1, 1, 1, 1, 1])] σ' w (fun _ => False) B (MK [(g9, cb [.int .i64 b.1, .int .i64 b.2] 24), (g8, cb [.int .i64 a.1, .int .i64 a.2] 24), (g5, cb [.int .i64 0, .int .i64 0] 24), (g3, cb [.int .i64 r.fr.1, .int .i64 r.fr.2, .int .i64 r.to.1, .int .i64 r.to.2, .int .i64 r.kind] 26)]) M' (CutR w l r) := by
  intro σ' hs M' hM
  refine WL.sub hs hM ?_
  obtain ⟨hc, hlf⟩ : l.length ≤ c ∧ True := by obtain ⟨_, _, e, hc, _⟩ := h.form; cases e; exact ⟨hc, trivial⟩
  repeat(first|refine lrun_ ?_|(refine lo_boxA rfl rfl ?_;intro _ _ _)|(refine lo_box1 rfl rfl rfl ?_;intro _ _ _)|(refine lo_alloc rfl ?_;intro _ _ _))
  refine lo_suf rfl rfl hn hin hc rfl ?_
  refine lo_callM (n_call rfl) rfl (fun w' hw => twinT_calls (Sl.cutV (d := kRow) (Kn.sl hw.org h) hin (Nat.le_refl _) hc (Nat.le_refl _))) ?_
  rw [List.take_length]
  rintro w1 tv w2 hw1 kn1 ko1 ⟨us2, hT2⟩
  have hs1 := hw1.kp.size
  have hs1o := hw1.org.size
  have hlm : ∀ k, MK [(g9, cb [.int .i64 b.1, .int .i64 b.2] 24), (g8, cb [.int .i64 a.1, .int .i64 a.2] 24), (g5, cb [.int .i64 0, .int .i64 0] 24), (g3, cb [.int .i64 r.fr.1, .int .i64 r.fr.2, .int .i64 r.to.1, .int .i64 r.to.2, .int .i64 r.kind] 26)] k → k < w1.heap.size := fun k hm => hw1.lt hm
  have hob := hO.block
  have hO2 : Og kRow w w2 (MK [(g9, cb [.int .i64 b.1, .int .i64 b.2] 24), (g8, cb [.int .i64 a.1, .int .i64 a.2] 24), (g5, cb [.int .i64 0, .int .i64 0] 24), (g3, cb [.int .i64 r.fr.1, .int .i64 r.fr.2, .int .i64 r.to.1, .int .i64 r.to.2, .int .i64 r.kind] 26)]) (fre w (MK [(g9, cb [.int .i64 b.1, .int .i64 b.2] 24), (g8, cb [.int .i64 a.1, .int .i64 a.2] 24), (g5, cb [.int .i64 0, .int .i64 0] 24), (g3, cb [.int .i64 r.fr.1, .int .i64 r.fr.2, .int .i64 r.to.1, .int .i64 r.to.2, .int .i64 r.kind] 26)])) (.slice A1 xs.length c1) xs := Kp.ow kn1 (Kp.ow hw1.kp hO (fun k hk => hk.2) fun k hk => hk.2) (fun _ _ h => h) fun _ _ h => h
  have hT2s := (hT2.ow fun _ _ => trivial).slF (F' := noB w1) (fun _ h => h) fun _ h => h
  obtain ⟨At, ct, rfl, _, _⟩ := hT2.form
  have hdl : (l.drop (i0 + n)).length ≤ 4096 := by rw [List.length_drop]; omega
  refine lo_append (d := kRow) (F := fre w (MK [(g9, cb [.int .i64 b.1, .int .i64 b.2] 24), (g8, cb [.int .i64 a.1, .int .i64 a.2] 24), (g5, cb [.int .i64 0, .int .i64 0] 24), (g3, cb [.int .i64 r.fr.1, .int .i64 r.fr.2, .int .i64 r.to.1, .int .i64 r.to.2, .int .i64 r.kind] 26)])) (F2 := noB w1) rfl rfl hO2 (fun k hk => hk.2) (fun w' hw => Kp.sl hw.kp hT2s fun k hk hm => by have := hlm k hm; unfold noB at hk; omega) (fun k hk e => by have := (hob k e).2; unfold noB at hk; omega) (by show (xs.length + (l.drop (i0 + n)).length) * 24 ≤ 140737488355328; omega) rfl rfl rfl rfl ?_
  intro w3 v4 w4 hw3 ko3 kp3 hown hog
  obtain ⟨A4, c4, rfl, _, _⟩ := hog.form
  have hO4 : Og kRow w w4 (MK [(g9, cb [.int .i64 b.1, .int .i64 b.2] 24), (g8, cb [.int .i64 a.1, .int .i64 a.2] 24), (g5, cb [.int .i64 0, .int .i64 0] 24), (g3, cb [.int .i64 r.fr.1, .int .i64 r.fr.2, .int .i64 r.to.1, .int .i64 r.to.2, .int .i64 r.kind] 26)]) (fre w (MK [(g9, cb [.int .i64 b.1, .int .i64 b.2] 24), (g8, cb [.int .i64 a.1, .int .i64 a.2] 24), (g5, cb [.int .i64 0, .int .i64 0] 24), (g3, cb [.int .i64 r.fr.1, .int .i64 r.fr.2, .int .i64 r.to.1, .int .i64 r.to.2, .int .i64 r.kind] 26)])) (.slice A4 (xs ++ l.drop (i0 + n)).length c4) (xs ++ l.drop (i0 + n)) := hog.mono (fun k hk _ => hk) fun k hk _ => hk.elim id fun h => ⟨by unfold noB at h; omega, fun hm => by have := hlm k hm; unfold noB at h; omega⟩
  clear hog hO2 hT2 hT2s
  generalize ho : xs ++ l.drop (i0 + n) = o at *
  have hol : o.length ≤ 12289 := by rw [← ho, List.length_append]; omega
  repeat(first|refine lrun_ ?_|(refine lo_boxA rfl rfl ?_;intro _ _ _)|(refine lo_box1 rfl rfl rfl ?_;intro _ _ _)|(refine lo_alloc rfl ?_;intro _ _ _))
  by_cases h1 : r.kind = 1
  · refine l_yes rfl h1 ?_
    repeat(first|refine lrun_ ?_|(refine lo_boxA rfl rfl ?_;intro _ _ _)|(refine lo_box1 rfl rfl rfl ?_;intro _ _ _)|(refine lo_alloc rfl ?_;intro _ _ _))
    by_cases hz : o.length = 0
    · have hnil := List.length_eq_zero_iff.1 hz
      refine l_yes rfl (by omega) ?_
      refine l_region ?_
      repeat(first|refine lops_ ?_|(refine lo_boxA rfl rfl ?_;intro _ _ _)|(refine lo_box1 rfl rfl rfl ?_;intro _ _ _)|(refine lo_alloc rfl ?_;intro _ _ _))
      refine lo_lit (cs := [.slice none 0 0]) rfl (by decide) (by kernel_rfl) rfl ?_
      intro g79 _ hg79
      repeat(first|refine lops_ ?_|(refine lo_boxA rfl rfl ?_;intro _ _ _)|(refine lo_box1 rfl rfl rfl ?_;intro _ _ _)|(refine lo_alloc rfl ?_;intro _ _ _))
      refine lo_nil ?_
      refine l_baseM (M3 := [(g9, cb [.int .i64 b.1, .int .i64 b.2] 24), (g8, cb [.int .i64 a.1, .int .i64 a.2] 24), (g5, cb [.int .i64 0, .int .i64 0] 24), (g3, cb [.int .i64 r.fr.1, .int .i64 r.fr.2, .int .i64 r.to.1, .int .i64 r.to.2, .int .i64 r.kind] 26)]) (by repeat(first|exact MSub.refl|refine MSub.keep rfl ?_|exact MSub.nil|apply MSub.drop)) fun w5 hw5 => ?_
      exact rc_whole (o := [[]]) h0 (e1 h1 _ (if_pos hnil).symm) (by simp) (by simp) ha0 (og_lit1 hw5 (by(repeat(first|exact MIn.hd|refine MIn.tl ?_));done) (by omega) (fun hm => by have := hlm _ hm; have := kn1.size; have := kp3.size; omega) (Sl.nil _ _ _)) _ (by repeat (first | exact SubB.nil | refine SubB.cons rfl ?_)) _ (by repeat(first|exact MSub.refl|refine MSub.keep rfl ?_|exact MSub.nil|apply MSub.drop))
    · have hnn : o ≠ [] := fun e => hz (by rw [e]; rfl)
      refine l_no rfl (by omega) ?_
      refine l_go .skip ?_
      exact rc_whole h0 (e1 h1 _ (if_neg hnn).symm) hnn (by omega) ha0 hO4 _ (by repeat (first | exact SubB.nil | refine SubB.cons rfl ?_)) _ (by repeat(first|exact MSub.refl|refine MSub.keep rfl ?_|exact MSub.nil|apply MSub.drop))
  refine l_no rfl h1 ?_
  refine l_go .skip ?_
  repeat(first|refine lrun_ ?_|(refine lo_boxA rfl rfl ?_;intro _ _ _)|(refine lo_box1 rfl rfl rfl ?_;intro _ _ _)|(refine lo_alloc rfl ?_;intro _ _ _))
  by_cases h2 : r.kind = 2
  · refine l_yes rfl h2 ?_
    repeat(first|refine lrun_ ?_|(refine lo_boxA rfl rfl ?_;intro _ _ _)|(refine lo_box1 rfl rfl rfl ?_;intro _ _ _)|(refine lo_alloc rfl ?_;intro _ _ _))
    refine lo_call (n_call rfl) rfl (fun w' hw => clipR_calls (p := (a.1, if b.2 < a.2 then b.2 else a.2)) (Kp.sl hw.kp hO4.sl fun k hk => hk.elim (·.2) (·.2)) ⟨hp.1, by have := hp.2; have := hpb.2; simp only; split <;> omega⟩) ?_
    repeat(first|refine lrun_ ?_|(refine lo_boxA rfl rfl ?_;intro _ _ _)|(refine lo_box1 rfl rfl rfl ?_;intro _ _ _)|(refine lo_alloc rfl ?_;intro _ _ _))
    refine l_retR3 rfl (by repeat(first|exact LRes.nil|refine LRes.tmp rfl ?_|refine LRes.agg rfl (by(repeat(first|exact MIn.hd|refine MIn.tl ?_));done) (by rfl) (by rfl) ?_|refine LRes.one rfl (by(repeat(first|exact MIn.hd|refine MIn.tl ?_));done) (by rfl) ?_)) fun w' hw => ⟨hw.org, .slice A4 o.length c4, ?_, ?_⟩
    · rw [e2 h2, h0]; rfl
    · rw [e2 h2]
      exact (Kp.ow hw.kp hO4 (fun k hk => hk.2) fun k hk => hk.2).mono (fun k hk _ => hk.1) fun k hk _ => hk.1
  have hk0 : r.kind = 0 := by have := hrg.kind; omega
  refine l_no rfl h2 ?_
  refine l_go .skip ?_
  repeat(first|refine lrun_ ?_|(refine lo_boxA rfl rfl ?_;intro _ _ _)|(refine lo_box1 rfl rfl rfl ?_;intro _ _ _)|(refine lo_alloc rfl ?_;intro _ _ _))
  refine lo_call (n_call rfl) rfl (fun w' hw => clipR_calls (p := a) (Kp.sl hw.kp hO4.sl fun k hk => hk.elim (·.2) (·.2)) hp) ?_
  repeat(first|refine lrun_ ?_|(refine lo_boxA rfl rfl ?_;intro _ _ _)|(refine lo_box1 rfl rfl rfl ?_;intro _ _ _)|(refine lo_alloc rfl ?_;intro _ _ _))
  refine l_retR3 rfl (by repeat(first|exact LRes.nil|refine LRes.tmp rfl ?_|refine LRes.agg rfl (by(repeat(first|exact MIn.hd|refine MIn.tl ?_));done) (by rfl) (by rfl) ?_|refine LRes.one rfl (by(repeat(first|exact MIn.hd|refine MIn.tl ?_));done) (by rfl) ?_)) fun w' hw => ⟨hw.org, .slice A4 o.length c4, ?_, ?_⟩
  · rw [e0 hk0, h0]; rfl
  · rw [e0 hk0]
    exact (Kp.ow hw.kp hO4 (fun k hk => hk.2) fun k hk => hk.2).mono (fun k hk _ => hk.1) fun k hk _ => hk.1
end
section
variable {F : Nat → Prop} {w : World} {v : Value} {l : List (List Int)} {r : Rg}
set_option maxHeartbeats 8000000 in
theorem cutR_calls (h : Sl kRow F w v l) (hr : RgP r) (hl : l.length ≤ 4096) (hk : ∀ j, (l.getD j []).length ≤ 1048576) (hg : ∀ j, j ≤ rn r → (keptX l r (r0 r) j).length ≤ 4194304) :
    CallsR Try.prog 19 #[v, rgV r] w (CutR w l r) := by
  obtain ⟨A, c, e⟩ : ∃ A c, v = .slice A l.length c := by obtain ⟨A, c, e, _⟩ := h.form; exact ⟨A, c, e⟩
  subst e
  have hc : l.length ≤ c := by obtain ⟨_, _, e, hc, _⟩ := h.form; cases e; exact hc
  refine l_enter (fun _ => False) Try.func19 rfl rfl ?_
  repeat(first|refine lrun_ ?_|(refine lo_boxA rfl rfl ?_;intro _ _ _)|(refine lo_box1 rfl rfl rfl ?_;intro _ _ _)|(refine lo_alloc rfl ?_;intro _ _ _))
  rename_i g3 _ _ g5 _ _
  refine lo_call (n_call rfl) rfl (fun w' hw => thereR_calls (Kn.sl hw.org h) hr) ?_
  by_cases h0 : thereR l r = 0
  case neg =>
    have e : cutM l r = ([], (0, 0)) := by unfold cutM; rw [if_pos h0]
    repeat(first|refine lrun_ ?_|(refine lo_boxA rfl rfl ?_;intro _ _ _)|(refine lo_box1 rfl rfl rfl ?_;intro _ _ _)|(refine lo_alloc rfl ?_;intro _ _ _))
    refine l_yes rfl h0 ?_
    repeat(first|refine lrun_ ?_|(refine lo_boxA rfl rfl ?_;intro _ _ _)|(refine lo_box1 rfl rfl rfl ?_;intro _ _ _)|(refine lo_alloc rfl ?_;intro _ _ _))
    exact l_retR3 rfl (by repeat(first|exact LRes.nil|refine LRes.tmp rfl ?_|refine LRes.agg rfl (by(repeat(first|exact MIn.hd|refine MIn.tl ?_));done) (by rfl) (by rfl) ?_|refine LRes.one rfl (by(repeat(first|exact MIn.hd|refine MIn.tl ?_));done) (by rfl) ?_)) fun w' hw => ⟨hw.org, .slice none 0 0, by rw [e]; rfl, by rw [e]; exact Ow.nil _ _ _ _⟩
  have ok := there_ok h0
  have ha1 := ok.a.i
  have hb1 := ok.b.i
  have hle := ok.le
  have hpa : P64 (endsR r).1 := by unfold endsR; split <;> first | exact hr.to | exact hr.fr
  have hpb : P64 (endsR r).2 := by unfold endsR; split <;> first | exact hr.fr | exact hr.to
  obtain ⟨i0, hi0⟩ : ∃ i0 : Nat, (endsR r).1.1 = (i0 : Int) := ⟨(endsR r).1.1.toNat, by omega⟩
  obtain ⟨n, hn⟩ : ∃ n : Nat, (endsR r).2.1 + 1 = ((i0 + n : Nat) : Int) := ⟨((endsR r).2.1 + 1 - i0).toNat, by omega⟩
  have e1 : r0 r = i0 := by unfold r0; omega
  have e2 : rn r = n := by unfold rn; omega
  rw [e1, e2] at hg
  have c1 : ∀ o, r.kind = 1 → o = (if outX l r i0 n ++ l.drop (i0 + n) = [] then [[]] else outX l r i0 n ++ l.drop (i0 + n)) → cutM l r = (o, (((min i0 (o.length - 1) : Nat) : Int), (firstI (o.getD (min i0 (o.length - 1)) []) : Int))) := fun o hk ho => by
    unfold cutM
    rw [if_neg (fun h => h h0), if_pos hk, e1, e2]
    have : outX l r i0 n = l.take i0 := by unfold outX; rw [if_neg (by omega), List.append_nil]
    rw [this] at ho
    subst ho
    rfl
  have c0 : r.kind = 0 → cutM l r = (l.take i0 ++ [keptX l r i0 n] ++ l.drop (i0 + n), clipM (l.take i0 ++ [keptX l r i0 n] ++ l.drop (i0 + n)) (endsR r).1) := fun hk => by
    unfold cutM
    rw [if_neg (fun h => h h0), if_neg (by omega), if_pos hk, e1, e2]
    rfl
  have c2 : r.kind = 2 → cutM l r = (outX l r i0 n ++ l.drop (i0 + n), clipM (outX l r i0 n ++ l.drop (i0 + n)) ((endsR r).1.1, if (endsR r).2.2 < (endsR r).1.2 then (endsR r).2.2 else (endsR r).1.2)) := fun hk => by
    unfold cutM outX
    rw [if_neg (fun h => h h0), if_neg (by omega), if_neg (by omega), e1, e2, if_pos hk]
  repeat(first|refine lrun_ ?_|(refine lo_boxA rfl rfl ?_;intro _ _ _)|(refine lo_box1 rfl rfl rfl ?_;intro _ _ _)|(refine lo_alloc rfl ?_;intro _ _ _))
  rw [h0]
  refine l_no rfl (fun h => h rfl) ?_
  refine l_go .skip ?_
  repeat(first|refine lrun_ ?_|(refine lo_boxA rfl rfl ?_;intro _ _ _)|(refine lo_box1 rfl rfl rfl ?_;intro _ _ _)|(refine lo_alloc rfl ?_;intro _ _ _))
  refine lo_call (n_call rfl) rfl (fun w' hw => ends_calls (r := r)) ?_
  generalize hae : (endsR r).1 = a at *
  generalize hbe : (endsR r).2 = b at *
  obtain ⟨a1, a2⟩ := a
  simp only at hi0
  subst hi0
  have hin : i0 + n ≤ l.length := by omega
  repeat(first|refine lrun_ ?_|(refine lo_boxA rfl rfl ?_;intro _ _ _)|(refine lo_box1 rfl rfl rfl ?_;intro _ _ _)|(refine lo_alloc rfl ?_;intro _ _ _))
  rename_i g8 _ _ g9 _ _
  refine lo_callM (n_call rfl) rfl (fun w' hw => twinT_calls (Sl.pre (Kn.sl hw.org h) (by omega) (by omega))) ?_
  rintro w1 tv w2 hw1 kn1 ko1 ⟨us0, hT0⟩
  have hs1 := hw1.kp.size
  have hs1o := hw1.org.size
  have hlm : ∀ k, MK [(g9, cb [.int .i64 b.1, .int .i64 b.2] 24), (g8, cb [.int .i64 (i0 : Int), .int .i64 a2] 24), (g5, cb [.int .i64 0, .int .i64 0] 24), (g3, cb [.int .i64 r.fr.1, .int .i64 r.fr.2, .int .i64 r.to.1, .int .i64 r.to.2, .int .i64 r.kind] 26)] k → k < w1.heap.size := fun k hm => hw1.lt hm
  have ex0 : outX l r i0 0 = l.take i0 := by unfold outX; split <;> simp [gatM]
  have htl : (l.take i0).length = i0 := by rw [List.length_take]; omega
  obtain ⟨At, ct, rfl, _, _⟩ := hT0.form
  have hC : CutI w [(g9, cb [.int .i64 b.1, .int .i64 b.2] 24), (g8, cb [.int .i64 (i0 : Int), .int .i64 a2] 24), (g5, cb [.int .i64 0, .int .i64 0] 24), (g3, cb [.int .i64 r.fr.1, .int .i64 r.fr.2, .int .i64 r.to.1, .int .i64 r.to.2, .int .i64 r.kind] 26)] w2 (.slice At (l.take i0).length ct) (.slice none 0 0) us0 (l.take i0) [] :=
    ⟨hT0.mono fun k hk _ => ⟨⟨by unfold noB at hk; omega, fun hm => by have := hlm k hm; unfold noB at hk; omega⟩, fun e => by cases e⟩, Ow.nil _ _ _ _⟩
  rw [← ex0] at hC ⊢
  clear hT0
  repeat(first|refine lrun_ ?_|(refine lo_boxA rfl rfl ?_;intro _ _ _)|(refine lo_box1 rfl rfl rfl ?_;intro _ _ _)|(refine lo_alloc rfl ?_;intro _ _ _))
  refine l_baseM (M3 := [(g9, cb [.int .i64 b.1, .int .i64 b.2] 24), (g8, cb [.int .i64 (i0 : Int), .int .i64 a2] 24), (g5, cb [.int .i64 0, .int .i64 0] 24), (g3, cb [.int .i64 r.fr.1, .int .i64 r.fr.2, .int .i64 r.to.1, .int .i64 r.to.2, .int .i64 r.kind] 26)]) (by repeat(first|exact MSub.refl|refine MSub.keep rfl ?_|exact MSub.nil|apply MSub.drop)) fun w5 hw5 => ?_
  have hC5 := hC.now hw5
  refine rc_loop (a := ((i0 : Int), a2)) (b := b) (n := n) (i0 := i0) (g3 := g3) (g5 := g5) (g8 := g8) (g9 := g9) h ok hae hbe hl hk hg rfl hn hin hC5 ?_ _ (by repeat (first | exact SubB.nil | refine SubB.cons rfl ?_)) _ (by repeat(first|exact MSub.refl|refine MSub.keep rfl ?_|exact MSub.nil|apply MSub.drop))
  clear hC hC5 hw5
  intro bw A1 c1' us A2 c2' hC σ' hs M' hM
  refine WL.sub hs hM ?_
  have hxl := outX_len l r i0 n
  have hob := hC.t.t.block
  have hkb := hC.k.block
  repeat(first|refine lrun_ ?_|(refine lo_boxA rfl rfl ?_;intro _ _ _)|(refine lo_box1 rfl rfl rfl ?_;intro _ _ _)|(refine lo_alloc rfl ?_;intro _ _ _))
  by_cases hk0 : r.kind = 0
  case neg =>
    refine l_no rfl hk0 ?_
    refine l_go .skip ?_
    exact rc_tail (a := ((i0 : Int), a2)) (b := b) (n := n) (i0 := i0) h h0 hl ok hpa hpb rfl hn hin (by omega) (fun h1 o ho => c1 o h1 ho) (fun h => absurd h hk0) c2 ((hC.t.mono (G' := fre w (MK [(g9, cb [.int .i64 b.1, .int .i64 b.2] 24), (g8, cb [.int .i64 (i0 : Int), .int .i64 a2] 24), (g5, cb [.int .i64 0, .int .i64 0] 24), (g3, cb [.int .i64 r.fr.1, .int .i64 r.fr.2, .int .i64 r.to.1, .int .i64 r.to.2, .int .i64 r.kind] 26)])) fun k hk _ => hk.1).ow fun _ _ => trivial) _ (by repeat (first | exact SubB.nil | refine SubB.cons rfl ?_)) _ (by repeat(first|exact MSub.refl|refine MSub.keep rfl ?_|exact MSub.nil|apply MSub.drop))
  have hxe : outX l r i0 n = l.take i0 := by unfold outX; rw [if_neg (by omega), List.append_nil]
  refine l_yes rfl hk0 ?_
  refine l_region ?_
  repeat(first|refine lops_ ?_|(refine lo_boxA rfl rfl ?_;intro _ _ _)|(refine lo_box1 rfl rfl rfl ?_;intro _ _ _)|(refine lo_alloc rfl ?_;intro _ _ _))
  refine lo_lit (cs := [.slice A2 (keptX l r i0 n).length c2']) rfl (by decide) (by kernel_rfl) rfl ?_
  intro g63 _ hg63
  refine lo_tabPush2 (r := keptX l r i0 n) rfl rfl ((hC.t.mono (G' := fre w (MK [(g9, cb [.int .i64 b.1, .int .i64 b.2] 24), (g8, cb [.int .i64 (i0 : Int), .int .i64 a2] 24), (g5, cb [.int .i64 0, .int .i64 0] 24), (g3, cb [.int .i64 r.fr.1, .int .i64 r.fr.2, .int .i64 r.to.1, .int .i64 r.to.2, .int .i64 r.kind] 26)])) fun k hk _ => hk.1).less (L' := fun i => i < (outX l r i0 n).length) fun _ _ => trivial) (by(repeat(first|exact MIn.hd|refine MIn.tl ?_));done) (hC.k.nW.mono (fun k hk _ => ⟨hk.1, fun e => (hob k e).1.2 hk.2⟩) fun _ h _ => h) (Nat.lt_irrefl _) (fun i u2 k hi hu hk1 hk2 => (hC.t.blk trivial hu hk1).1.2 hk2) (by omega) rfl rfl ?_
  intro w3 A4 n4 w4 hw3 ko3 kp3 hown hT4
  have hs3 := hw3.kp.size
  repeat(first|refine lops_ ?_|(refine lo_boxA rfl rfl ?_;intro _ _ _)|(refine lo_box1 rfl rfl rfl ?_;intro _ _ _)|(refine lo_alloc rfl ?_;intro _ _ _))
  refine lo_nil ?_
  refine l_baseM (M3 := [(g9, cb [.int .i64 b.1, .int .i64 b.2] 24), (g8, cb [.int .i64 (i0 : Int), .int .i64 a2] 24), (g5, cb [.int .i64 0, .int .i64 0] 24), (g3, cb [.int .i64 r.fr.1, .int .i64 r.fr.2, .int .i64 r.to.1, .int .i64 r.to.2, .int .i64 r.kind] 26)]) (by repeat(first|exact MSub.refl|refine MSub.keep rfl ?_|exact MSub.nil|apply MSub.drop)) fun w6 hw6 => ?_
  have hT6 := ((hT4.all fun i hi => by
    rw [List.length_append] at hi
    show i < _ ∨ i = _
    simp only [List.length_cons, List.length_nil] at hi
    omega).kp hw6.kp fun k hk hm => hk.2 hm).mono (G' := fre w (MK [(g9, cb [.int .i64 b.1, .int .i64 b.2] 24), (g8, cb [.int .i64 (i0 : Int), .int .i64 a2] 24), (g5, cb [.int .i64 0, .int .i64 0] 24), (g3, cb [.int .i64 r.fr.1, .int .i64 r.fr.2, .int .i64 r.to.1, .int .i64 r.to.2, .int .i64 r.kind] 26)])) fun k hk _ => ⟨hk.1, fun ⟨o, hm⟩ => hk.2 ⟨o, .tl hm⟩⟩
  have hO6 := hT6.ow fun _ _ => trivial
  rw [hxe] at hO6 ⊢
  exact rc_tail (a := ((i0 : Int), a2)) (b := b) (n := n) (i0 := i0) h h0 hl ok hpa hpb rfl hn hin (by rw [List.length_append, List.length_take]; simp only [List.length_cons, List.length_nil]; omega) (fun h1 => by omega) c0 (fun h2 => by omega) hO6 _ (by repeat (first | exact SubB.nil | refine SubB.cons rfl ?_)) _ (by repeat(first|exact MSub.refl|refine MSub.keep rfl ?_|exact MSub.nil|apply MSub.drop))
end
section
variable {F : Nat → Prop} {w : World} {v : Value} {l : List (List Int)} {r : Rg}
set_option maxHeartbeats 8000000 in
theorem cuts_calls (h : Sl kRow F w v l) (hr : RgP r) :
    CallsR Try.prog 4 #[v, rgV r] w fun u w' => Kn w w' ∧ u = .bool true := by
  obtain ⟨A, c, e⟩ : ∃ A c, v = .slice A l.length c := by obtain ⟨A, c, e, _⟩ := h.form; exact ⟨A, c, e⟩
  subst e
  refine l_enter (fun _ => False) Try.func4 rfl rfl ?_
  repeat(first|refine lrun_ ?_|(refine lo_boxA rfl rfl ?_;intro _ _ _)|(refine lo_box1 rfl rfl rfl ?_;intro _ _ _)|(refine lo_alloc rfl ?_;intro _ _ _))
  rename_i g3 _ _
  refine lo_call (n_call rfl) rfl (fun w' hw => fit_calls (Kn.sl hw.org h)) ?_
  cases hf : fitB l with
  | false =>
    repeat(first|refine lrun_ ?_|(refine lo_boxA rfl rfl ?_;intro _ _ _)|(refine lo_box1 rfl rfl rfl ?_;intro _ _ _)|(refine lo_alloc rfl ?_;intro _ _ _))
    refine l_true rfl ?_
    repeat(first|refine lrun_ ?_|(refine lo_boxA rfl rfl ?_;intro _ _ _)|(refine lo_box1 rfl rfl rfl ?_;intro _ _ _)|(refine lo_alloc rfl ?_;intro _ _ _))
    exact l_ret1 rfl rfl fun w' hw => ⟨hw.org, rfl⟩
  | true =>
  obtain ⟨⟨hll, hlr⟩, hpl⟩ := fit_iff.1 hf
  have hsum : (l.map List.length).sum = runesM l := rfl
  have hkx : ∀ j, (keptX l r (r0 r) j).length ≤ 4194304 := fun j => by
    have := gat_out l r (r0 r) j
    unfold keptX
    rw [List.length_flatten]
    exact Nat.le_trans this (by omega)
  repeat(first|refine lrun_ ?_|(refine lo_boxA rfl rfl ?_;intro _ _ _)|(refine lo_box1 rfl rfl rfl ?_;intro _ _ _)|(refine lo_alloc rfl ?_;intro _ _ _))
  refine l_false rfl ?_
  refine l_go .skip ?_
  repeat(first|refine lrun_ ?_|(refine lo_boxA rfl rfl ?_;intro _ _ _)|(refine lo_box1 rfl rfl rfl ?_;intro _ _ _)|(refine lo_alloc rfl ?_;intro _ _ _))
  refine lo_callM (n_call rfl) rfl (fun w' hw => twinT_calls (Kn.sl hw.org h)) ?_
  rintro w3 tv w4 hw3 kn3 ko3 ⟨us3, hT3⟩
  have ht := Hd.of (hT3.ow fun _ _ => trivial) hw3
  obtain ⟨At, ct, rfl, _, _⟩ := hT3.form
  clear hT3
  repeat(first|refine lrun_ ?_|(refine lo_boxA rfl rfl ?_;intro _ _ _)|(refine lo_box1 rfl rfl rfl ?_;intro _ _ _)|(refine lo_alloc rfl ?_;intro _ _ _))
  refine lo_callM (n_call rfl) rfl (fun w' hw => cut_calls (ht.now hw) hr (by omega) (fun j => Nat.le_trans (runes_getD _ j) (by omega)) (Nat.le_trans (gat_out _ _ _ _) (by omega))) ?_
  rintro w5 _ w6 hw5 kn5 ko5 ⟨s, rfl, hO5⟩
  have hs5 := Hd.of hO5 hw5
  have ht := ht.next hw5 kn5
  obtain ⟨A5, c5, rfl, _, _⟩ := hO5.form
  clear hO5
  repeat(first|refine lrun_ ?_|(refine lo_boxA rfl rfl ?_;intro _ _ _)|(refine lo_box1 rfl rfl rfl ?_;intro _ _ _)|(refine lo_alloc rfl ?_;intro _ _ _))
  refine lo_callM (n_call rfl) rfl (fun w' hw => cutR_calls (Kn.sl hw.org h) hr (by omega) (fun j => Nat.le_trans (runes_getD _ j) (by omega)) fun j _ => hkx j) ?_
  rintro w7 _ w8 hw7 kn7 ko7 ⟨s8, rfl, hO8⟩
  have hs5 := hs5.next hw7 kn7
  have ht := ht.next hw7 kn7
  have hs8 := Hd.of hO8 hw7
  obtain ⟨A8, c8, rfl, _, _⟩ := hO8.form
  clear hO8
  repeat(first|refine lrun_ ?_|(refine lo_boxA rfl rfl ?_;intro _ _ _)|(refine lo_box1 rfl rfl rfl ?_;intro _ _ _)|(refine lo_alloc rfl ?_;intro _ _ _))
  rw [decide_eq_true (rfl : thereR l r = thereR l r)]
  repeat(first|refine lrun_ ?_|(refine lo_boxA rfl rfl ?_;intro _ _ _)|(refine lo_box1 rfl rfl rfl ?_;intro _ _ _)|(refine lo_alloc rfl ?_;intro _ _ _))
  refine lo_call (n_call rfl) rfl (fun w' hw => same04_calls (hs5.now hw) (hs8.now hw)) ?_
  rw [decide_eq_true (rfl : (cutM l r).1 = (cutM l r).1)]
  repeat(first|refine lrun_ ?_|(refine lo_boxA rfl rfl ?_;intro _ _ _)|(refine lo_box1 rfl rfl rfl ?_;intro _ _ _)|(refine lo_alloc rfl ?_;intro _ _ _))
  refine lo_call (n_call rfl) rfl (fun w' hw => same04_calls (ht.now hw) (Kn.sl hw.org h)) ?_
  rw [decide_eq_true (rfl : l = l)]
  repeat(first|refine lrun_ ?_|(refine lo_boxA rfl rfl ?_;intro _ _ _)|(refine lo_box1 rfl rfl rfl ?_;intro _ _ _)|(refine lo_alloc rfl ?_;intro _ _ _))
  refine lo_call (n_call (args := []) rfl) rfl (fun w' hw => awake_calls) ?_
  repeat(first|refine lrun_ ?_|(refine lo_boxA rfl rfl ?_;intro _ _ _)|(refine lo_box1 rfl rfl rfl ?_;intro _ _ _)|(refine lo_alloc rfl ?_;intro _ _ _))
  exact l_ret1 rfl rfl fun w' hw => ⟨hw.org, rfl⟩
end
theorem law_OperCuts {W : World} {u : Value} {l : List (List Int)} {r : Rg} {cs : List Value} (h : Sl kRow (fun _ => True) W u l) (hr : kRg.R (fun _ => True) W r cs) :
    CallsR Try.prog 4 #[u, .agg cs.toArray] W fun r w' => r = .bool true ∧ Kn W w' := by
  obtain ⟨e, hr'⟩ := rg_form hr
  rw [e]
  exact (cuts_calls h hr').mono fun r w' ⟨h1, h2⟩ => ⟨h2, h1⟩
end Go.Ink

set_option linter.unusedVariables false
set_option linter.unusedSimpArgs false
namespace Go.Ink
open Go Go.Proofs Go.RowKit

section
variable {F : Nat → Prop} {w : World} {v : Value} {l : List (List Int)}
set_option maxHeartbeats 4000000 in
theorem blanksR_calls {n : Int} (hn : n ≤ 4194304) : CallsR Try.prog 64 #[.int .i64 n] w fun u w' => Kn w w' ∧ Ow kRune (noB w) (fun _ => False) w' u (List.replicate n.toNat 32) := by
  refine l_enter (fun _ => False) Try.func64 rfl rfl ?_
  repeat(first|refine lrun_ ?_|(refine lo_boxA rfl rfl ?_;intro _ _ _)|(refine lo_box1 rfl rfl rfl ?_;intro _ _ _)|(refine lo_alloc rfl ?_;intro _ _ _))
  refine l_whileB (fun s : Nat × Option Addr × Nat => n.toNat - s.1) (fun s => [(0, .int .i64 n), (3, .slice s.2.1 s.1 s.2.2), (4, .int .i64 (s.1 : Int))]) (fun _ => [])
    (fun s b => s.1 ≤ n.toNat ∧ Og kRune w b (MK []) (fun _ => False) (.slice s.2.1 s.1 s.2.2) (List.replicate s.1 32)) (0, none, 0) (by repeat (first | exact SubB.nil | refine SubB.cons rfl ?_)) (by repeat(first|exact MSub.refl|refine MSub.keep rfl ?_|exact MSub.nil|apply MSub.drop)) (fun w' hw => ⟨Nat.zero_le _, Ow.nil _ _ _ _⟩) ?_
  rintro ⟨k, A1, c1⟩ b ⟨hk, hO⟩ hkb ih
  simp only at hk hO
  dsimp only
  by_cases hlt : k < n.toNat
  · repeat(first|refine lrun_ ?_|(refine lo_boxA rfl rfl ?_;intro _ _ _)|(refine lo_box1 rfl rfl rfl ?_;intro _ _ _)|(refine lo_alloc rfl ?_;intro _ _ _))
    refine l_yes rfl (by omega) ?_
    repeat(first|refine lrun_ ?_|(refine lo_boxA rfl rfl ?_;intro _ _ _)|(refine lo_box1 rfl rfl rfl ?_;intro _ _ _)|(refine lo_alloc rfl ?_;intro _ _ _))
    refine lo_lit (cs := [.int .i32 32]) rfl (by decide) (by kernel_rfl) rfl ?_
    intro g9 _ _
    refine lo_append1 (d := kRune) (q := 32) rfl rfl hO (fun _ h => h.elim) (by(repeat(first|exact MIn.hd|refine MIn.tl ?_));done) (fun w' hw => ⟨rfl, by decide, by decide⟩) (by rw [List.length_replicate]; show (k + 1) * 4 ≤ 140737488355328; omega) rfl rfl rfl rfl ?_
    intro w3 A3 c3 w4 hw3 hk3 hk4 hown hog
    have e1 : List.replicate k (32 : Int) ++ [32] = List.replicate (k + 1) 32 := by rw [List.replicate_succ']
    rw [e1] at hog hown ⊢
    simp only [List.length_replicate] at hog hown ⊢
    repeat(first|refine lops_ ?_|(refine lo_boxA rfl rfl ?_;intro _ _ _)|(refine lo_box1 rfl rfl rfl ?_;intro _ _ _)|(refine lo_alloc rfl ?_;intro _ _ _))
    refine lo_nil ?_
    refine l_baseM (M3 := []) .nil fun w5 hw5 => ?_
    have hog5 : Og kRune w w5 (MK []) (fun _ => False) (.slice A3 (k + 1) c3) (List.replicate (k + 1) 32) := (hog.now (fun _ h => h.elim) hw5).mono (fun j hj _ => ⟨hj.1, mk_nil⟩) fun _ h _ => h
    repeat(first|refine lrun_ ?_|(refine lo_boxA rfl rfl ?_;intro _ _ _)|(refine lo_box1 rfl rfl rfl ?_;intro _ _ _)|(refine lo_alloc rfl ?_;intro _ _ _))
    exact ih (k + 1, A3, c3) w5 _ ⟨hlt, hog5⟩ (by simp only; omega) _ _ (by repeat (first | exact SubB.nil | refine SubB.cons rfl ?_)) (by repeat(first|exact MSub.refl|refine MSub.keep rfl ?_|exact MSub.nil|apply MSub.drop)) fun w' hw' => ⟨hlt, hog5.now (fun _ h => h.elim) hw'⟩
  · obtain rfl : k = n.toNat := by omega
    repeat(first|refine lrun_ ?_|(refine lo_boxA rfl rfl ?_;intro _ _ _)|(refine lo_box1 rfl rfl rfl ?_;intro _ _ _)|(refine lo_alloc rfl ?_;intro _ _ _))
    refine l_no rfl (by omega) ?_
    refine l_go (.exit rfl) ?_
    repeat(first|refine lrun_ ?_|(refine lo_boxA rfl rfl ?_;intro _ _ _)|(refine lo_box1 rfl rfl rfl ?_;intro _ _ _)|(refine lo_alloc rfl ?_;intro _ _ _))
    exact l_ret1 rfl rfl fun w' hw => ⟨hw.org, (hO.now (fun _ h => h.elim) hw).mono (fun k hk _ => hk.1) fun _ h _ => h⟩
end
section
variable {F : Nat → Prop} {w B : World} {A : Option Addr} {c : Nat} {l ls : List (List Int)} {ad : Addr} {rV : Nat → Option Addr} {rc : Nat → Nat} {ra : Nat → Addr} {x0 : List Int} {g7 aN m : Nat} {kk : List Item} {R : Value → World → Prop}
theorem find_all {y : List Int} (h : ∀ t, t < y.length → classM (y.getD t 0) false = 0) : y.findIdx? (fun r => decide (classM r false ≠ 0)) = none := by
  rw [List.findIdx?_eq_none_iff]
  intro a ha
  obtain ⟨j, hj, rfl⟩ := List.mem_iff_getElem.1 ha
  have := h j hj
  rw [List.getD_eq_getElem?_getD, List.getElem?_eq_getElem hj, Option.getD_some] at this
  rw [this]
  decide
theorem find_at {y : List Int} {k : Nat} (hk : k < y.length) (hc : classM (y.getD k 0) false ≠ 0) (hb : ∀ j, j < k → classM (y.getD j 0) false = 0) : y.findIdx? (fun r => decide (classM r false ≠ 0)) = some k := by
  rw [List.findIdx?_eq_some_iff_getElem]
  refine ⟨hk, ?_, fun j hj => ?_⟩
  · rw [decide_eq_true_iff]
    rw [List.getD_eq_getElem?_getD, List.getElem?_eq_getElem hk] at hc
    exact hc
  · have hj' : j < y.length := by omega
    have := hb j hj
    rw [List.getD_eq_getElem?_getD, List.getElem?_eq_getElem hj', Option.getD_some] at this
    rw [this]
    decide
set_option maxHeartbeats 8000000 in
theorem jr_loop (hR : Rws F w A c l ad rV rc ra) (hl : l.length ≤ 4096) (hk : ∀ j, (l.getD j []).length ≤ 4194304) (hx : x0.length ≤ 4194304) (hm : 2 ≤ m) (ham : aN + m ≤ l.length) (hls : ∀ j, j < m - 1 → ls.getD j [] = l.getD (aN + 1 + j) []) (hkl : ∀ j, (ls.getD j []).length ≤ 4194304) {Ax0 : Option Addr} {cx0 : Nat} (hO : Og kRune w B (MK [(g7, cb [.int .i64 0, .int .i64 0] 24)]) (fun _ => False) (.slice Ax0 x0.length cx0) x0)
    (done : ∀ b Ax cx, Og kRune w b (MK [(g7, cb [.int .i64 0, .int .i64 0] 24)]) (fun _ => False) (.slice Ax (jnM x0 ls (m - 1)).1.length cx) (jnM x0 ls (m - 1)).1 → ∀ σ', SubB σ' [(0, .slice A l.length c), (1, .int .i64 (aN : Int)), (2, .int .i64 (m : Int)), (7, .pointer (some ⟨g7, 0, none⟩)), (9, .slice Ax (jnM x0 ls (m - 1)).1.length cx), (10, .int .i64 (jnM x0 ls (m - 1)).2)] → ∀ M', MSub [(g7, cb [.int .i64 0, .int .i64 0] 24)] M' → WL Try.prog Try.f34 kk σ' w (fun _ => False) b (MK [(g7, cb [.int .i64 0, .int .i64 0] 24)]) M' R) :
    ∀ σ', SubB σ' [(0, .slice A l.length c), (1, .int .i64 (aN : Int)), (2, .int .i64 (m : Int)), (7, .pointer (some ⟨g7, 0, none⟩)), (9, .slice Ax0 x0.length cx0), (10, .int .i64 (0 : Nat)), (11, .int .i64 ((aN + 1 + 0 : Nat) : Int))] → ∀ M', MSub [(g7, cb [.int .i64 0, .int .i64 0] 24)] M' →
      WL Try.prog Try.f34 (.code (.loop (bodyC Try.f34 [1, 1, 1, 1, 1, 0, 1, 0, 0])) :: .inBlock 0 :: kk) σ' w (fun _ => False) B (MK [(g7, cb [.int .i64 0, .int .i64 0] 24)]) M' R := by
  intro σ' hs M' hM
  refine WL.sub hs hM ?_
  have hlen := hR.len
  refine l_whileB (fun s : Nat × Option Addr × Nat => m - 1 - s.1) (fun s => [(0, .slice A l.length c), (1, .int .i64 (aN : Int)), (2, .int .i64 (m : Int)), (7, .pointer (some ⟨g7, 0, none⟩)), (9, .slice s.2.1 (jnM x0 ls s.1).1.length s.2.2), (10, .int .i64 (jnM x0 ls s.1).2), (11, .int .i64 ((aN + 1 + s.1 : Nat) : Int))]) (fun _ => [(g7, cb [.int .i64 0, .int .i64 0] 24)])
    (fun s b => s.1 ≤ m - 1 ∧ Og kRune w b (MK [(g7, cb [.int .i64 0, .int .i64 0] 24)]) (fun _ => False) (.slice s.2.1 (jnM x0 ls s.1).1.length s.2.2) (jnM x0 ls s.1).1) (0, Ax0, cx0) (by repeat (first | exact SubB.nil | refine SubB.cons rfl ?_)) (by repeat(first|exact MSub.refl|refine MSub.keep rfl ?_|exact MSub.nil|apply MSub.drop)) (fun w hw => ⟨Nat.zero_le _, hO.now (fun _ h => h.elim) hw⟩) ?_
  rintro ⟨j, Ax, cx⟩ b ⟨hj, hOb⟩ hkb ih
  simp only at hj
  have hjl := jn_len hx hkl j
  by_cases hlt : j < m - 1
  · have hil : aN + 1 + j < l.length := by omega
    have hS0 := hR.rs (aN + 1 + j) hil
    have e1 : jnM x0 ls (j + 1) = jnStep (jnM x0 ls j) (l.getD (aN + 1 + j) []) := by rw [← hls j hlt]; rfl
    have hkj := hk (aN + 1 + j)
    have hrow := hR.row (aN + 1 + j) hil
    generalize hy : l.getD (aN + 1 + j) [] = y at *
    generalize jnM x0 ls j = s at *
    obtain ⟨x, col⟩ := s
    simp only at hjl hOb
    dsimp only
    repeat(first|refine lrun_ ?_|(refine lo_boxA rfl rfl ?_;intro _ _ _)|(refine lo_box1 rfl rfl rfl ?_;intro _ _ _)|(refine lo_alloc rfl ?_;intro _ _ _))
    have J2 : ∀ (b2 : World) (q : Nat) (A' : Option Addr) (c' : Nat), q ≤ y.length → (∀ t, t < q → classM (y.getD t 0) false = 0) → (q < y.length → classM (y.getD q 0) false ≠ 0) → Sl kRune F w (.slice A' (y.drop q).length c') (y.drop q) → Og kRune w b2 (MK [(g7, cb [.int .i64 0, .int .i64 0] 24)]) (fun _ => False) (.slice Ax x.length cx) x →
        ∀ σ', SubB σ' [(0, .slice A l.length c), (1, .int .i64 (aN : Int)), (2, .int .i64 (m : Int)), (7, .pointer (some ⟨g7, 0, none⟩)), (9, .slice Ax x.length cx), (11, .int .i64 ((aN + 1 + j : Nat) : Int)), (12, .slice A' (y.drop q).length c')] → ∀ M', MSub [(g7, cb [.int .i64 0, .int .i64 0] 24)] M' →
        WL Try.prog Try.f34 (.code (bodyC Try.f34 [1, 1, 1, 1, 1, 0, 1, 0, 0, 1, 0, 0, 1, 1]) :: .inBlock 1 :: .code (bodyC Try.f34 [1, 1, 1, 1, 1, 0, 1, 0, 0, 1, 1]) :: .inLoop (bodyC Try.f34 [1, 1, 1, 1, 1, 0, 1, 0, 0]) :: .inBlock 0 :: kk) σ' w (fun _ => False) b2 (MK [(g7, cb [.int .i64 0, .int .i64 0] 24)]) M' R := by
      intro b2 q A' c' hq hbl hst hS hOx σ' hs M' hM
      refine WL.sub hs hM ?_
      have hdl : (y.drop q).length = y.length - q := List.length_drop
      have eg : (y.drop q).getD 0 0 = y.getD q 0 := by rw [List.getD_eq_getElem?_getD, List.getD_eq_getElem?_getD, List.getElem?_drop, Nat.add_zero]
      have J : ∀ (b' : World) (K' : Nat → Prop) (x' : List Int) (Ax' : Option Addr) (cx' : Nat), Og kRune w b' K' (fun _ => False) (.slice Ax' x'.length cx') x' → x'.length ≤ (j + 1) * 4194305 + 1 → jnM x0 ls (j + 1) = (x' ++ y.drop q, x.length) → (∀ k, MK [(g7, cb [.int .i64 0, .int .i64 0] 24)] k ↔ K' k) →
          ∀ σ', SubB σ' [(0, .slice A l.length c), (1, .int .i64 (aN : Int)), (2, .int .i64 (m : Int)), (7, .pointer (some ⟨g7, 0, none⟩)), (9, .slice Ax' x'.length cx'), (10, .int .i64 x.length), (11, .int .i64 ((aN + 1 + j : Nat) : Int)), (12, .slice A' (y.drop q).length c')] → ∀ M', MSub [(g7, cb [.int .i64 0, .int .i64 0] 24)] M' →
          WL Try.prog Try.f34 (.code (bodyC Try.f34 [1, 1, 1, 1, 1, 0, 1, 0, 0, 1, 0, 0, 1, 1, 1, 1]) :: .inBlock 1 :: .code (bodyC Try.f34 [1, 1, 1, 1, 1, 0, 1, 0, 0, 1, 1]) :: .inLoop (bodyC Try.f34 [1, 1, 1, 1, 1, 0, 1, 0, 0]) :: .inBlock 0 :: kk) σ' w (fun _ => False) b' K' M' R := by
        intro b' K' x' Ax' cx' hO' hx' e2 hKK σ' hs M' hM
        refine WL.sub hs hM ?_
        repeat(first|refine lrun_ ?_|(refine lo_boxA rfl rfl ?_;intro _ _ _)|(refine lo_box1 rfl rfl rfl ?_;intro _ _ _)|(refine lo_alloc rfl ?_;intro _ _ _))
        refine lo_appendS (d := kRune) (ys := y.drop q) (F2 := fun k => k < w.heap.size) rfl rfl hO' (fun w' hw => Kn.sl hw.org hS.old) (fun k hk ho => by have := (hO'.block k ho).1.1; omega) (by rw [List.length_drop]; show (x'.length + (y.length - q)) * 4 ≤ 140737488355328; omega) rfl rfl rfl rfl ?_
        intro w3 A3 c3 w4 hw3 hk3 hk4 hown hog
        repeat(first|refine lrun_ ?_|(refine lo_boxA rfl rfl ?_;intro _ _ _)|(refine lo_box1 rfl rfl rfl ?_;intro _ _ _)|(refine lo_alloc rfl ?_;intro _ _ _))
        refine ih (j + 1, A3, c3) w4 _ ⟨hlt, by simp only [e2]; exact hog⟩ (by simp only; omega) _ _ (by simp only [e2]; exact (by repeat (first | exact SubB.nil | refine SubB.cons rfl ?_))) (by repeat(first|exact MSub.refl|refine MSub.keep rfl ?_|exact MSub.nil|apply MSub.drop)) (fun w' hw' => ⟨hlt, by simp only [e2]; exact hog.now (fun _ h => h.elim) hw'⟩)
      unfold jnStep at e1
      simp only at e1
      by_cases hql : q < y.length
      case neg =>
        have hq0 : (y.drop q).length = 0 := by omega
        have hqn : y.drop q = [] := List.length_eq_zero_iff.1 hq0
        rw [find_all (fun t ht => hbl t (by omega))] at e1
        simp only at e1
        repeat(first|refine lrun_ ?_|(refine lo_boxA rfl rfl ?_;intro _ _ _)|(refine lo_box1 rfl rfl rfl ?_;intro _ _ _)|(refine lo_alloc rfl ?_;intro _ _ _))
        refine l_false rfl ?_
        refine l_go .skip ?_
        exact J b2 _ x Ax cx hOx (by omega) (by rw [e1, hqn, List.append_nil]) (fun k => Iff.rfl) _ (by repeat (first | exact SubB.nil | refine SubB.cons rfl ?_)) _ (by repeat(first|exact MSub.refl|refine MSub.keep rfl ?_|exact MSub.nil|apply MSub.drop))
      rw [find_at hql (hst hql) hbl] at e1
      simp only at e1
      obtain ⟨_, _, ad2, e, hX⟩ := hS.rns
      cases e
      have hdp : 0 < (y.drop q).length := by omega
      by_cases c1 : (y.drop q).getD 0 0 = 41
      · rw [if_neg (fun h => h.1 (eg ▸ c1))] at e1
        repeat(first|refine lrun_ ?_|(refine lo_boxA rfl rfl ?_;intro _ _ _)|(refine lo_box1 rfl rfl rfl ?_;intro _ _ _)|(refine lo_alloc rfl ?_;intro _ _ _))
        refine l_false rfl ?_
        refine l_go .skip ?_
        exact J b2 _ x Ax cx hOx (by omega) e1 (fun k => Iff.rfl) _ (by repeat (first | exact SubB.nil | refine SubB.cons rfl ?_)) _ (by repeat(first|exact MSub.refl|refine MSub.keep rfl ?_|exact MSub.nil|apply MSub.drop))
      by_cases c2 : 0 < x.length
      case neg =>
        rw [if_neg (fun h => c2 h.2.1)] at e1
        have e3 : x.length = 0 := by omega
        repeat(first|refine lrun_ ?_|(refine lo_boxA rfl rfl ?_;intro _ _ _)|(refine lo_box1 rfl rfl rfl ?_;intro _ _ _)|(refine lo_alloc rfl ?_;intro _ _ _))
        refine l_false rfl ?_
        refine l_go .skip ?_
        exact J b2 _ x Ax cx hOx (by omega) e1 (fun k => Iff.rfl) _ (by repeat (first | exact SubB.nil | refine SubB.cons rfl ?_)) _ (by repeat(first|exact MSub.refl|refine MSub.keep rfl ?_|exact MSub.nil|apply MSub.drop))
      obtain ⟨Ay, cy, ay, ey, hY⟩ := hOx.sl.rns
      cases ey
      have hAy := hY.a c2
      have hload := hY.run (x.length - 1) (by omega)
      have hyb : ¬ MK [(g7, cb [.int .i64 0, .int .i64 0] 24)] (ay.add ((x.length - 1) * 1)).block := fun h => by
        rw [add_block] at h
        exact (hOx.block ay.block (by rw [hAy]; rfl)).1.2 h
      repeat(first|refine lrun_ ?_|(refine lo_boxA rfl rfl ?_;intro _ _ _)|(refine lo_box1 rfl rfl rfl ?_;intro _ _ _)|(refine lo_alloc rfl ?_;intro _ _ _))
      refine lo_index (j := x.length - 1) rfl rfl (by omega) (by omega) hAy rfl ?_
      repeat(first|refine lrun_ ?_|(refine lo_boxA rfl rfl ?_;intro _ _ _)|(refine lo_box1 rfl rfl rfl ?_;intro _ _ _)|(refine lo_alloc rfl ?_;intro _ _ _))
      refine lo_loadB rfl hload hyb rfl ?_
      repeat(first|refine lrun_ ?_|(refine lo_boxA rfl rfl ?_;intro _ _ _)|(refine lo_box1 rfl rfl rfl ?_;intro _ _ _)|(refine lo_alloc rfl ?_;intro _ _ _))
      refine lo_callP (n_call rfl) rfl (fun w' hw => classR_calls) ?_
      by_cases c3 : classM (x.getD (x.length - 1) 0) false = 0
      · rw [if_neg (fun h => h.2.2 c3)] at e1
        repeat(first|refine lrun_ ?_|(refine lo_boxA rfl rfl ?_;intro _ _ _)|(refine lo_box1 rfl rfl rfl ?_;intro _ _ _)|(refine lo_alloc rfl ?_;intro _ _ _))
        refine l_no rfl (fun h => h c3) ?_
        refine l_go .skip ?_
        exact J b2 _ x Ax cx hOx (by omega) e1 (fun k => Iff.rfl) _ (by repeat (first | exact SubB.nil | refine SubB.cons rfl ?_)) _ (by repeat(first|exact MSub.refl|refine MSub.keep rfl ?_|exact MSub.nil|apply MSub.drop))
      · rw [if_pos ⟨fun h => c1 (eg ▸ h), c2, c3⟩] at e1
        repeat(first|refine lrun_ ?_|(refine lo_boxA rfl rfl ?_;intro _ _ _)|(refine lo_box1 rfl rfl rfl ?_;intro _ _ _)|(refine lo_alloc rfl ?_;intro _ _ _))
        refine l_yes rfl c3 ?_
        refine l_region ?_
        repeat(first|refine lops_ ?_|(refine lo_boxA rfl rfl ?_;intro _ _ _)|(refine lo_box1 rfl rfl rfl ?_;intro _ _ _)|(refine lo_alloc rfl ?_;intro _ _ _))
        refine lo_lit (cs := [.int .i32 32]) rfl (by decide) (by kernel_rfl) rfl ?_
        intro g9 _ _
        refine lo_append1 (d := kRune) (q := 32) rfl rfl hOx (fun _ h => h.elim) (by(repeat(first|exact MIn.hd|refine MIn.tl ?_));done) (fun w' hw => ⟨rfl, by decide, by decide⟩) (by show (x.length + 1) * 4 ≤ 140737488355328; omega) rfl rfl rfl rfl ?_
        intro w3 A3 c3' w4 hw3 hk3 hk4 hown hog
        repeat(first|refine lops_ ?_|(refine lo_boxA rfl rfl ?_;intro _ _ _)|(refine lo_box1 rfl rfl rfl ?_;intro _ _ _)|(refine lo_alloc rfl ?_;intro _ _ _))
        refine lo_nil ?_
        refine l_baseM (M3 := [(g7, cb [.int .i64 0, .int .i64 0] 24)]) (by repeat(first|exact MSub.refl|refine MSub.keep rfl ?_|exact MSub.nil|apply MSub.drop)) fun w5 hw5 => ?_
        have hog5 : Og kRune w w5 (MK [(g7, cb [.int .i64 0, .int .i64 0] 24)]) (fun _ => False) (.slice A3 (x ++ [32]).length c3') (x ++ [32]) := (hog.now (fun _ h => h.elim) hw5).mono (fun k hk _ => ⟨hk.1, fun ⟨o, hm⟩ => hk.2 ⟨o, .tl hm⟩⟩) fun _ h _ => h
        exact J w5 _ (x ++ [32]) A3 c3' hog5 (by rw [List.length_append]; simp; omega) e1 (fun k => Iff.rfl) _ (by repeat (first | exact SubB.nil | refine SubB.cons rfl ?_)) _ (by repeat(first|exact MSub.refl|refine MSub.keep rfl ?_|exact MSub.nil|apply MSub.drop))
    refine l_yes rfl (by omega) ?_
    repeat(first|refine lrun_ ?_|(refine lo_boxA rfl rfl ?_;intro _ _ _)|(refine lo_box1 rfl rfl rfl ?_;intro _ _ _)|(refine lo_alloc rfl ?_;intro _ _ _))
    refine l_whileB (fun s : Nat × Option Addr × Nat => y.length - s.1) (fun s => [(0, .slice A l.length c), (1, .int .i64 (aN : Int)), (2, .int .i64 (m : Int)), (7, .pointer (some ⟨g7, 0, none⟩)), (9, .slice Ax x.length cx), (11, .int .i64 ((aN + 1 + j : Nat) : Int)), (12, .slice s.2.1 (y.drop s.1).length s.2.2)]) (fun _ => [(g7, cb [.int .i64 0, .int .i64 0] 24)])
      (fun s b2 => s.1 ≤ y.length ∧ (∀ t, t < s.1 → classM (y.getD t 0) false = 0) ∧ Sl kRune F w (.slice s.2.1 (y.drop s.1).length s.2.2) (y.drop s.1) ∧ Og kRune w b2 (MK [(g7, cb [.int .i64 0, .int .i64 0] 24)]) (fun _ => False) (.slice Ax x.length cx) x) (0, rV (aN + 1 + j), rc (aN + 1 + j)) (by repeat (first | exact SubB.nil | refine SubB.cons rfl ?_)) (by repeat(first|exact MSub.refl|refine MSub.keep rfl ?_|exact MSub.nil|apply MSub.drop)) (fun w' hw => ⟨Nat.zero_le _, fun t h => absurd h (Nat.not_lt_zero _), hS0, hOb.now (fun _ h => h.elim) hw⟩) ?_
    rintro ⟨q, A', c'⟩ b2 ⟨hq, hbl, hS, hOx⟩ hkb2 ih2
    simp only at hq hbl hS hOx
    dsimp only
    have hdl : (y.drop q).length = y.length - q := List.length_drop
    have eg : (y.drop q).getD 0 0 = y.getD q 0 := by rw [List.getD_eq_getElem?_getD, List.getD_eq_getElem?_getD, List.getElem?_drop, Nat.add_zero]
    by_cases hql : q < y.length
    case neg =>
      have hq0 : (y.drop q).length = 0 := by omega
      repeat(first|refine lrun_ ?_|(refine lo_boxA rfl rfl ?_;intro _ _ _)|(refine lo_box1 rfl rfl rfl ?_;intro _ _ _)|(refine lo_alloc rfl ?_;intro _ _ _))
      refine l_false rfl ?_
      refine l_go (.exit rfl) ?_
      exact J2 b2 q A' c' hq hbl (fun h => absurd h hql) hS hOx _ (by repeat (first | exact SubB.nil | refine SubB.cons rfl ?_)) _ (by repeat(first|exact MSub.refl|refine MSub.keep rfl ?_|exact MSub.nil|apply MSub.drop))
    have hdp : 0 < (y.drop q).length := by omega
    obtain ⟨_, _, ad2, e, hX⟩ := hS.rns
    cases e
    have hcx := hX.cap
    repeat(first|refine lrun_ ?_|(refine lo_boxA rfl rfl ?_;intro _ _ _)|(refine lo_box1 rfl rfl rfl ?_;intro _ _ _)|(refine lo_alloc rfl ?_;intro _ _ _))
    refine lo_callP (n_call rfl) rfl (fun w' hw => classR_calls) ?_
    by_cases hc : classM ((y.drop q).getD 0 0) false = 0
    case neg =>
      repeat(first|refine lrun_ ?_|(refine lo_boxA rfl rfl ?_;intro _ _ _)|(refine lo_box1 rfl rfl rfl ?_;intro _ _ _)|(refine lo_alloc rfl ?_;intro _ _ _))
      refine l_no rfl hc ?_
      refine l_go (.exit rfl) ?_
      exact J2 b2 q A' c' hq hbl (fun _ => eg ▸ hc) hS hOx _ (by repeat (first | exact SubB.nil | refine SubB.cons rfl ?_)) _ (by repeat(first|exact MSub.refl|refine MSub.keep rfl ?_|exact MSub.nil|apply MSub.drop))
    repeat(first|refine lrun_ ?_|(refine lo_boxA rfl rfl ?_;intro _ _ _)|(refine lo_box1 rfl rfl rfl ?_;intro _ _ _)|(refine lo_alloc rfl ?_;intro _ _ _))
    refine l_yes rfl hc ?_
    repeat(first|refine lrun_ ?_|(refine lo_boxA rfl rfl ?_;intro _ _ _)|(refine lo_box1 rfl rfl rfl ?_;intro _ _ _)|(refine lo_alloc rfl ?_;intro _ _ _))
    have hcut := Sl.cutV hS (l := 1) (show 1 ≤ (y.drop q).length from hdp) (Nat.le_refl _) hcx (Nat.le_refl _)
    rw [List.take_length, List.drop_drop] at hcut
    obtain ⟨A3, c3, e3, _, _⟩ := hcut.form
    rw [e3] at hcut
    have e4 : cutV A' 1 (y.drop q).length c' 1 = .slice A3 (y.drop (q + 1)).length c3 := e3
    refine lo_suf (j := 1) rfl rfl rfl hdp hcx rfl ?_
    rw [e4]
    repeat(first|refine lrun_ ?_|(refine lo_boxA rfl rfl ?_;intro _ _ _)|(refine lo_box1 rfl rfl rfl ?_;intro _ _ _)|(refine lo_alloc rfl ?_;intro _ _ _))
    have hbl' : ∀ t, t < q + 1 → classM (y.getD t 0) false = 0 := fun t ht => by
      rcases Nat.lt_succ_iff_lt_or_eq.1 ht with h | rfl
      · exact hbl t h
      · exact eg ▸ hc
    exact ih2 (q + 1, A3, c3) b2 _ ⟨hql, hbl', hcut, hOx⟩ (by simp only; omega) _ _ (by repeat (first | exact SubB.nil | refine SubB.cons rfl ?_)) (by repeat(first|exact MSub.refl|refine MSub.keep rfl ?_|exact MSub.nil|apply MSub.drop)) fun w' hw' => ⟨hql, hbl', hcut, hOx.now (fun _ h => h.elim) hw'⟩
  · obtain rfl : j = m - 1 := by omega
    repeat(first|refine lrun_ ?_|(refine lo_boxA rfl rfl ?_;intro _ _ _)|(refine lo_box1 rfl rfl rfl ?_;intro _ _ _)|(refine lo_alloc rfl ?_;intro _ _ _))
    refine l_no rfl (by omega) ?_
    refine l_go (.exit rfl) ?_
    exact done b Ax cx hOb _ (by repeat (first | exact SubB.nil | refine SubB.cons rfl ?_)) _ (by repeat(first|exact MSub.refl|refine MSub.keep rfl ?_|exact MSub.nil|apply MSub.drop))
set_option maxHeartbeats 8000000 in
theorem joinR_calls {v : Value} {a n : Int} (h : Sl kRow F w v l) (ha : -9223372036854775808 ≤ a ∧ a ≤ 9223372036854775807) (hn : -9223372036854775808 ≤ n ∧ n ≤ 9223372036854775807) (hl : l.length ≤ 4096) (hk : ∀ j, (l.getD j []).length ≤ 4194304) :
    CallsR Try.prog 34 #[v, .int .i64 a, .int .i64 n] w fun u w' => Kn w w' ∧ ∃ s, u = .tuple #[s, posV (joinM l a n).2.1, .int .i64 (joinM l a n).2.2] ∧ Ow kRow (noB w) (noB w) w' s (joinM l a n).1 := by
  obtain ⟨A, c, ad, rV, rc, ra, rfl, hR⟩ := h.rws
  have hc := hR.cap
  refine l_enter (fun _ => False) Try.func34 rfl rfl ?_
  have hmx : (if (2 : Int) < n then n else 2) = (if n < 2 then 2 else n) := by split <;> split <;> omega
  by_cases h1 : a < 0
  · unfold joinM
    rw [if_pos (.inl h1)]
    repeat(first|refine lrun_ ?_|(refine lo_boxA rfl rfl ?_;intro _ _ _)|(refine lo_box1 rfl rfl rfl ?_;intro _ _ _)|(refine lo_alloc rfl ?_;intro _ _ _))
    refine l_true rfl ?_
    repeat(first|refine lrun_ ?_|(refine lo_boxA rfl rfl ?_;intro _ _ _)|(refine lo_box1 rfl rfl rfl ?_;intro _ _ _)|(refine lo_alloc rfl ?_;intro _ _ _))
    exact l_retR3 rfl (by repeat(first|exact LRes.nil|refine LRes.tmp rfl ?_|refine LRes.agg rfl (by(repeat(first|exact MIn.hd|refine MIn.tl ?_));done) (by rfl) (by rfl) ?_|refine LRes.one rfl (by(repeat(first|exact MIn.hd|refine MIn.tl ?_));done) (by rfl) ?_)) fun w hw => ⟨hw.org, .slice none 0 0, rfl, Ow.nil _ _ _ _⟩
  by_cases h2 : (l.length : Int) ≤ a
  · unfold joinM
    rw [if_pos (.inr (.inl h2))]
    repeat(first|refine lrun_ ?_|(refine lo_boxA rfl rfl ?_;intro _ _ _)|(refine lo_box1 rfl rfl rfl ?_;intro _ _ _)|(refine lo_alloc rfl ?_;intro _ _ _))
    refine l_true rfl ?_
    repeat(first|refine lrun_ ?_|(refine lo_boxA rfl rfl ?_;intro _ _ _)|(refine lo_box1 rfl rfl rfl ?_;intro _ _ _)|(refine lo_alloc rfl ?_;intro _ _ _))
    exact l_retR3 rfl (by repeat(first|exact LRes.nil|refine LRes.tmp rfl ?_|refine LRes.agg rfl (by(repeat(first|exact MIn.hd|refine MIn.tl ?_));done) (by rfl) (by rfl) ?_|refine LRes.one rfl (by(repeat(first|exact MIn.hd|refine MIn.tl ?_));done) (by rfl) ?_)) fun w hw => ⟨hw.org, .slice none 0 0, rfl, Ow.nil _ _ _ _⟩
  by_cases h3 : (l.length : Int) - a < (if n < 2 then 2 else n)
  · unfold joinM
    rw [if_pos (.inr (.inr h3))]
    repeat(first|refine lrun_ ?_|(refine lo_boxA rfl rfl ?_;intro _ _ _)|(refine lo_box1 rfl rfl rfl ?_;intro _ _ _)|(refine lo_alloc rfl ?_;intro _ _ _))
    rw [hmx]
    refine l_yes rfl h3 ?_
    repeat(first|refine lrun_ ?_|(refine lo_boxA rfl rfl ?_;intro _ _ _)|(refine lo_box1 rfl rfl rfl ?_;intro _ _ _)|(refine lo_alloc rfl ?_;intro _ _ _))
    exact l_retR3 rfl (by repeat(first|exact LRes.nil|refine LRes.tmp rfl ?_|refine LRes.agg rfl (by(repeat(first|exact MIn.hd|refine MIn.tl ?_));done) (by rfl) (by rfl) ?_|refine LRes.one rfl (by(repeat(first|exact MIn.hd|refine MIn.tl ?_));done) (by rfl) ?_)) fun w hw => ⟨hw.org, .slice none 0 0, rfl, Ow.nil _ _ _ _⟩
  unfold joinM
  rw [if_neg (fun h => h.elim h1 fun h => h.elim h2 h3)]
  have hm2 : 2 ≤ (if n < 2 then 2 else n) := by split <;> omega
  generalize hme : (if n < 2 then 2 else n) = mm at *
  obtain ⟨i, rfl⟩ : ∃ i : Nat, a = (i : Int) := ⟨a.toNat, by omega⟩
  obtain ⟨m, rfl⟩ : ∃ m : Nat, mm = (m : Int) := ⟨mm.toNat, by omega⟩
  simp only [Int.toNat_natCast]
  have hil : i < l.length := by omega
  have him : i + m ≤ l.length := by omega
  have hkl : ((l.take (i + m)).drop (i + 1)).length = m - 1 := by rw [List.length_drop, List.length_take]; omega
  have hke : ∀ j, j < m - 1 → ((l.take (i + m)).drop (i + 1)).getD j [] = l.getD (i + 1 + j) [] := fun j hj => by
    rw [List.getD_eq_getElem?_getD, List.getD_eq_getElem?_getD, List.getElem?_drop, List.getElem?_take, if_pos (by omega)]
  have hks : ∀ j, (((l.take (i + m)).drop (i + 1)).getD j []).length ≤ 4194304 := fun j => by
    by_cases hj : j < m - 1
    · rw [hke j hj]; exact hk _
    · rw [List.getD_eq_getElem?_getD, List.getElem?_eq_none (by omega)]
      exact Nat.zero_le _
  have hj := jn_len (hk i) hks (m - 1)
  repeat(first|refine lrun_ ?_|(refine lo_boxA rfl rfl ?_;intro _ _ _)|(refine lo_box1 rfl rfl rfl ?_;intro _ _ _)|(refine lo_alloc rfl ?_;intro _ _ _))
  rw [hmx]
  refine l_no rfl (by omega) ?_
  refine l_go .skip ?_
  rename_i g7 _ _
  refine l_baseM (M3 := [(g7, cb [.int .i64 0, .int .i64 0] 24)]) (by repeat(first|exact MSub.refl|refine MSub.keep rfl ?_|exact MSub.nil|apply MSub.drop)) fun w0 hw0 => ?_
  have hg70 : g7 < w0.heap.size := hw0.lt ⟨_, .hd⟩
  repeat(first|refine lrun_ ?_|(refine lo_boxA rfl rfl ?_;intro _ _ _)|(refine lo_box1 rfl rfl rfl ?_;intro _ _ _)|(refine lo_alloc rfl ?_;intro _ _ _))
  refine lo_lit (cs := []) rfl (by decide) (by kernel_rfl) rfl ?_
  intro g33 hg33 hg33'
  repeat(first|refine lrun_ ?_|(refine lo_boxA rfl rfl ?_;intro _ _ _)|(refine lo_box1 rfl rfl rfl ?_;intro _ _ _)|(refine lo_alloc rfl ?_;intro _ _ _))
  refine lo_take (M' := [(g7, cb [.int .i64 0, .int .i64 0] 24)]) (by repeat(first|exact MSub.refl|refine MSub.keep rfl ?_|exact MSub.nil|apply MSub.drop)) fun w1 hw1 => ?_
  have hs1 := hw1.kp.size
  have hg7 : g7 < g33 := by omega
  have hO2 := og_lit0 (d := kRune) (F := fun _ => False) (M' := [(g7, cb [.int .i64 0, .int .i64 0] 24)]) hw1 .hd hg33 (fun hm => by rw [MK_iff] at hm; simp at hm; omega)
  refine lo_appendS (d := kRune) (ys := l.getD i []) (F2 := fun k => k < w.heap.size) rfl rfl hO2 (fun w' hw => Kn.sl hw.org (hR.rs i hil).old) (fun j hj ho => by have h8 : g33 = j := Option.some.inj ho; omega) (by show (0 + (l.getD i []).length) * 4 ≤ 140737488355328; have := hk i; omega) rfl rfl rfl rfl ?_
  intro w3 A3 n3 w4 hw3 ko3 kp3 hown hog
  rw [List.nil_append] at hog hown ⊢
  repeat(first|refine lrun_ ?_|(refine lo_boxA rfl rfl ?_;intro _ _ _)|(refine lo_box1 rfl rfl rfl ?_;intro _ _ _)|(refine lo_alloc rfl ?_;intro _ _ _))
  rw [show (i : Int) + 1 = ((i + 1 + 0 : Nat) : Int) by omega]
  refine jr_loop hR hl hk (hk i) (by omega) him hke hks hog ?_ _ (by repeat (first | exact SubB.nil | refine SubB.cons rfl ?_)) _ (by repeat(first|exact MSub.refl|refine MSub.keep rfl ?_|exact MSub.nil|apply MSub.drop))
  intro b Ax cx hOx σ' hs M' hM
  refine WL.sub hs hM ?_
  have hjl := hj
  generalize hse : jnM (l.getD i []) ((l.take (i + m)).drop (i + 1)) (m - 1) = sx at *
  obtain ⟨x, at_⟩ := sx
  simp only at hOx hjl
  dsimp only
  have hob := hOx.block
  repeat(first|refine lrun_ ?_|(refine lo_boxA rfl rfl ?_;intro _ _ _)|(refine lo_box1 rfl rfl rfl ?_;intro _ _ _)|(refine lo_alloc rfl ?_;intro _ _ _))
  refine lo_callM (n_call rfl) rfl (fun w' hw => twinT_calls (Sl.pre (Kn.sl hw.org hR.sl) (by omega) (by omega))) ?_
  rintro w5 tv w6 hw5 kn5 ko5 ⟨us0, hT0⟩
  have hs5 := hw5.kp.size
  have hs5o := hw5.org.size
  have hlm : ∀ k, MK [(g7, cb [.int .i64 0, .int .i64 0] 24)] k → k < w5.heap.size := fun k hm => hw5.lt hm
  have htl : (l.take i).length = i := by rw [List.length_take]; omega
  have htb := hT0.t.block
  obtain ⟨At, ct, rfl, _, _⟩ := hT0.form
  have hx6 : Og kRune w w6 (MK [(g7, cb [.int .i64 0, .int .i64 0] 24)]) (fun _ => False) (.slice Ax x.length cx) x := Kp.ow kn5 (hOx.now (fun _ h => h.elim) hw5) (fun _ _ h => h) fun _ h => h.elim
  repeat(first|refine lrun_ ?_|(refine lo_boxA rfl rfl ?_;intro _ _ _)|(refine lo_box1 rfl rfl rfl ?_;intro _ _ _)|(refine lo_alloc rfl ?_;intro _ _ _))
  refine lo_lit (cs := [.slice Ax x.length cx]) rfl (by decide) (by kernel_rfl) rfl ?_
  intro g102 _ hg102
  refine lo_tabPush (r := x) rfl rfl ((hT0.mono (G' := fre w (MK [(g7, cb [.int .i64 0, .int .i64 0] 24)])) fun k hk _ => ⟨by unfold noB at hk; omega, fun hm => by have := hlm k hm; unfold noB at hk; omega⟩).less (L' := fun t => t < (l.take i).length) fun _ _ => trivial) (by(repeat(first|exact MIn.hd|refine MIn.tl ?_));done) (hx6.nW.mono (fun k hk _ => ⟨hk.1, fun e => by have := (htb k e).1; have := (hob k hk.2).2; unfold noB at *; omega⟩) fun _ h _ => h) (Nat.lt_irrefl _) (fun t u2 k ht hu hk1 hk2 => by have := (hT0.blk trivial hu hk1).1; have := (hob k hk2).2; unfold noB at *; omega) (by omega) rfl rfl ?_
  intro w7 A4 n4 w8 hw7 ko7 kp7 hT4
  have hT5 := hT4.all fun t ht => by
    rw [List.length_append] at ht
    show t < _ ∨ t = _
    simp only [List.length_cons, List.length_nil] at ht
    omega
  repeat(first|refine lops_ ?_|(refine lo_boxA rfl rfl ?_;intro _ _ _)|(refine lo_box1 rfl rfl rfl ?_;intro _ _ _)|(refine lo_alloc rfl ?_;intro _ _ _))
  refine lo_nil ?_
  refine l_baseM (M3 := [(g7, cb [.int .i64 0, .int .i64 0] 24)]) (by repeat(first|exact MSub.refl|refine MSub.keep rfl ?_|exact MSub.nil|apply MSub.drop)) fun w9 hw9 => ?_
  have hT9 := (hT5.kp hw9.kp fun k hk hm => hk.2 hm).mono (G' := fre w (MK [(g7, cb [.int .i64 0, .int .i64 0] 24)])) fun k hk _ => ⟨hk.1, fun ⟨o, hm⟩ => hk.2 ⟨o, .tl hm⟩⟩
  have hO9 : Og kRow w w9 (MK [(g7, cb [.int .i64 0, .int .i64 0] 24)]) (fre w (MK [(g7, cb [.int .i64 0, .int .i64 0] 24)])) _ (l.take i ++ [x]) := hT9.ow fun _ _ => trivial
  have hob9 := hO9.block
  have hlx : (l.take i ++ [x]).length = i + 1 := by rw [List.length_append, htl]; rfl
  repeat(first|refine lrun_ ?_|(refine lo_boxA rfl rfl ?_;intro _ _ _)|(refine lo_box1 rfl rfl rfl ?_;intro _ _ _)|(refine lo_alloc rfl ?_;intro _ _ _))
  refine lo_suf rfl rfl (by omega) him hc rfl ?_
  refine lo_callM (n_call rfl) rfl (fun w' hw => twinT_calls (Sl.cutV (d := kRow) (Kn.sl hw.org hR.sl) him (Nat.le_refl _) hc (Nat.le_refl _))) ?_
  rw [List.take_length]
  rintro wa tv2 wb hwa kna koa ⟨us2, hT2⟩
  have hsa := hwa.kp.size
  have hsao := hwa.org.size
  have hlm2 : ∀ k, MK [(g7, cb [.int .i64 0, .int .i64 0] 24)] k → k < wa.heap.size := fun k hm => hwa.lt hm
  have hOb : Og kRow w wb (MK [(g7, cb [.int .i64 0, .int .i64 0] 24)]) (fre w (MK [(g7, cb [.int .i64 0, .int .i64 0] 24)])) (.slice A4 (l.take i ++ [x]).length n4) (l.take i ++ [x]) := Kp.ow kna (Kp.ow hwa.kp hO9 (fun k hk => hk.2) fun k hk => hk.2) (fun _ _ h => h) fun _ _ h => h
  have hT2s := (hT2.ow fun _ _ => trivial).slF (F' := noB wa) (fun _ h => h) fun _ h => h
  obtain ⟨A2, c2, rfl, _, _⟩ := hT2.form
  have hdl : (l.drop (i + m)).length ≤ 4096 := by rw [List.length_drop]; omega
  refine lo_append (d := kRow) (F := fre w (MK [(g7, cb [.int .i64 0, .int .i64 0] 24)])) (F2 := noB wa) rfl rfl hOb (fun k hk => hk.2) (fun w' hw => Kp.sl hw.kp hT2s fun k hk hm => by have := hlm2 k hm; unfold noB at hk; omega) (fun k hk e => by have := (hob9 k e).2; unfold noB at hk; omega) (by show ((l.take i ++ [x]).length + (l.drop (i + m)).length) * 24 ≤ 140737488355328; omega) rfl rfl rfl rfl ?_
  intro wc v4 wd hwc koc kpc hown4 hog4
  obtain ⟨A5, c5, rfl, _, _⟩ := hog4.form
  have hO4 : Og kRow w wd (MK [(g7, cb [.int .i64 0, .int .i64 0] 24)]) (fre w (MK [(g7, cb [.int .i64 0, .int .i64 0] 24)])) (.slice A5 (l.take i ++ [x] ++ l.drop (i + m)).length c5) (l.take i ++ [x] ++ l.drop (i + m)) := hog4.mono (fun k hk _ => hk) fun k hk _ => hk.elim id fun h => ⟨by unfold noB at h; omega, fun hm => by have := hlm2 k hm; unfold noB at h; omega⟩
  repeat(first|refine lrun_ ?_|(refine lo_boxA rfl rfl ?_;intro _ _ _)|(refine lo_box1 rfl rfl rfl ?_;intro _ _ _)|(refine lo_alloc rfl ?_;intro _ _ _))
  refine lo_call (n_call rfl) rfl (fun w' hw => clipR_calls (p := ((i : Int), (at_ : Int))) (Kp.sl hw.kp hO4.sl fun k hk => hk.elim (·.2) (·.2)) ⟨by simp only; omega, by have := hjl.2; simp only; omega⟩) ?_
  repeat(first|refine lrun_ ?_|(refine lo_boxA rfl rfl ?_;intro _ _ _)|(refine lo_box1 rfl rfl rfl ?_;intro _ _ _)|(refine lo_alloc rfl ?_;intro _ _ _))
  refine l_retR3 rfl (by repeat(first|exact LRes.nil|refine LRes.tmp rfl ?_|refine LRes.agg rfl (by(repeat(first|exact MIn.hd|refine MIn.tl ?_));done) (by rfl) (by rfl) ?_|refine LRes.one rfl (by(repeat(first|exact MIn.hd|refine MIn.tl ?_));done) (by rfl) ?_)) fun w' hw => ⟨hw.org, .slice A5 (l.take i ++ [x] ++ l.drop (i + m)).length c5, rfl, ?_⟩
  exact (Kp.ow hw.kp hO4 (fun k hk => hk.2) fun k hk => hk.2).mono (fun k hk _ => hk.1) fun k hk _ => hk.1
end
end Go.Ink
