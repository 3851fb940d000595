/-
  The reference: there, ends, has, parted.
  The reference: parted.
  The reference: Take; Same and Twin of registers.
-/
import Derived.Test.YtepjngapfmfkeaaQA
import Derived.Test.YtepjngapfmfkeaaW2r
import Derived.Test.YtepjngapfmfkeaaW3
import Derived.Test.YtepjngapfmfkeaaTb
import Derived.Test.YtepjngapfmfkeaaTw
import Derived.Test.YtepjngapfmfkeaaV2
import Derived.Test.YtepjngapfmfkeaaLap
set_option linter.unusedVariables false
set_option linter.unusedSimpArgs false
namespace Go.Ink
open Go Go.Proofs Go.RowKit

section
variable {F : Nat → Prop} {w : World} {v : Value} {l : List (List Int)} {r : Rg} {p : Ps}
set_option maxHeartbeats 8000000 in
theorem thereR_calls (h : Sl kRow F w v l) (hr : RgP r) : CallsR Try.prog 42 #[v, rgV r] w fun u w' => Kn w w' ∧ u = .int .i64 (thereR l r) := by
  obtain ⟨A, c, e⟩ : ∃ A c, v = .slice A l.length c := by obtain ⟨A, c, e, _⟩ := h.form; exact ⟨A, c, e⟩
  subst e
  obtain ⟨fr, to, k⟩ := r
  refine l_enter (fun _ => False) Try.func42 rfl rfl ?_
  by_cases h1 : k < 0
  · rw [show thereR l ⟨fr, to, k⟩ = 1 from if_pos (.inl h1)]
    repeat(first|refine lrun_ ?_|(refine lo_boxA rfl rfl ?_;intro _ _ _)|(refine lo_box1 rfl rfl rfl ?_;intro _ _ _)|(refine lo_alloc rfl ?_;intro _ _ _))
    refine l_true rfl ?_
    repeat(first|refine lrun_ ?_|(refine lo_boxA rfl rfl ?_;intro _ _ _)|(refine lo_box1 rfl rfl rfl ?_;intro _ _ _)|(refine lo_alloc rfl ?_;intro _ _ _))
    exact l_ret1 rfl rfl fun w' hw => ⟨hw.org, rfl⟩
  by_cases h2 : 2 < k
  · rw [show thereR l ⟨fr, to, k⟩ = 1 from if_pos (.inr h2)]
    repeat(first|refine lrun_ ?_|(refine lo_boxA rfl rfl ?_;intro _ _ _)|(refine lo_box1 rfl rfl rfl ?_;intro _ _ _)|(refine lo_alloc rfl ?_;intro _ _ _))
    refine l_yes rfl h2 ?_
    repeat(first|refine lrun_ ?_|(refine lo_boxA rfl rfl ?_;intro _ _ _)|(refine lo_box1 rfl rfl rfl ?_;intro _ _ _)|(refine lo_alloc rfl ?_;intro _ _ _))
    exact l_ret1 rfl rfl fun w' hw => ⟨hw.org, rfl⟩
  have e0 : thereR l ⟨fr, to, k⟩ = if l = [] ∨ clipM l fr ≠ fr ∨ clipM l to ≠ to then 2 else 0 := if_neg (fun h => h.elim h1 h2)
  by_cases h3 : l.length = 0
  · rw [e0, if_pos (.inl (List.length_eq_zero_iff.1 h3))]
    repeat(first|refine lrun_ ?_|(refine lo_boxA rfl rfl ?_;intro _ _ _)|(refine lo_box1 rfl rfl rfl ?_;intro _ _ _)|(refine lo_alloc rfl ?_;intro _ _ _))
    refine l_no rfl h2 ?_
    refine l_go .skip ?_
    repeat(first|refine lrun_ ?_|(refine lo_boxA rfl rfl ?_;intro _ _ _)|(refine lo_box1 rfl rfl rfl ?_;intro _ _ _)|(refine lo_alloc rfl ?_;intro _ _ _))
    refine l_draw [(0, 0), (1, 0), (2, 0), (3, 0), (4, 0), (5, 0), (6, 0), (8, 0), (9, 0), (7, 1), (10, 0), (11, 0), (12, 0), (13, 0), (14, 0), (15, 0), (17, 0), (18, 0), (16, 1), (19, 0), (20, 0)] (by kernel_rfl) (by kernel_rfl) rfl (by kernel_rfl) ?_
    repeat(first|refine lrund_ ?_|(refine ld_open rfl ?_;first|(refine ld_boxA rfl wy_ rfl ?_;intro _ _ _)|(refine ld_box1 rfl rfl wy_ rfl ?_;intro _ _ _)|(refine ld_alloc wy_ rfl ?_;intro _ _ _)))
    refine l_true rfl ?_
    repeat(first|refine lrun_ ?_|(refine lo_boxA rfl rfl ?_;intro _ _ _)|(refine lo_box1 rfl rfl rfl ?_;intro _ _ _)|(refine lo_alloc rfl ?_;intro _ _ _))
    exact l_ret1 rfl rfl fun w' hw => ⟨hw.org, rfl⟩
  have h3' : l ≠ [] := fun e => h3 (by rw [e]; rfl)
  by_cases h4 : clipM l fr = fr
  case neg =>
    have h4' : ¬ ((clipM l fr).1 = fr.1 ∧ (clipM l fr).2 = fr.2) := fun h => h4 (Prod.ext h.1 h.2)
    rw [e0, if_pos (.inr (.inl h4))]
    repeat(first|refine lrun_ ?_|(refine lo_boxA rfl rfl ?_;intro _ _ _)|(refine lo_box1 rfl rfl rfl ?_;intro _ _ _)|(refine lo_alloc rfl ?_;intro _ _ _))
    refine l_no rfl h2 ?_
    refine l_go .skip ?_
    repeat(first|refine lrun_ ?_|(refine lo_boxA rfl rfl ?_;intro _ _ _)|(refine lo_box1 rfl rfl rfl ?_;intro _ _ _)|(refine lo_alloc rfl ?_;intro _ _ _))
    refine l_draw [(0, 0), (1, 0), (2, 0), (3, 0), (4, 0), (5, 0), (6, 0), (8, 0), (9, 0), (7, 1), (10, 0), (11, 0), (12, 0), (13, 0), (14, 0), (15, 0), (17, 0), (18, 0), (16, 1), (19, 0), (20, 0)] (by kernel_rfl) (by kernel_rfl) rfl (by kernel_rfl) ?_
    repeat(first|refine lrund_ ?_|(refine ld_open rfl ?_;first|(refine ld_boxA rfl wy_ rfl ?_;intro _ _ _)|(refine ld_box1 rfl rfl wy_ rfl ?_;intro _ _ _)|(refine ld_alloc wy_ rfl ?_;intro _ _ _)))
    refine ld_open rfl ?_; refine ld_call (n_call rfl) wy_ rfl (fun w' hw => clipR_calls (Kn.sl hw.org h) hr.fr) ?_
    repeat(first|refine lrund_ ?_|(refine ld_open rfl ?_;first|(refine ld_boxA rfl wy_ rfl ?_;intro _ _ _)|(refine ld_box1 rfl rfl wy_ rfl ?_;intro _ _ _)|(refine ld_alloc wy_ rfl ?_;intro _ _ _)))
    refine l_true rfl ?_
    repeat(first|refine lrun_ ?_|(refine lo_boxA rfl rfl ?_;intro _ _ _)|(refine lo_box1 rfl rfl rfl ?_;intro _ _ _)|(refine lo_alloc rfl ?_;intro _ _ _))
    exact l_ret1 rfl rfl fun w' hw => ⟨hw.org, rfl⟩
  by_cases h5 : clipM l to = to
  case neg =>
    have h5' : ¬ ((clipM l to).1 = to.1 ∧ (clipM l to).2 = to.2) := fun h => h5 (Prod.ext h.1 h.2)
    rw [e0, if_pos (.inr (.inr h5))]
    repeat(first|refine lrun_ ?_|(refine lo_boxA rfl rfl ?_;intro _ _ _)|(refine lo_box1 rfl rfl rfl ?_;intro _ _ _)|(refine lo_alloc rfl ?_;intro _ _ _))
    refine l_no rfl h2 ?_
    refine l_go .skip ?_
    repeat(first|refine lrun_ ?_|(refine lo_boxA rfl rfl ?_;intro _ _ _)|(refine lo_box1 rfl rfl rfl ?_;intro _ _ _)|(refine lo_alloc rfl ?_;intro _ _ _))
    refine l_draw [(0, 0), (1, 0), (2, 0), (3, 0), (4, 0), (5, 0), (6, 0), (8, 0), (9, 0), (7, 1), (10, 0), (11, 0), (12, 0), (13, 0), (14, 0), (15, 0), (17, 0), (18, 0), (16, 1), (19, 0), (20, 0)] (by kernel_rfl) (by kernel_rfl) rfl (by kernel_rfl) ?_
    repeat(first|refine lrund_ ?_|(refine ld_open rfl ?_;first|(refine ld_boxA rfl wy_ rfl ?_;intro _ _ _)|(refine ld_box1 rfl rfl wy_ rfl ?_;intro _ _ _)|(refine ld_alloc wy_ rfl ?_;intro _ _ _)))
    refine ld_open rfl ?_; refine ld_call (n_call rfl) wy_ rfl (fun w' hw => clipR_calls (Kn.sl hw.org h) hr.fr) ?_
    rw [h4]
    repeat(first|refine lrund_ ?_|(refine ld_open rfl ?_;first|(refine ld_boxA rfl wy_ rfl ?_;intro _ _ _)|(refine ld_box1 rfl rfl wy_ rfl ?_;intro _ _ _)|(refine ld_alloc wy_ rfl ?_;intro _ _ _)))
    refine ld_open rfl ?_; refine ld_call (n_call rfl) wy_ rfl (fun w' hw => clipR_calls (Kn.sl hw.org h) hr.to) ?_
    repeat(first|refine lrund_ ?_|(refine ld_open rfl ?_;first|(refine ld_boxA rfl wy_ rfl ?_;intro _ _ _)|(refine ld_box1 rfl rfl wy_ rfl ?_;intro _ _ _)|(refine ld_alloc wy_ rfl ?_;intro _ _ _)))
    refine l_yes rfl h5' ?_
    repeat(first|refine lrun_ ?_|(refine lo_boxA rfl rfl ?_;intro _ _ _)|(refine lo_box1 rfl rfl rfl ?_;intro _ _ _)|(refine lo_alloc rfl ?_;intro _ _ _))
    exact l_ret1 rfl rfl fun w' hw => ⟨hw.org, rfl⟩
  rw [e0, if_neg (fun h => h.elim h3' fun h => h.elim (fun h => h h4) fun h => h h5)]
  repeat(first|refine lrun_ ?_|(refine lo_boxA rfl rfl ?_;intro _ _ _)|(refine lo_box1 rfl rfl rfl ?_;intro _ _ _)|(refine lo_alloc rfl ?_;intro _ _ _))
  refine l_no rfl h2 ?_
  refine l_go .skip ?_
  repeat(first|refine lrun_ ?_|(refine lo_boxA rfl rfl ?_;intro _ _ _)|(refine lo_box1 rfl rfl rfl ?_;intro _ _ _)|(refine lo_alloc rfl ?_;intro _ _ _))
  refine l_draw [(0, 0), (1, 0), (2, 0), (3, 0), (4, 0), (5, 0), (6, 0), (8, 0), (9, 0), (7, 1), (10, 0), (11, 0), (12, 0), (13, 0), (14, 0), (15, 0), (17, 0), (18, 0), (16, 1), (19, 0), (20, 0)] (by kernel_rfl) (by kernel_rfl) rfl (by kernel_rfl) ?_
  repeat(first|refine lrund_ ?_|(refine ld_open rfl ?_;first|(refine ld_boxA rfl wy_ rfl ?_;intro _ _ _)|(refine ld_box1 rfl rfl wy_ rfl ?_;intro _ _ _)|(refine ld_alloc wy_ rfl ?_;intro _ _ _)))
  refine ld_open rfl ?_; refine ld_call (n_call rfl) wy_ rfl (fun w' hw => clipR_calls (Kn.sl hw.org h) hr.fr) ?_
  rw [h4]
  repeat(first|refine lrund_ ?_|(refine ld_open rfl ?_;first|(refine ld_boxA rfl wy_ rfl ?_;intro _ _ _)|(refine ld_box1 rfl rfl wy_ rfl ?_;intro _ _ _)|(refine ld_alloc wy_ rfl ?_;intro _ _ _)))
  refine ld_open rfl ?_; refine ld_call (n_call rfl) wy_ rfl (fun w' hw => clipR_calls (Kn.sl hw.org h) hr.to) ?_
  rw [h5]
  repeat(first|refine lrund_ ?_|(refine ld_open rfl ?_;first|(refine ld_boxA rfl wy_ rfl ?_;intro _ _ _)|(refine ld_box1 rfl rfl wy_ rfl ?_;intro _ _ _)|(refine ld_alloc wy_ rfl ?_;intro _ _ _)))
  refine l_no rfl (fun h => h ⟨rfl, rfl⟩) ?_
  refine l_go .skip ?_
  repeat(first|refine lrun_ ?_|(refine lo_boxA rfl rfl ?_;intro _ _ _)|(refine lo_box1 rfl rfl rfl ?_;intro _ _ _)|(refine lo_alloc rfl ?_;intro _ _ _))
  exact l_ret1 rfl rfl fun w' hw => ⟨hw.org, rfl⟩
set_option maxHeartbeats 4000000 in
theorem ends_calls : CallsR Try.prog 43 #[rgV r] w fun u w' => Kn w w' ∧ u = .tuple #[posV (endsR r).1, posV (endsR r).2] := by
  obtain ⟨fr, to, k⟩ := r
  refine l_enter (fun _ => False) Try.func43 rfl rfl ?_
  unfold endsR
  repeat(first|refine lrun_ ?_|(refine lo_boxA rfl rfl ?_;intro _ _ _)|(refine lo_box1 rfl rfl rfl ?_;intro _ _ _)|(refine lo_alloc rfl ?_;intro _ _ _))
  rename_i g1 _ _ g2 _ _ g3 _ _
  refine lo_call (n_call rfl) rfl (fun w' hw => ahead_calls (p := to) (q := fr)) ?_
  cases ha : aheadM to fr with
  | true =>
    rw [if_pos rfl]
    repeat(first|refine lrun_ ?_|(refine lo_boxA rfl rfl ?_;intro _ _ _)|(refine lo_box1 rfl rfl rfl ?_;intro _ _ _)|(refine lo_alloc rfl ?_;intro _ _ _))
    refine l_true rfl ?_
    repeat(first|refine lrun_ ?_|(refine lo_boxA rfl rfl ?_;intro _ _ _)|(refine lo_box1 rfl rfl rfl ?_;intro _ _ _)|(refine lo_alloc rfl ?_;intro _ _ _))
    refine l_drawQ [g3, g2] (by repeat(first|exact MPart.nil|apply MPart.turn|apply MPart.keep)) [(0, 0), (1, 0), (2, 0), (3, 0), (4, 1), (5, 1)] (by kernel_rfl) (by kernel_rfl) rfl (by kernel_rfl) ?_
    repeat(refine lrunq_ ?_)
    exact l_retR2 rfl (by repeat(first|exact LRes.nil|refine LRes.tmp rfl ?_|refine LRes.agg rfl (by(repeat(first|exact MIn.hd|refine MIn.tl ?_));done) (by rfl) (by rfl) ?_|refine LRes.one rfl (by(repeat(first|exact MIn.hd|refine MIn.tl ?_));done) (by rfl) ?_)) fun w' hw => ⟨hw.org, rfl⟩
  | false =>
    rw [if_neg (by decide)]
    repeat(first|refine lrun_ ?_|(refine lo_boxA rfl rfl ?_;intro _ _ _)|(refine lo_box1 rfl rfl rfl ?_;intro _ _ _)|(refine lo_alloc rfl ?_;intro _ _ _))
    refine l_false rfl ?_
    refine l_go .skip ?_
    repeat(first|refine lrun_ ?_|(refine lo_boxA rfl rfl ?_;intro _ _ _)|(refine lo_box1 rfl rfl rfl ?_;intro _ _ _)|(refine lo_alloc rfl ?_;intro _ _ _))
    refine l_drawQ [g3, g2] (by repeat(first|exact MPart.nil|apply MPart.turn|apply MPart.keep)) [(0, 0), (1, 0), (2, 0), (3, 0), (4, 1), (5, 1)] (by kernel_rfl) (by kernel_rfl) rfl (by kernel_rfl) ?_
    repeat(refine lrunq_ ?_)
    exact l_retR2 rfl (by repeat(first|exact LRes.nil|refine LRes.tmp rfl ?_|refine LRes.agg rfl (by(repeat(first|exact MIn.hd|refine MIn.tl ?_));done) (by rfl) (by rfl) ?_|refine LRes.one rfl (by(repeat(first|exact MIn.hd|refine MIn.tl ?_));done) (by rfl) ?_)) fun w' hw => ⟨hw.org, rfl⟩
set_option maxHeartbeats 8000000 in
theorem has_calls : CallsR Try.prog 70 #[rgV r, posV p] w fun u w' => Kn w w' ∧ u = .bool (hasR r p) := by
  refine l_enter (fun _ => False) Try.func70 rfl rfl ?_
  repeat(first|refine lrun_ ?_|(refine lo_boxA rfl rfl ?_;intro _ _ _)|(refine lo_box1 rfl rfl rfl ?_;intro _ _ _)|(refine lo_alloc rfl ?_;intro _ _ _))
  refine lo_call (n_call rfl) rfl (fun w' hw => ends_calls (r := r)) ?_
  generalize hae : (endsR r).1 = a
  generalize hbe : (endsR r).2 = b
  obtain ⟨a1, a2⟩ := a
  obtain ⟨b1, b2⟩ := b
  repeat(first|refine lrun_ ?_|(refine lo_boxA rfl rfl ?_;intro _ _ _)|(refine lo_box1 rfl rfl rfl ?_;intro _ _ _)|(refine lo_alloc rfl ?_;intro _ _ _))
  by_cases h0 : r.kind = 0
  · have e : hasR r p = (!aheadM p (a1, a2) && !aheadM (b1, b2) p) := by unfold hasR; rw [if_pos h0, hae, hbe]
    rw [e]
    refine l_yes rfl h0 ?_
    repeat(first|refine lrun_ ?_|(refine lo_boxA rfl rfl ?_;intro _ _ _)|(refine lo_box1 rfl rfl rfl ?_;intro _ _ _)|(refine lo_alloc rfl ?_;intro _ _ _))
    refine lo_call (n_call rfl) rfl (fun w' hw => ahead_calls (p := p) (q := (a1, a2))) ?_
    cases h1 : aheadM p (a1, a2) with
    | true =>
      repeat(first|refine lrun_ ?_|(refine lo_boxA rfl rfl ?_;intro _ _ _)|(refine lo_box1 rfl rfl rfl ?_;intro _ _ _)|(refine lo_alloc rfl ?_;intro _ _ _))
      exact l_ret1 rfl rfl fun w' hw => ⟨hw.org, rfl⟩
    | false =>
      repeat(first|refine lrun_ ?_|(refine lo_boxA rfl rfl ?_;intro _ _ _)|(refine lo_box1 rfl rfl rfl ?_;intro _ _ _)|(refine lo_alloc rfl ?_;intro _ _ _))
      refine lo_call (n_call rfl) rfl (fun w' hw => ahead_calls (p := (b1, b2)) (q := p)) ?_
      repeat(first|refine lrun_ ?_|(refine lo_boxA rfl rfl ?_;intro _ _ _)|(refine lo_box1 rfl rfl rfl ?_;intro _ _ _)|(refine lo_alloc rfl ?_;intro _ _ _))
      exact l_ret1 rfl rfl fun w' hw => ⟨hw.org, by simp⟩
  by_cases h1 : r.kind = 1
  · have e : hasR r p = decide (a1 ≤ p.1 ∧ p.1 ≤ b1) := by unfold hasR; rw [if_neg h0, if_pos h1, hae, hbe]
    rw [e]
    refine l_no rfl h0 ?_
    repeat(first|refine lrun_ ?_|(refine lo_boxA rfl rfl ?_;intro _ _ _)|(refine lo_box1 rfl rfl rfl ?_;intro _ _ _)|(refine lo_alloc rfl ?_;intro _ _ _))
    refine l_yes rfl h1 ?_
    by_cases h2 : a1 ≤ p.1
    · rw [show decide (a1 ≤ p.1 ∧ p.1 ≤ b1) = decide (p.1 ≤ b1) from decide_eq_decide.2 ⟨fun h => h.2, fun h => ⟨h2, h⟩⟩]
      repeat(first|refine lrun_ ?_|(refine lo_boxA rfl rfl ?_;intro _ _ _)|(refine lo_box1 rfl rfl rfl ?_;intro _ _ _)|(refine lo_alloc rfl ?_;intro _ _ _))
      exact l_ret1 rfl rfl fun w' hw => ⟨hw.org, rfl⟩
    · rw [show decide (a1 ≤ p.1 ∧ p.1 ≤ b1) = false from decide_eq_false fun h => h2 h.1]
      repeat(first|refine lrun_ ?_|(refine lo_boxA rfl rfl ?_;intro _ _ _)|(refine lo_box1 rfl rfl rfl ?_;intro _ _ _)|(refine lo_alloc rfl ?_;intro _ _ _))
      exact l_ret1 rfl rfl fun w' hw => ⟨hw.org, rfl⟩
  have e : hasR r p = decide ((a1 ≤ p.1 ∧ p.1 ≤ b1) ∧ (if b2 < a2 then b2 else a2) ≤ p.2 ∧ p.2 ≤ (if a2 < b2 then b2 else a2)) := by unfold hasR; rw [if_neg h0, if_neg h1, hae, hbe]
  rw [e]
  refine l_no rfl h0 ?_
  repeat(first|refine lrun_ ?_|(refine lo_boxA rfl rfl ?_;intro _ _ _)|(refine lo_box1 rfl rfl rfl ?_;intro _ _ _)|(refine lo_alloc rfl ?_;intro _ _ _))
  refine l_no rfl h1 ?_
  refine l_go .skip ?_
  by_cases h2 : a1 ≤ p.1
  case neg =>
    rw [show decide ((a1 ≤ p.1 ∧ p.1 ≤ b1) ∧ (if b2 < a2 then b2 else a2) ≤ p.2 ∧ p.2 ≤ (if a2 < b2 then b2 else a2)) = false from decide_eq_false fun h => h2 h.1.1]
    repeat(first|refine lrun_ ?_|(refine lo_boxA rfl rfl ?_;intro _ _ _)|(refine lo_box1 rfl rfl rfl ?_;intro _ _ _)|(refine lo_alloc rfl ?_;intro _ _ _))
    exact l_ret1 rfl rfl fun w' hw => ⟨hw.org, rfl⟩
  by_cases h3 : p.1 ≤ b1
  case neg =>
    rw [show decide ((a1 ≤ p.1 ∧ p.1 ≤ b1) ∧ (if b2 < a2 then b2 else a2) ≤ p.2 ∧ p.2 ≤ (if a2 < b2 then b2 else a2)) = false from decide_eq_false fun h => h3 h.1.2]
    repeat(first|refine lrun_ ?_|(refine lo_boxA rfl rfl ?_;intro _ _ _)|(refine lo_box1 rfl rfl rfl ?_;intro _ _ _)|(refine lo_alloc rfl ?_;intro _ _ _))
    exact l_ret1 rfl rfl fun w' hw => ⟨hw.org, rfl⟩
  by_cases h4 : (if b2 < a2 then b2 else a2) ≤ p.2
  case neg =>
    rw [show decide ((a1 ≤ p.1 ∧ p.1 ≤ b1) ∧ (if b2 < a2 then b2 else a2) ≤ p.2 ∧ p.2 ≤ (if a2 < b2 then b2 else a2)) = false from decide_eq_false fun h => h4 h.2.1]
    repeat(first|refine lrun_ ?_|(refine lo_boxA rfl rfl ?_;intro _ _ _)|(refine lo_box1 rfl rfl rfl ?_;intro _ _ _)|(refine lo_alloc rfl ?_;intro _ _ _))
    exact l_ret1 rfl rfl fun w' hw => ⟨hw.org, rfl⟩
  rw [show decide ((a1 ≤ p.1 ∧ p.1 ≤ b1) ∧ (if b2 < a2 then b2 else a2) ≤ p.2 ∧ p.2 ≤ (if a2 < b2 then b2 else a2)) = decide (p.2 ≤ (if a2 < b2 then b2 else a2)) from decide_eq_decide.2 ⟨fun h => h.2.2, fun h => ⟨⟨h2, h3⟩, h4, h⟩⟩]
  repeat(first|refine lrun_ ?_|(refine lo_boxA rfl rfl ?_;intro _ _ _)|(refine lo_box1 rfl rfl rfl ?_;intro _ _ _)|(refine lo_alloc rfl ?_;intro _ _ _))
  exact l_ret1 rfl rfl fun w' hw => ⟨hw.org, rfl⟩
end
end Go.Ink

set_option linter.unusedVariables false
set_option linter.unusedSimpArgs false
namespace Go.Ink
open Go Go.Proofs Go.RowKit

theorem mk_eq {M M' : Mm} (h : M.map (·.1) = M'.map (·.1)) {k : Nat} : MK M k ↔ MK M' k := by rw [MK_iff, MK_iff, h]
section
variable {F : Nat → Prop} {w : World} {v : Value} {l : List (List Int)} {r : Rg} {i : Nat}
set_option maxHeartbeats 8000000 in
theorem parted_calls (h : Sl kRow F w v l) (hi : i < l.length) (hb : (l.getD i []).length ≤ 1048576) :
    CallsR Try.prog 44 #[v, .int .i64 (i : Int), rgV r] w fun u w' => Kn w w' ∧ ∃ s t, u = .tuple #[s, t] ∧ Ow kRune (noB w) (fun _ => False) w' s (pinM (l.getD i []) (fun k => hasR r ((i : Int), (k : Int))) (l.getD i []).length) ∧ Ow kRune (noB w) (fun _ => False) w' t (poutM (l.getD i []) (fun k => hasR r ((i : Int), (k : Int))) (l.getD i []).length) := by
  obtain ⟨A, c, ad, rV, rc, ra, rfl, hR⟩ := h.rws
  have hlen := hR.len
  refine l_enter (fun _ => False) Try.func44 rfl rfl ?_
  repeat(first|refine lrun_ ?_|(refine lo_boxA rfl rfl ?_;intro _ _ _)|(refine lo_box1 rfl rfl rfl ?_;intro _ _ _)|(refine lo_alloc rfl ?_;intro _ _ _))
  rename_i g5 _ _
  generalize hrow : l.getD i [] = row at *
  generalize hP : (fun k : Nat => hasR r ((i : Int), (k : Int))) = P
  have hPk : ∀ k : Nat, hasR r ((i : Int), (k : Int)) = P k := fun k => by rw [← hP]
  refine l_whileB (fun s : Nat × Option Addr × Nat × Option Addr × Nat => row.length - s.1) (fun s => [(0, .slice A l.length c), (1, .int .i64 i), (5, .pointer (some ⟨g5, 0, none⟩)), (8, .slice s.2.1 (pinM row P s.1).length s.2.2.1), (9, .slice s.2.2.2.1 (poutM row P s.1).length s.2.2.2.2), (10, .int .i64 (s.1 : Int))]) (fun _ => [(g5, cb [.int .i64 r.fr.1, .int .i64 r.fr.2, .int .i64 r.to.1, .int .i64 r.to.2, .int .i64 r.kind] 26)])
    (fun s b => s.1 ≤ row.length ∧ Og kRune w b (MK [(g5, cb [.int .i64 r.fr.1, .int .i64 r.fr.2, .int .i64 r.to.1, .int .i64 r.to.2, .int .i64 r.kind] 26)]) (fun _ => False) (.slice s.2.1 (pinM row P s.1).length s.2.2.1) (pinM row P s.1) ∧ Og kRune w b (MK [(g5, cb [.int .i64 r.fr.1, .int .i64 r.fr.2, .int .i64 r.to.1, .int .i64 r.to.2, .int .i64 r.kind] 26)]) (fun _ => False) (.slice s.2.2.2.1 (poutM row P s.1).length s.2.2.2.2) (poutM row P s.1) ∧ ∀ k, (Value.slice s.2.1 (pinM row P s.1).length s.2.2.1).ownBlock = some k → (Value.slice s.2.2.2.1 (poutM row P s.1).length s.2.2.2.2).ownBlock ≠ some k) (0, none, 0, none, 0) (by repeat (first | exact SubB.nil | refine SubB.cons rfl ?_)) (by repeat(first|exact MSub.refl|refine MSub.keep rfl ?_|exact MSub.nil|apply MSub.drop)) (fun w' hw => ⟨Nat.zero_le _, Ow.nil _ _ _ _, Ow.nil _ _ _ _, fun k e => by cases e⟩) ?_
  rintro ⟨k, A1, c1, A2, c2⟩ b ⟨hk, hO1, hO2, hne⟩ hkb ih
  simp only at hk hO1 hO2 hne
  have hpl := pin_len row P k
  dsimp only
  by_cases hlt : k < row.length
  · have hlt2 : k < (l.getD i []).length := by rw [hrow]; exact hlt
    have hlo := ((hR.rs i hi).rns).choose_spec.choose_spec.choose_spec.2.lo k
    rw [hrow] at hlo
    have hb1 := hO1.block
    have hb2 := hO2.block
    cases hPc : P k with
    | true =>
      have e1 : pinM row P (k + 1) = pinM row P k ++ [row.getD k 0] := by rw [pin_succ, hPc, if_pos rfl]
      have e2 : poutM row P (k + 1) = poutM row P k := by rw [pout_succ, hPc, if_pos rfl, List.append_nil]
      repeat(first|refine lrun_ ?_|(refine lo_boxA rfl rfl ?_;intro _ _ _)|(refine lo_box1 rfl rfl rfl ?_;intro _ _ _)|(refine lo_alloc rfl ?_;intro _ _ _))
      rw [hrow]
      refine l_yes rfl (by omega) ?_
      repeat(first|refine lrun_ ?_|(refine lo_boxA rfl rfl ?_;intro _ _ _)|(refine lo_box1 rfl rfl rfl ?_;intro _ _ _)|(refine lo_alloc rfl ?_;intro _ _ _))
      refine lo_call (n_call rfl) rfl (fun w' hw => has_calls (r := r) (p := ((i : Int), (k : Int)))) ?_
      rw [hPk, hPc]
      repeat(first|refine lrun_ ?_|(refine lo_boxA rfl rfl ?_;intro _ _ _)|(refine lo_box1 rfl rfl rfl ?_;intro _ _ _)|(refine lo_alloc rfl ?_;intro _ _ _))
      refine l_true rfl ?_
      repeat(first|refine lrun_ ?_|(refine lo_boxA rfl rfl ?_;intro _ _ _)|(refine lo_box1 rfl rfl rfl ?_;intro _ _ _)|(refine lo_alloc rfl ?_;intro _ _ _))
      rw [hrow]
      refine lo_lit (cs := [.int .i32 (row.getD k 0)]) rfl (by decide) (by kernel_rfl) rfl ?_
      intro g9 _ _
      refine lo_append1 (d := kRune) (q := row.getD k 0) rfl rfl hO1 (fun _ h => h.elim) (by(repeat(first|exact MIn.hd|refine MIn.tl ?_));done) (fun w' hw => ⟨rfl, hlo⟩) (by show ((pinM row P k).length + 1) * 4 ≤ 140737488355328; omega) rfl rfl rfl rfl ?_
      intro w3 A3 c3 w4 hw3 hk3 hk4 hown hog
      have hO2' : Ow kRune (fre w (MK [(g5, cb [.int .i64 r.fr.1, .int .i64 r.fr.2, .int .i64 r.to.1, .int .i64 r.to.2, .int .i64 r.kind] 26)])) (fun _ => False) w4 (.slice A2 (poutM row P k).length c2) (poutM row P k) := hO2.keep fun j hj => hk4.block j (hb2 j hj).2 fun h => h.elim (hb2 j hj).1.2 fun h => hne j h hj
      repeat(first|refine lops_ ?_|(refine lo_boxA rfl rfl ?_;intro _ _ _)|(refine lo_box1 rfl rfl rfl ?_;intro _ _ _)|(refine lo_alloc rfl ?_;intro _ _ _))
      refine lo_nil ?_
      refine l_baseM (M3 := [(g5, cb [.int .i64 r.fr.1, .int .i64 r.fr.2, .int .i64 r.to.1, .int .i64 r.to.2, .int .i64 r.kind] 26)]) (by repeat(first|exact MSub.refl|refine MSub.keep rfl ?_|exact MSub.nil|apply MSub.drop)) fun w5 hw5 => ?_
      have hog5 : Og kRune w w5 (MK [(g5, cb [.int .i64 r.fr.1, .int .i64 r.fr.2, .int .i64 r.to.1, .int .i64 r.to.2, .int .i64 r.kind] 26)]) (fun _ => False) (.slice A3 (pinM row P k ++ [row.getD k 0]).length c3) (pinM row P k ++ [row.getD k 0]) := (hog.now (fun _ h => h.elim) hw5).mono (fun j hj _ => ⟨hj.1, fun ⟨o, hm⟩ => hj.2 ⟨o, .tl hm⟩⟩) fun _ h _ => h
      have hO5 : Og kRune w w5 (MK [(g5, cb [.int .i64 r.fr.1, .int .i64 r.fr.2, .int .i64 r.to.1, .int .i64 r.to.2, .int .i64 r.kind] 26)]) (fun _ => False) (.slice A2 (poutM row P k).length c2) (poutM row P k) := hO2'.keep fun j hj => hw5.kp.block j (by have := (hb2 j hj).2; have := hkb; exact ((hO2'.block j hj).2)) fun ⟨o, hm⟩ => by
        cases hm with
        | hd => have := (hb2 _ hj).2; have := hw3.kp.size; omega
        | tl hm => exact (hb2 j hj).1.2 ⟨o, hm⟩
      have hdj : ∀ j, (Value.slice A3 (pinM row P k ++ [row.getD k 0]).length c3).ownBlock = some j → (Value.slice A2 (poutM row P k).length c2).ownBlock ≠ some j := fun j hj hj2 => by
        rcases hown j hj with h | h
        · exact hne j h hj2
        · have := (hb2 j hj2).2; have := hw3.kp.size; omega
      repeat(first|refine lrun_ ?_|(refine lo_boxA rfl rfl ?_;intro _ _ _)|(refine lo_box1 rfl rfl rfl ?_;intro _ _ _)|(refine lo_alloc rfl ?_;intro _ _ _))
      refine ih (k + 1, A3, c3, A2, c2) w5 _ ⟨hlt, by simp only [e1]; exact hog5, by simp only [e2]; exact hO5, by simp only [e1, e2]; exact hdj⟩ (by simp only; omega) _ _ (by simp only [e1, e2]; exact (by repeat (first | exact SubB.nil | refine SubB.cons rfl ?_))) (by repeat(first|exact MSub.refl|refine MSub.keep rfl ?_|exact MSub.nil|apply MSub.drop)) (fun w' hw' => ⟨hlt, by simp only [e1]; exact hog5.now (fun _ h => h.elim) hw', by simp only [e2]; exact hO5.now (fun _ h => h.elim) hw', by simp only [e1, e2]; exact hdj⟩)
    | false =>
      have e1 : pinM row P (k + 1) = pinM row P k := by rw [pin_succ, hPc, if_neg (by decide), List.append_nil]
      have e2 : poutM row P (k + 1) = poutM row P k ++ [row.getD k 0] := by rw [pout_succ, hPc, if_neg (by decide)]
      repeat(first|refine lrun_ ?_|(refine lo_boxA rfl rfl ?_;intro _ _ _)|(refine lo_box1 rfl rfl rfl ?_;intro _ _ _)|(refine lo_alloc rfl ?_;intro _ _ _))
      rw [hrow]
      refine l_yes rfl (by omega) ?_
      repeat(first|refine lrun_ ?_|(refine lo_boxA rfl rfl ?_;intro _ _ _)|(refine lo_box1 rfl rfl rfl ?_;intro _ _ _)|(refine lo_alloc rfl ?_;intro _ _ _))
      refine lo_call (n_call rfl) rfl (fun w' hw => has_calls (r := r) (p := ((i : Int), (k : Int)))) ?_
      rw [hPk, hPc]
      repeat(first|refine lrun_ ?_|(refine lo_boxA rfl rfl ?_;intro _ _ _)|(refine lo_box1 rfl rfl rfl ?_;intro _ _ _)|(refine lo_alloc rfl ?_;intro _ _ _))
      refine l_false rfl ?_
      repeat(first|refine lrun_ ?_|(refine lo_boxA rfl rfl ?_;intro _ _ _)|(refine lo_box1 rfl rfl rfl ?_;intro _ _ _)|(refine lo_alloc rfl ?_;intro _ _ _))
      rw [hrow]
      refine lo_lit (cs := [.int .i32 (row.getD k 0)]) rfl (by decide) (by kernel_rfl) rfl ?_
      intro g9 _ _
      refine lo_append1 (d := kRune) (q := row.getD k 0) rfl rfl hO2 (fun _ h => h.elim) (by(repeat(first|exact MIn.hd|refine MIn.tl ?_));done) (fun w' hw => ⟨rfl, hlo⟩) (by show ((poutM row P k).length + 1) * 4 ≤ 140737488355328; omega) rfl rfl rfl rfl ?_
      intro w3 A3 c3 w4 hw3 hk3 hk4 hown hog
      have hO1' : Ow kRune (fre w (MK [(g5, cb [.int .i64 r.fr.1, .int .i64 r.fr.2, .int .i64 r.to.1, .int .i64 r.to.2, .int .i64 r.kind] 26)])) (fun _ => False) w4 (.slice A1 (pinM row P k).length c1) (pinM row P k) := hO1.keep fun j hj => hk4.block j (hb1 j hj).2 fun h => h.elim (hb1 j hj).1.2 fun h => hne j hj h
      repeat(first|refine lops_ ?_|(refine lo_boxA rfl rfl ?_;intro _ _ _)|(refine lo_box1 rfl rfl rfl ?_;intro _ _ _)|(refine lo_alloc rfl ?_;intro _ _ _))
      refine lo_nil ?_
      refine l_baseM (M3 := [(g5, cb [.int .i64 r.fr.1, .int .i64 r.fr.2, .int .i64 r.to.1, .int .i64 r.to.2, .int .i64 r.kind] 26)]) (by repeat(first|exact MSub.refl|refine MSub.keep rfl ?_|exact MSub.nil|apply MSub.drop)) fun w5 hw5 => ?_
      have hog5 : Og kRune w w5 (MK [(g5, cb [.int .i64 r.fr.1, .int .i64 r.fr.2, .int .i64 r.to.1, .int .i64 r.to.2, .int .i64 r.kind] 26)]) (fun _ => False) (.slice A3 (poutM row P k ++ [row.getD k 0]).length c3) (poutM row P k ++ [row.getD k 0]) := (hog.now (fun _ h => h.elim) hw5).mono (fun j hj _ => ⟨hj.1, fun ⟨o, hm⟩ => hj.2 ⟨o, .tl hm⟩⟩) fun _ h _ => h
      have hO5 : Og kRune w w5 (MK [(g5, cb [.int .i64 r.fr.1, .int .i64 r.fr.2, .int .i64 r.to.1, .int .i64 r.to.2, .int .i64 r.kind] 26)]) (fun _ => False) (.slice A1 (pinM row P k).length c1) (pinM row P k) := hO1'.keep fun j hj => hw5.kp.block j ((hO1'.block j hj).2) fun ⟨o, hm⟩ => by
        cases hm with
        | hd => have := (hb1 _ hj).2; have := hw3.kp.size; omega
        | tl hm => exact (hb1 j hj).1.2 ⟨o, hm⟩
      have hdj : ∀ j, (Value.slice A1 (pinM row P k).length c1).ownBlock = some j → (Value.slice A3 (poutM row P k ++ [row.getD k 0]).length c3).ownBlock ≠ some j := fun j hj hj2 => by
        rcases hown j hj2 with h | h
        · exact hne j hj h
        · have := (hb1 j hj).2; have := hw3.kp.size; omega
      repeat(first|refine lrun_ ?_|(refine lo_boxA rfl rfl ?_;intro _ _ _)|(refine lo_box1 rfl rfl rfl ?_;intro _ _ _)|(refine lo_alloc rfl ?_;intro _ _ _))
      refine ih (k + 1, A1, c1, A3, c3) w5 _ ⟨hlt, by simp only [e1]; exact hO5, by simp only [e2]; exact hog5, by simp only [e1, e2]; exact hdj⟩ (by simp only; omega) _ _ (by simp only [e1, e2]; exact (by repeat (first | exact SubB.nil | refine SubB.cons rfl ?_))) (by repeat(first|exact MSub.refl|refine MSub.keep rfl ?_|exact MSub.nil|apply MSub.drop)) (fun w' hw' => ⟨hlt, by simp only [e1]; exact hO5.now (fun _ h => h.elim) hw', by simp only [e2]; exact hog5.now (fun _ h => h.elim) hw', by simp only [e1, e2]; exact hdj⟩)
  · obtain rfl : k = row.length := by omega
    repeat(first|refine lrun_ ?_|(refine lo_boxA rfl rfl ?_;intro _ _ _)|(refine lo_box1 rfl rfl rfl ?_;intro _ _ _)|(refine lo_alloc rfl ?_;intro _ _ _))
    rw [hrow]
    refine l_no rfl (by omega) ?_
    refine l_go (.exit rfl) ?_
    repeat(first|refine lrun_ ?_|(refine lo_boxA rfl rfl ?_;intro _ _ _)|(refine lo_box1 rfl rfl rfl ?_;intro _ _ _)|(refine lo_alloc rfl ?_;intro _ _ _))
    exact l_retR2 rfl (by repeat(first|exact LRes.nil|refine LRes.tmp rfl ?_|refine LRes.agg rfl (by(repeat(first|exact MIn.hd|refine MIn.tl ?_));done) (by rfl) (by rfl) ?_|refine LRes.one rfl (by(repeat(first|exact MIn.hd|refine MIn.tl ?_));done) (by rfl) ?_)) fun w7 hw => ⟨hw.org, _, _, rfl, (hO1.now (fun _ h => h.elim) hw).mono (fun k hk _ => hk.1) fun _ h _ => h, (hO2.now (fun _ h => h.elim) hw).mono (fun k hk _ => hk.1) fun _ h _ => h⟩
end
end Go.Ink

set_option linter.unusedVariables false
set_option linter.unusedSimpArgs false
namespace Go.Ink
open Go Go.Proofs Go.RowKit

section
variable {F : Nat → Prop} {w B : World} {A : Option Addr} {c : Nat} {l : List (List Int)} {r : Rg} {a b : Ps} {g3 g4 g7 g8 g9 : Nat} {kk : List Item} {R : Value → World → Prop}
set_option maxHeartbeats 8000000 in
theorem rt_loop (h : Sl kRow F w (.slice A l.length c) l) (hr : RgOk l r) (ha : (endsR r).1 = a) (hb : (endsR r).2 = b) (hl : l.length ≤ 4096) (hk : ∀ j, (l.getD j []).length ≤ 1048576) {i0 n : Nat} (ha0 : a.1 = (i0 : Int)) (hn : b.1 + 1 = ((i0 + n : Nat) : Int)) (hin : i0 + n ≤ l.length)
    (done : ∀ (bw : World) (s : Value) (us : List Value), Tab (fun k => w.heap.size ≤ k ∧ k ≠ g9 ∧ k ≠ g8 ∧ k ≠ g7 ∧ k ≠ g4 ∧ k ≠ g3) (fun _ => True) bw s us (gatM (inR l r) i0 n) → ∀ σ', SubB σ' [(4, .pointer (some ⟨g4, 0, none⟩)), (9, .pointer (some ⟨g9, 0, none⟩))] → ∀ M', MSub [(g9, cb [.int .i64 r.kind, s] 30), (g8, cb [.int .i64 b.1, .int .i64 b.2] 24), (g7, cb [.int .i64 a.1, .int .i64 a.2] 24), (g4, cb [.int .i64 0, .slice none 0 0] 30), (g3, cb [.int .i64 r.fr.1, .int .i64 r.fr.2, .int .i64 r.to.1, .int .i64 r.to.2, .int .i64 r.kind] 26)] M' → WL Try.prog Try.f14 kk σ' w (fun _ => False) bw (MK [(g9, cb [.int .i64 r.kind, s] 30), (g8, cb [.int .i64 b.1, .int .i64 b.2] 24), (g7, cb [.int .i64 a.1, .int .i64 a.2] 24), (g4, cb [.int .i64 0, .slice none 0 0] 30), (g3, cb [.int .i64 r.fr.1, .int .i64 r.fr.2, .int .i64 r.to.1, .int .i64 r.to.2, .int .i64 r.kind] 26)]) M' R) :
    ∀ σ', SubB σ' [(0, .slice A l.length c), (3, .pointer (some ⟨g3, 0, none⟩)), (4, .pointer (some ⟨g4, 0, none⟩)), (8, .pointer (some ⟨g8, 0, none⟩)), (9, .pointer (some ⟨g9, 0, none⟩)), (10, .int .i64 ((i0 + 0 : Nat) : Int))] → ∀ M', MSub [(g9, cb [.int .i64 r.kind, .slice none 0 0] 30), (g8, cb [.int .i64 b.1, .int .i64 b.2] 24), (g7, cb [.int .i64 a.1, .int .i64 a.2] 24), (g4, cb [.int .i64 0, .slice none 0 0] 30), (g3, cb [.int .i64 r.fr.1, .int .i64 r.fr.2, .int .i64 r.to.1, .int .i64 r.to.2, .int .i64 r.kind] 26)] M' →
      WL Try.prog Try.f14 (.code (.loop (bodyC Try.f14 [1, 1, 1, 1, 1, 0, 1, 0, 0])) :: .inBlock 0 :: kk) σ' w (fun _ => False) B (MK [(g9, cb [.int .i64 r.kind, .slice none 0 0] 30), (g8, cb [.int .i64 b.1, .int .i64 b.2] 24), (g7, cb [.int .i64 a.1, .int .i64 a.2] 24), (g4, cb [.int .i64 0, .slice none 0 0] 30), (g3, cb [.int .i64 r.fr.1, .int .i64 r.fr.2, .int .i64 r.to.1, .int .i64 r.to.2, .int .i64 r.kind] 26)]) M' R := by
  intro σ' hs M' hM
  refine WL.sub hs hM ?_
  have hmk : ∀ (s : Value) k, ¬ MK [(g9, cb [.int .i64 r.kind, s] 30), (g8, cb [.int .i64 b.1, .int .i64 b.2] 24), (g7, cb [.int .i64 a.1, .int .i64 a.2] 24), (g4, cb [.int .i64 0, .slice none 0 0] 30), (g3, cb [.int .i64 r.fr.1, .int .i64 r.fr.2, .int .i64 r.to.1, .int .i64 r.to.2, .int .i64 r.kind] 26)] k ↔ (k ≠ g9 ∧ k ≠ g8 ∧ k ≠ g7 ∧ k ≠ g4 ∧ k ≠ g3) := fun s k => by
    rw [MK_iff]; simp
  refine l_whileB (fun s : Nat × Option Addr × Nat × List Value => n - s.1) (fun s => [(0, .slice A l.length c), (3, .pointer (some ⟨g3, 0, none⟩)), (4, .pointer (some ⟨g4, 0, none⟩)), (8, .pointer (some ⟨g8, 0, none⟩)), (9, .pointer (some ⟨g9, 0, none⟩)), (10, .int .i64 ((i0 + s.1 : Nat) : Int))]) (fun s => [(g9, cb [.int .i64 r.kind, .slice s.2.1 (gatM (inR l r) i0 s.1).length s.2.2.1] 30), (g8, cb [.int .i64 b.1, .int .i64 b.2] 24), (g7, cb [.int .i64 a.1, .int .i64 a.2] 24), (g4, cb [.int .i64 0, .slice none 0 0] 30), (g3, cb [.int .i64 r.fr.1, .int .i64 r.fr.2, .int .i64 r.to.1, .int .i64 r.to.2, .int .i64 r.kind] 26)])
    (fun s bw => s.1 ≤ n ∧ Tab (fun k => w.heap.size ≤ k ∧ k ≠ g9 ∧ k ≠ g8 ∧ k ≠ g7 ∧ k ≠ g4 ∧ k ≠ g3) (fun _ => True) bw (.slice s.2.1 (gatM (inR l r) i0 s.1).length s.2.2.1) s.2.2.2 (gatM (inR l r) i0 s.1)) (0, none, 0, []) (by repeat (first | exact SubB.nil | refine SubB.cons rfl ?_)) (by repeat(first|exact MSub.refl|refine MSub.keep rfl ?_|exact MSub.nil|apply MSub.drop)) (fun w' hw => ⟨Nat.zero_le _, Tab.nil _ _ _⟩) ?_
  rintro ⟨j, A1, c1, us⟩ bw ⟨hj, hT⟩ hkb ih
  simp only at hj hT
  have hgl := gat_len (inR l r) i0 j
  dsimp only
  by_cases hlt : j < n
  · have hil : i0 + j < l.length := by omega
    have hpe := parted_eq (l := l) (i := i0 + j) hr (by rw [ha, ha0]; omega) (by rw [hb]; omega)
    repeat(first|refine lrun_ ?_|(refine lo_boxA rfl rfl ?_;intro _ _ _)|(refine lo_box1 rfl rfl rfl ?_;intro _ _ _)|(refine lo_alloc rfl ?_;intro _ _ _))
    refine l_yes rfl (by omega) ?_
    repeat(first|refine lrun_ ?_|(refine lo_boxA rfl rfl ?_;intro _ _ _)|(refine lo_box1 rfl rfl rfl ?_;intro _ _ _)|(refine lo_alloc rfl ?_;intro _ _ _))
    refine lo_callM (n_call rfl) rfl (fun w' hw => parted_calls (r := r) (i := i0 + j) (Kn.sl hw.org h) hil (hk _)) ?_
    rintro w1 _ w2 hw1 kn1 ko1 ⟨s, t, rfl, hOs, _⟩
    rw [hpe.1] at hOs
    obtain ⟨As, cs, rfl, _, _⟩ := hOs.form
    have hs1 := hw1.kp.size
    have hs1o := hw1.org.size
    have hsb := hOs.block
    have hT1 := (hT.less (L' := fun i => i < (gatM (inR l r) i0 j).length) fun _ _ => trivial).bound
    have hT2 := (hT1.kp hw1.kp fun k hk hm => (hmk _ k).2 hk.1.2 hm).kn kn1
    have hT3 := hT2.mono (G' := fre w (MK [(g9, cb [.int .i64 r.kind, .slice A1 (gatM (inR l r) i0 j).length c1] 30), (g8, cb [.int .i64 b.1, .int .i64 b.2] 24), (g7, cb [.int .i64 a.1, .int .i64 a.2] 24), (g4, cb [.int .i64 0, .slice none 0 0] 30), (g3, cb [.int .i64 r.fr.1, .int .i64 r.fr.2, .int .i64 r.to.1, .int .i64 r.to.2, .int .i64 r.kind] 26)])) fun k hk _ => ⟨hk.1.1, (hmk _ k).2 hk.1.2⟩
    have hvb : ∀ k, (Value.slice A1 (gatM (inR l r) i0 j).length c1).ownBlock = some k → k < bw.heap.size := fun k hk => (hT1.t.block k hk).2
    have hrb : ∀ i u2 k, i < (gatM (inR l r) i0 j).length → us[i]? = some u2 → u2.ownBlock = some k → k < bw.heap.size := fun i u2 k hi hu hk => (hT1.blk hi hu hk).2.1
    have hlm : ∀ k, MK [(g9, cb [.int .i64 r.kind, .slice A1 (gatM (inR l r) i0 j).length c1] 30), (g8, cb [.int .i64 b.1, .int .i64 b.2] 24), (g7, cb [.int .i64 a.1, .int .i64 a.2] 24), (g4, cb [.int .i64 0, .slice none 0 0] 30), (g3, cb [.int .i64 r.fr.1, .int .i64 r.fr.2, .int .i64 r.to.1, .int .i64 r.to.2, .int .i64 r.kind] 26)] k → k < w1.heap.size := fun k hm => hw1.lt hm
    repeat(first|refine lrun_ ?_|(refine lo_boxA rfl rfl ?_;intro _ _ _)|(refine lo_box1 rfl rfl rfl ?_;intro _ _ _)|(refine lo_alloc rfl ?_;intro _ _ _))
    refine lo_lit (cs := [.slice As (inR l r (i0 + j)).length cs]) rfl (by decide) (by kernel_rfl) rfl ?_
    intro g46 _ hg46
    refine lo_tabPush (r := inR l r (i0 + j)) rfl rfl hT3 (by(repeat(first|exact MIn.hd|refine MIn.tl ?_));done) (hOs.nE.mono (fun k hk _ => ⟨⟨by have := hk.1; unfold noB at this; omega, fun hm => by have := hlm k hm; have := hk.1; unfold noB at this; omega⟩, fun e => by have := hvb k e; have := hk.1; unfold noB at this; omega⟩) fun _ h _ => h) (Nat.lt_irrefl _) (fun i u2 k hi hu hk hk2 => by have := hrb i u2 k hi hu hk; have := (hsb k hk2).1; unfold noB at this; omega) (by omega) rfl rfl ?_
    intro w3 A4 n4 w4 hw3 ko3 kp3 hT4
    have eg : gatM (inR l r) i0 j ++ [inR l r (i0 + j)] = gatM (inR l r) i0 (j + 1) := rfl
    rw [eg] at hT4 ⊢
    have hT5 := (hT4.all fun i hi => by rw [gat_len] at hi; rw [hgl]; omega).mono (G' := fun k => (w.heap.size ≤ k ∧ k ≠ g9 ∧ k ≠ g8 ∧ k ≠ g7 ∧ k ≠ g4 ∧ k ≠ g3) ∧ k ≠ g46) fun k hk _ => ⟨⟨hk.1, (hmk (.slice A1 (gatM (inR l r) i0 j).length c1) k).1 fun ⟨o, hm⟩ => hk.2 ⟨o, .tl hm⟩⟩, fun e => hk.2 ⟨_, by subst e; exact .hd⟩⟩
    clear hT hT1 hT2 hT3 hT4
    repeat(first|refine lrun_ ?_|(refine lo_boxA rfl rfl ?_;intro _ _ _)|(refine lo_box1 rfl rfl rfl ?_;intro _ _ _)|(refine lo_alloc rfl ?_;intro _ _ _))
    refine l_baseM (M3 := [(g9, cb [.int .i64 r.kind, .slice A4 (gatM (inR l r) i0 (j + 1)).length n4] 30), (g8, cb [.int .i64 b.1, .int .i64 b.2] 24), (g7, cb [.int .i64 a.1, .int .i64 a.2] 24), (g4, cb [.int .i64 0, .slice none 0 0] 30), (g3, cb [.int .i64 r.fr.1, .int .i64 r.fr.2, .int .i64 r.to.1, .int .i64 r.to.2, .int .i64 r.kind] 26)]) (by repeat(first|exact MSub.refl|refine MSub.keep rfl ?_|exact MSub.nil|apply MSub.drop)) fun w5 hw5 => ?_
    have hT6 := (hT5.kp hw5.kp fun k hk hm => by
      rcases mk_app (A := [(g46, _)]).1 hm with ⟨o, hm⟩ | hm
      · cases hm with
        | hd => exact hk.2 rfl
        | tl hm => cases hm
      · exact (hmk _ k).2 hk.1.2 hm).mono (G' := fun k => w.heap.size ≤ k ∧ k ≠ g9 ∧ k ≠ g8 ∧ k ≠ g7 ∧ k ≠ g4 ∧ k ≠ g3) fun k hk _ => hk.1
    rw [show ((i0 + j : Nat) : Int) + 1 = ((i0 + (j + 1) : Nat) : Int) by omega]
    exact ih (j + 1, A4, n4, _) w5 _ ⟨hlt, hT6⟩ (by simp only; omega) _ _ (by repeat (first | exact SubB.nil | refine SubB.cons rfl ?_)) (by repeat(first|exact MSub.refl|refine MSub.keep rfl ?_|exact MSub.nil|apply MSub.drop)) fun w' hw' => ⟨hlt, hT6.kp hw'.kp fun k hk hm => (hmk _ k).2 hk.2 hm⟩
  · obtain rfl : j = n := by omega
    repeat(first|refine lrun_ ?_|(refine lo_boxA rfl rfl ?_;intro _ _ _)|(refine lo_box1 rfl rfl rfl ?_;intro _ _ _)|(refine lo_alloc rfl ?_;intro _ _ _))
    refine l_no rfl (by omega) ?_
    refine l_go (.exit rfl) ?_
    exact done bw _ us hT _ (by repeat (first | exact SubB.nil | refine SubB.cons rfl ?_)) _ (by repeat(first|exact MSub.refl|refine MSub.keep rfl ?_|exact MSub.nil|apply MSub.drop))
end
section
variable {F : Nat → Prop} {w : World} {v : Value} {l : List (List Int)} {r : Rg}
set_option maxHeartbeats 8000000 in
theorem takeR_calls (h : Sl kRow F w v l) (hr : RgP r) (hl : l.length ≤ 4096) (hk : ∀ j, (l.getD j []).length ≤ 1048576) :
    CallsR Try.prog 14 #[v, rgV r] w fun u w' => Kn w w' ∧ ∃ s, u = .tuple #[.agg #[.int .i64 (if thereR l r = 0 then r.kind else 0), s], .int .i64 (thereR l r)] ∧ Ow kRow (noB w) (noB w) w' s (takeM l r) := by
  obtain ⟨A, c, e⟩ : ∃ A c, v = .slice A l.length c := by obtain ⟨A, c, e, _⟩ := h.form; exact ⟨A, c, e⟩
  subst e
  refine l_enter (fun _ => False) Try.func14 rfl rfl ?_
  repeat(first|refine lrun_ ?_|(refine lo_boxA rfl rfl ?_;intro _ _ _)|(refine lo_box1 rfl rfl rfl ?_;intro _ _ _)|(refine lo_alloc rfl ?_;intro _ _ _))
  rename_i g3 _ _ g4 _ _
  refine lo_call (n_call rfl) rfl (fun w' hw => thereR_calls (Kn.sl hw.org h) hr) ?_
  by_cases h0 : thereR l r = 0
  case neg =>
    unfold takeM
    rw [if_neg h0, if_neg h0]
    repeat(first|refine lrun_ ?_|(refine lo_boxA rfl rfl ?_;intro _ _ _)|(refine lo_box1 rfl rfl rfl ?_;intro _ _ _)|(refine lo_alloc rfl ?_;intro _ _ _))
    refine l_yes rfl h0 ?_
    repeat(first|refine lrun_ ?_|(refine lo_boxA rfl rfl ?_;intro _ _ _)|(refine lo_box1 rfl rfl rfl ?_;intro _ _ _)|(refine lo_alloc rfl ?_;intro _ _ _))
    exact l_retR2 rfl (by repeat(first|exact LRes.nil|refine LRes.tmp rfl ?_|refine LRes.agg rfl (by(repeat(first|exact MIn.hd|refine MIn.tl ?_));done) (by rfl) (by rfl) ?_|refine LRes.one rfl (by(repeat(first|exact MIn.hd|refine MIn.tl ?_));done) (by rfl) ?_)) fun w' hw => ⟨hw.org, _, rfl, Ow.nil _ _ _ _⟩
  have ok := there_ok h0
  have ha1 := ok.a.i
  have hb1 := ok.b.i
  have hle := ok.le
  unfold takeM
  rw [if_pos h0, if_pos h0, h0]
  obtain ⟨i0, hi0⟩ : ∃ i0 : Nat, (endsR r).1.1 = (i0 : Int) := ⟨(endsR r).1.1.toNat, by omega⟩
  obtain ⟨n, hn⟩ : ∃ n : Nat, (endsR r).2.1 + 1 = ((i0 + n : Nat) : Int) := ⟨((endsR r).2.1 + 1 - i0).toNat, by omega⟩
  have e1 : (endsR r).1.1.toNat = i0 := by omega
  have e2 : ((endsR r).2.1 + 1 - (endsR r).1.1).toNat = n := by omega
  rw [e1, e2]
  repeat(first|refine lrun_ ?_|(refine lo_boxA rfl rfl ?_;intro _ _ _)|(refine lo_box1 rfl rfl rfl ?_;intro _ _ _)|(refine lo_alloc rfl ?_;intro _ _ _))
  refine l_no rfl (fun h => h rfl) ?_
  refine l_go .skip ?_
  repeat(first|refine lrun_ ?_|(refine lo_boxA rfl rfl ?_;intro _ _ _)|(refine lo_box1 rfl rfl rfl ?_;intro _ _ _)|(refine lo_alloc rfl ?_;intro _ _ _))
  refine lo_call (n_call rfl) rfl (fun w' hw => ends_calls (r := r)) ?_
  generalize hae : (endsR r).1 = a at *
  generalize hbe : (endsR r).2 = b at *
  obtain ⟨a1, a2⟩ := a
  simp only at hi0
  subst hi0
  repeat(first|refine lrun_ ?_|(refine lo_boxA rfl rfl ?_;intro _ _ _)|(refine lo_box1 rfl rfl rfl ?_;intro _ _ _)|(refine lo_alloc rfl ?_;intro _ _ _))
  rename_i g7 _ _ g8 _ _ g9 _ _
  refine l_baseM (M3 := [(g9, cb [.int .i64 r.kind, .slice none 0 0] 30), (g8, cb [.int .i64 b.1, .int .i64 b.2] 24), (g7, cb [.int .i64 (i0 : Int), .int .i64 a2] 24), (g4, cb [.int .i64 0, .slice none 0 0] 30), (g3, cb [.int .i64 r.fr.1, .int .i64 r.fr.2, .int .i64 r.to.1, .int .i64 r.to.2, .int .i64 r.kind] 26)]) (by repeat(first|exact MSub.refl|refine MSub.keep rfl ?_|exact MSub.nil|apply MSub.drop)) fun w5 hw5 => ?_
  refine rt_loop h ok hae hbe hl hk rfl hn (by omega) ?_ _ (by repeat (first | exact SubB.nil | refine SubB.cons rfl ?_)) _ (by repeat(first|exact MSub.refl|refine MSub.keep rfl ?_|exact MSub.nil|apply MSub.drop))
  intro bw s us hT σ' hs M' hM
  refine WL.sub hs hM ?_
  obtain ⟨As, cs, rfl, _, _⟩ := hT.form
  repeat(first|refine lrun_ ?_|(refine lo_boxA rfl rfl ?_;intro _ _ _)|(refine lo_box1 rfl rfl rfl ?_;intro _ _ _)|(refine lo_alloc rfl ?_;intro _ _ _))
  refine l_retR2 rfl (by repeat(first|exact LRes.nil|refine LRes.tmp rfl ?_|refine LRes.agg rfl (by(repeat(first|exact MIn.hd|refine MIn.tl ?_));done) (by rfl) (by rfl) ?_|refine LRes.one rfl (by(repeat(first|exact MIn.hd|refine MIn.tl ?_));done) (by rfl) ?_)) fun w' hw => ⟨hw.org, _, rfl, ?_⟩
  exact (((hT.kp hw.kp fun k hk hm => by rw [MK_iff] at hm; simp at hm; omega).ow fun _ _ => trivial).mono (fun k hk _ => hk.1) fun k hk _ => hk.1)
/-! ### Registers -/
theorem sameG_calls {F' : Nat → Prop} {u v : Value} {l m : List (List Int)} {a b : Int} (h : Sl kRow F w u l) (h' : Sl kRow F' w v m) : CallsR Try.prog 15 #[.agg #[.int .i64 a, u], .agg #[.int .i64 b, v]] w fun x w' => Kn w w' ∧ x = .bool (decide (a = b ∧ l = m)) := by
  obtain ⟨A, c, rfl, _⟩ := h.form
  obtain ⟨A', c', rfl, _⟩ := h'.form
  refine l_enter (fun _ => False) Try.func15 rfl rfl ?_
  by_cases h0 : a = b
  · rw [show decide (a = b ∧ l = m) = decide (l = m) from decide_eq_decide.2 ⟨fun h => h.2, fun h => ⟨h0, h⟩⟩]
    repeat(first|refine lrun_ ?_|(refine lo_boxA rfl rfl ?_;intro _ _ _)|(refine lo_box1 rfl rfl rfl ?_;intro _ _ _)|(refine lo_alloc rfl ?_;intro _ _ _))
    refine lo_call (n_call rfl) rfl (fun w' hw => same04_calls (Kn.sl hw.org h) (Kn.sl hw.org h')) ?_
    repeat(first|refine lrun_ ?_|(refine lo_boxA rfl rfl ?_;intro _ _ _)|(refine lo_box1 rfl rfl rfl ?_;intro _ _ _)|(refine lo_alloc rfl ?_;intro _ _ _))
    exact l_ret1 rfl rfl fun w' hw => ⟨hw.org, rfl⟩
  · rw [decide_eq_false fun h => h0 h.1]
    repeat(first|refine lrun_ ?_|(refine lo_boxA rfl rfl ?_;intro _ _ _)|(refine lo_box1 rfl rfl rfl ?_;intro _ _ _)|(refine lo_alloc rfl ?_;intro _ _ _))
    exact l_ret1 rfl rfl fun w' hw => ⟨hw.org, rfl⟩
theorem twinG_calls {u : Value} {l : List (List Int)} {a : Int} (h : Sl kRow F w u l) : CallsR Try.prog 21 #[.agg #[.int .i64 a, u]] w fun x w' => Kn w w' ∧ ∃ s us, x = .agg #[.int .i64 a, s] ∧ Tab (noB w) (fun _ => True) w' s us l := by
  obtain ⟨A, c, rfl, _⟩ := h.form
  refine l_enter (fun _ => False) Try.func21 rfl rfl ?_
  repeat(first|refine lrun_ ?_|(refine lo_boxA rfl rfl ?_;intro _ _ _)|(refine lo_box1 rfl rfl rfl ?_;intro _ _ _)|(refine lo_alloc rfl ?_;intro _ _ _))
  rename_i g1 _ _ g2 _ _
  refine l_draw [(0, 0), (1, 0), (2, 0), (3, 0), (4, 1), (5, 0), (6, 1)] (by kernel_rfl) (by kernel_rfl) rfl (by kernel_rfl) ?_
  repeat(first|refine lrund_ ?_|(refine ld_open rfl ?_;first|(refine ld_boxA rfl wy_ rfl ?_;intro _ _ _)|(refine ld_box1 rfl rfl wy_ rfl ?_;intro _ _ _)|(refine ld_alloc wy_ rfl ?_;intro _ _ _)))
  refine ld_open rfl ?_; refine ld_callN (n_call rfl) wy_ rfl (fun w' hw => twinT_calls (Kn.sl hw.org h)) ?_
  rintro w1 s w2 N hw1 kn1 ⟨us, hT⟩ hN
  obtain ⟨As, cs, rfl, _, _⟩ := hT.form
  repeat(first|refine lrund_ ?_|(refine ld_open rfl ?_;first|(refine ld_boxA rfl wy_ rfl ?_;intro _ _ _)|(refine ld_box1 rfl rfl wy_ rfl ?_;intro _ _ _)|(refine ld_alloc wy_ rfl ?_;intro _ _ _)))
  refine ld_open rfl ?_
  refine ld_storeWM (mcat_app (by repeat constructor)) rfl rfl (min_app (by(repeat(first|exact MIn.hd|refine MIn.tl ?_));done)) (by rfl) rfl (by rfl) (by rfl) (mup_app (by first|exact .hd|exact .tl .hd|exact .tl (.tl .hd)|exact .tl (.tl (.tl .hd))|exact .tl (.tl (.tl (.tl .hd)))|exact .tl (.tl (.tl (.tl (.tl .hd))))|exact .tl (.tl (.tl (.tl (.tl (.tl .hd)))))|exact .tl (.tl (.tl (.tl (.tl (.tl (.tl .hd))))))|exact .tl (.tl (.tl (.tl (.tl (.tl (.tl (.tl .hd))))))))) (by kernel_rfl) wy_ rfl ?_
  repeat(first|refine lrund_ ?_|(refine ld_open rfl ?_;first|(refine ld_boxA rfl wy_ rfl ?_;intro _ _ _)|(refine ld_box1 rfl rfl wy_ rfl ?_;intro _ _ _)|(refine ld_alloc wy_ rfl ?_;intro _ _ _)))
  refine l_cover hN fun w3 hw3 ko _ => ?_
  have h1 := hT.move fun k hk hl => hw3 k hk hl
  refine l_retR1 rfl (by repeat(first|exact LRes.nil|refine LRes.tmp rfl ?_|refine LRes.agg rfl (by(repeat(first|exact MIn.hd|refine MIn.tl ?_));done) (by rfl) (by rfl) ?_|refine LRes.one rfl (by(repeat(first|exact MIn.hd|refine MIn.tl ?_));done) (by rfl) ?_)) fun w4 hw => ⟨hw.org, _, us, rfl, ?_⟩
  have hs1 := hw1.org.size
  have h2 := h1.kp hw.kp fun k hk hm => by have := hw1.ltI (by rfl) hm; unfold noB at hk; omega
  exact h2.mono fun k hk _ => by unfold noB at *; omega
end
end Go.Ink
