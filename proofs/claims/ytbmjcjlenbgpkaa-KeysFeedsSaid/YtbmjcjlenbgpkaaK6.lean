/-
  The parser: New, Held; one that is none.
-/
import Derived.Test.YtbmjcjlenbgpkaaK5
import Derived.Test.YtbmjcjlenbgpkaaV1
set_option linter.unusedVariables false
set_option linter.unusedSimpArgs false
namespace Go.Ink
open Go Go.Proofs Go.RowKit

section
variable {D : Nat → Prop} {g : Nat} {w w' : World} {s : Pst}
theorem newP_calls : CallsR Try.prog 23 #[] w fun u w' => Kn w w' ∧ ∃ g, u = .pointer (some ⟨g, 0, none⟩) ∧ IsPr (noB w) g w' pst0 := by
  refine l_enter (args := []) (fun _ => False) Try.func23 rfl rfl ?_
  repeat(first|refine lrun_ ?_|(refine lo_boxA rfl rfl ?_;intro _ _ _)|(refine lo_box1 rfl rfl rfl ?_;intro _ _ _)|(refine lo_alloc rfl ?_;intro _ _ _))
  refine lo_rn (fun _ => r_makeI rfl) rfl ?_
  repeat(first|refine lrun_ ?_|(refine lo_boxA rfl rfl ?_;intro _ _ _)|(refine lo_box1 rfl rfl rfl ?_;intro _ _ _)|(refine lo_alloc rfl ?_;intro _ _ _))
  rename_i g hg _
  exact l_ret1 rfl rfl fun w' hw => ⟨hw.org, g, rfl, by unfold noB; omega, _, hw.mem g _ (by(repeat(first|exact MIn.hd|refine MIn.tl ?_));done), Ow.nil _ _ _ _⟩
theorem held_calls (h : IsPr D g w s) : CallsR Try.prog 21 #[.pointer (some ⟨g, 0, none⟩)] w fun u w' => Kn w w' ∧ Ow kRune (noB w) (fun _ => False) w' u s.held := by
  obtain ⟨hDg, vh, hb, hO⟩ := h
  have c0 : w.cell? ⟨g, 0, none⟩ = some vh := blk_cell hb
  refine l_enter (args := [.pointer (some ⟨g, 0, none⟩)]) (fun _ => False) Try.func21 rfl rfl ?_
  repeat(first|refine lrun_ ?_|(refine lo_boxA rfl rfl ?_;intro _ _ _)|(refine lo_box1 rfl rfl rfl ?_;intro _ _ _)|(refine lo_alloc rfl ?_;intro _ _ _))
  refine l_false rfl ?_
  refine l_go .skip ?_
  repeat(first|refine lrun_ ?_|(refine lo_boxA rfl rfl ?_;intro _ _ _)|(refine lo_box1 rfl rfl rfl ?_;intro _ _ _)|(refine lo_alloc rfl ?_;intro _ _ _))
  refine lo_callM (n_call rfl) rfl (fun w' hw => clone_calls (Kn.sl hw.org hO.sl)) ?_
  intro w1 u w2 hw1 kn1 ko1 hU
  have hs1 := hw1.org.size
  repeat(first|refine lrun_ ?_|(refine lo_boxA rfl rfl ?_;intro _ _ _)|(refine lo_box1 rfl rfl rfl ?_;intro _ _ _)|(refine lo_alloc rfl ?_;intro _ _ _))
  exact l_ret1 rfl rfl fun w' hw => ⟨hw.org, (Kp.ow hw.kp hU (fun k _ => mk_nil) fun _ h => h.elim).mono (fun k hk _ => by unfold noB at *; omega) fun _ h _ => h⟩
theorem heldN : CallsR Try.prog 21 #[.pointer none] w fun u w' => Kn w w' ∧ u = .slice none 0 0 := by
  refine l_enter (args := [.pointer none]) (fun _ => False) Try.func21 rfl rfl ?_
  repeat(first|refine lrun_ ?_|(refine lo_boxA rfl rfl ?_;intro _ _ _)|(refine lo_box1 rfl rfl rfl ?_;intro _ _ _)|(refine lo_alloc rfl ?_;intro _ _ _))
  refine l_true rfl ?_
  repeat(first|refine lrun_ ?_|(refine lo_boxA rfl rfl ?_;intro _ _ _)|(refine lo_box1 rfl rfl rfl ?_;intro _ _ _)|(refine lo_alloc rfl ?_;intro _ _ _))
  exact l_ret1 rfl rfl fun w' hw => ⟨hw.org, rfl⟩
theorem feedN {r : Int} {v : Bool} : CallsR Try.prog 20 #[.pointer none, .int .i32 r, .bool v] w fun u w' => Kn w w' ∧ u = .tuple #[.agg (cmdL cmd0).toArray, .int .i64 2] := by
  refine l_enter (args := [.pointer none, .int .i32 r, .bool v]) (fun _ => False) Try.func20 rfl rfl ?_
  repeat(first|refine lrun_ ?_|(refine lo_boxA rfl rfl ?_;intro _ _ _)|(refine lo_box1 rfl rfl rfl ?_;intro _ _ _)|(refine lo_alloc rfl ?_;intro _ _ _))
  refine l_true rfl ?_
  repeat(first|refine lrun_ ?_|(refine lo_boxA rfl rfl ?_;intro _ _ _)|(refine lo_box1 rfl rfl rfl ?_;intro _ _ _)|(refine lo_alloc rfl ?_;intro _ _ _))
  exact l_retR2 rfl (by repeat(first|exact LRes.nil|refine LRes.tmp rfl ?_|refine LRes.agg rfl (by(repeat(first|exact MIn.hd|refine MIn.tl ?_));done) (by rfl) (by rfl) ?_|refine LRes.one rfl (by(repeat(first|exact MIn.hd|refine MIn.tl ?_));done) (by rfl) ?_)) fun w' hw => ⟨hw.org, rfl⟩
end
end Go.Ink
