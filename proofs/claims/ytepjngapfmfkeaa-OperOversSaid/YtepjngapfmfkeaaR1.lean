/-
  awake.
-/
import Derived.Test.YtepjngapfmfkeaaQE
import Derived.Test.YtepjngapfmfkeaaV2
import Derived.Test.YtepjngapfmfkeaaHd
set_option linter.unusedVariables false
set_option linter.unusedSimpArgs false
namespace Go.Ink
open Go Go.Proofs Go.RowKit

set_option maxHeartbeats 8000000 in
theorem awake_calls {w : World} : CallsR Try.prog 17 #[] w fun u w' => Kn w w' ∧ u = .bool true := by
  refine l_enter (args := []) (fun _ => False) Try.func17 rfl rfl ?_
  repeat(first|refine lrun_ ?_|(refine lo_boxA rfl rfl ?_;intro _ _ _)|(refine lo_box1 rfl rfl rfl ?_;intro _ _ _)|(refine lo_alloc rfl ?_;intro _ _ _))
  refine lo_lit (cs := [.int .i32 97, .int .i32 98]) rfl (by decide) (by kernel_rfl) rfl ?_
  intro g14 _ _
  refine lo_lit (cs := [.int .i32 99, .int .i32 100]) rfl (by decide) (by kernel_rfl) rfl ?_
  intro g15 _ _
  refine lo_lit (cs := [.slice (some ⟨g14, 0, none⟩) 2 2, .slice (some ⟨g15, 0, none⟩) 2 2]) rfl (by decide) (by kernel_rfl) rfl ?_
  intro g16 _ _
  repeat(first|refine lops_ ?_|(refine lo_boxA rfl rfl ?_;intro _ _ _)|(refine lo_box1 rfl rfl rfl ?_;intro _ _ _)|(refine lo_alloc rfl ?_;intro _ _ _))
  refine lo_nil ?_
  refine l_baseM (M3 := []) .nil fun w1 hw1 => ?_
  have hl : Hd kRow w1 (MK []) (.slice (some ⟨g16, 0, none⟩) 2 2) [[97, 98], [99, 100]] := Hd.hereNil (F := fun _ => True) (sl_lines2 (hw1.mem g16 _ .hd) trivial (sl_row (xs := [97, 98]) (hw1.mem g14 _ (.tl (.tl .hd))) trivial (by decide) (by decide)) (sl_row (xs := [99, 100]) (hw1.mem g15 _ (.tl .hd)) trivial (by decide) (by decide)))
  clear hw1
  repeat(first|refine lrun_ ?_|(refine lo_boxA rfl rfl ?_;intro _ _ _)|(refine lo_box1 rfl rfl rfl ?_;intro _ _ _)|(refine lo_alloc rfl ?_;intro _ _ _))
  have e1 : thereR [[97, 98], [99, 100]] ⟨(0, 1), (1, 0), 0⟩ = 0 := by decide
  have e2 : takeM [[97, 98], [99, 100]] ⟨(0, 1), (1, 0), 0⟩ = [[98], [99]] := by decide
  refine lo_callM (n_call rfl) rfl (fun w' hw => take_calls (r := ⟨(0, 1), (1, 0), 0⟩) (hl.now hw) ⟨by unfold P64; decide, by unfold P64; decide, by decide⟩ (by decide)) ?_
  rintro w3 _ w4 hw3 kn3 ko3 ⟨sT, rfl, hOT⟩
  rw [e2] at hOT
  have hl := hl.next hw3 kn3
  have hT := Hd.of hOT hw3
  obtain ⟨AT, cT, rfl, _, _⟩ := hOT.form
  clear hOT hw3 kn3 ko3
  rw [e1]
  repeat(first|refine lrun_ ?_|(refine lo_boxA rfl rfl ?_;intro _ _ _)|(refine lo_box1 rfl rfl rfl ?_;intro _ _ _)|(refine lo_alloc rfl ?_;intro _ _ _))
  have e3 : thereR [[97, 98], [99, 100]] ⟨(0, 1), (1, 0), 0⟩ = 0 := e1
  have e4 : cutM [[97, 98], [99, 100]] ⟨(0, 1), (1, 0), 0⟩ = ([[97, 100]], (0, 1)) := by decide
  refine lo_callM (n_call rfl) rfl (fun w' hw => cut_calls (r := ⟨(0, 1), (1, 0), 0⟩) (hl.now hw) ⟨by unfold P64; decide, by unfold P64; decide, by decide⟩ (by decide) (fun j => Nat.le_trans (runes_getD _ j) (by decide)) (by decide)) ?_
  rintro w5 _ w6 hw5 kn5 ko5 ⟨sC, rfl, hOC⟩
  rw [e4] at hOC ⊢
  rw [e3]
  have hl := hl.next hw5 kn5
  have hT := hT.next hw5 kn5
  have hC := Hd.of hOC hw5
  obtain ⟨AC, cC, rfl, _, _⟩ := hOC.form
  clear hOC hw5 kn5 ko5
  repeat(first|refine lrun_ ?_|(refine lo_boxA rfl rfl ?_;intro _ _ _)|(refine lo_box1 rfl rfl rfl ?_;intro _ _ _)|(refine lo_alloc rfl ?_;intro _ _ _))
  refine lo_lit (cs := [.int .i32 120, .int .i32 121]) rfl (by decide) (by kernel_rfl) rfl ?_
  intro g36 _ _
  refine lo_lit (cs := [.slice (some ⟨g36, 0, none⟩) 2 2]) rfl (by decide) (by kernel_rfl) rfl ?_
  intro g37 _ _
  repeat(first|refine lrun_ ?_|(refine lo_boxA rfl rfl ?_;intro _ _ _)|(refine lo_box1 rfl rfl rfl ?_;intro _ _ _)|(refine lo_alloc rfl ?_;intro _ _ _))
  have e5 : pasteM [[97, 98], [99, 100]] (0, 0) 0 [[120, 121]] true 2 = ([[97, 120, 121, 120, 121, 98], [99, 100]], (0, 4), 0) := by decide
  refine lo_callM (n_call rfl) rfl (fun w' hw => paste_calls (F := fun _ => True) (p := (0, 0)) (kd := 0) (g := [[120, 121]]) (behind := true) (n := 2) (hl.now hw) (sl_lines1 (hw.mem g37 _ .hd) trivial (sl_row (xs := [120, 121]) (hw.mem g36 _ (.tl .hd)) trivial (by decide) (by decide))) (by decide) (by decide) (by decide) (by decide) (by unfold P64; decide) (by decide)) ?_
  rintro w7 _ w8 hw7 kn7 ko7 ⟨sP, rfl, hOP⟩
  rw [e5] at hOP ⊢
  have hT := hT.next hw7 kn7
  have hC := hC.next hw7 kn7
  have hP := Hd.of hOP hw7
  obtain ⟨AP, cP, rfl, _, _⟩ := hOP.form
  clear hOP hw7 kn7 ko7 hl
  repeat(first|refine lrun_ ?_|(refine lo_boxA rfl rfl ?_;intro _ _ _)|(refine lo_box1 rfl rfl rfl ?_;intro _ _ _)|(refine lo_alloc rfl ?_;intro _ _ _))
  refine lo_lit (cs := [.int .i32 97]) rfl (by decide) (by kernel_rfl) rfl ?_
  intro g44 _ _
  refine lo_lit (cs := [.int .i32 98]) rfl (by decide) (by kernel_rfl) rfl ?_
  intro g45 _ _
  refine lo_lit (cs := [.slice (some ⟨g44, 0, none⟩) 1 1, .slice (some ⟨g45, 0, none⟩) 1 1]) rfl (by decide) (by kernel_rfl) rfl ?_
  intro g46 _ _
  have e6 : joinM [[97], [98]] 0 2 = ([[97, 32, 98]], (0, 1), 0) := by decide
  refine lo_callM (n_call rfl) rfl (fun w' hw => join_calls (F := fun _ => True) (l := [[97], [98]]) (a := 0) (n := 2) (sl_lines2 (hw.mem g46 _ .hd) trivial (sl_row (xs := [97]) (hw.mem g44 _ (.tl (.tl .hd))) trivial (by decide) (by decide)) (sl_row (xs := [98]) (hw.mem g45 _ (.tl .hd)) trivial (by decide) (by decide))) (by decide) (by decide) (by decide) (fun j => Nat.le_trans (runes_getD _ j) (by decide))) ?_
  rintro w9 _ wa hw9 kn9 ko9 ⟨sJ, rfl, hOJ⟩
  rw [e6] at hOJ ⊢
  have hT := hT.next hw9 kn9
  have hC := hC.next hw9 kn9
  have hP := hP.next hw9 kn9
  have hJ := Hd.of hOJ hw9
  obtain ⟨AJ, cJ, rfl, _, _⟩ := hOJ.form
  clear hOJ hw9 kn9 ko9
  obtain ⟨FP, hPs, hPF⟩ := hP
  obtain ⟨_, _, adP, rVP, rcP, raP, eP, hRP⟩ := hPs.rws
  cases eP
  obtain ⟨FJ, hJs, hJF⟩ := hJ
  obtain ⟨_, _, adJ, rVJ, rcJ, raJ, eJ, hRJ⟩ := hJs.rws
  cases eJ
  repeat(first|refine lrun_ ?_|(refine lo_boxA rfl rfl ?_;intro _ _ _)|(refine lo_box1 rfl rfl rfl ?_;intro _ _ _)|(refine lo_alloc rfl ?_;intro _ _ _))
  refine lo_lit (cs := [.int .i32 98]) rfl (by decide) (by kernel_rfl) rfl ?_
  intro g68 _ _
  repeat(first|refine lops_ ?_|(refine lo_boxA rfl rfl ?_;intro _ _ _)|(refine lo_box1 rfl rfl rfl ?_;intro _ _ _)|(refine lo_alloc rfl ?_;intro _ _ _))
  refine lo_lit (cs := [.int .i32 99]) rfl (by decide) (by kernel_rfl) rfl ?_
  intro g69 _ _
  repeat(first|refine lops_ ?_|(refine lo_boxA rfl rfl ?_;intro _ _ _)|(refine lo_box1 rfl rfl rfl ?_;intro _ _ _)|(refine lo_alloc rfl ?_;intro _ _ _))
  refine lo_lit (cs := [.slice (some ⟨g68, 0, none⟩) 1 1, .slice (some ⟨g69, 0, none⟩) 1 1]) rfl (by decide) (by kernel_rfl) rfl ?_
  intro g70 _ _
  repeat(first|refine lops_ ?_|(refine lo_boxA rfl rfl ?_;intro _ _ _)|(refine lo_box1 rfl rfl rfl ?_;intro _ _ _)|(refine lo_alloc rfl ?_;intro _ _ _))
  refine lo_call (n_call rfl) rfl (fun w' hw => same04_calls (F := fun _ => True) (G := fun _ => True) (ys := [[98], [99]]) (hT.now hw) (sl_lines2 (hw.mem g70 _ .hd) trivial (sl_row (xs := [98]) (hw.mem g68 _ (.tl (.tl .hd))) trivial (by decide) (by decide)) (sl_row (xs := [99]) (hw.mem g69 _ (.tl .hd)) trivial (by decide) (by decide)))) ?_
  repeat(first|refine lops_ ?_|(refine lo_boxA rfl rfl ?_;intro _ _ _)|(refine lo_box1 rfl rfl rfl ?_;intro _ _ _)|(refine lo_alloc rfl ?_;intro _ _ _))
  refine lo_lit (cs := [.int .i32 97, .int .i32 100]) rfl (by decide) (by kernel_rfl) rfl ?_
  intro g75 _ _
  repeat(first|refine lops_ ?_|(refine lo_boxA rfl rfl ?_;intro _ _ _)|(refine lo_box1 rfl rfl rfl ?_;intro _ _ _)|(refine lo_alloc rfl ?_;intro _ _ _))
  refine lo_lit (cs := [.slice (some ⟨g75, 0, none⟩) 2 2]) rfl (by decide) (by kernel_rfl) rfl ?_
  intro g76 _ _
  repeat(first|refine lops_ ?_|(refine lo_boxA rfl rfl ?_;intro _ _ _)|(refine lo_box1 rfl rfl rfl ?_;intro _ _ _)|(refine lo_alloc rfl ?_;intro _ _ _))
  refine lo_call (n_call rfl) rfl (fun w' hw => same04_calls (F := fun _ => True) (G := fun _ => True) (ys := [[97, 100]]) (hC.now hw) (sl_lines1 (hw.mem g76 _ .hd) trivial (sl_row (xs := [97, 100]) (hw.mem g75 _ (.tl .hd)) trivial (by decide) (by decide)))) ?_
  repeat(first|refine lops_ ?_|(refine lo_boxA rfl rfl ?_;intro _ _ _)|(refine lo_box1 rfl rfl rfl ?_;intro _ _ _)|(refine lo_alloc rfl ?_;intro _ _ _))
  refine lo_index (j := 0) rfl rfl rfl (by decide) (hRP.a (by decide)) rfl ?_
  repeat(first|refine lops_ ?_|(refine lo_boxA rfl rfl ?_;intro _ _ _)|(refine lo_box1 rfl rfl rfl ?_;intro _ _ _)|(refine lo_alloc rfl ?_;intro _ _ _))
  refine lo_loadB rfl (hRP.row 0 (by decide)) (by rw [add_block]; exact (hPF _ (hRP.fa (by decide))).1) rfl ?_
  repeat(first|refine lops_ ?_|(refine lo_boxA rfl rfl ?_;intro _ _ _)|(refine lo_box1 rfl rfl rfl ?_;intro _ _ _)|(refine lo_alloc rfl ?_;intro _ _ _))
  refine lo_index (j := 0) rfl rfl rfl (by decide) (hRJ.a (by decide)) rfl ?_
  repeat(first|refine lops_ ?_|(refine lo_boxA rfl rfl ?_;intro _ _ _)|(refine lo_box1 rfl rfl rfl ?_;intro _ _ _)|(refine lo_alloc rfl ?_;intro _ _ _))
  refine lo_loadB rfl (hRJ.row 0 (by decide)) (by rw [add_block]; exact (hJF _ (hRJ.fa (by decide))).1) rfl ?_
  repeat(first|refine lrun_ ?_|(refine lo_boxA rfl rfl ?_;intro _ _ _)|(refine lo_box1 rfl rfl rfl ?_;intro _ _ _)|(refine lo_alloc rfl ?_;intro _ _ _))
  exact l_ret1 rfl rfl fun w hw => ⟨hw.org, congrArg Value.bool (decide_eq_true ⟨rfl, rfl⟩)⟩
end Go.Ink
