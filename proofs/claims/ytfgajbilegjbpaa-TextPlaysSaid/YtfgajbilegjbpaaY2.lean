/-
  awake.
-/
import Derived.Test.YtfgajbilegjbpaaY1
import Derived.Test.YtfgajbilegjbpaaV2
set_option linter.unusedVariables false
set_option linter.unusedSimpArgs false
namespace Go.Ink
open Go Go.Proofs Go.RowKit

instance : Eq2T Try.prog 29 .i64 := eq2_struct (e := 3) (by kernel_rfl) (by kernel_rfl) (by kernel_rfl) (by kernel_rfl) (by kernel_rfl)
set_option maxHeartbeats 8000000 in
theorem awake_calls {w : World} : CallsR Try.prog 17 #[] w fun u w' => Kn w w' ∧ u = .bool true := by
  refine l_enter (args := []) (fun _ => False) Try.func17 rfl rfl ?_
  repeat(first|refine lrun_ ?_|(refine lo_boxA rfl rfl ?_;intro _ _ _)|(refine lo_box1 rfl rfl rfl ?_;intro _ _ _)|(refine lo_alloc rfl ?_;intro _ _ _))
  refine lo_lit (cs := [.int .i32 97, .int .i32 98]) rfl (by decide) (by kernel_rfl) rfl ?_
  intro g10 _ _
  refine lo_lit (cs := [.int .i32 99]) rfl (by decide) (by kernel_rfl) rfl ?_
  intro g11 _ _
  refine lo_lit (cs := [.slice (some ⟨g10, 0, none⟩) 2 2, .slice (some ⟨g11, 0, none⟩) 1 1]) rfl (by decide) (by kernel_rfl) rfl ?_
  intro g12 _ _
  refine lo_callM (n_call rfl) rfl (fun w' hw => newT_calls (F := fun _ => True) (l := [[97, 98], [99]]) (sl_lines2 (hw.mem g12 _ .hd) trivial (sl_row (xs := [97, 98]) (hw.mem g10 _ (.tl (.tl .hd))) trivial (by decide) (by decide)) (sl_row (xs := [99]) (hw.mem g11 _ (.tl .hd)) trivial (by decide) (by decide))) (by decide)) ?_
  rintro w1 u w2 hw1 kn1 ko1 hu
  obtain ⟨_, gt, rfl, hT⟩ : plainB [[97, 98], [99]] = true ∧ ∃ g, u = .pointer (some ⟨g, 0, none⟩) ∧ IsTxt (noB w1) g w2 (splitM (jndM [[97, 98], [99]])) (jndM [[97, 98], [99]]).length := hu.elim (fun h => absurd h.1 (by decide)) id
  rw [show splitM (jndM [[97, 98], [99]]) = [[97, 98], [99]] by decide] at hT
  have hs1 := hw1.org.size
  have hs2 := kn1.size
  have hB := hT.mono (D' := fun k => noB w1 k ∧ k < w2.heap.size) fun k hk hl => ⟨hk, hl⟩
  repeat(first|refine lops_ ?_|(refine lo_boxA rfl rfl ?_;intro _ _ _)|(refine lo_box1 rfl rfl rfl ?_;intro _ _ _)|(refine lo_alloc rfl ?_;intro _ _ _))
  refine lo_nil ?_
  refine l_baseM (M3 := []) .nil fun w3 hw3 => ?_
  have hs3 := hw3.kp.size
  have hB3 : TxB w w3 (MK []) (fun k => noB w1 k ∧ k < w2.heap.size) gt [[97, 98], [99]] _ := ⟨hB.kp hw3.kp fun k hk hm => by have := hw1.lt hm; have := hk.1; unfold noB at this; omega, fun k hk => ⟨by have := hk.1; unfold noB at this; omega, by have := hk.2; omega, mk_nil⟩⟩
  repeat(first|refine lrun_ ?_|(refine lo_boxA rfl rfl ?_;intro _ _ _)|(refine lo_box1 rfl rfl rfl ?_;intro _ _ _)|(refine lo_alloc rfl ?_;intro _ _ _))
  refine l_false rfl ?_
  refine l_go .skip ?_
  repeat(first|refine lrun_ ?_|(refine lo_boxA rfl rfl ?_;intro _ _ _)|(refine lo_box1 rfl rfl rfl ?_;intro _ _ _)|(refine lo_alloc rfl ?_;intro _ _ _))
  refine lo_call (n_call rfl) rfl (fun w' hw => offsetT_calls (p := (1, 0)) (hB3.now hw) (by unfold P64; decide)) ?_
  have ht : thereP [[97, 98], [99]] (1, 0) := by unfold thereP; decide
  rw [if_pos ht, if_pos ht, show ((1, 0) : Ps).2 + ((ofs [[97, 98], [99]] ((1, 0) : Ps).1.toNat : Nat) : Int) = 3 by decide]
  repeat(first|refine lrun_ ?_|(refine lo_boxA rfl rfl ?_;intro _ _ _)|(refine lo_box1 rfl rfl rfl ?_;intro _ _ _)|(refine lo_alloc rfl ?_;intro _ _ _))
  refine lo_callV (n_call rfl) rfl (fun w' hw => place_calls (n := 2) (hB3.now hw) (by decide)) ?_
  intro u hu
  obtain rfl : u = .tuple #[.agg #[.int .i64 0, .int .i64 2], .int .i64 0] := by
    rcases hu with ⟨h, _⟩ | ⟨i, c, hi, hc, hn, rfl⟩
    · exact absurd (by decide) h
    · match i, hi with
      | 0, _ =>
        have e : ofs [[97, 98], [99]] 0 = 0 := by decide
        rw [e] at hn
        obtain rfl : c = 2 := by omega
        rfl
      | 1, _ =>
        have e : ofs [[97, 98], [99]] 1 = 3 := by decide
        rw [e] at hn
        omega
  repeat(first|refine lrun_ ?_|(refine lo_boxA rfl rfl ?_;intro _ _ _)|(refine lo_box1 rfl rfl rfl ?_;intro _ _ _)|(refine lo_alloc rfl ?_;intro _ _ _))
  refine lo_lit (cs := [.int .i32 120, .int .i32 10]) rfl (by decide) (by kernel_rfl) rfl ?_
  intro g29 hg29 hg29'
  repeat(first|refine lops_ ?_|(refine lo_boxA rfl rfl ?_;intro _ _ _)|(refine lo_box1 rfl rfl rfl ?_;intro _ _ _)|(refine lo_alloc rfl ?_;intro _ _ _))
  refine lo_txt hB3 (n_call rfl) rfl (fun w' hw hT => insertT_calls (p := (0, 1)) (l := [120, 10]) (F := fun k => k = g29) hT (by unfold P64; decide) (sl_row (xs := [120, 10]) (hw.mem g29 _ .hd) rfl (by decide) (by decide)) (fun k hk _ e => by have := e.2; omega) (by decide)) ?_
  intro w4 w5 hw4 kp4 ko4 hB5
  rw [show insT [[97, 98], [99]] (0, 1) [120, 10] = ([[97, 120], [98], [99]], 0) by decide] at hB5 ⊢
  repeat(first|refine lrun_ ?_|(refine lo_boxA rfl rfl ?_;intro _ _ _)|(refine lo_box1 rfl rfl rfl ?_;intro _ _ _)|(refine lo_alloc rfl ?_;intro _ _ _))
  refine lo_txt hB5 (n_call rfl) rfl (fun w' hw hT => deleteT_calls (p := (0, 2)) (q := (1, 0)) hT (by unfold P64; decide) (by unfold P64; decide) (by decide)) ?_
  intro w6 w7 hw6 kp6 ko6 hB7
  rw [show delT [[97, 120], [98], [99]] (0, 2) (1, 0) = ([[97, 120, 98], [99]], 0) by decide] at hB7 ⊢
  repeat(first|refine lrun_ ?_|(refine lo_boxA rfl rfl ?_;intro _ _ _)|(refine lo_box1 rfl rfl rfl ?_;intro _ _ _)|(refine lo_alloc rfl ?_;intro _ _ _))
  refine lo_callM (n_call rfl) rfl (fun w' hw => all_calls (hB7.now hw)) ?_
  rintro w8 u8 w9 hw8 kn8 ko8 hA
  have hB9 := hB7.next hw8 kn8
  have hA9 := hA.ow (by decide)
  obtain ⟨Au, cu, rfl, _⟩ := hA9.form
  repeat(first|refine lrun_ ?_|(refine lo_boxA rfl rfl ?_;intro _ _ _)|(refine lo_box1 rfl rfl rfl ?_;intro _ _ _)|(refine lo_alloc rfl ?_;intro _ _ _))
  refine lo_txt hB9 (n_call rfl) rfl (fun w' hw hT => replaceT_calls (i := 0) (n := 2) (l := []) (F := fun _ => False) hT (by decide) (by decide) (Sl.nil _ _ _) (fun _ h => h.elim) (by decide) (by decide)) ?_
  intro w10 w11 hw10 kp10 ko10 hB11
  rw [show repT [[97, 120, 98], [99]] 0 2 [] = ([[]], 0) by decide] at hB11 ⊢
  have hs8 := hw8.kp.size
  have hs9 := kn8.size
  have hA10 : Sl kRow (noB w8) w10 (.slice Au [[97, 120, 98], [99]].length cu) [[97, 120, 98], [99]] := (hw10.owN hA9 fun k hm => by have := hw8.lt hm; omega).slF (fun _ h => h) fun _ h => h
  have hA11 : Sl kRow (noB w8) w11 (.slice Au [[97, 120, 98], [99]].length cu) [[97, 120, 98], [99]] := Kp.sl kp10 hA10 fun k hk hd => by have := (hB9.2 k hd).2.1; have := (hB7.2 k hd).2.1; unfold noB at hk; omega
  repeat(first|refine lrun_ ?_|(refine lo_boxA rfl rfl ?_;intro _ _ _)|(refine lo_box1 rfl rfl rfl ?_;intro _ _ _)|(refine lo_alloc rfl ?_;intro _ _ _))
  refine lo_lit (cs := [.int .i32 97, .int .i32 120, .int .i32 98]) rfl (by decide) (by kernel_rfl) rfl ?_
  intro g64 _ hg64
  refine lo_yes (wants_yes rfl rfl rfl (by rfl)) ?_
  refine lo_lit (cs := [.int .i32 99]) rfl (by decide) (by kernel_rfl) rfl ?_
  intro g65 _ hg65
  refine lo_yes (wants_yes rfl rfl rfl (by rfl)) ?_
  refine lo_lit (cs := [.slice (some ⟨g64, 0, none⟩) 3 3, .slice (some ⟨g65, 0, none⟩) 1 1]) rfl (by decide) (by kernel_rfl) rfl ?_
  intro g66 _ hg66
  refine lo_yes (wants_yes rfl rfl rfl (by rfl)) ?_
  refine lo_call (v := .bool true) (n_call rfl) rfl (fun w' hw => (same04_calls (Kp.sl hw.kp hA11 fun k hk hm => ?_) (G := fun _ => True) (ys := [[97, 120, 98], [99]]) (sl_lines2 (hw.mem g66 _ .hd) trivial (sl_row (xs := [97, 120, 98]) (hw.mem g64 _ (.tl (.tl .hd))) trivial (by decide) (by decide)) (sl_row (xs := [99]) (hw.mem g65 _ (.tl .hd)) trivial (by decide) (by decide)))).mono fun u w' ⟨k1, k2⟩ => ⟨k1, by rw [k2]; rfl⟩) ?_
  · have := hw8.lt hm; unfold noB at hk; omega
  repeat(first|refine lrun_ ?_|(refine lo_boxA rfl rfl ?_;intro _ _ _)|(refine lo_box1 rfl rfl rfl ?_;intro _ _ _)|(refine lo_alloc rfl ?_;intro _ _ _))
  refine lo_call (n_call rfl) rfl (fun w' hw => count_calls (hB11.now hw)) ?_
  repeat(first|refine lrun_ ?_|(refine lo_boxA rfl rfl ?_;intro _ _ _)|(refine lo_box1 rfl rfl rfl ?_;intro _ _ _)|(refine lo_alloc rfl ?_;intro _ _ _))
  refine lo_call (n_call rfl) rfl (fun w' hw => runesT_calls (hB11.now hw)) ?_
  repeat(first|refine lrun_ ?_|(refine lo_boxA rfl rfl ?_;intro _ _ _)|(refine lo_box1 rfl rfl rfl ?_;intro _ _ _)|(refine lo_alloc rfl ?_;intro _ _ _))
  exact l_ret1 rfl rfl fun w' hw => ⟨hw.org, rfl⟩
end Go.Ink
