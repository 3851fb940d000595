/-
  awake.
  Plain, fit.
  Plain: lines that are cut and put in again.
-/
import Derived.Test.YtepjngapfmfkeaaQE
import Derived.Test.YtepjngapfmfkeaaV2
import Derived.Test.YtepjngapfmfkeaaHd
import Derived.Test.YtepjngapfmfkeaaRow
import Derived.Test.YtepjngapfmfkeaaSml
set_option linter.unusedVariables false
set_option linter.unusedSimpArgs false
namespace Go.Ink
open Go Go.Proofs Go.RowKit

set_option maxHeartbeats 8000000 in
theorem awake_calls {w : World} : CallsR Try.prog 17 #[] w fun u w' => Kn w w' ∧ u = .bool true := by
  refine l_enter (args := []) (fun _ => False) Try.func17 rfl rfl ?_
  repeat(first|refine lrun_ ?_|(refine lo_boxA rfl rfl ?_;intro _ _ _)|(refine lo_box1 rfl rfl rfl ?_;intro _ _ _)|(refine lo_alloc rfl ?_;intro _ _ _))
  refine lo_lit (cs := [.int .i32 97, .int .i32 98]) rfl (by decide) (by kernel_rfl) rfl ?_
  intro g14 _ _
  refine lo_lit (cs := [.int .i32 99, .int .i32 100]) rfl (by decide) (by kernel_rfl) rfl ?_
  intro g15 _ _
  refine lo_lit (cs := [.slice (some ⟨g14, 0, none⟩) 2 2, .slice (some ⟨g15, 0, none⟩) 2 2]) rfl (by decide) (by kernel_rfl) rfl ?_
  intro g16 _ _
  repeat(first|refine lops_ ?_|(refine lo_boxA rfl rfl ?_;intro _ _ _)|(refine lo_box1 rfl rfl rfl ?_;intro _ _ _)|(refine lo_alloc rfl ?_;intro _ _ _))
  refine lo_nil ?_
  refine l_baseM (M3 := []) .nil fun w1 hw1 => ?_
  have hl : Hd kRow w1 (MK []) (.slice (some ⟨g16, 0, none⟩) 2 2) [[97, 98], [99, 100]] := Hd.hereNil (F := fun _ => True) (sl_lines2 (hw1.mem g16 _ .hd) trivial (sl_row (xs := [97, 98]) (hw1.mem g14 _ (.tl (.tl .hd))) trivial (by decide) (by decide)) (sl_row (xs := [99, 100]) (hw1.mem g15 _ (.tl .hd)) trivial (by decide) (by decide)))
  clear hw1
  repeat(first|refine lrun_ ?_|(refine lo_boxA rfl rfl ?_;intro _ _ _)|(refine lo_box1 rfl rfl rfl ?_;intro _ _ _)|(refine lo_alloc rfl ?_;intro _ _ _))
  have e1 : thereR [[97, 98], [99, 100]] ⟨(0, 1), (1, 0), 0⟩ = 0 := by decide
  have e2 : takeM [[97, 98], [99, 100]] ⟨(0, 1), (1, 0), 0⟩ = [[98], [99]] := by decide
  refine lo_callM (n_call rfl) rfl (fun w' hw => take_calls (r := ⟨(0, 1), (1, 0), 0⟩) (hl.now hw) ⟨by unfold P64; decide, by unfold P64; decide, by decide⟩ (by decide)) ?_
  rintro w3 _ w4 hw3 kn3 ko3 ⟨sT, rfl, hOT⟩
  rw [e2] at hOT
  have hl := hl.next hw3 kn3
  have hT := Hd.of hOT hw3
  obtain ⟨AT, cT, rfl, _, _⟩ := hOT.form
  clear hOT hw3 kn3 ko3
  rw [e1]
  repeat(first|refine lrun_ ?_|(refine lo_boxA rfl rfl ?_;intro _ _ _)|(refine lo_box1 rfl rfl rfl ?_;intro _ _ _)|(refine lo_alloc rfl ?_;intro _ _ _))
  have e3 : thereR [[97, 98], [99, 100]] ⟨(0, 1), (1, 0), 0⟩ = 0 := e1
  have e4 : cutM [[97, 98], [99, 100]] ⟨(0, 1), (1, 0), 0⟩ = ([[97, 100]], (0, 1)) := by decide
  refine lo_callM (n_call rfl) rfl (fun w' hw => cut_calls (r := ⟨(0, 1), (1, 0), 0⟩) (hl.now hw) ⟨by unfold P64; decide, by unfold P64; decide, by decide⟩ (by decide) (fun j => Nat.le_trans (runes_getD _ j) (by decide)) (by decide)) ?_
  rintro w5 _ w6 hw5 kn5 ko5 ⟨sC, rfl, hOC⟩
  rw [e4] at hOC ⊢
  rw [e3]
  have hl := hl.next hw5 kn5
  have hT := hT.next hw5 kn5
  have hC := Hd.of hOC hw5
  obtain ⟨AC, cC, rfl, _, _⟩ := hOC.form
  clear hOC hw5 kn5 ko5
  repeat(first|refine lrun_ ?_|(refine lo_boxA rfl rfl ?_;intro _ _ _)|(refine lo_box1 rfl rfl rfl ?_;intro _ _ _)|(refine lo_alloc rfl ?_;intro _ _ _))
  refine lo_lit (cs := [.int .i32 120, .int .i32 121]) rfl (by decide) (by kernel_rfl) rfl ?_
  intro g36 _ _
  refine lo_lit (cs := [.slice (some ⟨g36, 0, none⟩) 2 2]) rfl (by decide) (by kernel_rfl) rfl ?_
  intro g37 _ _
  repeat(first|refine lrun_ ?_|(refine lo_boxA rfl rfl ?_;intro _ _ _)|(refine lo_box1 rfl rfl rfl ?_;intro _ _ _)|(refine lo_alloc rfl ?_;intro _ _ _))
  have e5 : pasteM [[97, 98], [99, 100]] (0, 0) 0 [[120, 121]] true 2 = ([[97, 120, 121, 120, 121, 98], [99, 100]], (0, 4), 0) := by decide
  refine lo_callM (n_call rfl) rfl (fun w' hw => paste_calls (F := fun _ => True) (p := (0, 0)) (kd := 0) (g := [[120, 121]]) (behind := true) (n := 2) (hl.now hw) (sl_lines1 (hw.mem g37 _ .hd) trivial (sl_row (xs := [120, 121]) (hw.mem g36 _ (.tl .hd)) trivial (by decide) (by decide))) (by decide) (by decide) (by decide) (by decide) (by unfold P64; decide) (by decide)) ?_
  rintro w7 _ w8 hw7 kn7 ko7 ⟨sP, rfl, hOP⟩
  rw [e5] at hOP ⊢
  have hT := hT.next hw7 kn7
  have hC := hC.next hw7 kn7
  have hP := Hd.of hOP hw7
  obtain ⟨AP, cP, rfl, _, _⟩ := hOP.form
  clear hOP hw7 kn7 ko7 hl
  repeat(first|refine lrun_ ?_|(refine lo_boxA rfl rfl ?_;intro _ _ _)|(refine lo_box1 rfl rfl rfl ?_;intro _ _ _)|(refine lo_alloc rfl ?_;intro _ _ _))
  refine lo_lit (cs := [.int .i32 97]) rfl (by decide) (by kernel_rfl) rfl ?_
  intro g44 _ _
  refine lo_lit (cs := [.int .i32 98]) rfl (by decide) (by kernel_rfl) rfl ?_
  intro g45 _ _
  refine lo_lit (cs := [.slice (some ⟨g44, 0, none⟩) 1 1, .slice (some ⟨g45, 0, none⟩) 1 1]) rfl (by decide) (by kernel_rfl) rfl ?_
  intro g46 _ _
  have e6 : joinM [[97], [98]] 0 2 = ([[97, 32, 98]], (0, 1), 0) := by decide
  refine lo_callM (n_call rfl) rfl (fun w' hw => join_calls (F := fun _ => True) (l := [[97], [98]]) (a := 0) (n := 2) (sl_lines2 (hw.mem g46 _ .hd) trivial (sl_row (xs := [97]) (hw.mem g44 _ (.tl (.tl .hd))) trivial (by decide) (by decide)) (sl_row (xs := [98]) (hw.mem g45 _ (.tl .hd)) trivial (by decide) (by decide))) (by decide) (by decide) (by decide) (fun j => Nat.le_trans (runes_getD _ j) (by decide))) ?_
  rintro w9 _ wa hw9 kn9 ko9 ⟨sJ, rfl, hOJ⟩
  rw [e6] at hOJ ⊢
  have hT := hT.next hw9 kn9
  have hC := hC.next hw9 kn9
  have hP := hP.next hw9 kn9
  have hJ := Hd.of hOJ hw9
  obtain ⟨AJ, cJ, rfl, _, _⟩ := hOJ.form
  clear hOJ hw9 kn9 ko9
  obtain ⟨FP, hPs, hPF⟩ := hP
  obtain ⟨_, _, adP, rVP, rcP, raP, eP, hRP⟩ := hPs.rws
  cases eP
  obtain ⟨FJ, hJs, hJF⟩ := hJ
  obtain ⟨_, _, adJ, rVJ, rcJ, raJ, eJ, hRJ⟩ := hJs.rws
  cases eJ
  repeat(first|refine lrun_ ?_|(refine lo_boxA rfl rfl ?_;intro _ _ _)|(refine lo_box1 rfl rfl rfl ?_;intro _ _ _)|(refine lo_alloc rfl ?_;intro _ _ _))
  refine lo_lit (cs := [.int .i32 98]) rfl (by decide) (by kernel_rfl) rfl ?_
  intro g68 _ _
  repeat(first|refine lops_ ?_|(refine lo_boxA rfl rfl ?_;intro _ _ _)|(refine lo_box1 rfl rfl rfl ?_;intro _ _ _)|(refine lo_alloc rfl ?_;intro _ _ _))
  refine lo_lit (cs := [.int .i32 99]) rfl (by decide) (by kernel_rfl) rfl ?_
  intro g69 _ _
  repeat(first|refine lops_ ?_|(refine lo_boxA rfl rfl ?_;intro _ _ _)|(refine lo_box1 rfl rfl rfl ?_;intro _ _ _)|(refine lo_alloc rfl ?_;intro _ _ _))
  refine lo_lit (cs := [.slice (some ⟨g68, 0, none⟩) 1 1, .slice (some ⟨g69, 0, none⟩) 1 1]) rfl (by decide) (by kernel_rfl) rfl ?_
  intro g70 _ _
  repeat(first|refine lops_ ?_|(refine lo_boxA rfl rfl ?_;intro _ _ _)|(refine lo_box1 rfl rfl rfl ?_;intro _ _ _)|(refine lo_alloc rfl ?_;intro _ _ _))
  refine lo_call (n_call rfl) rfl (fun w' hw => same04_calls (F := fun _ => True) (G := fun _ => True) (ys := [[98], [99]]) (hT.now hw) (sl_lines2 (hw.mem g70 _ .hd) trivial (sl_row (xs := [98]) (hw.mem g68 _ (.tl (.tl .hd))) trivial (by decide) (by decide)) (sl_row (xs := [99]) (hw.mem g69 _ (.tl .hd)) trivial (by decide) (by decide)))) ?_
  repeat(first|refine lops_ ?_|(refine lo_boxA rfl rfl ?_;intro _ _ _)|(refine lo_box1 rfl rfl rfl ?_;intro _ _ _)|(refine lo_alloc rfl ?_;intro _ _ _))
  refine lo_lit (cs := [.int .i32 97, .int .i32 100]) rfl (by decide) (by kernel_rfl) rfl ?_
  intro g75 _ _
  repeat(first|refine lops_ ?_|(refine lo_boxA rfl rfl ?_;intro _ _ _)|(refine lo_box1 rfl rfl rfl ?_;intro _ _ _)|(refine lo_alloc rfl ?_;intro _ _ _))
  refine lo_lit (cs := [.slice (some ⟨g75, 0, none⟩) 2 2]) rfl (by decide) (by kernel_rfl) rfl ?_
  intro g76 _ _
  repeat(first|refine lops_ ?_|(refine lo_boxA rfl rfl ?_;intro _ _ _)|(refine lo_box1 rfl rfl rfl ?_;intro _ _ _)|(refine lo_alloc rfl ?_;intro _ _ _))
  refine lo_call (n_call rfl) rfl (fun w' hw => same04_calls (F := fun _ => True) (G := fun _ => True) (ys := [[97, 100]]) (hC.now hw) (sl_lines1 (hw.mem g76 _ .hd) trivial (sl_row (xs := [97, 100]) (hw.mem g75 _ (.tl .hd)) trivial (by decide) (by decide)))) ?_
  repeat(first|refine lops_ ?_|(refine lo_boxA rfl rfl ?_;intro _ _ _)|(refine lo_box1 rfl rfl rfl ?_;intro _ _ _)|(refine lo_alloc rfl ?_;intro _ _ _))
  refine lo_index (j := 0) rfl rfl rfl (by decide) (hRP.a (by decide)) rfl ?_
  repeat(first|refine lops_ ?_|(refine lo_boxA rfl rfl ?_;intro _ _ _)|(refine lo_box1 rfl rfl rfl ?_;intro _ _ _)|(refine lo_alloc rfl ?_;intro _ _ _))
  refine lo_loadB rfl (hRP.row 0 (by decide)) (by rw [add_block]; exact (hPF _ (hRP.fa (by decide))).1) rfl ?_
  repeat(first|refine lops_ ?_|(refine lo_boxA rfl rfl ?_;intro _ _ _)|(refine lo_box1 rfl rfl rfl ?_;intro _ _ _)|(refine lo_alloc rfl ?_;intro _ _ _))
  refine lo_index (j := 0) rfl rfl rfl (by decide) (hRJ.a (by decide)) rfl ?_
  repeat(first|refine lops_ ?_|(refine lo_boxA rfl rfl ?_;intro _ _ _)|(refine lo_box1 rfl rfl rfl ?_;intro _ _ _)|(refine lo_alloc rfl ?_;intro _ _ _))
  refine lo_loadB rfl (hRJ.row 0 (by decide)) (by rw [add_block]; exact (hJF _ (hRJ.fa (by decide))).1) rfl ?_
  repeat(first|refine lrun_ ?_|(refine lo_boxA rfl rfl ?_;intro _ _ _)|(refine lo_box1 rfl rfl rfl ?_;intro _ _ _)|(refine lo_alloc rfl ?_;intro _ _ _))
  exact l_ret1 rfl rfl fun w hw => ⟨hw.org, congrArg Value.bool (decide_eq_true ⟨rfl, rfl⟩)⟩
end Go.Ink

set_option linter.unusedVariables false
set_option linter.unusedSimpArgs false
namespace Go.Ink
open Go Go.Proofs Go.RowKit

def plainB (l : List (List Int)) : Bool := l.all fun x => decide (10 ∉ x)
theorem not_mem_getD {x : List Int} (h : ∀ k, k < x.length → x.getD k 0 ≠ 10) : 10 ∉ x := fun hm => by
  obtain ⟨k, hk, e⟩ := List.getElem_of_mem hm
  exact h k hk (by rw [List.getD_eq_getElem?_getD, List.getElem?_eq_getElem hk]; exact e)
theorem mem_getD {x : List Int} {k : Nat} (hk : k < x.length) (h : x.getD k 0 = 10) : 10 ∈ x := by
  rw [List.getD_eq_getElem?_getD, List.getElem?_eq_getElem hk] at h
  have h' : x[k] = 10 := h
  rw [← h']; exact List.getElem_mem hk
theorem plain_false {l : List (List Int)} {i : Nat} (hi : i < l.length) (h : 10 ∈ l.getD i []) : plainB l = false := by
  unfold plainB
  rw [List.all_eq_false]
  refine ⟨l.getD i [], ?_, by rw [decide_eq_true_iff]; exact fun hn => hn h⟩
  rw [List.getD_eq_getElem?_getD, List.getElem?_eq_getElem hi]; exact List.getElem_mem hi
theorem plain_true {l : List (List Int)} (h : ∀ i, i < l.length → 10 ∉ l.getD i []) : plainB l = true := by
  unfold plainB
  rw [List.all_eq_true]
  intro x hx
  obtain ⟨i, hi, e⟩ := List.getElem_of_mem hx
  have := h i hi
  rw [List.getD_eq_getElem?_getD, List.getElem?_eq_getElem hi] at this
  have h2 : 10 ∉ l[i] := this
  rw [e] at h2
  simp [h2]
section
variable {F : Nat → Prop} {w : World} {v : Value} {l : List (List Int)}
set_option maxHeartbeats 4000000 in
theorem plain_calls (h : Sl kRow F w v l) : CallsR Try.prog 37 #[v] w fun u w' => Kn w w' ∧ u = .bool (plainB l) := by
  obtain ⟨A, c, ad, rV, rc, ra, rfl, hR⟩ := h.rws
  have hlen := hR.len
  refine l_enter (fun _ => False) Try.func37 rfl rfl ?_
  repeat(first|refine lrun_ ?_|(refine lo_boxA rfl rfl ?_;intro _ _ _)|(refine lo_box1 rfl rfl rfl ?_;intro _ _ _)|(refine lo_alloc rfl ?_;intro _ _ _))
  refine l_while (fun i : Nat => l.length - i) (fun i => [(0, .slice A l.length c), (3, .int .i64 (i : Int))]) (fun _ => []) (fun i => i ≤ l.length ∧ ∀ j, j < i → 10 ∉ l.getD j []) 0 (by repeat (first | exact SubB.nil | refine SubB.cons rfl ?_)) (by repeat(first|exact MSub.refl|refine MSub.keep rfl ?_|exact MSub.nil|apply MSub.drop)) ⟨Nat.zero_le _, fun j hj => absurd hj (by omega)⟩ ?_
  rintro i ⟨hi, hb⟩ ih
  by_cases hlt : i < l.length
  · have hrl := hR.rl i
    repeat(first|refine lrun_ ?_|(refine lo_boxA rfl rfl ?_;intro _ _ _)|(refine lo_box1 rfl rfl rfl ?_;intro _ _ _)|(refine lo_alloc rfl ?_;intro _ _ _))
    refine l_yes rfl (by omega) ?_
    repeat(first|refine lrun_ ?_|(refine lo_boxA rfl rfl ?_;intro _ _ _)|(refine lo_box1 rfl rfl rfl ?_;intro _ _ _)|(refine lo_alloc rfl ?_;intro _ _ _))
    refine l_while (fun k : Nat => (l.getD i []).length - k) (fun k => [(0, .slice A l.length c), (3, .int .i64 (i : Int)), (4, .int .i64 (k : Int))]) (fun _ => []) (fun k => k ≤ (l.getD i []).length ∧ ∀ j, j < k → (l.getD i []).getD j 0 ≠ 10) 0 (by repeat (first | exact SubB.nil | refine SubB.cons rfl ?_)) (by repeat(first|exact MSub.refl|refine MSub.keep rfl ?_|exact MSub.nil|apply MSub.drop)) ⟨Nat.zero_le _, fun j hj => absurd hj (by omega)⟩ ?_
    rintro k ⟨hk, hbk⟩ ih2
    by_cases hlt2 : k < (l.getD i []).length
    · repeat(first|refine lrun_ ?_|(refine lo_boxA rfl rfl ?_;intro _ _ _)|(refine lo_box1 rfl rfl rfl ?_;intro _ _ _)|(refine lo_alloc rfl ?_;intro _ _ _))
      refine l_yes rfl (by omega) ?_
      repeat(first|refine lrun_ ?_|(refine lo_boxA rfl rfl ?_;intro _ _ _)|(refine lo_box1 rfl rfl rfl ?_;intro _ _ _)|(refine lo_alloc rfl ?_;intro _ _ _))
      by_cases h10 : (l.getD i []).getD k 0 = 10
      · refine l_yes rfl h10 ?_
        repeat(first|refine lrun_ ?_|(refine lo_boxA rfl rfl ?_;intro _ _ _)|(refine lo_box1 rfl rfl rfl ?_;intro _ _ _)|(refine lo_alloc rfl ?_;intro _ _ _))
        exact l_ret1 rfl rfl fun w' hw => ⟨hw.org, by rw [plain_false hlt (mem_getD hlt2 h10)]⟩
      · refine l_no rfl h10 ?_
        refine l_go .skip ?_
        repeat(first|refine lrun_ ?_|(refine lo_boxA rfl rfl ?_;intro _ _ _)|(refine lo_box1 rfl rfl rfl ?_;intro _ _ _)|(refine lo_alloc rfl ?_;intro _ _ _))
        exact ih2 (k + 1) ⟨hlt2, fun j hj => by
          rcases Nat.lt_succ_iff_lt_or_eq.1 hj with h | rfl
          · exact hbk j h
          · exact h10⟩ (by omega) _ _ (by repeat (first | exact SubB.nil | refine SubB.cons rfl ?_)) (by repeat(first|exact MSub.refl|refine MSub.keep rfl ?_|exact MSub.nil|apply MSub.drop))
    · obtain rfl : k = (l.getD i []).length := by omega
      repeat(first|refine lrun_ ?_|(refine lo_boxA rfl rfl ?_;intro _ _ _)|(refine lo_box1 rfl rfl rfl ?_;intro _ _ _)|(refine lo_alloc rfl ?_;intro _ _ _))
      refine l_no rfl (by omega) ?_
      refine l_go (.exit rfl) ?_
      repeat(first|refine lrun_ ?_|(refine lo_boxA rfl rfl ?_;intro _ _ _)|(refine lo_box1 rfl rfl rfl ?_;intro _ _ _)|(refine lo_alloc rfl ?_;intro _ _ _))
      exact ih (i + 1) ⟨hlt, fun j hj => by
        rcases Nat.lt_succ_iff_lt_or_eq.1 hj with h | rfl
        · exact hb j h
        · exact not_mem_getD hbk⟩ (by omega) _ _ (by repeat (first | exact SubB.nil | refine SubB.cons rfl ?_)) (by repeat(first|exact MSub.refl|refine MSub.keep rfl ?_|exact MSub.nil|apply MSub.drop))
  · obtain rfl : i = l.length := by omega
    repeat(first|refine lrun_ ?_|(refine lo_boxA rfl rfl ?_;intro _ _ _)|(refine lo_box1 rfl rfl rfl ?_;intro _ _ _)|(refine lo_alloc rfl ?_;intro _ _ _))
    refine l_no rfl (by omega) ?_
    refine l_go (.exit rfl) ?_
    repeat(first|refine lrun_ ?_|(refine lo_boxA rfl rfl ?_;intro _ _ _)|(refine lo_box1 rfl rfl rfl ?_;intro _ _ _)|(refine lo_alloc rfl ?_;intro _ _ _))
    exact l_ret1 rfl rfl fun w' hw => ⟨hw.org, by rw [plain_true hb]⟩
def fitB (l : List (List Int)) : Bool := smallM l && plainB l
theorem fit_calls (h : Sl kRow F w v l) : CallsR Try.prog 11 #[v] w fun u w' => Kn w w' ∧ u = .bool (fitB l) := by
  refine l_enter (fun _ => False) Try.func11 rfl rfl ?_
  unfold fitB
  repeat(first|refine lrun_ ?_|(refine lo_boxA rfl rfl ?_;intro _ _ _)|(refine lo_box1 rfl rfl rfl ?_;intro _ _ _)|(refine lo_alloc rfl ?_;intro _ _ _))
  refine lo_callP (n_call rfl) rfl (fun w' hw => small_calls (Kn.sl hw.org h)) ?_
  cases hs : smallM l with
  | true =>
    repeat(first|refine lrun_ ?_|(refine lo_boxA rfl rfl ?_;intro _ _ _)|(refine lo_box1 rfl rfl rfl ?_;intro _ _ _)|(refine lo_alloc rfl ?_;intro _ _ _))
    refine lo_call (n_call rfl) rfl (fun w' hw => plain_calls (Kn.sl hw.org h)) ?_
    repeat(first|refine lrun_ ?_|(refine lo_boxA rfl rfl ?_;intro _ _ _)|(refine lo_box1 rfl rfl rfl ?_;intro _ _ _)|(refine lo_alloc rfl ?_;intro _ _ _))
    exact l_ret1 rfl rfl fun w' hw => ⟨hw.org, rfl⟩
  | false =>
    repeat(first|refine lrun_ ?_|(refine lo_boxA rfl rfl ?_;intro _ _ _)|(refine lo_box1 rfl rfl rfl ?_;intro _ _ _)|(refine lo_alloc rfl ?_;intro _ _ _))
    exact l_ret1 rfl rfl fun w' hw => ⟨hw.org, rfl⟩
theorem small_iff : smallM l = true ↔ l.length ≤ 300 ∧ (l.length : Int) - 1 + runesM l ≤ 3000 := by unfold smallM; rw [decide_eq_true_iff]
theorem fit_iff : fitB l = true ↔ (l.length ≤ 300 ∧ (l.length : Int) - 1 + runesM l ≤ 3000) ∧ ∀ x ∈ l, 10 ∉ x := by
  unfold fitB plainB
  rw [Bool.and_eq_true, small_iff, List.all_eq_true]
  simp only [decide_eq_true_eq]
end
end Go.Ink

set_option linter.unusedVariables false
set_option linter.unusedSimpArgs false
namespace Go.Ink
open Go Go.Proofs Go.RowKit

def lnR (a b : Nat) : Rg := ⟨((a : Int), 0), ((b : Int), 0), 1⟩
theorem take_getD (l : List (List Int)) (n : Nat) : runesM (l.take (n + 1)) = runesM (l.take n) + (l.getD n []).length := by
  by_cases h : n < l.length
  · exact runes_take h
  · rw [List.take_of_length_le (by omega), List.take_of_length_le (by omega), List.getD_eq_getElem?_getD, List.getElem?_eq_none (by omega)]; rfl
theorem gat_runes {l : List (List Int)} {res : Nat → List Int} (h : ∀ i, (res i).length ≤ (l.getD i []).length + (l.getD i []).length) (i0 : Nat) : ∀ n, runesM (gatM res i0 n) ≤ runesM ((l.drop i0).take n) + runesM ((l.drop i0).take n)
  | 0 => Nat.zero_le _
  | n + 1 => by
    have ih := gat_runes h i0 n
    have e := take_getD (l.drop i0) n
    have e2 : (l.drop i0).getD n [] = l.getD (i0 + n) [] := by rw [List.getD_eq_getElem?_getD, List.getElem?_drop, List.getD_eq_getElem?_getD]
    have := h (i0 + n)
    rw [gatM, runes_app, runes_cons, runes_nil, e, e2]
    omega
theorem gat_out (l : List (List Int)) (r : Rg) (i0 n : Nat) : runesM (gatM (outR l r) i0 n) ≤ runesM l + runesM l := by
  have h1 := gat_runes (fun i => outs_le l r i) i0 n
  have h2 := runes_tk (l.drop i0) n
  have h3 := runes_dr l i0
  omega
section
variable {l : List (List Int)} {a b : Nat}
theorem at_line (h : a < l.length) : At l ((a : Int), 0) := ⟨by simp only; omega, by
  by_cases h0 : (rowOf l ((a : Int), 0)).length = 0
  · exact .inl ⟨h0, rfl⟩
  · exact .inr ⟨Int.le_refl _, by simp only; omega⟩⟩
theorem ln_ends (hab : a ≤ b) : endsR (lnR a b) = (((a : Int), 0), ((b : Int), 0)) := by
  unfold endsR lnR aheadM
  rw [if_neg]
  rw [decide_eq_true_iff]
  simp only
  omega
theorem ln_there (hab : a ≤ b) (hb : b < l.length) : thereR l (lnR a b) = 0 := by
  have h1 := at_clip (at_line (show a < l.length by omega))
  have h2 := at_clip (at_line hb)
  have h0 : l ≠ [] := fun h => by rw [h] at hb; simp at hb
  unfold thereR lnR
  rw [if_neg (by simp only; omega), if_neg (fun h => h.elim h0 fun h => h.elim (fun h => h h1) fun h => h h2)]
theorem ln_in (hab : a ≤ b) (i : Nat) : inR l (lnR a b) i = l.getD i [] := by
  unfold inR toR fromR colsR lnR
  simp
  rw [if_neg (by omega)]
  rfl
theorem gat_id (res : Nat → List Int) (h : ∀ i, res i = l.getD i []) (i0 : Nat) : ∀ n, i0 + n ≤ l.length → gatM res i0 n = (l.take (i0 + n)).drop i0
  | 0, _ => by
    rw [gatM, Nat.add_zero, List.drop_of_length_le]
    rw [List.length_take]; omega
  | n + 1, hn => by
    rw [gatM, gat_id res h i0 n (by omega), h, show i0 + (n + 1) = (i0 + n) + 1 by omega, take_snoc (by omega), List.drop_append_of_le_length (by rw [List.length_take]; omega), List.getD_eq_getElem?_getD, List.getElem?_eq_getElem (by omega)]
    rfl
theorem ln_take (hab : a ≤ b) (hb : b < l.length) : takeM l (lnR a b) = (l.take (b + 1)).drop a := by
  unfold takeM
  rw [if_pos (ln_there hab hb), ln_ends hab]
  have e1 : ((b : Int) + 1 - (a : Int)).toNat = b + 1 - a := by omega
  simp only [Int.toNat_natCast, e1]
  rw [gat_id _ (ln_in hab) a (b + 1 - a) (by omega)]
  congr 2
  omega
theorem ln_cut (hab : a ≤ b) (hb : b < l.length) : cutM l (lnR a b) = (let o0 := l.take a ++ l.drop (b + 1); let o := if o0 = [] then [[]] else o0; let i := min a (o.length - 1); (o, ((i : Int), (firstI (o.getD i []) : Int)))) := by
  have e0 : r0 (lnR a b) = a := by unfold r0; rw [ln_ends hab]; simp
  have e1 : rn (lnR a b) = b + 1 - a := by unfold rn; rw [ln_ends hab]; simp only; omega
  unfold cutM
  rw [if_neg (fun h => h (ln_there hab hb)), if_pos (show (lnR a b).kind = 1 from rfl), e0, e1, show a + (b + 1 - a) = b + 1 by omega]
theorem parts (hab : a ≤ b) (hb : b < l.length) : l.take a ++ (l.take (b + 1)).drop a ++ l.drop (b + 1) = l := by
  have h1 : l.take a = (l.take (b + 1)).take a := by rw [List.take_take]; congr 1; omega
  rw [h1, List.take_append_drop, List.take_append_drop]
theorem ln_len (hab : a ≤ b) (hb : b < l.length) : ((l.take (b + 1)).drop a).length = b + 1 - a := by rw [List.length_drop, List.length_take]; omega
/-- All of them. -/
theorem back_all (hab : a ≤ b) (hb : b < l.length) (h : b + 1 - a = l.length) : (cutM l (lnR a b)).1 = [[]] := by
  rw [ln_cut hab hb]
  have : a = 0 := by omega
  have hb' : b + 1 = l.length := by omega
  subst this
  rw [hb']
  simp
theorem back_some (hab : a ≤ b) (hb : b < l.length) (h : b + 1 - a ≠ l.length) (hs : l.length ≤ 300) (hr : (l.length : Int) - 1 + runesM l ≤ 3000) (hp : ∀ x ∈ l, 10 ∉ x) :
    (pasteM (cutM l (lnR a b)).1 (cutM l (lnR a b)).2 1 ((l.take (b + 1)).drop a) (decide ((b : Int) = (l.length : Int) - 1)) 1).1 = l ∧ (pasteM (cutM l (lnR a b)).1 (cutM l (lnR a b)).2 1 ((l.take (b + 1)).drop a) (decide ((b : Int) = (l.length : Int) - 1)) 1).2.2 = 0 := by
  have hgl := ln_len hab hb
  have hpt := parts hab hb
  have ho0 : l.take a ++ l.drop (b + 1) ≠ [] := fun e => by
    have := congrArg List.length e
    rw [List.length_append, List.length_take, List.length_drop, List.length_nil] at this
    omega
  have hol : (l.take a ++ l.drop (b + 1)).length = a + (l.length - (b + 1)) := by rw [List.length_append, List.length_take, List.length_drop]; omega
  rw [ln_cut hab hb]
  simp only
  rw [if_neg ho0]
  generalize hg : (l.take (b + 1)).drop a = g at *
  have hgm : ∀ x ∈ g, x ∈ l := fun x hx => by rw [← hg] at hx; exact List.mem_of_mem_take (List.mem_of_mem_drop hx)
  have hgr : runesM g ≤ runesM l := by rw [← hpt, runes_app, runes_app]; omega
  have hbad : badG 1 g = false := by
    unfold badG
    rw [decide_eq_false (fun h => h.elim (by omega) fun h => h.elim (by omega) fun h => by rw [h] at hgl; simp at hgl; omega), Bool.false_or, List.any_eq_false]
    intro x hx
    rw [decide_eq_true_iff]
    exact hp x (hgm x hx)
  generalize ho : l.take a ++ l.drop (b + 1) = o at *
  have hcp : copiedM 1 g = sizeM g + 1 := by unfold copiedM; rw [if_pos rfl]
  have hsz : sizeM g ≤ 3000 := by unfold sizeM; omega
  have hdiv : ¬ ((65536 / (sizeM g + 1) : Nat) : Int) < 1 := by
    have : 1 ≤ 65536 / (sizeM g + 1) := (Nat.le_div_iff_mul_le (by omega)).2 (by omega)
    omega
  unfold pasteM
  rw [if_neg (by rw [hbad]; decide)]
  unfold pasteR
  rw [if_neg ho0, hcp, if_neg (fun h => hdiv (by have := h.2; simpa using this)), if_neg (by omega)]
  have hil : min a (o.length - 1) < o.length := by omega
  have hq1 : (clipM o ((((min a (o.length - 1)) : Nat) : Int), (firstI (o.getD (min a (o.length - 1)) []) : Int))).1 = ((min a (o.length - 1) : Nat) : Int) := by
    unfold clipM
    rw [if_neg ho0]
    simp only [lineOf, clampI]
    rw [if_neg (by omega), if_neg (by omega)]
    simp
  simp only [hq1, Int.toNat_natCast]
  unfold pasteOut
  rw [if_pos rfl]
  have hrep : repL g ((if (1 : Int) < 1 then (1 : Int) else 1).toNat) = g := by simp [repL]
  have hout : (o.take (if (decide ((b : Int) = (l.length : Int) - 1)) = true then min a (o.length - 1) + 1 else min a (o.length - 1)) ++ g ++ o.drop (if (decide ((b : Int) = (l.length : Int) - 1)) = true then min a (o.length - 1) + 1 else min a (o.length - 1))) = l := by
    have hi' : (if (decide ((b : Int) = (l.length : Int) - 1)) = true then min a (o.length - 1) + 1 else min a (o.length - 1)) = a := by
      by_cases hbl : (b : Int) = (l.length : Int) - 1
      · rw [if_pos (decide_eq_true hbl)]; omega
      · rw [if_neg (by rw [decide_eq_true_iff]; exact hbl)]; omega
    rw [hi', ← ho, List.take_append_of_le_length (by rw [List.length_take]; omega), List.drop_append_of_le_length (by rw [List.length_take]; omega), List.take_of_length_le (by rw [List.length_take]; omega), List.drop_of_length_le (by rw [List.length_take]; omega), List.nil_append]
    exact hpt
  simp only [hrep]
  rw [hout]
  unfold fitsM
  rw [if_neg (by unfold sizeM; omega)]
  exact ⟨rfl, rfl⟩
theorem firstI_le (x : List Int) : firstI x ≤ x.length := by
  unfold firstI
  cases h : x.findIdx? fun r => decide (classM r false ≠ 0) with
  | none => simp
  | some k => have := List.findIdx?_eq_some_iff_getElem.1 h; have := this.1; simp only [Option.getD_some]; omega
theorem ln_cut_ok (hab : a ≤ b) (hb : b < l.length) (hs : l.length ≤ 300) (hr : runesM l ≤ 3000) : (cutM l (lnR a b)).1.length ≤ 4096 ∧ runesM (cutM l (lnR a b)).1 ≤ 1048576 ∧ P64 (cutM l (lnR a b)).2 := by
  rw [ln_cut hab hb]
  simp only
  generalize ho : (if l.take a ++ l.drop (b + 1) = [] then [[]] else l.take a ++ l.drop (b + 1)) = o
  have h1 : o.length ≤ 301 ∧ runesM o ≤ runesM l + runesM l := by
    rw [← ho]
    have a1 := runes_tk l a
    have a2 := runes_dr l (b + 1)
    split
    · exact ⟨by simp, by rw [runes_cons, runes_nil]; simp⟩
    · rw [runes_app, List.length_append, List.length_take, List.length_drop]; omega
  have h2 := firstI_le (o.getD (min a (o.length - 1)) [])
  have h3 := runes_getD o (min a (o.length - 1))
  exact ⟨by omega, by omega, by unfold P64; simp only; omega⟩
end
end Go.Ink
