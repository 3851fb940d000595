/-
  The index of a text: start, find, block.
-/
import Derived.Test.YtfgajbilegjbpaaX1
set_option linter.unusedVariables false
set_option linter.unusedSimpArgs false
namespace Go.Ink
open Go Go.Proofs Go.RowKit

section
variable {F : Nat → Prop} {w : World} {vb : Value} {gs : List (List (List Int))} {g : Nat}
set_option maxHeartbeats 4000000 in
theorem start_calls {n : Nat} (hg : w.cell? ⟨g, 1, none⟩ = some vb) (h : Sl kBlk F w vb (gs.map blkOf)) (hs : sumN gs.flatten ≤ 1099511627776) (hn : n < gs.flatten.length) :
    CallsR Try.prog 39 #[.pointer (some ⟨g, 1, none⟩), .int .i64 (n : Int)] w fun u w' => Kn w w' ∧ u = .tuple #[.int .i64 ((ofs gs.flatten n : Nat) : Int), .int .i64 ((gs.flatten.getD n []).length : Int)] := by
  obtain ⟨A, c, ad, sA, sc, sa, rfl, hB⟩ := h.bks
  have hlen := hB.len
  refine l_enter (fun _ => False) Try.func39 rfl rfl ?_
  repeat(first|refine lrun_ ?_|(refine lo_boxA rfl rfl ?_;intro _ _ _)|(refine lo_box1 rfl rfl rfl ?_;intro _ _ _)|(refine lo_alloc rfl ?_;intro _ _ _))
  refine l_while (fun j : Nat => gs.length - j) (fun j => [(0, .pointer (some ⟨g, 1, none⟩)), (1, .int .i64 ((n : Int) - (preB gs j).length)), (6, .int .i64 ((sumN (preB gs j) : Nat) : Int)), (14, .slice A gs.length c), (15, .int .i64 gs.length), (16, .int .i64 (j : Int))]) (fun _ => []) (fun j => j ≤ gs.length ∧ (preB gs j).length ≤ n) 0 (by simp only [show preB gs 0 = [] from rfl, List.length_nil, Int.natCast_zero, Int.sub_zero, sumN_nil]; exact (by repeat (first | exact SubB.nil | refine SubB.cons rfl ?_))) (by repeat(first|exact MSub.refl|refine MSub.keep rfl ?_|exact MSub.nil|apply MSub.drop)) ⟨Nat.zero_le _, Nat.zero_le _⟩ ?_
  rintro j ⟨hj, hp⟩ ih
  have hlt : j < gs.length := by
    rcases Nat.lt_or_ge j gs.length with h | h
    · exact h
    · obtain rfl : j = gs.length := by omega
      rw [preB_all] at hp; omega
  have hX := hB.rs j hlt
  have hps := preB_succ hlt
  have hpt := preB_parts hlt
  have h1 : (preB gs (j + 1)).length = (preB gs j).length + (gs.getD j []).length := by rw [hps, List.length_append]
  have h2 : sumN (preB gs (j + 1)) = sumN (preB gs j) + sumN (gs.getD j []) := by rw [hps, sumN_app]
  have h3 : sumN gs.flatten = sumN (preB gs j) + sumN (gs.getD j []) + sumN (gs.drop (j + 1)).flatten := by rw [hpt, sumN_app, sumN_app]
  have hgl := hX.len
  have h4 : n < gs.flatten.length := hn
  have hfl : gs.flatten.length ≤ 1099511627776 := by unfold sumN at hs; omega
  repeat(first|refine lrun_ ?_|(refine lo_boxA rfl rfl ?_;intro _ _ _)|(refine lo_box1 rfl rfl rfl ?_;intro _ _ _)|(refine lo_alloc rfl ?_;intro _ _ _))
  refine l_yes rfl (by omega) ?_
  repeat(first|refine lrun_ ?_|(refine lo_boxA rfl rfl ?_;intro _ _ _)|(refine lo_box1 rfl rfl rfl ?_;intro _ _ _)|(refine lo_alloc rfl ?_;intro _ _ _))
  refine lo_index rfl rfl rfl (by omega) (hB.a (by omega)) rfl ?_
  refine lo_loadAO rfl rfl (hB.s j hlt) (fun h => h.elim) rfl ?_
  repeat(first|refine lrun_ ?_|(refine lo_boxA rfl rfl ?_;intro _ _ _)|(refine lo_box1 rfl rfl rfl ?_;intro _ _ _)|(refine lo_alloc rfl ?_;intro _ _ _))
  rename_i g8 _ _
  by_cases hc : (preB gs j).length + (gs.getD j []).length ≤ n
  · refine l_yes rfl (by omega) ?_
    have ih2 := ih (j + 1) ⟨by omega, by omega⟩ (by omega)
    rw [show (n : Int) - ((preB gs (j + 1)).length : Nat) = (n : Int) - ((preB gs j).length : Nat) - ((gs.getD j []).length : Nat) by omega, show ((sumN (preB gs (j + 1)) : Nat) : Int) = ((sumN (preB gs j) : Nat) : Int) + ((sumN (gs.getD j []) : Nat) : Int) by omega] at ih2
    repeat(first|refine lrun_ ?_|(refine lo_boxA rfl rfl ?_;intro _ _ _)|(refine lo_box1 rfl rfl rfl ?_;intro _ _ _)|(refine lo_alloc rfl ?_;intro _ _ _))
    exact ih2 _ _ (by repeat (first | exact SubB.nil | refine SubB.cons rfl ?_)) (by repeat(first|exact MSub.refl|refine MSub.keep rfl ?_|exact MSub.nil|apply MSub.drop))
  refine l_no rfl (by omega) ?_
  refine l_go .skip ?_
  clear ih
  obtain ⟨r, rfl⟩ : ∃ r, n = (preB gs j).length + r := ⟨n - (preB gs j).length, by omega⟩
  have e1 : (((preB gs j).length + r : Nat) : Int) - ((preB gs j).length : Nat) = (r : Int) := by omega
  have hr : r < (gs.getD j []).length := by omega
  rw [e1]
  have eo : ofs gs.flatten ((preB gs j).length + r) = sumN (preB gs j) + ofs (gs.getD j []) r := by rw [hpt, ofs_app (by omega)]
  have ea : gs.flatten.getD ((preB gs j).length + r) [] = (gs.getD j []).getD r [] := by rw [hpt, at_app hr]
  have hol := ofs_lt hr
  have hcap := hX.cap
  rw [eo, ea]
  repeat(first|refine lrun_ ?_|(refine lo_boxA rfl rfl ?_;intro _ _ _)|(refine lo_box1 rfl rfl rfl ?_;intro _ _ _)|(refine lo_alloc rfl ?_;intro _ _ _))
  refine l_while (fun i : Nat => r - i) (fun i => [(1, .int .i64 (r : Int)), (6, .int .i64 (((sumN (preB gs j) : Nat) : Int) + ((ofs (gs.getD j []) i : Nat) : Int))), (8, .pointer (some ⟨g8, 0, none⟩)), (37, .slice (sA j) r (sc j)), (38, .int .i64 (r : Int)), (39, .int .i64 (i : Int))]) (fun _ => [(g8, cb [.slice (sA j) (gs.getD j []).length (sc j), .int .i64 ((sumN (gs.getD j []) : Nat) : Int)] 93)]) (fun i => i ≤ r) 0 (by simp only [ofs_zero, Int.natCast_zero, Int.add_zero]; exact (by repeat (first | exact SubB.nil | refine SubB.cons rfl ?_))) (by repeat(first|exact MSub.refl|refine MSub.keep rfl ?_|exact MSub.nil|apply MSub.drop)) (Nat.zero_le _) ?_
  intro i hi ih
  have hol2 : ofs (gs.getD j []) i + ((gs.getD j []).getD i []).length + 1 ≤ sumN (gs.getD j []) := ofs_lt (by omega)
  by_cases hlt2 : i < r
  · have ih2 := ih (i + 1) hlt2 (by omega)
    have hos := ofs_succ (l := gs.getD j []) (i := i) (by omega)
    rw [show ((sumN (preB gs j) : Nat) : Int) + ((ofs (gs.getD j []) (i + 1) : Nat) : Int) = ((sumN (preB gs j) : Nat) : Int) + ((ofs (gs.getD j []) i : Nat) : Int) + ((((gs.getD j []).getD i []).length : Int) + 1) by rw [hos]; omega] at ih2
    repeat(first|refine lrun_ ?_|(refine lo_boxA rfl rfl ?_;intro _ _ _)|(refine lo_box1 rfl rfl rfl ?_;intro _ _ _)|(refine lo_alloc rfl ?_;intro _ _ _))
    refine l_yes rfl (by omega) ?_
    repeat(first|refine lrun_ ?_|(refine lo_boxA rfl rfl ?_;intro _ _ _)|(refine lo_box1 rfl rfl rfl ?_;intro _ _ _)|(refine lo_alloc rfl ?_;intro _ _ _))
    exact ih2 _ _ (by repeat (first | exact SubB.nil | refine SubB.cons rfl ?_)) (by repeat(first|exact MSub.refl|refine MSub.keep rfl ?_|exact MSub.nil|apply MSub.drop))
  · obtain rfl : i = r := by omega
    repeat(first|refine lrun_ ?_|(refine lo_boxA rfl rfl ?_;intro _ _ _)|(refine lo_box1 rfl rfl rfl ?_;intro _ _ _)|(refine lo_alloc rfl ?_;intro _ _ _))
    refine l_no rfl (by omega) ?_
    refine l_go (.exit rfl) ?_
    repeat(first|refine lrun_ ?_|(refine lo_boxA rfl rfl ?_;intro _ _ _)|(refine lo_box1 rfl rfl rfl ?_;intro _ _ _)|(refine lo_alloc rfl ?_;intro _ _ _))
    refine l_draw [(0, 0), (1, 0), (2, 0), (3, 0), (4, 0), (5, 0), (6, 0), (7, 0)] (by kernel_rfl) (by kernel_rfl) rfl (by kernel_rfl) ?_
    repeat(first|refine lrund_ ?_|(refine ld_open rfl ?_;first|(refine ld_boxA rfl wy_ rfl ?_;intro _ _ _)|(refine ld_box1 rfl rfl wy_ rfl ?_;intro _ _ _)|(refine ld_alloc wy_ rfl ?_;intro _ _ _)))
    repeat(first|refine lrun_ ?_|(refine lo_boxA rfl rfl ?_;intro _ _ _)|(refine lo_box1 rfl rfl rfl ?_;intro _ _ _)|(refine lo_alloc rfl ?_;intro _ _ _))
    exact l_retR2 rfl (by repeat(first|exact LRes.nil|refine LRes.tmp rfl ?_|refine LRes.agg rfl (by(repeat(first|exact MIn.hd|refine MIn.tl ?_));done) (by rfl) (by rfl) ?_|refine LRes.one rfl (by(repeat(first|exact MIn.hd|refine MIn.tl ?_));done) (by rfl) ?_)) fun w' hw => ⟨hw.org, by rw [Int.natCast_add]⟩
set_option maxHeartbeats 4000000 in
theorem find_calls {n : Nat} (hg : w.cell? ⟨g, 1, none⟩ = some vb) (h : Sl kBlk F w vb (gs.map blkOf)) (hs : sumN gs.flatten ≤ 1099511627776) (hn : n < sumN gs.flatten) :
    CallsR Try.prog 38 #[.pointer (some ⟨g, 1, none⟩), .int .i64 (n : Int)] w fun u w' => Kn w w' ∧ ∃ i c : Nat, i < gs.flatten.length ∧ c ≤ (gs.flatten.getD i []).length ∧ n = ofs gs.flatten i + c ∧ u = .tuple #[.int .i64 (i : Int), .int .i64 (c : Int)] := by
  obtain ⟨A, c, ad, sA, sc, sa, rfl, hB⟩ := h.bks
  have hlen := hB.len
  refine l_enter (fun _ => False) Try.func38 rfl rfl ?_
  repeat(first|refine lrun_ ?_|(refine lo_boxA rfl rfl ?_;intro _ _ _)|(refine lo_box1 rfl rfl rfl ?_;intro _ _ _)|(refine lo_alloc rfl ?_;intro _ _ _))
  refine l_while (fun j : Nat => gs.length - j) (fun j => [(0, .pointer (some ⟨g, 1, none⟩)), (1, .int .i64 ((n : Int) - (sumN (preB gs j) : Nat))), (6, .int .i64 (((preB gs j).length : Nat) : Int)), (14, .slice A gs.length c), (15, .int .i64 gs.length), (16, .int .i64 (j : Int))]) (fun _ => []) (fun j => j ≤ gs.length ∧ sumN (preB gs j) ≤ n) 0 (by simp only [show preB gs 0 = [] from rfl, List.length_nil, Int.natCast_zero, Int.sub_zero, sumN_nil]; exact (by repeat (first | exact SubB.nil | refine SubB.cons rfl ?_))) (by repeat(first|exact MSub.refl|refine MSub.keep rfl ?_|exact MSub.nil|apply MSub.drop)) ⟨Nat.zero_le _, Nat.zero_le _⟩ ?_
  rintro j ⟨hj, hp⟩ ih
  have hlt : j < gs.length := by
    rcases Nat.lt_or_ge j gs.length with h | h
    · exact h
    · obtain rfl : j = gs.length := by omega
      rw [preB_all] at hp; omega
  have hX := hB.rs j hlt
  have hps := preB_succ hlt
  have hpt := preB_parts hlt
  have h1 : (preB gs (j + 1)).length = (preB gs j).length + (gs.getD j []).length := by rw [hps, List.length_append]
  have h2 : sumN (preB gs (j + 1)) = sumN (preB gs j) + sumN (gs.getD j []) := by rw [hps, sumN_app]
  have h3 : sumN gs.flatten = sumN (preB gs j) + sumN (gs.getD j []) + sumN (gs.drop (j + 1)).flatten := by rw [hpt, sumN_app, sumN_app]
  have h5 : gs.flatten.length = (preB gs j).length + (gs.getD j []).length + ((gs.drop (j + 1)).flatten).length := by rw [hpt, List.length_append, List.length_append]
  have hgl := hX.len
  have hfl : gs.flatten.length ≤ 1099511627776 := by unfold sumN at hs; omega
  repeat(first|refine lrun_ ?_|(refine lo_boxA rfl rfl ?_;intro _ _ _)|(refine lo_box1 rfl rfl rfl ?_;intro _ _ _)|(refine lo_alloc rfl ?_;intro _ _ _))
  refine l_yes rfl (by omega) ?_
  repeat(first|refine lrun_ ?_|(refine lo_boxA rfl rfl ?_;intro _ _ _)|(refine lo_box1 rfl rfl rfl ?_;intro _ _ _)|(refine lo_alloc rfl ?_;intro _ _ _))
  refine lo_index rfl rfl rfl (by omega) (hB.a (by omega)) rfl ?_
  refine lo_loadAO rfl rfl (hB.s j hlt) (fun h => h.elim) rfl ?_
  repeat(first|refine lrun_ ?_|(refine lo_boxA rfl rfl ?_;intro _ _ _)|(refine lo_box1 rfl rfl rfl ?_;intro _ _ _)|(refine lo_alloc rfl ?_;intro _ _ _))
  rename_i g8 _ _
  by_cases hc : sumN (preB gs j) + sumN (gs.getD j []) ≤ n
  · refine l_yes rfl (by omega) ?_
    have ih2 := ih (j + 1) ⟨by omega, by omega⟩ (by omega)
    rw [show (n : Int) - ((sumN (preB gs (j + 1)) : Nat) : Int) = (n : Int) - ((sumN (preB gs j) : Nat) : Int) - ((sumN (gs.getD j []) : Nat) : Int) by omega, show (((preB gs (j + 1)).length : Nat) : Int) = (((preB gs j).length : Nat) : Int) + (((gs.getD j []).length : Nat) : Int) by omega] at ih2
    repeat(first|refine lrun_ ?_|(refine lo_boxA rfl rfl ?_;intro _ _ _)|(refine lo_box1 rfl rfl rfl ?_;intro _ _ _)|(refine lo_alloc rfl ?_;intro _ _ _))
    exact ih2 _ _ (by repeat (first | exact SubB.nil | refine SubB.cons rfl ?_)) (by repeat(first|exact MSub.refl|refine MSub.keep rfl ?_|exact MSub.nil|apply MSub.drop))
  refine l_no rfl (by omega) ?_
  refine l_go .skip ?_
  clear ih
  repeat(first|refine lrun_ ?_|(refine lo_boxA rfl rfl ?_;intro _ _ _)|(refine lo_box1 rfl rfl rfl ?_;intro _ _ _)|(refine lo_alloc rfl ?_;intro _ _ _))
  refine l_while (fun i : Nat => (gs.getD j []).length - i) (fun i => [(1, .int .i64 ((n : Int) - (sumN (preB gs j) : Nat) - ((ofs (gs.getD j []) i : Nat) : Int))), (6, .int .i64 ((((preB gs j).length : Nat) : Int) + (i : Int))), (34, .slice (sA j) (gs.getD j []).length (sc j)), (35, .int .i64 ((gs.getD j []).length : Int)), (36, .int .i64 (i : Int))]) (fun _ => []) (fun i => i ≤ (gs.getD j []).length ∧ sumN (preB gs j) + ofs (gs.getD j []) i ≤ n) 0 (by simp only [ofs_zero, Int.natCast_zero, Int.add_zero, Int.sub_zero]; exact (by repeat (first | exact SubB.nil | refine SubB.cons rfl ?_))) (by repeat(first|exact MSub.refl|refine MSub.keep rfl ?_|exact MSub.nil|apply MSub.drop)) ⟨Nat.zero_le _, by rw [ofs_zero]; omega⟩ ?_
  rintro i ⟨hi, hq⟩ ih
  have hlt2 : i < (gs.getD j []).length := by
    rcases Nat.lt_or_ge i (gs.getD j []).length with h | h
    · exact h
    · obtain rfl : i = (gs.getD j []).length := by omega
      rw [ofs_all] at hq; omega
  have hol2 : ofs (gs.getD j []) i + ((gs.getD j []).getD i []).length + 1 ≤ sumN (gs.getD j []) := ofs_lt hlt2
  have hos := ofs_succ hlt2
  repeat(first|refine lrun_ ?_|(refine lo_boxA rfl rfl ?_;intro _ _ _)|(refine lo_box1 rfl rfl rfl ?_;intro _ _ _)|(refine lo_alloc rfl ?_;intro _ _ _))
  refine l_yes rfl (by omega) ?_
  repeat(first|refine lrun_ ?_|(refine lo_boxA rfl rfl ?_;intro _ _ _)|(refine lo_box1 rfl rfl rfl ?_;intro _ _ _)|(refine lo_alloc rfl ?_;intro _ _ _))
  by_cases hle : n ≤ sumN (preB gs j) + ofs (gs.getD j []) i + ((gs.getD j []).getD i []).length
  · refine l_yes rfl (by omega) ?_
    repeat(first|refine lrun_ ?_|(refine lo_boxA rfl rfl ?_;intro _ _ _)|(refine lo_box1 rfl rfl rfl ?_;intro _ _ _)|(refine lo_alloc rfl ?_;intro _ _ _))
    refine l_retR2 rfl (by repeat(first|exact LRes.nil|refine LRes.tmp rfl ?_|refine LRes.agg rfl (by(repeat(first|exact MIn.hd|refine MIn.tl ?_));done) (by rfl) (by rfl) ?_|refine LRes.one rfl (by(repeat(first|exact MIn.hd|refine MIn.tl ?_));done) (by rfl) ?_)) fun w' hw => ⟨hw.org, (preB gs j).length + i, n - sumN (preB gs j) - ofs (gs.getD j []) i, by omega, ?_, ?_, ?_⟩
    · rw [hpt, at_app hlt2]; omega
    · rw [hpt, ofs_app (by omega)]; omega
    · rw [Int.natCast_add, show ((n - sumN (preB gs j) - ofs (gs.getD j []) i : Nat) : Int) = (n : Int) - (sumN (preB gs j) : Nat) - ((ofs (gs.getD j []) i : Nat) : Int) by omega]
  · refine l_no rfl (by omega) ?_
    refine l_go .skip ?_
    have ih2 := ih (i + 1) ⟨hlt2, by omega⟩ (by omega)
    rw [show (n : Int) - (sumN (preB gs j) : Nat) - ((ofs (gs.getD j []) (i + 1) : Nat) : Int) = (n : Int) - (sumN (preB gs j) : Nat) - ((ofs (gs.getD j []) i : Nat) : Int) - ((((gs.getD j []).getD i []).length : Int) + 1) by omega, show (((preB gs j).length : Nat) : Int) + ((i + 1 : Nat) : Int) = (((preB gs j).length : Nat) : Int) + (i : Int) + 1 by omega] at ih2
    repeat(first|refine lrun_ ?_|(refine lo_boxA rfl rfl ?_;intro _ _ _)|(refine lo_box1 rfl rfl rfl ?_;intro _ _ _)|(refine lo_alloc rfl ?_;intro _ _ _))
    exact ih2 _ _ (by repeat (first | exact SubB.nil | refine SubB.cons rfl ?_)) (by repeat(first|exact MSub.refl|refine MSub.keep rfl ?_|exact MSub.nil|apply MSub.drop))
set_option maxHeartbeats 4000000 in
theorem block_calls {n : Nat} (hg : w.cell? ⟨g, 1, none⟩ = some vb) (h : Sl kBlk F w vb (gs.map blkOf)) (hs : sumN gs.flatten ≤ 1099511627776) (hn : n < gs.flatten.length) :
    CallsR Try.prog 58 #[.pointer (some ⟨g, 1, none⟩), .int .i64 (n : Int)] w fun u w' => Kn w w' ∧ ∃ j r : Nat, j < gs.length ∧ r < (gs.getD j []).length ∧ n = (preB gs j).length + r ∧ u = .tuple #[.int .i64 (j : Int), .int .i64 (r : Int)] := by
  obtain ⟨A, c, ad, sA, sc, sa, rfl, hB⟩ := h.bks
  have hlen := hB.len
  refine l_enter (fun _ => False) Try.func58 rfl rfl ?_
  repeat(first|refine lrun_ ?_|(refine lo_boxA rfl rfl ?_;intro _ _ _)|(refine lo_box1 rfl rfl rfl ?_;intro _ _ _)|(refine lo_alloc rfl ?_;intro _ _ _))
  refine l_while (fun j : Nat => gs.length - j) (fun j => [(0, .pointer (some ⟨g, 1, none⟩)), (1, .int .i64 ((n : Int) - ((preB gs j).length : Nat))), (11, .slice A gs.length c), (12, .int .i64 gs.length), (13, .int .i64 (j : Int))]) (fun _ => []) (fun j => j ≤ gs.length ∧ (preB gs j).length ≤ n) 0 (by simp only [show preB gs 0 = [] from rfl, List.length_nil, Int.natCast_zero, Int.sub_zero, sumN_nil]; exact (by repeat (first | exact SubB.nil | refine SubB.cons rfl ?_))) (by repeat(first|exact MSub.refl|refine MSub.keep rfl ?_|exact MSub.nil|apply MSub.drop)) ⟨Nat.zero_le _, Nat.zero_le _⟩ ?_
  rintro j ⟨hj, hp⟩ ih
  have hlt : j < gs.length := by
    rcases Nat.lt_or_ge j gs.length with h | h
    · exact h
    · obtain rfl : j = gs.length := by omega
      rw [preB_all] at hp; omega
  have hX := hB.rs j hlt
  have hps := preB_succ hlt
  have h1 : (preB gs (j + 1)).length = (preB gs j).length + (gs.getD j []).length := by rw [hps, List.length_append]
  have hgl := hX.len
  have hfl : gs.flatten.length ≤ 1099511627776 := by unfold sumN at hs; omega
  repeat(first|refine lrun_ ?_|(refine lo_boxA rfl rfl ?_;intro _ _ _)|(refine lo_box1 rfl rfl rfl ?_;intro _ _ _)|(refine lo_alloc rfl ?_;intro _ _ _))
  refine l_yes rfl (by omega) ?_
  repeat(first|refine lrun_ ?_|(refine lo_boxA rfl rfl ?_;intro _ _ _)|(refine lo_box1 rfl rfl rfl ?_;intro _ _ _)|(refine lo_alloc rfl ?_;intro _ _ _))
  refine lo_index rfl rfl rfl (by omega) (hB.a (by omega)) rfl ?_
  refine lo_loadAO rfl rfl (hB.s j hlt) (fun h => h.elim) rfl ?_
  repeat(first|refine lrun_ ?_|(refine lo_boxA rfl rfl ?_;intro _ _ _)|(refine lo_box1 rfl rfl rfl ?_;intro _ _ _)|(refine lo_alloc rfl ?_;intro _ _ _))
  by_cases hc : n < (preB gs j).length + (gs.getD j []).length
  · refine l_yes rfl (by omega) ?_
    repeat(first|refine lrun_ ?_|(refine lo_boxA rfl rfl ?_;intro _ _ _)|(refine lo_box1 rfl rfl rfl ?_;intro _ _ _)|(refine lo_alloc rfl ?_;intro _ _ _))
    exact l_retR2 rfl (by repeat(first|exact LRes.nil|refine LRes.tmp rfl ?_|refine LRes.agg rfl (by(repeat(first|exact MIn.hd|refine MIn.tl ?_));done) (by rfl) (by rfl) ?_|refine LRes.one rfl (by(repeat(first|exact MIn.hd|refine MIn.tl ?_));done) (by rfl) ?_)) fun w' hw => ⟨hw.org, j, n - (preB gs j).length, hlt, by omega, by omega, by rw [show ((n - (preB gs j).length : Nat) : Int) = (n : Int) - ((preB gs j).length : Nat) by omega]⟩
  · refine l_no rfl (by omega) ?_
    refine l_go .skip ?_
    have ih2 := ih (j + 1) ⟨by omega, by omega⟩ (by omega)
    rw [show (n : Int) - ((preB gs (j + 1)).length : Nat) = (n : Int) - ((preB gs j).length : Nat) - ((gs.getD j []).length : Nat) by omega] at ih2
    repeat(first|refine lrun_ ?_|(refine lo_boxA rfl rfl ?_;intro _ _ _)|(refine lo_box1 rfl rfl rfl ?_;intro _ _ _)|(refine lo_alloc rfl ?_;intro _ _ _))
    exact ih2 _ _ (by repeat (first | exact SubB.nil | refine SubB.cons rfl ?_)) (by repeat(first|exact MSub.refl|refine MSub.keep rfl ?_|exact MSub.nil|apply MSub.drop))
end
end Go.Ink
