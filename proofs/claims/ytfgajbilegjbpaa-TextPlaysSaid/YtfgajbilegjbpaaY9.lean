/-
  TextLines.
-/
import Derived.Test.YtfgajbilegjbpaaY8
import Derived.Test.YtfgajbilegjbpaaZ2
set_option linter.unusedVariables false
set_option linter.unusedSimpArgs false
namespace Go.Ink
open Go Go.Proofs Go.RowKit

section
variable {P : Program} {fn : Func} {k : List Item} {σ : Sig} {O B : World} {S K : Nat → Prop} {M : Mm} {R : Pt}
/-- The world that is there is the begin from here on. -/
theorem l_org (h : ∀ w, Lw O S B K M w → WLG P fn k σ w (fun _ => False) w (fun _ => False) [] R) : WLG P fn k σ O S B K M R := by
  unfold WLG at *
  exact fun w hw => h w hw w (Lw.init w _ _)
end
set_option maxHeartbeats 8000000 in
theorem lines_tail {W w : World} {Dt Dx : Nat → Prop} {L : List (List Int)} {gt gx g4 b : Nat} {a0 a1 n : Int} (hT : IsTxt Dt gt w L b) (hX : IsRef Dx gx w L) (hg0 : w.cell? ⟨g4, 0, none⟩ = some (.int .i64 a0)) (hg1 : w.cell? ⟨g4, 1, none⟩ = some (.int .i64 a1)) (hne : L ≠ []) (hl : L.length ≤ 300 ∧ runesM L + L.length ≤ 3001) (ha0 : -9223372036854775808 ≤ a0 ∧ a0 ≤ 9223372036854775807) (ha1 : -9223372036854775808 ≤ a1 ∧ a1 ≤ 9223372036854775807) (hn : -9223372036854775808 ≤ n ∧ n ≤ 9223372036854775807) (hW : Kn W w) :
    ∀ σ', SubB σ' [(2, .int .i64 n), (4, .pointer (some ⟨g4, 0, none⟩)), (7, .pointer (some ⟨gt, 0, none⟩)), (8, .pointer (some ⟨gx, 0, none⟩))] → ∀ B K M', MSub [] M' →
      WL Try.prog Try.f7 (.code (bodyC Try.f7 [1, 1, 1, 1, 1]) :: []) σ' w (fun _ => False) B K M' fun u w' => Kn W w' ∧ u = .bool true := by
  intro σ' hs B K M' hM
  refine WL.sub hs hM ?_
  obtain ⟨_, vx, Fx, hbx, hx, _⟩ := id hX
  have hp : P64 (a0, a1) := ⟨ha0, ha1⟩
  repeat(first|refine lrun_ ?_|(refine lo_boxA rfl rfl ?_;intro _ _ _)|(refine lo_box1 rfl rfl rfl ?_;intro _ _ _)|(refine lo_alloc rfl ?_;intro _ _ _))
  refine lo_rn (fun _ => r_indexA rfl rfl (by decide) (by decide)) rfl ?_
  repeat(first|refine lrun_ ?_|(refine lo_boxA rfl rfl ?_;intro _ _ _)|(refine lo_box1 rfl rfl rfl ?_;intro _ _ _)|(refine lo_alloc rfl ?_;intro _ _ _))
  refine lo_rn (fun _ => r_indexA rfl rfl (by decide) (by decide)) rfl ?_
  repeat(first|refine lrun_ ?_|(refine lo_boxA rfl rfl ?_;intro _ _ _)|(refine lo_box1 rfl rfl rfl ?_;intro _ _ _)|(refine lo_alloc rfl ?_;intro _ _ _))
  refine lo_call (n_call rfl) rfl (fun w' hw => offsetT_calls (p := (a0, a1)) (hT.kn hw.org) hp) ?_
  repeat(first|refine lrun_ ?_|(refine lo_boxA rfl rfl ?_;intro _ _ _)|(refine lo_box1 rfl rfl rfl ?_;intro _ _ _)|(refine lo_alloc rfl ?_;intro _ _ _))
  refine lo_call (n_call rfl) rfl (fun w' hw => offset_calls (p := (a0, a1)) (hw.org.cell (blk_cell hbx) id) (Kn.sl hw.org hx) (by omega) hp) ?_
  repeat(first|refine lrun_ ?_|(refine lo_boxA rfl rfl ?_;intro _ _ _)|(refine lo_box1 rfl rfl rfl ?_;intro _ _ _)|(refine lo_alloc rfl ?_;intro _ _ _))
  refine lo_callV (n_call rfl) rfl (fun w' hw => place_calls (n := n) (hT.kn hw.org) hn) ?_
  intro u1 hu1
  obtain ⟨q1, q2, e1, rfl, hall⟩ : ∃ (q1 q2 e1 : Int), u1 = .tuple #[.agg #[.int .i64 q1, .int .i64 q2], .int .i64 e1] ∧ ∀ u : Value, ((¬ (0 ≤ n ∧ n ≤ (jndM L).length) ∧ u = .tuple #[posV (0, 0), .int .i64 2]) ∨ ∃ i c : Nat, i < L.length ∧ c ≤ (L.getD i []).length ∧ n = ((ofs L i + c : Nat) : Int) ∧ u = .tuple #[posV ((i : Int), (c : Int)), .int .i64 0]) → u = .tuple #[.agg #[.int .i64 q1, .int .i64 q2], .int .i64 e1] := by
    have hin : ∀ {i c : Nat}, i < L.length → c ≤ (L.getD i []).length → n = ((ofs L i + c : Nat) : Int) → 0 ≤ n ∧ n ≤ (jndM L).length := fun hi hc h => by
      have := ofs_end hi
      omega
    rcases hu1 with ⟨h1, rfl⟩ | ⟨i, c, hi, hc, h1, rfl⟩
    · refine ⟨0, 0, 2, rfl, ?_⟩
      rintro u (⟨_, rfl⟩ | ⟨i, c, hi, hc, h2, rfl⟩)
      · rfl
      · exact absurd (hin hi hc h2) h1
    · refine ⟨i, c, 0, rfl, ?_⟩
      rintro u (⟨h2, rfl⟩ | ⟨i', c', hi', hc', h2, rfl⟩)
      · exact absurd (hin hi hc h1) h2
      · obtain ⟨rfl, rfl⟩ := place_uniq hi hc hi' hc' (by omega)
        rfl
  repeat(first|refine lrun_ ?_|(refine lo_boxA rfl rfl ?_;intro _ _ _)|(refine lo_box1 rfl rfl rfl ?_;intro _ _ _)|(refine lo_alloc rfl ?_;intro _ _ _))
  refine lo_call (n_call rfl) rfl (fun w' hw => (placeR_calls (n := n) (hX.kn hw.org) hne (by omega) hn).mono fun u w' ⟨h1, h2⟩ => ⟨h1, hall u h2⟩) ?_
  repeat(first|refine lrun_ ?_|(refine lo_boxA rfl rfl ?_;intro _ _ _)|(refine lo_box1 rfl rfl rfl ?_;intro _ _ _)|(refine lo_alloc rfl ?_;intro _ _ _))
  refine lo_call (n_call (args := []) rfl) rfl (fun w' hw => awake_calls) ?_
  repeat(first|refine lrun_ ?_|(refine lo_boxA rfl rfl ?_;intro _ _ _)|(refine lo_box1 rfl rfl rfl ?_;intro _ _ _)|(refine lo_alloc rfl ?_;intro _ _ _))
  exact l_ret1 rfl rfl fun w' hw => ⟨hW.trans hw.org, rfl⟩
set_option maxHeartbeats 8000000 in
theorem lines_loop {W w : World} {Dt Dx : Nat → Prop} {L : List (List Int)} {gt gx g4 b : Nat} {a0 a1 n : Int} (hT : IsTxt Dt gt w L b) (hX : IsRef Dx gx w L) (hg0 : w.cell? ⟨g4, 0, none⟩ = some (.int .i64 a0)) (hg1 : w.cell? ⟨g4, 1, none⟩ = some (.int .i64 a1)) (hne : L ≠ []) (hl : L.length ≤ 300 ∧ runesM L + L.length ≤ 3001) (ha0 : -9223372036854775808 ≤ a0 ∧ a0 ≤ 9223372036854775807) (ha1 : -9223372036854775808 ≤ a1 ∧ a1 ≤ 9223372036854775807) (hn : -9223372036854775808 ≤ n ∧ n ≤ 9223372036854775807) (hW : Kn W w) :
    ∀ σ', SubB σ' [(2, .int .i64 n), (4, .pointer (some ⟨g4, 0, none⟩)), (7, .pointer (some ⟨gt, 0, none⟩)), (8, .pointer (some ⟨gx, 0, none⟩))] → ∀ B K M', MSub [] M' →
      WL Try.prog Try.f7 (.code (bodyC Try.f7 [1, 1, 1, 1]) :: []) σ' w (fun _ => False) B K M' fun u w' => Kn W w' ∧ u = .bool true := by
  intro σ' hs B K M' hM
  refine WL.sub hs hM ?_
  obtain ⟨_, vx, Fx, hbx, hx, _⟩ := id hX
  have cx : w.cell? ⟨gx, 0, none⟩ = some vx := blk_cell hbx
  obtain ⟨A, c, ad, rV, rc, ra, rfl, hR⟩ := hx.rws
  have hL0 := List.length_pos_iff.2 hne
  repeat(first|refine lrun_ ?_|(refine lo_boxA rfl rfl ?_;intro _ _ _)|(refine lo_box1 rfl rfl rfl ?_;intro _ _ _)|(refine lo_alloc rfl ?_;intro _ _ _))
  refine l_whileB (fun i : Int => ((L.length : Int) + 1 - i).toNat) (fun i => [(2, .int .i64 n), (4, .pointer (some ⟨g4, 0, none⟩)), (7, .pointer (some ⟨gt, 0, none⟩)), (8, .pointer (some ⟨gx, 0, none⟩)), (10, .int .i64 i)]) (fun _ => [])
    (fun i b => -1 ≤ i ∧ i ≤ (L.length : Int) + 1) (-1) (by repeat (first | exact SubB.nil | refine SubB.cons rfl ?_)) (by repeat(first|exact MSub.refl|refine MSub.keep rfl ?_|exact MSub.nil|apply MSub.drop)) (fun w' hw => ⟨by omega, by omega⟩) ?_
  rintro i b ⟨hi1, hi2⟩ hkb ih
  repeat(first|refine lrun_ ?_|(refine lo_boxA rfl rfl ?_;intro _ _ _)|(refine lo_box1 rfl rfl rfl ?_;intro _ _ _)|(refine lo_alloc rfl ?_;intro _ _ _))
  by_cases hle : i ≤ (L.length : Int)
  case neg =>
    refine l_no rfl (by omega) ?_
    refine l_go (.exit rfl) ?_
    exact lines_tail hT hX hg0 hg1 hne hl ha0 ha1 hn hW _ (by repeat (first | exact SubB.nil | refine SubB.cons rfl ?_)) _ _ _ .nil
  refine l_yes rfl hle ?_
  repeat(first|refine lrun_ ?_|(refine lo_boxA rfl rfl ?_;intro _ _ _)|(refine lo_box1 rfl rfl rfl ?_;intro _ _ _)|(refine lo_alloc rfl ?_;intro _ _ _))
  refine lo_callM (n_call rfl) rfl (fun w' hw => line_calls (i := i) (hT.kn hw.org) (by omega)) ?_
  rintro w4 _ w5 hw4 kn4 ko4 ⟨vy, rfl, hY⟩
  by_cases hin : 0 ≤ i ∧ i < (L.length : Int)
  · rw [if_pos hin] at hY ⊢
    have hY5 := Hd.of hY hw4
    obtain ⟨Ay, cy, rfl, _⟩ := hY5.form
    obtain ⟨j, rfl⟩ : ∃ j : Nat, i = (j : Int) := ⟨i.toNat, by omega⟩
    rw [Int.toNat_natCast] at hY5 hY
    have hj : j < L.length := by omega
    repeat(first|refine lrun_ ?_|(refine lo_boxA rfl rfl ?_;intro _ _ _)|(refine lo_box1 rfl rfl rfl ?_;intro _ _ _)|(refine lo_alloc rfl ?_;intro _ _ _))
    refine lo_call (n_call rfl) rfl (fun w' hw => runes_calls (hY5.now hw) (Kn.sl hw.org (hR.rs j hj))) ?_
    rw [decide_eq_true rfl]
    repeat(first|refine lrun_ ?_|(refine lo_boxA rfl rfl ?_;intro _ _ _)|(refine lo_box1 rfl rfl rfl ?_;intro _ _ _)|(refine lo_alloc rfl ?_;intro _ _ _))
    first | refine l_false rfl ?_ | refine l_no rfl (by simp <;> omega) ?_
    refine l_go .skip ?_
    repeat(first|refine lrun_ ?_|(refine lo_boxA rfl rfl ?_;intro _ _ _)|(refine lo_box1 rfl rfl rfl ?_;intro _ _ _)|(refine lo_alloc rfl ?_;intro _ _ _))
    exact ih ((j : Int) + 1) w5 _ ⟨by omega, by omega⟩ (by omega) _ _ (by repeat (first | exact SubB.nil | refine SubB.cons rfl ?_)) (by repeat(first|exact MSub.refl|refine MSub.keep rfl ?_|exact MSub.nil|apply MSub.drop)) fun w' hw' => ⟨by omega, by omega⟩
  · rw [if_neg hin] at hY ⊢
    have hY5 := Hd.of hY hw4
    obtain ⟨Ay, cy, rfl, _⟩ := hY5.form
    rcases Int.lt_or_le i 0 with h0 | h0
    · repeat(first|refine lrun_ ?_|(refine lo_boxA rfl rfl ?_;intro _ _ _)|(refine lo_box1 rfl rfl rfl ?_;intro _ _ _)|(refine lo_alloc rfl ?_;intro _ _ _))
      first | refine l_false rfl ?_ | refine l_no rfl (by simp <;> omega) ?_
      refine l_go .skip ?_
      repeat(first|refine lrun_ ?_|(refine lo_boxA rfl rfl ?_;intro _ _ _)|(refine lo_box1 rfl rfl rfl ?_;intro _ _ _)|(refine lo_alloc rfl ?_;intro _ _ _))
      exact ih (i + 1) w5 _ ⟨by omega, by omega⟩ (by omega) _ _ (by repeat (first | exact SubB.nil | refine SubB.cons rfl ?_)) (by repeat(first|exact MSub.refl|refine MSub.keep rfl ?_|exact MSub.nil|apply MSub.drop)) fun w' hw' => ⟨by omega, by omega⟩
    · repeat(first|refine lrun_ ?_|(refine lo_boxA rfl rfl ?_;intro _ _ _)|(refine lo_box1 rfl rfl rfl ?_;intro _ _ _)|(refine lo_alloc rfl ?_;intro _ _ _))
      first | refine l_false rfl ?_ | refine l_no rfl (by simp <;> omega) ?_
      refine l_go .skip ?_
      repeat(first|refine lrun_ ?_|(refine lo_boxA rfl rfl ?_;intro _ _ _)|(refine lo_box1 rfl rfl rfl ?_;intro _ _ _)|(refine lo_alloc rfl ?_;intro _ _ _))
      exact ih (i + 1) w5 _ ⟨by omega, by omega⟩ (by omega) _ _ (by repeat (first | exact SubB.nil | refine SubB.cons rfl ?_)) (by repeat(first|exact MSub.refl|refine MSub.keep rfl ?_|exact MSub.nil|apply MSub.drop)) fun w' hw' => ⟨by omega, by omega⟩
set_option maxHeartbeats 4000000 in
theorem linesL_law {W : World} {u : Value} {l : List (List Int)} {a0 a1 n : Int} (h : Sl kRow (fun _ => True) W u l) (ha0 : -9223372036854775808 ≤ a0 ∧ a0 ≤ 9223372036854775807) (ha1 : -9223372036854775808 ≤ a1 ∧ a1 ≤ 9223372036854775807) (hn : -9223372036854775808 ≤ n ∧ n ≤ 9223372036854775807) : CallsR Try.prog 7 #[u, .agg #[.int .i64 a0, .int .i64 a1], .int .i64 n] W fun r w' => Kn W w' ∧ r = .bool true := by
  refine l_enter (args := [u, .agg #[.int .i64 a0, .int .i64 a1], .int .i64 n]) (fun _ => False) Try.func7 rfl rfl ?_
  repeat(first|refine lrun_ ?_|(refine lo_boxA rfl rfl ?_;intro _ _ _)|(refine lo_box1 rfl rfl rfl ?_;intro _ _ _)|(refine lo_alloc rfl ?_;intro _ _ _))
  rename_i g4 hg4 hg4'
  refine lo_callP (n_call rfl) rfl (fun w' hw => small_calls (Kn.sl hw.org h)) ?_
  cases hs : smallM l
  case false =>
    repeat(first|refine lrun_ ?_|(refine lo_boxA rfl rfl ?_;intro _ _ _)|(refine lo_box1 rfl rfl rfl ?_;intro _ _ _)|(refine lo_alloc rfl ?_;intro _ _ _))
    refine l_true rfl ?_
    repeat(first|refine lrun_ ?_|(refine lo_boxA rfl rfl ?_;intro _ _ _)|(refine lo_box1 rfl rfl rfl ?_;intro _ _ _)|(refine lo_alloc rfl ?_;intro _ _ _))
    exact l_ret1 rfl rfl fun w' hw => ⟨hw.org, rfl⟩
  obtain ⟨hl1, hl2⟩ := small_bound hs
  repeat(first|refine lrun_ ?_|(refine lo_boxA rfl rfl ?_;intro _ _ _)|(refine lo_box1 rfl rfl rfl ?_;intro _ _ _)|(refine lo_alloc rfl ?_;intro _ _ _))
  refine l_false rfl ?_
  refine l_go .skip ?_
  repeat(first|refine lrun_ ?_|(refine lo_boxA rfl rfl ?_;intro _ _ _)|(refine lo_box1 rfl rfl rfl ?_;intro _ _ _)|(refine lo_alloc rfl ?_;intro _ _ _))
  refine lo_callM (n_call rfl) rfl (fun w' hw => open_calls (Kn.sl hw.org h) (by omega)) ?_
  rintro w1 u w2 hw1 kn1 ko1 hu
  rcases hu with ⟨hp, rfl⟩ | ⟨hp, gt, gx, m, rfl, hT, hX⟩
  · repeat(first|refine lrun_ ?_|(refine lo_boxA rfl rfl ?_;intro _ _ _)|(refine lo_box1 rfl rfl rfl ?_;intro _ _ _)|(refine lo_alloc rfl ?_;intro _ _ _))
    refine l_true rfl ?_
    repeat(first|refine lrun_ ?_|(refine lo_boxA rfl rfl ?_;intro _ _ _)|(refine lo_box1 rfl rfl rfl ?_;intro _ _ _)|(refine lo_alloc rfl ?_;intro _ _ _))
    exact l_ret1 rfl rfl fun w' hw => ⟨hw.org, rfl⟩
  have hnl : (newL l).length ≤ 300 ∧ runesM (newL l) + (newL l).length ≤ 3001 := by
    unfold newL
    split
    · exact ⟨by decide, by decide⟩
    · omega
  have hne := newL_ne l
  generalize newL l = L at *
  repeat(first|refine lrun_ ?_|(refine lo_boxA rfl rfl ?_;intro _ _ _)|(refine lo_box1 rfl rfl rfl ?_;intro _ _ _)|(refine lo_alloc rfl ?_;intro _ _ _))
  refine l_false rfl ?_
  refine l_go .skip ?_
  refine l_org fun w3 hw3 => ?_
  have hcl := hw3.mem g4 _ .hd
  have hlt : ∀ k, MK [(g4, cb [.int .i64 a0, .int .i64 a1] 55)] k → k < w1.heap.size := fun k hk => hw1.lt hk
  exact lines_loop (hT.kp hw3.kp fun k hk hm => by have := hlt k hm; have := hk.1; omega) (hX.kp hw3.kp fun k hk hm => by have := hlt k hm; have := hk.1; omega) (blk_cell hcl) (blk_cell hcl) hne hnl ha0 ha1 hn hw3.org _ (by repeat (first | exact SubB.nil | refine SubB.cons rfl ?_)) _ _ _ .nil
theorem law_TextLines {W : World} {u : Value} {l : List (List Int)} {ds : List Value} {x : List Int} {n : Int} (h : Sl kRow (fun _ => True) W u l) (hx : kTwo.R (fun _ => True) W x ds) (hn : -9223372036854775808 ≤ n ∧ n ≤ 9223372036854775807) :
    CallsR Try.prog 7 #[u, .agg ds.toArray, .int .i64 n] W fun r w' => r = .bool true ∧ Kn W w' := by
  obtain ⟨a, b, rfl, rfl, ha, hb⟩ := arr2_cells hx
  exact (linesL_law h ha hb hn).mono fun r w' ⟨h1, h2⟩ => ⟨h2, h1⟩
end Go.Ink
