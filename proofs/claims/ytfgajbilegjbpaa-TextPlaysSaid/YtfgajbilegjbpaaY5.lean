/-
  TextTurns.
-/
import Derived.Test.YtfgajbilegjbpaaY2
import Derived.Test.YtfgajbilegjbpaaZ1
import Derived.Test.YtfgajbilegjbpaaRead
set_option linter.unusedVariables false
set_option linter.unusedSimpArgs false
namespace Go.Ink
open Go Go.Proofs Go.RowKit

section
variable {L : List (List Int)}
/-- What the last place was, n places told. -/
def LastP (L : List (List Int)) (n : Nat) (a b : Int) : Prop := (n = 0 ∧ a = 0 ∧ b = -1) ∨ ∃ i c : Nat, i < L.length ∧ c ≤ (L.getD i []).length ∧ n = ofs L i + c + 1 ∧ a = i ∧ b = c
theorem last_next {n i c : Nat} {a b : Int} (h : LastP L n a b) (hi : i < L.length) (hc : c ≤ (L.getD i []).length) (hn : n = ofs L i + c) : ((i : Int) = a ∧ (c : Int) = b + 1) ∨ ((i : Int) = a + 1 ∧ (c : Int) = 0) := by
  rcases h with ⟨h1, h2, h3⟩ | ⟨i0, c0, h1, h2, h3, h4, h5⟩
  · have e0 : ofs L 0 = 0 := rfl
    obtain ⟨e1, e2⟩ := place_uniq (i := i) (c := c) (i' := 0) (c' := 0) hi hc (by omega) (Nat.zero_le _) (by omega)
    left; omega
  · have hs := ofs_succ h1
    by_cases hc0 : c0 < (L.getD i0 []).length
    · obtain ⟨e1, e2⟩ := place_uniq (i := i) (c := c) (i' := i0) (c' := c0 + 1) hi hc h1 hc0 (by omega)
      left; omega
    · rcases Nat.lt_or_ge (i0 + 1) L.length with h | h
      · obtain ⟨e1, e2⟩ := place_uniq (i := i) (c := c) (i' := i0 + 1) (c' := 0) hi hc h (Nat.zero_le _) (by omega)
        right; omega
      · have hne : L ≠ [] := List.length_pos_iff.1 (by omega)
        have e := ofs_last hne
        rw [show L.length - 1 = i0 by omega] at e
        have h6 : ofs L i ≤ ofs L (L.length - 1) := ofs_le' (by omega) (by omega)
        rcases Nat.lt_or_ge i (L.length - 1) with h7 | h7
        · have := ofs_succ hi
          have h8 := ofs_le' (L := L) (i := i + 1) (j := L.length - 1) (by omega) (by omega)
          rw [show L.length - 1 = i0 by omega] at h8
          omega
        · rw [show i = i0 by omega] at hc hn
          omega
theorem last_end {n : Nat} {a b : Int} (h : LastP L n a b) (hne : L ≠ []) (hn : n = (jndM L).length + 1) : a = (L.length : Int) - 1 := by
  have hl := List.length_pos_iff.2 hne
  have e := ofs_last hne
  rcases h with ⟨h1, _, _⟩ | ⟨i0, c0, h1, h2, h3, h4, h5⟩
  · omega
  · obtain ⟨e1, e2⟩ := place_uniq (i := i0) (c := c0) (i' := L.length - 1) (c' := (L.getD (L.length - 1) []).length) h1 h2 (by omega) (Nat.le_refl _) (by omega)
    omega
end
theorem small_bound {l : List (List Int)} (h : smallM l = true) : l.length ≤ 300 ∧ runesM l + l.length ≤ 3001 := by
  unfold smallM at h
  simp only [decide_eq_true_eq] at h
  omega
theorem newL_ne (l : List (List Int)) : newL l ≠ [] := by
  unfold newL
  split
  · simp
  · assumption
set_option maxHeartbeats 8000000 in
theorem turns_loop {w B : World} {D : Nat → Prop} {v : Value} {gt g4 b : Nat} {L : List (List Int)} (hT : IsTxt D gt B L b) :
    ∀ σ', SubB σ' [(3, .pointer (some ⟨gt, 0, none⟩)), (4, .pointer (some ⟨g4, 0, none⟩)), (5, .int .i64 0)] → ∀ M', MSub [(g4, cb [.int .i64 0, .int .i64 (-1)] 29)] M' →
      WL Try.prog Try.f3 (.code (bodyC Try.f3 [1, 1, 1, 1, 1, 0, 1, 0]) :: .inBlock 0 :: [.code (bodyC Try.f3 [1, 1, 1, 1, 1, 1])]) σ' w (fun _ => False) B (MK []) M' fun u w' => Kn w w' ∧ u = .bool true := by
  intro σ' hs M' hM
  refine WL.sub hs hM ?_
  have hf := hT.facts
  obtain ⟨_, hne, _, _⟩ := hf
  have hb := hT.bound
  have hjl := jnd_len L
  refine l_while (fun s : Nat × Int × Int => (jndM L).length + 1 - s.1) (fun s => [(3, .pointer (some ⟨gt, 0, none⟩)), (4, .pointer (some ⟨g4, 0, none⟩)), (5, .int .i64 (s.1 : Int))]) (fun s => [(g4, cb [.int .i64 s.2.1, .int .i64 s.2.2] 29)]) (fun s => s.1 ≤ (jndM L).length + 1 ∧ LastP L s.1 s.2.1 s.2.2) (0, 0, -1) (by repeat (first | exact SubB.nil | refine SubB.cons rfl ?_)) (by repeat(first|exact MSub.refl|refine MSub.keep rfl ?_|exact MSub.nil|apply MSub.drop)) ⟨Nat.zero_le _, .inl ⟨rfl, rfl, rfl⟩⟩ ?_
  rintro ⟨n, a, b⟩ ⟨hn, hla⟩ ih
  simp only at hn hla ih
  dsimp only
  repeat(first|refine lrun_ ?_|(refine lo_boxA rfl rfl ?_;intro _ _ _)|(refine lo_box1 rfl rfl rfl ?_;intro _ _ _)|(refine lo_alloc rfl ?_;intro _ _ _))
  refine lo_call (n_call rfl) rfl (fun w' hw => runesT_calls (hT.kp hw.kp fun _ _ => mk_nil)) ?_
  repeat(first|refine lrun_ ?_|(refine lo_boxA rfl rfl ?_;intro _ _ _)|(refine lo_box1 rfl rfl rfl ?_;intro _ _ _)|(refine lo_alloc rfl ?_;intro _ _ _))
  by_cases hle : n ≤ (jndM L).length
  case neg =>
    have he := last_end hla hne (by omega)
    refine l_no rfl (by omega) ?_
    refine l_go (.exit rfl) ?_
    repeat(first|refine lrun_ ?_|(refine lo_boxA rfl rfl ?_;intro _ _ _)|(refine lo_box1 rfl rfl rfl ?_;intro _ _ _)|(refine lo_alloc rfl ?_;intro _ _ _))
    refine l_draw [(0, 0), (1, 0), (2, 0), (3, 1), (4, 0), (5, 0), (6, 0), (7, 1), (8, 0), (9, 0)] (by kernel_rfl) (by kernel_rfl) rfl (by kernel_rfl) ?_
    repeat(first|refine lrund_ ?_|(refine ld_open rfl ?_;first|(refine ld_boxA rfl wy_ rfl ?_;intro _ _ _)|(refine ld_box1 rfl rfl wy_ rfl ?_;intro _ _ _)|(refine ld_alloc wy_ rfl ?_;intro _ _ _)))
    refine ld_open rfl ?_; refine ld_call (n_call rfl) wy_ rfl (fun w' hw' => count_calls (hT.kp hw'.kp fun _ _ => mk_nil)) ?_
    repeat(first|refine lrund_ ?_|(refine ld_open rfl ?_;first|(refine ld_boxA rfl wy_ rfl ?_;intro _ _ _)|(refine ld_box1 rfl rfl wy_ rfl ?_;intro _ _ _)|(refine ld_alloc wy_ rfl ?_;intro _ _ _)))
    refine ld_open rfl ?_; refine ld_call (n_call (args := []) rfl) wy_ rfl (fun w' hw' => awake_calls) ?_
    repeat(first|refine lrund_ ?_|(refine ld_open rfl ?_;first|(refine ld_boxA rfl wy_ rfl ?_;intro _ _ _)|(refine ld_box1 rfl rfl wy_ rfl ?_;intro _ _ _)|(refine ld_alloc wy_ rfl ?_;intro _ _ _)))
    exact l_ret1 rfl rfl fun w' hw => ⟨hw.org, rfl⟩
  refine l_yes rfl (by omega) ?_
  repeat(first|refine lrun_ ?_|(refine lo_boxA rfl rfl ?_;intro _ _ _)|(refine lo_box1 rfl rfl rfl ?_;intro _ _ _)|(refine lo_alloc rfl ?_;intro _ _ _))
  refine lo_callV (n_call rfl) rfl (fun w' hw => place_calls (n := n) (hT.kp hw.kp fun _ _ => mk_nil) (by omega)) ?_
  intro u hu
  rcases hu with ⟨h, _⟩ | ⟨i, c, hi, hc, hn2, rfl⟩
  · exact absurd (by omega) h
  have hsm := ofs_le (l := L) i
  repeat(first|refine lrun_ ?_|(refine lo_boxA rfl rfl ?_;intro _ _ _)|(refine lo_box1 rfl rfl rfl ?_;intro _ _ _)|(refine lo_alloc rfl ?_;intro _ _ _))
  rename_i g6 _ _
  have ht : thereP L ((i : Int), (c : Int)) := ⟨by simp only; omega, by simp only; omega, by simp only; omega, by simp only [Int.toNat_natCast]; omega⟩
  have hrb : (L.getD i []).length ≤ 65536 := by have := ofs_succ hi; have := ofs_le (l := L) (i + 1); omega
  refine lo_call (n_call rfl) rfl (fun w' hw => offsetT_calls (p := ((i : Int), (c : Int))) (hT.kp hw.kp fun _ _ => mk_nil) (by unfold P64; simp only; omega)) ?_
  rw [if_pos ht, if_pos ht]
  simp only [Int.toNat_natCast]
  rw [show (c : Int) + ((ofs L i : Nat) : Int) = (n : Int) by omega]
  have hnx := last_next hla hi hc (by omega)
  have hih := ih (n + 1, (i : Int), (c : Int)) ⟨by omega, .inr ⟨i, c, hi, hc, by omega, rfl, rfl⟩⟩ (by simp only; omega)
  rcases hnx with ⟨e1, e2⟩ | ⟨e1, e2⟩
  · repeat(first|refine lrun_ ?_|(refine lo_boxA rfl rfl ?_;intro _ _ _)|(refine lo_box1 rfl rfl rfl ?_;intro _ _ _)|(refine lo_alloc rfl ?_;intro _ _ _))
    refine l_false rfl ?_
    refine l_go .skip ?_
    repeat(first|refine lrun_ ?_|(refine lo_boxA rfl rfl ?_;intro _ _ _)|(refine lo_box1 rfl rfl rfl ?_;intro _ _ _)|(refine lo_alloc rfl ?_;intro _ _ _))
    exact hih _ _ (by repeat (first | exact SubB.nil | refine SubB.cons rfl ?_)) (by repeat(first|exact MSub.refl|refine MSub.keep rfl ?_|exact MSub.nil|apply MSub.drop))
  · repeat(first|refine lrun_ ?_|(refine lo_boxA rfl rfl ?_;intro _ _ _)|(refine lo_box1 rfl rfl rfl ?_;intro _ _ _)|(refine lo_alloc rfl ?_;intro _ _ _))
    refine l_no rfl (by omega) ?_
    refine l_go .skip ?_
    repeat(first|refine lrun_ ?_|(refine lo_boxA rfl rfl ?_;intro _ _ _)|(refine lo_box1 rfl rfl rfl ?_;intro _ _ _)|(refine lo_alloc rfl ?_;intro _ _ _))
    exact hih _ _ (by repeat (first | exact SubB.nil | refine SubB.cons rfl ?_)) (by repeat(first|exact MSub.refl|refine MSub.keep rfl ?_|exact MSub.nil|apply MSub.drop))
set_option maxHeartbeats 4000000 in
theorem law_TextTurns {W : World} {u : Value} {l : List (List Int)} (h : Sl kRow (fun _ => True) W u l) : CallsR Try.prog 3 #[u] W fun r w' => r = .bool true ∧ Kn W w' := by
  suffices h : CallsR Try.prog 3 #[u] W fun r w' => Kn W w' ∧ r = .bool true from h.mono fun _ _ ⟨a, b⟩ => ⟨b, a⟩
  refine l_enter (args := [u]) (fun _ => False) Try.func3 rfl rfl ?_
  repeat(first|refine lrun_ ?_|(refine lo_boxA rfl rfl ?_;intro _ _ _)|(refine lo_box1 rfl rfl rfl ?_;intro _ _ _)|(refine lo_alloc rfl ?_;intro _ _ _))
  refine lo_callP (n_call rfl) rfl (fun w' hw => small_calls (Kn.sl hw.org h)) ?_
  cases hs : smallM l
  case false =>
    repeat(first|refine lrun_ ?_|(refine lo_boxA rfl rfl ?_;intro _ _ _)|(refine lo_box1 rfl rfl rfl ?_;intro _ _ _)|(refine lo_alloc rfl ?_;intro _ _ _))
    refine l_true rfl ?_
    repeat(first|refine lrun_ ?_|(refine lo_boxA rfl rfl ?_;intro _ _ _)|(refine lo_box1 rfl rfl rfl ?_;intro _ _ _)|(refine lo_alloc rfl ?_;intro _ _ _))
    exact l_ret1 rfl rfl fun w' hw => ⟨hw.org, rfl⟩
  obtain ⟨hl1, hl2⟩ := small_bound hs
  repeat(first|refine lrun_ ?_|(refine lo_boxA rfl rfl ?_;intro _ _ _)|(refine lo_box1 rfl rfl rfl ?_;intro _ _ _)|(refine lo_alloc rfl ?_;intro _ _ _))
  refine l_false rfl ?_
  refine l_go .skip ?_
  repeat(first|refine lrun_ ?_|(refine lo_boxA rfl rfl ?_;intro _ _ _)|(refine lo_box1 rfl rfl rfl ?_;intro _ _ _)|(refine lo_alloc rfl ?_;intro _ _ _))
  refine lo_callM (n_call rfl) rfl (fun w' hw => newT_calls (Kn.sl hw.org h) (by omega)) ?_
  rintro w1 u w2 hw1 kn1 ko1 hu
  rcases hu with ⟨hp, rfl⟩ | ⟨hp, gt, rfl, hT⟩
  · repeat(first|refine lrun_ ?_|(refine lo_boxA rfl rfl ?_;intro _ _ _)|(refine lo_box1 rfl rfl rfl ?_;intro _ _ _)|(refine lo_alloc rfl ?_;intro _ _ _))
    refine l_true rfl ?_
    repeat(first|refine lrun_ ?_|(refine lo_boxA rfl rfl ?_;intro _ _ _)|(refine lo_box1 rfl rfl rfl ?_;intro _ _ _)|(refine lo_alloc rfl ?_;intro _ _ _))
    refine lo_call (v := .pointer none) (n_call rfl) rfl (fun w' hw => (new04_calls (Kn.sl hw.org h) (by omega)).mono fun r w'' ⟨h1, h2⟩ => ⟨h1, ?_⟩) ?_
    · rcases h2 with ⟨_, h2⟩ | ⟨h2, _⟩
      · exact h2
      · rw [hp] at h2; cases h2
    repeat(first|refine lrun_ ?_|(refine lo_boxA rfl rfl ?_;intro _ _ _)|(refine lo_box1 rfl rfl rfl ?_;intro _ _ _)|(refine lo_alloc rfl ?_;intro _ _ _))
    exact l_ret1 rfl rfl fun w' hw => ⟨hw.org, rfl⟩
  rw [new_split hp] at hT
  repeat(first|refine lrun_ ?_|(refine lo_boxA rfl rfl ?_;intro _ _ _)|(refine lo_box1 rfl rfl rfl ?_;intro _ _ _)|(refine lo_alloc rfl ?_;intro _ _ _))
  refine l_false rfl ?_
  refine l_go .skip ?_
  repeat(first|refine lrun_ ?_|(refine lo_boxA rfl rfl ?_;intro _ _ _)|(refine lo_box1 rfl rfl rfl ?_;intro _ _ _)|(refine lo_alloc rfl ?_;intro _ _ _))
  exact turns_loop (v := u) hT _ (by repeat (first | exact SubB.nil | refine SubB.cons rfl ?_)) _ (by repeat(first|exact MSub.refl|refine MSub.keep rfl ?_|exact MSub.nil|apply MSub.drop))
end Go.Ink
