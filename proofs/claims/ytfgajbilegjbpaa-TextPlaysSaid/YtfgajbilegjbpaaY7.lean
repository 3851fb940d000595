/-
  TextUndoes.
-/
import Derived.Test.YtfgajbilegjbpaaP1
import Derived.Test.YtfgajbilegjbpaaY5
set_option linter.unusedVariables false
set_option linter.unusedSimpArgs false
namespace Go.Ink
open Go Go.Proofs Go.RowKit

/-- What is held in the base, in blocks that are told. -/
def HdF {α : Type} (d : Kd α) (F : Nat → Prop) (B : World) (K : Nat → Prop) (v : Value) (xs : List α) : Prop := Sl d F B v xs ∧ ∀ k, F k → ¬ K k ∧ k < B.heap.size
section
variable {α : Type} {d : Kd α} {F T : Nat → Prop} {O B w w' : World} {S K : Nat → Prop} {M : Mm} {v : Value} {xs : List α}
theorem HdF.now (h : HdF d F B K v xs) (hw : Lw O S B K M w) : Sl d F w v xs := Kp.sl hw.kp h.1 fun k hk => (h.2 k hk).1
theorem HdF.nextT (h : HdF d F B K v xs) (hw : Lw O S B K M w) (kp : Kp T w w') (hT : ∀ k, F k → ¬ T k) : HdF d F w' (MK M) v xs :=
  ⟨Kp.sl kp (h.now hw) hT, fun k hk => ⟨hw.apart (h.2 k hk).1 (h.2 k hk).2, by have := hw.kp.size; have := kp.size; have := (h.2 k hk).2; omega⟩⟩
theorem HdF.next (h : HdF d F B K v xs) (hw : Lw O S B K M w) (kn : Kn w w') : HdF d F w' (MK M) v xs := h.nextT hw kn fun _ _ h => h
end
theorem clamp_nat (n : Int) (m : Nat) : ∃ N : Nat, (if (0 : Int) < (if (m : Int) < n then (m : Int) else n) then (if (m : Int) < n then (m : Int) else n) else 0) = (N : Int) ∧ N ≤ m :=
  ⟨(if (0 : Int) < (if (m : Int) < n then (m : Int) else n) then (if (m : Int) < n then (m : Int) else n) else 0).toNat, by split <;> split <;> omega, by split <;> split <;> omega⟩
theorem jnd_small {l : List (List Int)} (h1 : l.length ≤ 300) (h2 : runesM l + l.length ≤ 3001) : (jndM (newL l)).length ≤ 3001 := by
  have := jnd_len (newL l)
  unfold newL at this ⊢
  split at this
  · simp at this
    have e : runesM [[]] = 0 := rfl
    rw [if_pos (by assumption)]
    omega
  · rw [if_neg (by assumption)]
    omega
theorem new_plain {l : List (List Int)} (h : plainB l = true) : ∀ x ∈ newL l, 10 ∉ x := by
  unfold newL
  split
  · simp
  · exact plain_iff.1 h
set_option maxHeartbeats 8000000 in
theorem law_TextUndoes {W : World} {u v : Value} {l : List (List Int)} {n0 : Int} {more : List Int} (h : Sl kRow (fun _ => True) W u l) (hn0 : -9223372036854775808 ≤ n0 ∧ n0 ≤ 9223372036854775807) (hv : Sl kRune (fun _ => True) W v more) : CallsR Try.prog 6 #[u, .int .i64 n0, v] W fun r w' => r = .bool true ∧ Kn W w' := by
  suffices h : CallsR Try.prog 6 #[u, .int .i64 n0, v] W fun r w' => Kn W w' ∧ r = .bool true from h.mono fun _ _ ⟨a, b⟩ => ⟨b, a⟩
  refine l_enter (args := [u, .int .i64 n0, v]) (fun _ => False) Try.func6 rfl rfl ?_
  have hv' := hv.old
  obtain ⟨Am, cm, rfl, _⟩ := hv.form
  repeat(first|refine lrun_ ?_|(refine lo_boxA rfl rfl ?_;intro _ _ _)|(refine lo_box1 rfl rfl rfl ?_;intro _ _ _)|(refine lo_alloc rfl ?_;intro _ _ _))
  refine lo_callP (n_call rfl) rfl (fun w' hw => small_calls (Kn.sl hw.org h)) ?_
  cases hs : smallM l
  case false =>
    repeat(first|refine lrun_ ?_|(refine lo_boxA rfl rfl ?_;intro _ _ _)|(refine lo_box1 rfl rfl rfl ?_;intro _ _ _)|(refine lo_alloc rfl ?_;intro _ _ _))
    refine l_true rfl ?_
    repeat(first|refine lrun_ ?_|(refine lo_boxA rfl rfl ?_;intro _ _ _)|(refine lo_box1 rfl rfl rfl ?_;intro _ _ _)|(refine lo_alloc rfl ?_;intro _ _ _))
    exact l_ret1 rfl rfl fun w' hw => ⟨hw.org, rfl⟩
  obtain ⟨hl1, hl2⟩ := small_bound hs
  by_cases hml : 1000 < more.length
  · repeat(first|refine lrun_ ?_|(refine lo_boxA rfl rfl ?_;intro _ _ _)|(refine lo_box1 rfl rfl rfl ?_;intro _ _ _)|(refine lo_alloc rfl ?_;intro _ _ _))
    refine l_yes rfl (by omega) ?_
    repeat(first|refine lrun_ ?_|(refine lo_boxA rfl rfl ?_;intro _ _ _)|(refine lo_box1 rfl rfl rfl ?_;intro _ _ _)|(refine lo_alloc rfl ?_;intro _ _ _))
    exact l_ret1 rfl rfl fun w' hw => ⟨hw.org, rfl⟩
  repeat(first|refine lrun_ ?_|(refine lo_boxA rfl rfl ?_;intro _ _ _)|(refine lo_box1 rfl rfl rfl ?_;intro _ _ _)|(refine lo_alloc rfl ?_;intro _ _ _))
  refine l_no rfl (by omega) ?_
  refine l_go .skip ?_
  repeat(first|refine lrun_ ?_|(refine lo_boxA rfl rfl ?_;intro _ _ _)|(refine lo_box1 rfl rfl rfl ?_;intro _ _ _)|(refine lo_alloc rfl ?_;intro _ _ _))
  refine lo_callM (n_call rfl) rfl (fun w' hw => newT_calls (Kn.sl hw.org h) (by omega)) ?_
  rintro w1 u w2 hw1 kn1 ko1 hu
  rcases hu with ⟨hp, rfl⟩ | ⟨hp, gt, rfl, hT⟩
  · repeat(first|refine lrun_ ?_|(refine lo_boxA rfl rfl ?_;intro _ _ _)|(refine lo_box1 rfl rfl rfl ?_;intro _ _ _)|(refine lo_alloc rfl ?_;intro _ _ _))
    refine l_true rfl ?_
    repeat(first|refine lrun_ ?_|(refine lo_boxA rfl rfl ?_;intro _ _ _)|(refine lo_box1 rfl rfl rfl ?_;intro _ _ _)|(refine lo_alloc rfl ?_;intro _ _ _))
    refine lo_call (v := .pointer none) (n_call rfl) rfl (fun w' hw => (new04_calls (Kn.sl hw.org h) (by omega)).mono fun r w'' ⟨h1, h2⟩ => ⟨h1, ?_⟩) ?_
    · rcases h2 with ⟨_, h2⟩ | ⟨h2, _⟩
      · exact h2
      · rw [hp] at h2; cases h2
    repeat(first|refine lrun_ ?_|(refine lo_boxA rfl rfl ?_;intro _ _ _)|(refine lo_box1 rfl rfl rfl ?_;intro _ _ _)|(refine lo_alloc rfl ?_;intro _ _ _))
    exact l_ret1 rfl rfl fun w' hw => ⟨hw.org, rfl⟩
  have hbl := jnd_small hl1 hl2
  rw [new_split hp] at hT
  generalize hjb : (jndM l).length = jb at hT
  have hjb2 : jb ≤ 3001 := by have := jnd_len l; omega
  have hpl := new_plain hp
  have hne := newL_ne l
  generalize newL l = L at *
  have hs1 := hw1.org.size
  have hs2 := kn1.size
  have hB := hT.mono (D' := fun k => noB w1 k ∧ k < w2.heap.size) fun k hk hl => ⟨hk, hl⟩
  repeat(first|refine lops_ ?_|(refine lo_boxA rfl rfl ?_;intro _ _ _)|(refine lo_box1 rfl rfl rfl ?_;intro _ _ _)|(refine lo_alloc rfl ?_;intro _ _ _))
  refine lo_nil ?_
  refine l_baseM (M3 := []) .nil fun w3 hw3 => ?_
  have hs3 := hw3.kp.size
  have hB3 : TxB W w3 (MK []) (fun k => noB w1 k ∧ k < w2.heap.size) gt L _ := ⟨hB.kp hw3.kp fun k hk hm => mk_nil hm, fun k hk => ⟨by have := hk.1; unfold noB at this; omega, by have := hk.2; omega, mk_nil⟩⟩
  repeat(first|refine lrun_ ?_|(refine lo_boxA rfl rfl ?_;intro _ _ _)|(refine lo_box1 rfl rfl rfl ?_;intro _ _ _)|(refine lo_alloc rfl ?_;intro _ _ _))
  refine l_false rfl ?_
  refine l_go .skip ?_
  repeat(first|refine lrun_ ?_|(refine lo_boxA rfl rfl ?_;intro _ _ _)|(refine lo_box1 rfl rfl rfl ?_;intro _ _ _)|(refine lo_alloc rfl ?_;intro _ _ _))
  refine lo_callM (n_call rfl) rfl (fun w' hw => all_calls (hB3.now hw)) ?_
  rintro w4 u8 w5 hw4 kn4 ko4 hA
  have hB5 := hB3.next hw4 kn4
  have hs4 := hw4.kp.size
  have hs5 := kn4.size
  have hA5 : HdF kRow (fun k => noB w4 k ∧ k < w5.heap.size) w5 (MK []) u8 L := ⟨(((hA.ow (by have := jnd_len L; omega)).slF (fun _ h => h) fun _ h => h)).mono fun k hk hl => ⟨hk, hl⟩, fun k hk => ⟨mk_nil, hk.2⟩⟩
  obtain ⟨Au, cu, rfl, _⟩ := hA5.1.form
  repeat(first|refine lrun_ ?_|(refine lo_boxA rfl rfl ?_;intro _ _ _)|(refine lo_box1 rfl rfl rfl ?_;intro _ _ _)|(refine lo_alloc rfl ?_;intro _ _ _))
  refine lo_call (n_call rfl) rfl (fun w' hw => runesT_calls (hB5.now hw)) ?_
  repeat(first|refine lrun_ ?_|(refine lo_boxA rfl rfl ?_;intro _ _ _)|(refine lo_box1 rfl rfl rfl ?_;intro _ _ _)|(refine lo_alloc rfl ?_;intro _ _ _))
  obtain ⟨n, hn, hnl⟩ := clamp_nat n0 (jndM L).length
  rw [hn]
  refine lo_callV (n_call rfl) rfl (fun w' hw => place_calls (n := n) (hB5.now hw) (by omega)) ?_
  intro u hu
  rcases hu with ⟨h, _⟩ | ⟨i, c, hi, hc, hn2, rfl⟩
  · exact absurd (by omega) h
  obtain ⟨L', hU⟩ := undo_ins (more := more) hpl hne hi hc (n := n) (by omega) (by omega) hnl
  have hsm := ofs_end hi
  have hjn := hU.jn
  have hjl : (jndM L').length = (jndM L).length + more.length := by rw [hjn]; simp only [List.length_append, List.length_take, List.length_drop]; omega
  repeat(first|refine lrun_ ?_|(refine lo_boxA rfl rfl ?_;intro _ _ _)|(refine lo_box1 rfl rfl rfl ?_;intro _ _ _)|(refine lo_alloc rfl ?_;intro _ _ _))
  rename_i g9 _ _
  refine lo_txt hB5 (n_call rfl) rfl (fun w' hw hT => insertT_calls (p := ((i : Int), (c : Int))) (l := more) (F := fun k => k < W.heap.size) hT (by unfold P64; simp only; have := jnd_len L; omega) (Kn.sl hw.org hv') (fun k hk _ e => by have := e.1; unfold noB at this; omega) (by omega)) ?_
  intro w6 w7 hw6 kp6 ko6 hB7
  rw [hU.ins] at hB7 ⊢
  replace hB7 : TxB W w7 _ _ gt L' _ := hB7
  have hs6 := hw6.kp.size
  have hs7 := kp6.size
  have hA7 := hA5.nextT hw6 kp6 fun k hk e => by have := hk.1; have := e.2; unfold noB at *; omega
  repeat(first|refine lrun_ ?_|(refine lo_boxA rfl rfl ?_;intro _ _ _)|(refine lo_box1 rfl rfl rfl ?_;intro _ _ _)|(refine lo_alloc rfl ?_;intro _ _ _))
  refine l_false rfl ?_
  refine l_go .skip ?_
  repeat(first|refine lrun_ ?_|(refine lo_boxA rfl rfl ?_;intro _ _ _)|(refine lo_box1 rfl rfl rfl ?_;intro _ _ _)|(refine lo_alloc rfl ?_;intro _ _ _))
  rw [show (n : Int) + (more.length : Int) = ((n + more.length : Nat) : Int) by omega]
  refine lo_callV (n_call rfl) rfl (fun w' hw => place_calls (n := (n + more.length : Nat)) (hB7.now hw) (by omega)) ?_
  intro u hu
  rcases hu with ⟨h, _⟩ | ⟨i2, c2, hi2, hc2, hn3, rfl⟩
  · exact (h ⟨by omega, by omega⟩).elim
  have hsm2 := ofs_end hi2
  obtain ⟨hsl, hdl⟩ := undo_back (q := ((i2 : Int), (c2 : Int))) hpl hne hU hnl (by omega) (there_nat hi2 hc2) (by rw [ofP_nat]; omega)
  have hjL := jnd_len L
  have hjL' := jnd_len L'
  have hP1 : P64 ((i : Int), (c : Int)) := by unfold P64; simp only; omega
  have hP2 : P64 ((i2 : Int), (c2 : Int)) := by unfold P64; simp only; omega
  repeat(first|refine lrun_ ?_|(refine lo_boxA rfl rfl ?_;intro _ _ _)|(refine lo_box1 rfl rfl rfl ?_;intro _ _ _)|(refine lo_alloc rfl ?_;intro _ _ _))
  rename_i g11 _ _
  refine lo_callM (n_call rfl) rfl (fun w' hw => sliceT_calls (p := ((i : Int), (c : Int))) (q := ((i2 : Int), (c2 : Int))) (hB7.now hw) hP1 hP2) ?_
  rintro w8 _ w9 hw8 kn8 ko8 ⟨vg, rfl, hG⟩
  rw [hsl] at hG ⊢
  replace hG : Ow kRune (noB w8) (fun _ => False) w9 vg more := hG
  have hB9 := hB7.next hw8 kn8
  have hA9 := hA7.next hw8 kn8
  have hG9 := Hd.of hG hw8
  obtain ⟨Ag, cg, rfl, _⟩ := hG9.form
  repeat(first|refine lrun_ ?_|(refine lo_boxA rfl rfl ?_;intro _ _ _)|(refine lo_box1 rfl rfl rfl ?_;intro _ _ _)|(refine lo_alloc rfl ?_;intro _ _ _))
  refine lo_call (n_call rfl) rfl (fun w' hw => runes_calls (hG9.now hw) (Kn.sl hw.org hv')) ?_
  rw [decide_eq_true rfl]
  repeat(first|refine lrun_ ?_|(refine lo_boxA rfl rfl ?_;intro _ _ _)|(refine lo_box1 rfl rfl rfl ?_;intro _ _ _)|(refine lo_alloc rfl ?_;intro _ _ _))
  refine lo_txt hB9 (n_call rfl) rfl (fun w' hw hT => deleteT_calls (p := ((i : Int), (c : Int))) (q := ((i2 : Int), (c2 : Int))) hT hP1 hP2 (by omega)) ?_
  intro w10 w11 hw10 kp10 ko10 hB11
  rw [hdl] at hB11 ⊢
  replace hB11 : TxB W w11 _ _ gt L _ := hB11
  have hA11 := hA9.nextT hw10 kp10 fun k hk e => by
    have h1 := hk.1
    have h2 := hk.2
    obtain ⟨e1 | e1, e2⟩ := e
    · have := e1.2; unfold noB at *; omega
    · omega
  repeat(first|refine lrun_ ?_|(refine lo_boxA rfl rfl ?_;intro _ _ _)|(refine lo_box1 rfl rfl rfl ?_;intro _ _ _)|(refine lo_alloc rfl ?_;intro _ _ _))
  refine l_false rfl ?_
  refine l_go .skip ?_
  repeat(first|refine lrun_ ?_|(refine lo_boxA rfl rfl ?_;intro _ _ _)|(refine lo_box1 rfl rfl rfl ?_;intro _ _ _)|(refine lo_alloc rfl ?_;intro _ _ _))
  refine lo_callM (n_call rfl) rfl (fun w' hw => all_calls (hB11.now hw)) ?_
  rintro w12 u12 w13 hw12 kn12 ko12 hA2
  have hA13 := hA11.next hw12 kn12
  have hO13 := Hd.of (hA2.ow (by omega)) hw12
  obtain ⟨A12, c12, rfl, _⟩ := hO13.form
  repeat(first|refine lrun_ ?_|(refine lo_boxA rfl rfl ?_;intro _ _ _)|(refine lo_box1 rfl rfl rfl ?_;intro _ _ _)|(refine lo_alloc rfl ?_;intro _ _ _))
  refine lo_call (n_call rfl) rfl (fun w' hw => same04_calls (hO13.now hw) (hA13.now hw)) ?_
  rw [decide_eq_true rfl]
  repeat(first|refine lrun_ ?_|(refine lo_boxA rfl rfl ?_;intro _ _ _)|(refine lo_box1 rfl rfl rfl ?_;intro _ _ _)|(refine lo_alloc rfl ?_;intro _ _ _))
  refine lo_call (n_call (args := []) rfl) rfl (fun w' hw => awake_calls) ?_
  repeat(first|refine lrun_ ?_|(refine lo_boxA rfl rfl ?_;intro _ _ _)|(refine lo_box1 rfl rfl rfl ?_;intro _ _ _)|(refine lo_alloc rfl ?_;intro _ _ _))
  exact l_ret1 rfl rfl fun w' hw => ⟨hw.org, rfl⟩
end Go.Ink
