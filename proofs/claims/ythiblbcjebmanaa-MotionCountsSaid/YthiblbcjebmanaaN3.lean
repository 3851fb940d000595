/-
  MotionBrackets.
-/
import Derived.Test.YthiblbcjebmanaaN2
import Derived.Test.YthiblbcjebmanaaN1
set_option linter.unusedVariables false
set_option linter.unusedSimpArgs false
namespace Go.Ink
open Go Go.Proofs

theorem mvV_t (q : Ps) (h : Int) (b : Bool) : mvV (q, h, b) = .tuple #[.agg #[.int .i64 q.1, .int .i64 q.2], .int .i64 h, .bool b] := rfl
theorem at_P {l : List (List Int)} {A : Option Addr} {c : Nat} {ad : Addr} {rV : Nat → Option Addr} {rc : Nat → Nat} {ra : Nat → Addr} {W : World} {F : Nat → Prop} (hR : Rws F W A c l ad rV rc ra) {q : Ps} (h : At l q) : P64 q := at_P64 hR.len hR.rl h
theorem brMo_ok : MoOk brMo := ⟨by decide, by decide, by decide, by decide⟩
set_option maxHeartbeats 8000000 in
theorem core_MotionBrackets {W : World} {u : Value} {l : List (List Int)} {p : Ps} (h : Sl kRow (fun _ => True) W u l) (hp : P64 p) :
    CallsR Try.prog 5 #[u, posV p] W fun r w' => r = .bool true ∧ Kn W w' := by
  obtain ⟨A, c, ad, rV, rc, ra, rfl, hR⟩ := h.rws
  have hlen := hR.len
  refine l_enter (fun _ => False) Try.func5 rfl rfl ?_
  repeat(first|refine lrun_ ?_|(refine lo_boxA rfl rfl ?_;intro _ _ _)|(refine lo_box1 rfl rfl rfl ?_;intro _ _ _)|(refine lo_alloc rfl ?_;intro _ _ _))
  refine lo_callP (n_call rfl) rfl (fun w hw => small_calls (Kn.sl hw.org h)) ?_
  cases hs : smallM l with
  | false =>
    repeat(first|refine lrun_ ?_|(refine lo_boxA rfl rfl ?_;intro _ _ _)|(refine lo_box1 rfl rfl rfl ?_;intro _ _ _)|(refine lo_alloc rfl ?_;intro _ _ _))
    refine l_true rfl ?_
    repeat(first|refine lrun_ ?_|(refine lo_boxA rfl rfl ?_;intro _ _ _)|(refine lo_box1 rfl rfl rfl ?_;intro _ _ _)|(refine lo_alloc rfl ?_;intro _ _ _))
    refine lo_call (n_call rfl) rfl (fun w hw => awake_calls) ?_
    repeat(first|refine lrun_ ?_|(refine lo_boxA rfl rfl ?_;intro _ _ _)|(refine lo_box1 rfl rfl rfl ?_;intro _ _ _)|(refine lo_alloc rfl ?_;intro _ _ _))
    exact l_ret1 rfl rfl fun w hw => ⟨rfl, hw.org⟩
  | true =>
    have hs0 := small_room hs
    by_cases hl0 : l = []
    · have e : l.length = 0 := by rw [hl0]; rfl
      repeat(first|refine lrun_ ?_|(refine lo_boxA rfl rfl ?_;intro _ _ _)|(refine lo_box1 rfl rfl rfl ?_;intro _ _ _)|(refine lo_alloc rfl ?_;intro _ _ _))
      refine l_yes rfl (by omega) ?_
      repeat(first|refine lrun_ ?_|(refine lo_boxA rfl rfl ?_;intro _ _ _)|(refine lo_box1 rfl rfl rfl ?_;intro _ _ _)|(refine lo_alloc rfl ?_;intro _ _ _))
      refine lo_call (n_call rfl) rfl (fun w hw => awake_calls) ?_
      repeat(first|refine lrun_ ?_|(refine lo_boxA rfl rfl ?_;intro _ _ _)|(refine lo_box1 rfl rfl rfl ?_;intro _ _ _)|(refine lo_alloc rfl ?_;intro _ _ _))
      exact l_ret1 rfl rfl fun w hw => ⟨rfl, hw.org⟩
    have hll := List.length_pos_iff.2 hl0
    repeat(first|refine lrun_ ?_|(refine lo_boxA rfl rfl ?_;intro _ _ _)|(refine lo_box1 rfl rfl rfl ?_;intro _ _ _)|(refine lo_alloc rfl ?_;intro _ _ _))
    refine l_no rfl (by omega) ?_
    repeat(first|refine lrun_ ?_|(refine lo_boxA rfl rfl ?_;intro _ _ _)|(refine lo_box1 rfl rfl rfl ?_;intro _ _ _)|(refine lo_alloc rfl ?_;intro _ _ _))
    refine lo_callV (n_call rfl) rfl (fun w hw => move_calls (p := p) (m := brMo) (op := false) hs0 (Kn.sl hw.org h) hl0 hp brMo_ok) ?_
    rintro _ ⟨r, rfl, hr⟩
    rcases br_there hl0 hr with ⟨q, rfl⟩ | ⟨s, a, rfl, hb⟩
    · rw [mvV_t]
      repeat(first|refine lrun_ ?_|(refine lo_boxA rfl rfl ?_;intro _ _ _)|(refine lo_box1 rfl rfl rfl ?_;intro _ _ _)|(refine lo_alloc rfl ?_;intro _ _ _))
      refine l_true rfl ?_
      repeat(first|refine lrun_ ?_|(refine lo_boxA rfl rfl ?_;intro _ _ _)|(refine lo_box1 rfl rfl rfl ?_;intro _ _ _)|(refine lo_alloc rfl ?_;intro _ _ _))
      refine lo_call (n_call rfl) rfl (fun w hw => awake_calls) ?_
      repeat(first|refine lrun_ ?_|(refine lo_boxA rfl rfl ?_;intro _ _ _)|(refine lo_box1 rfl rfl rfl ?_;intro _ _ _)|(refine lo_alloc rfl ?_;intro _ _ _))
      exact l_ret1 rfl rfl fun w hw => ⟨rfl, hw.org⟩
    · rw [mvV_t]
      clear hr
      have hne : ¬ (s.1 = a.1 ∧ s.2 = a.2) := fun e => hb.ne (Prod.ext e.1.symm e.2.symm)
      have hPa : P64 a := at_P hR hb.snd
      have hPs : P64 s := at_P hR hb.fst
      repeat(first|refine lrun_ ?_|(refine lo_boxA rfl rfl ?_;intro _ _ _)|(refine lo_box1 rfl rfl rfl ?_;intro _ _ _)|(refine lo_alloc rfl ?_;intro _ _ _))
      refine l_false rfl ?_
      repeat(first|refine lrun_ ?_|(refine lo_boxA rfl rfl ?_;intro _ _ _)|(refine lo_box1 rfl rfl rfl ?_;intro _ _ _)|(refine lo_alloc rfl ?_;intro _ _ _))
      refine lo_call (n_call rfl) rfl (fun w hw => move_known (p := a) (m := brMo) (op := false) (R := (s, 1, true)) (fun r hr => hb.symm.back_ hr) hs0 (Kn.sl hw.org h) hl0 hPa brMo_ok) ?_
      rw [mvV_t]
      repeat(first|refine lrun_ ?_|(refine lo_boxA rfl rfl ?_;intro _ _ _)|(refine lo_box1 rfl rfl rfl ?_;intro _ _ _)|(refine lo_alloc rfl ?_;intro _ _ _))
      refine lo_call (n_call rfl) rfl (fun w hw => move_known (p := s) (m := brMo) (op := false) (R := (a, 1, true)) (fun r hr => hb.back_ hr) hs0 (Kn.sl hw.org h) hl0 hPs brMo_ok) ?_
      rw [mvV_t]
      repeat(first|refine lrun_ ?_|(refine lo_boxA rfl rfl ?_;intro _ _ _)|(refine lo_box1 rfl rfl rfl ?_;intro _ _ _)|(refine lo_alloc rfl ?_;intro _ _ _))
      refine lo_call (n_call rfl) rfl (fun w hw => awake_calls) ?_
      repeat(first|refine lrun_ ?_|(refine lo_boxA rfl rfl ?_;intro _ _ _)|(refine lo_box1 rfl rfl rfl ?_;intro _ _ _)|(refine lo_alloc rfl ?_;intro _ _ _))
      exact l_ret1 rfl rfl fun w hw => ⟨rfl, hw.org⟩
end Go.Ink
