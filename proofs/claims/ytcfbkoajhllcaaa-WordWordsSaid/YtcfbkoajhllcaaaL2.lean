/-
  WordWords.
-/
import Derived.Test.YtcfbkoajhllcaaaL0
set_option linter.unusedVariables false
set_option linter.unusedSimpArgs false
namespace Go.Ink
open Go Go.Proofs

set_option maxHeartbeats 4000000 in
theorem law_WordWords {W : World} {u : Value} {l : List (List Int)} {p : Ps} {cs : List Value} (h : Sl kRow (fun _ => True) W u l) (h' : kPs.R (fun _ => True) W p cs) (big : Bool) :
    CallsR Try.prog 5 #[u, .agg cs.toArray, .bool big] W fun r w' => r = .bool true ∧ Kn W w' := by
  obtain ⟨A, c, ad, rV, rc, ra, rfl, hR⟩ := h.rws
  obtain ⟨rfl, hp⟩ := ps_form h'
  have hlen := hR.len
  refine l_enter (fun _ => False) Try.func5 rfl rfl ?_
  repeat(first|refine lrun_ ?_|(refine lo_boxA rfl rfl ?_;intro _ _ _)|(refine lo_box1 rfl rfl rfl ?_;intro _ _ _)|(refine lo_alloc rfl ?_;intro _ _ _))
  rename_i g4 _ _
  refine lo_callP (n_call rfl) rfl (fun w hw => small_calls (Kn.sl hw.org h)) ?_
  cases hs : smallM l with
  | false =>
    repeat(first|refine lrun_ ?_|(refine lo_boxA rfl rfl ?_;intro _ _ _)|(refine lo_box1 rfl rfl rfl ?_;intro _ _ _)|(refine lo_alloc rfl ?_;intro _ _ _))
    refine l_true rfl ?_
    repeat(first|refine lrun_ ?_|(refine lo_boxA rfl rfl ?_;intro _ _ _)|(refine lo_box1 rfl rfl rfl ?_;intro _ _ _)|(refine lo_alloc rfl ?_;intro _ _ _))
    exact l_ret1 rfl rfl fun w hw => ⟨rfl, hw.org⟩
  | true =>
    have hs0 := small_room hs
    repeat(first|refine lrun_ ?_|(refine lo_boxA rfl rfl ?_;intro _ _ _)|(refine lo_box1 rfl rfl rfl ?_;intro _ _ _)|(refine lo_alloc rfl ?_;intro _ _ _))
    refine l_false rfl ?_
    have J : ∀ k1 k2 : Int, (k1 = 0 ∧ k2 = 2 ∧ big = false ∨ k1 = 1 ∧ k2 = 3 ∧ big = true) → ∀ σ', SubB σ' [(0, .slice A l.length c), (2, .bool big), (4, .pointer (some ⟨g4, 0, none⟩)), (7, .int .i64 k1), (8, .int .i64 k2)] → ∀ M', MSub [(g4, cb [.int .i64 p.1, .int .i64 p.2] 24)] M' →
        WL Try.prog Try.f5 [.code (bodyC Try.f5 [1, 1, 1, 1])] σ' W (fun _ => False) W (fun _ => False) M' fun r w' => r = .bool true ∧ Kn W w' := by
      intro k1 k2 hk σ' hs' M' hM
      refine WL.sub hs' hM ?_
      have e1 : isM l k1 = edgeM l big (-1) := by
        rcases hk with ⟨rfl, rfl, rfl⟩ | ⟨rfl, rfl, rfl⟩ <;> rfl
      have e2 : isM l k2 = edgeM l big 1 := by
        rcases hk with ⟨rfl, rfl, rfl⟩ | ⟨rfl, rfl, rfl⟩ <;> rfl
      have hb := fun {by_ : Int} {w : World} (hw : Kn W w) => calls_seekC (behind_calls (kind := k1) hs0 (Kn.sl hw h) hp (by omega))
      have hb2 := fun {by_ : Int} {w : World} (hw : Kn W w) => calls_seekC (behind_calls (kind := k2) hs0 (Kn.sl hw h) hp (by omega))
      have hf := fun {by_ : Int} {w : World} (hw : Kn W w) => calls_seekC (before_calls (kind := k1) hs0 (Kn.sl hw h) hp (by omega))
      rw [e1] at hb hf
      rw [e2] at hb2
      clear e1 e2
      repeat(first|refine lrun_ ?_|(refine lo_boxA rfl rfl ?_;intro _ _ _)|(refine lo_box1 rfl rfl rfl ?_;intro _ _ _)|(refine lo_alloc rfl ?_;intro _ _ _))
      refine l_draw [(0, 0), (1, 0), (2, 0), (4, 0), (5, 0), (6, 0), (3, 1), (7, 1), (8, 0), (9, 0), (10, 0), (11, 0), (12, 0), (14, 0), (15, 0), (16, 0), (13, 1), (17, 1), (18, 0), (19, 0), (20, 0), (21, 0), (22, 0), (23, 0), (25, 0), (26, 0), (27, 0), (24, 1), (28, 1), (29, 0), (30, 0), (31, 0), (32, 1), (33, 0), (34, 0)] (by kernel_rfl) (by kernel_rfl) rfl (by kernel_rfl) ?_
      repeat(first|refine lrund_ ?_|(refine ld_open rfl ?_;first|(refine ld_boxA rfl wy_ rfl ?_;intro _ _ _)|(refine ld_box1 rfl rfl wy_ rfl ?_;intro _ _ _)|(refine ld_alloc wy_ rfl ?_;intro _ _ _)))
      refine ld_open rfl ?_; refine ld_call (n_call rfl) wy_ rfl (fun w hw => calls_seekC (next_calls hs0 (Kn.sl hw.org h) hp)) ?_
      repeat(first|refine lrund_ ?_|(refine ld_open rfl ?_;first|(refine ld_boxA rfl wy_ rfl ?_;intro _ _ _)|(refine ld_box1 rfl rfl wy_ rfl ?_;intro _ _ _)|(refine ld_alloc wy_ rfl ?_;intro _ _ _)))
      refine ld_open rfl ?_; refine ld_call (n_call rfl) wy_ rfl (fun w hw => hb (by_ := 0) hw.org) ?_
      repeat(first|refine lrund_ ?_|(refine ld_open rfl ?_;first|(refine ld_boxA rfl wy_ rfl ?_;intro _ _ _)|(refine ld_box1 rfl rfl wy_ rfl ?_;intro _ _ _)|(refine ld_alloc wy_ rfl ?_;intro _ _ _)))
      refine ld_open rfl ?_; refine ld_call (n_call rfl) wy_ rfl (fun w hw => calls_seekC (prev_calls hs0 (Kn.sl hw.org h) hp)) ?_
      repeat(first|refine lrund_ ?_|(refine ld_open rfl ?_;first|(refine ld_boxA rfl wy_ rfl ?_;intro _ _ _)|(refine ld_box1 rfl rfl wy_ rfl ?_;intro _ _ _)|(refine ld_alloc wy_ rfl ?_;intro _ _ _)))
      refine ld_open rfl ?_; refine ld_call (n_call rfl) wy_ rfl (fun w hw => hf (by_ := 0) hw.org) ?_
      repeat(first|refine lrund_ ?_|(refine ld_open rfl ?_;first|(refine ld_boxA rfl wy_ rfl ?_;intro _ _ _)|(refine ld_box1 rfl rfl wy_ rfl ?_;intro _ _ _)|(refine ld_alloc wy_ rfl ?_;intro _ _ _)))
      refine ld_open rfl ?_; refine ld_call (n_call rfl) wy_ rfl (fun w hw => calls_seekC (end_calls hs0 (Kn.sl hw.org h) hp)) ?_
      repeat(first|refine lrund_ ?_|(refine ld_open rfl ?_;first|(refine ld_boxA rfl wy_ rfl ?_;intro _ _ _)|(refine ld_box1 rfl rfl wy_ rfl ?_;intro _ _ _)|(refine ld_alloc wy_ rfl ?_;intro _ _ _)))
      refine ld_open rfl ?_; refine ld_call (n_call rfl) wy_ rfl (fun w hw => hb2 (by_ := 0) hw.org) ?_
      repeat(first|refine lrund_ ?_|(refine ld_open rfl ?_;first|(refine ld_boxA rfl wy_ rfl ?_;intro _ _ _)|(refine ld_box1 rfl rfl wy_ rfl ?_;intro _ _ _)|(refine ld_alloc wy_ rfl ?_;intro _ _ _)))
      refine ld_open rfl ?_; refine ld_call (n_call rfl) wy_ rfl (fun w hw => awake_calls) ?_
      repeat(first|refine lrund_ ?_|(refine ld_open rfl ?_;first|(refine ld_boxA rfl wy_ rfl ?_;intro _ _ _)|(refine ld_box1 rfl rfl wy_ rfl ?_;intro _ _ _)|(refine ld_alloc wy_ rfl ?_;intro _ _ _)))
      exact l_ret1 rfl rfl fun w hw => ⟨rfl, hw.org⟩
    refine l_go .skip ?_
    refine l_go .seq ?_
    refine l_region ?_;(repeat(first|refine lops_ ?_|(refine lo_boxA rfl rfl ?_;intro _ _ _)|(refine lo_box1 rfl rfl rfl ?_;intro _ _ _)|(refine lo_alloc rfl ?_;intro _ _ _)));refine lo_nil ?_
    refine l_go .seq ?_
    refine l_go .seq ?_
    refine l_region ?_;(repeat(first|refine lops_ ?_|(refine lo_boxA rfl rfl ?_;intro _ _ _)|(refine lo_box1 rfl rfl rfl ?_;intro _ _ _)|(refine lo_alloc rfl ?_;intro _ _ _)));refine lo_nil ?_
    cases hbig : big with
    | true =>
      refine l_true rfl ?_
      refine l_region ?_;(repeat(first|refine lops_ ?_|(refine lo_boxA rfl rfl ?_;intro _ _ _)|(refine lo_box1 rfl rfl rfl ?_;intro _ _ _)|(refine lo_alloc rfl ?_;intro _ _ _)));refine lo_nil ?_
      subst hbig
      exact J 1 3 (.inr ⟨rfl, rfl, rfl⟩) _ (by repeat (first | exact SubB.nil | refine SubB.cons rfl ?_)) _ (by repeat(first|exact MSub.refl|refine MSub.keep rfl ?_|exact MSub.nil|apply MSub.drop))
    | false =>
      refine l_false rfl ?_
      refine l_go .skip ?_
      subst hbig
      exact J 0 2 (.inl ⟨rfl, rfl, rfl⟩) _ (by repeat (first | exact SubB.nil | refine SubB.cons rfl ?_)) _ (by repeat(first|exact MSub.refl|refine MSub.keep rfl ?_|exact MSub.nil|apply MSub.drop))
end Go.Ink
