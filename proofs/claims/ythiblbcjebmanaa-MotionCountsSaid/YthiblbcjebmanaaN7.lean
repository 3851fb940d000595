/-
  MotionCounts.
-/
import Derived.Test.YthiblbcjebmanaaN6
import Derived.Test.YthiblbcjebmanaaN3
set_option linter.unusedVariables false
set_option linter.unusedSimpArgs false
namespace Go.Ink
open Go Go.Proofs

/-- A step's answer. -/
def stpV (q : Ps) (how : Int) (ok : Bool) : Value := .tuple #[.agg #[.int .i64 q.1, .int .i64 q.2], .int .i64 how, .bool ok]
section
variable {W B : World} {K : Nat → Prop} {l : List (List Int)} {A Ak : Option Addr} {c ck kn N g4 g5 g10 : Nat} {ak : Addr} {p q q0 : Ps} {o5 : Obj} {some_ : Bool} {s : Ps → Ps} {kk : List Item} {R : Value → World → Prop}
set_option maxHeartbeats 8000000 in
theorem mc_tail (hA : Ak = some ak) (hkn : kn < 12) (hld : B.cell? (ak.add (kn * 1)) = some (.int .i32 (keysL.getD kn 0))) (hnk : ¬ K (ak.add (kn * 1)).block)
    (hmv : ∀ w', Kn W w' → CallsR Try.prog 10 #[.slice A l.length c, posV p, moV ⟨keysL.getD kn 0, N, 0, 0⟩, .bool false] w' fun u w'' => Kn w' w'' ∧ ∃ how, u = stpV q how some_) :
    ∀ σ', SubB σ' [(0, .slice A l.length c), (4, .pointer (some ⟨g4, 0, none⟩)), (7, .slice Ak 12 ck), (8, .int .i64 (kn : Int)), (9, .int .i64 (N : Int)), (10, .pointer (some ⟨g10, 0, none⟩)), (11, .bool some_)] → ∀ M', MSub [(g10, cb [.int .i64 q.1, .int .i64 q.2] 24), (g5, o5), (g4, cb [.int .i64 p.1, .int .i64 p.2] 24)] M' →
      WL Try.prog Try.f4 [.code (bodyC Try.f4 [1, 1, 1, 1, 1, 1, 1, 1, 1])] σ' W (fun _ => False) B K M' fun r w' => r = .bool true ∧ Kn W w' := by
  intro σ' hs M' hM
  refine WL.sub hs hM ?_
  have J : ∀ g16 (how : Int) σ', SubB σ' [(10, .pointer (some ⟨g10, 0, none⟩)), (11, .bool some_), (16, .pointer (some ⟨g16, 0, none⟩)), (18, .bool some_)] → ∀ M', MSub [(g16, cb [.int .i64 q.1, .int .i64 q.2] 24), (g10, cb [.int .i64 q.1, .int .i64 q.2] 24)] M' →
      WL Try.prog Try.f4 [.code (bodyC Try.f4 [1, 1, 1, 1, 1, 1, 1, 1, 1, 1])] σ' W (fun _ => False) B K M' fun r w' => r = .bool true ∧ Kn W w' := by
    intro g16 how σ' hs M' hM
    refine WL.sub hs hM ?_
    clear hmv hld hnk hs hM
    have hbb : (some_ == some_) = true := by cases some_ <;> rfl
    repeat(first|refine lrun_ ?_|(refine lo_boxA rfl rfl ?_;intro _ _ _)|(refine lo_box1 rfl rfl rfl ?_;intro _ _ _)|(refine lo_alloc rfl ?_;intro _ _ _))
    refine lo_call (n_call rfl) rfl (fun w hw => awake_calls) ?_
    repeat(first|refine lrun_ ?_|(refine lo_boxA rfl rfl ?_;intro _ _ _)|(refine lo_box1 rfl rfl rfl ?_;intro _ _ _)|(refine lo_alloc rfl ?_;intro _ _ _))
    refine l_ret1 rfl rfl fun w hw => ⟨rfl, hw.org⟩
  repeat(first|refine lrun_ ?_|(refine lo_boxA rfl rfl ?_;intro _ _ _)|(refine lo_box1 rfl rfl rfl ?_;intro _ _ _)|(refine lo_alloc rfl ?_;intro _ _ _))
  refine l_draw [(0, 0), (1, 0), (2, 0), (3, 0), (4, 0), (5, 0), (6, 0), (7, 0), (0, 2), (0, 0), (0, 0), (0, 0), (0, 0), (0, 0), (0, 0), (0, 0), (0, 0)] (by kernel_rfl) (by kernel_rfl) rfl (by kernel_rfl) ?_
  repeat(first|refine lrund_ ?_|(refine ld_open rfl ?_;first|(refine ld_boxA rfl wy_ rfl ?_;intro _ _ _)|(refine ld_box1 rfl rfl wy_ rfl ?_;intro _ _ _)|(refine ld_alloc wy_ rfl ?_;intro _ _ _)))
  refine ld_open rfl ?_; refine ld_index (j := kn) rfl rfl rfl (by omega) hA wy_ rfl ?_
  refine ld_open rfl ?_; refine ld_still (fun w hw => r_load rfl (hw.cellB hld hnk)) wy_ rfl ?_
  repeat(first|refine lrund_ ?_|(refine ld_open rfl ?_;first|(refine ld_boxA rfl wy_ rfl ?_;intro _ _ _)|(refine ld_box1 rfl rfl wy_ rfl ?_;intro _ _ _)|(refine ld_alloc wy_ rfl ?_;intro _ _ _)))
  refine ld_branch2 8 13 [(9, 0), (10, 0), (11, 0), (12, 0), (13, 1), (14, 1), (15, 0), (16, 0)] [(8, 1), (9, 0), (10, 0), (11, 0), (12, 0), (14, 1), (15, 0), (16, 0)] (by kernel_rfl) rfl rfl (by kernel_rfl) (by kernel_rfl) ?_ ?_
  · refine lb_open rfl ?_
    refine lb_callB (n_call rfl) wy_ rfl (fun w hw => hmv w hw.org) ?_
    rintro _ _ _ - - - ⟨how, rfl⟩
    unfold stpV
    repeat(first|refine lrund_ ?_|(refine ld_open rfl ?_;first|(refine ld_boxA rfl wy_ rfl ?_;intro _ _ _)|(refine ld_box1 rfl rfl wy_ rfl ?_;intro _ _ _)|(refine ld_alloc wy_ rfl ?_;intro _ _ _)))
    exact J _ how _ (by repeat (first | exact SubB.nil | refine SubB.cons rfl ?_)) _ (by repeat(first|exact MSub.refl|refine MSub.keep rfl ?_|exact MSub.nil|apply MSub.drop))
  · refine lb_open rfl ?_
    refine lb_alloc wy_ rfl ?_
    intro _ _ _
    refine ld_open rfl ?_
    refine ld_callB (n_call rfl) wy_ rfl (fun w hw => hmv w hw.org) ?_
    rintro _ _ _ - - - ⟨how, rfl⟩
    unfold stpV
    repeat(first|refine lrund_ ?_|(refine ld_open rfl ?_;first|(refine ld_boxA rfl wy_ rfl ?_;intro _ _ _)|(refine ld_box1 rfl rfl wy_ rfl ?_;intro _ _ _)|(refine ld_alloc wy_ rfl ?_;intro _ _ _)))
    exact J _ how _ (by repeat (first | exact SubB.nil | refine SubB.cons rfl ?_)) _ (by repeat(first|exact MSub.refl|refine MSub.keep rfl ?_|exact MSub.nil|apply MSub.drop))
set_option maxHeartbeats 8000000 in
theorem mc_loop (hA : Ak = some ak) (hkn : kn < 12) (hld : B.cell? (ak.add (kn * 1)) = some (.int .i32 (keysL.getD kn 0))) (hnk : ¬ K (ak.add (kn * 1)).block) (hst : Stp l (keysL.getD kn 0) s) (hN1 : 1 ≤ N) (hN2 : N ≤ 20) (hq0 : At l q0)
    (hone : ∀ q w', Kn W w' → At l q → CallsR Try.prog 10 #[.slice A l.length c, posV q, moV ⟨keysL.getD kn 0, 0, 0, 0⟩, .bool false] w' fun u w'' => Kn w' w'' ∧ ∃ how, u = stpV (s q) how (decide (s q ≠ q)))
    (done : ∀ σ', SubB σ' [(0, .slice A l.length c), (4, .pointer (some ⟨g4, 0, none⟩)), (7, .slice Ak 12 ck), (8, .int .i64 (kn : Int)), (9, .int .i64 (N : Int)), (10, .pointer (some ⟨g10, 0, none⟩)), (11, .bool (decide (s q0 ≠ q0)))] → ∀ M', MSub [(g10, cb [.int .i64 (repM s N q0 q0).1.1, .int .i64 (repM s N q0 q0).1.2] 24), (g5, o5), (g4, cb [.int .i64 p.1, .int .i64 p.2] 24)] M' → WL Try.prog Try.f4 kk σ' W (fun _ => False) B K M' R) :
    ∀ σ', SubB σ' [(0, .slice A l.length c), (4, .pointer (some ⟨g4, 0, none⟩)), (7, .slice Ak 12 ck), (8, .int .i64 (kn : Int)), (9, .int .i64 (N : Int)), (10, .pointer (some ⟨g10, 0, none⟩)), (11, .bool false), (12, .int .i64 (0 : Nat))] → ∀ M', MSub [(g10, cb [.int .i64 q0.1, .int .i64 q0.2] 24), (g5, o5), (g4, cb [.int .i64 p.1, .int .i64 p.2] 24)] M' →
      WL Try.prog Try.f4 (.code (.loop (bodyC Try.f4 [1, 1, 1, 1, 1, 1, 1, 1, 0, 1, 0, 0])) :: .inBlock 0 :: kk) σ' W (fun _ => False) B K M' R := by
  intro σ' hs M' hM
  refine WL.sub hs hM ?_
  refine l_while (fun t : Nat × Ps × Bool => N - t.1) (fun t => [(0, .slice A l.length c), (4, .pointer (some ⟨g4, 0, none⟩)), (7, .slice Ak 12 ck), (8, .int .i64 (kn : Int)), (9, .int .i64 (N : Int)), (10, .pointer (some ⟨g10, 0, none⟩)), (11, .bool t.2.2), (12, .int .i64 (t.1 : Int))]) (fun t => [(g10, cb [.int .i64 t.2.1.1, .int .i64 t.2.1.2] 24), (g5, o5), (g4, cb [.int .i64 p.1, .int .i64 p.2] 24)])
    (fun t => t.1 ≤ N ∧ At l t.2.1 ∧ (repM s N q0 q0).1 = (repM s (N - t.1) t.2.1 t.2.1).1 ∧ ((t.1 = 0 ∧ t.2.1 = q0 ∧ t.2.2 = false) ∨ (0 < t.1 ∧ s q0 ≠ q0 ∧ t.2.2 = true))) (0, q0, false) (by repeat (first | exact SubB.nil | refine SubB.cons rfl ?_)) (by repeat(first|exact MSub.refl|refine MSub.keep rfl ?_|exact MSub.nil|apply MSub.drop)) ⟨Nat.zero_le _, hq0, rfl, .inl ⟨rfl, rfl, rfl⟩⟩ ?_
  rintro ⟨t, q, b⟩ ⟨ht, hq, hrep, hb⟩ ih
  simp only at ht hq hrep hb
  by_cases hlt : t < N
  · have hN' : N - t = (N - (t + 1)) + 1 := by omega
    rw [hN', repM_succ] at hrep
    have J : ∀ g13 σ', SubB σ' [(0, .slice A l.length c), (4, .pointer (some ⟨g4, 0, none⟩)), (7, .slice Ak 12 ck), (8, .int .i64 (kn : Int)), (9, .int .i64 (N : Int)), (10, .pointer (some ⟨g10, 0, none⟩)), (11, .bool b), (12, .int .i64 (t : Int)), (13, .pointer (some ⟨g13, 0, none⟩)), (15, .bool (decide (s q ≠ q)))] → ∀ M', MSub ((g13, cb [.int .i64 (s q).1, .int .i64 (s q).2] 24) :: [(g10, cb [.int .i64 q.1, .int .i64 q.2] 24), (g5, o5), (g4, cb [.int .i64 p.1, .int .i64 p.2] 24)]) M' →
        WL Try.prog Try.f4 (.code (bodyC Try.f4 [1, 1, 1, 1, 1, 1, 1, 1, 0, 1, 0, 0, 1, 0, 0, 1]) :: .inBlock 1 :: .code (bodyC Try.f4 [1, 1, 1, 1, 1, 1, 1, 1, 0, 1, 0, 0, 1, 1]) :: .inLoop (bodyC Try.f4 [1, 1, 1, 1, 1, 1, 1, 1, 0, 1, 0, 0]) :: .inBlock 0 :: kk) σ' W (fun _ => False) B K M' R := by
      intro g13 σ' hs M' hM
      refine WL.sub hs hM ?_
      clear hs hM hld hnk hone
      by_cases hsq : s q = q
      · have hd : decide (s q ≠ q) = false := decide_eq_false (fun h => h hsq)
        rw [hd]
        rw [if_pos hsq] at hrep
        have hb' : b = decide (s q0 ≠ q0) := by
          rcases hb with ⟨-, rfl, rfl⟩ | ⟨-, h1, rfl⟩
          · exact hd.symm
          · exact (decide_eq_true h1).symm
        repeat(first|refine lrun_ ?_|(refine lo_boxA rfl rfl ?_;intro _ _ _)|(refine lo_box1 rfl rfl rfl ?_;intro _ _ _)|(refine lo_alloc rfl ?_;intro _ _ _))
        refine l_true rfl ?_
        refine l_go (.exit rfl) ?_
        exact done _ (by rw [← hb']; exact (by repeat (first | exact SubB.nil | refine SubB.cons rfl ?_))) _ (by rw [hrep]; exact (by repeat(first|exact MSub.refl|refine MSub.keep rfl ?_|exact MSub.nil|apply MSub.drop)))
      · have hd : decide (s q ≠ q) = true := decide_eq_true hsq
        rw [hd]
        rw [if_neg hsq, rep_last _ _ q (s q)] at hrep
        repeat(first|refine lrun_ ?_|(refine lo_boxA rfl rfl ?_;intro _ _ _)|(refine lo_box1 rfl rfl rfl ?_;intro _ _ _)|(refine lo_alloc rfl ?_;intro _ _ _))
        refine l_false rfl ?_
        repeat(first|refine lrun_ ?_|(refine lo_boxA rfl rfl ?_;intro _ _ _)|(refine lo_box1 rfl rfl rfl ?_;intro _ _ _)|(refine lo_alloc rfl ?_;intro _ _ _))
        exact ih (t + 1, s q, true) ⟨hlt, hst.at_ q hq, hrep, .inr ⟨by simp only; omega, by
          rcases hb with ⟨-, rfl, -⟩ | ⟨-, h1, -⟩
          · exact hsq
          · exact h1, rfl⟩⟩ (by simp only; omega) _ _ (by repeat (first | exact SubB.nil | refine SubB.cons rfl ?_)) (by repeat(first|exact MSub.refl|refine MSub.keep rfl ?_|exact MSub.nil|apply MSub.drop))
    repeat(first|refine lrun_ ?_|(refine lo_boxA rfl rfl ?_;intro _ _ _)|(refine lo_box1 rfl rfl rfl ?_;intro _ _ _)|(refine lo_alloc rfl ?_;intro _ _ _))
    refine l_yes rfl (by omega) ?_
    repeat(first|refine lrun_ ?_|(refine lo_boxA rfl rfl ?_;intro _ _ _)|(refine lo_box1 rfl rfl rfl ?_;intro _ _ _)|(refine lo_alloc rfl ?_;intro _ _ _))
    refine l_draw [(0, 0), (1, 0), (2, 0), (3, 0), (4, 0), (5, 0), (6, 0), (0, 2), (0, 0), (0, 0), (0, 0), (0, 0), (0, 0), (0, 0), (0, 0), (0, 0)] (by kernel_rfl) (by kernel_rfl) rfl (by kernel_rfl) ?_
    repeat(first|refine lrund_ ?_|(refine ld_open rfl ?_;first|(refine ld_boxA rfl wy_ rfl ?_;intro _ _ _)|(refine ld_box1 rfl rfl wy_ rfl ?_;intro _ _ _)|(refine ld_alloc wy_ rfl ?_;intro _ _ _)))
    refine ld_open rfl ?_; refine ld_index (j := kn) rfl rfl rfl (by omega) hA wy_ rfl ?_
    refine ld_open rfl ?_; refine ld_still (fun w hw => r_load rfl (hw.cellB hld hnk)) wy_ rfl ?_
    repeat(first|refine lrund_ ?_|(refine ld_open rfl ?_;first|(refine ld_boxA rfl wy_ rfl ?_;intro _ _ _)|(refine ld_box1 rfl rfl wy_ rfl ?_;intro _ _ _)|(refine ld_alloc wy_ rfl ?_;intro _ _ _)))
    refine ld_branch2 7 12 [(8, 0), (9, 0), (10, 0), (11, 0), (12, 1), (13, 1), (14, 0), (15, 0)] [(7, 1), (8, 0), (9, 0), (10, 0), (11, 0), (13, 1), (14, 0), (15, 0)] (by kernel_rfl) rfl rfl (by kernel_rfl) (by kernel_rfl) ?_ ?_
    · refine lb_open rfl ?_
      refine lb_callB (n_call rfl) wy_ rfl (fun w hw => hone q w hw.org hq) ?_
      rintro _ _ _ - - - ⟨how, rfl⟩
      unfold stpV
      repeat(first|refine lrund_ ?_|(refine ld_open rfl ?_;first|(refine ld_boxA rfl wy_ rfl ?_;intro _ _ _)|(refine ld_box1 rfl rfl wy_ rfl ?_;intro _ _ _)|(refine ld_alloc wy_ rfl ?_;intro _ _ _)))
      exact J _ _ (by repeat (first | exact SubB.nil | refine SubB.cons rfl ?_)) _ (by repeat(first|exact MSub.refl|refine MSub.keep rfl ?_|exact MSub.nil|apply MSub.drop))
    · refine lb_open rfl ?_
      refine lb_alloc wy_ rfl ?_
      intro _ _ _
      refine ld_open rfl ?_
      refine ld_callB (n_call rfl) wy_ rfl (fun w hw => hone q w hw.org hq) ?_
      rintro _ _ _ - - - ⟨how, rfl⟩
      unfold stpV
      repeat(first|refine lrund_ ?_|(refine ld_open rfl ?_;first|(refine ld_boxA rfl wy_ rfl ?_;intro _ _ _)|(refine ld_box1 rfl rfl wy_ rfl ?_;intro _ _ _)|(refine ld_alloc wy_ rfl ?_;intro _ _ _)))
      exact J _ _ (by repeat (first | exact SubB.nil | refine SubB.cons rfl ?_)) _ (by repeat(first|exact MSub.refl|refine MSub.keep rfl ?_|exact MSub.nil|apply MSub.drop))
  · obtain rfl : t = N := by omega
    rw [Nat.sub_self] at hrep
    have hb' : b = decide (s q0 ≠ q0) := by
      rcases hb with ⟨h0, -, -⟩ | ⟨-, h1, rfl⟩
      · omega
      · exact (decide_eq_true h1).symm
    repeat(first|refine lrun_ ?_|(refine lo_boxA rfl rfl ?_;intro _ _ _)|(refine lo_box1 rfl rfl rfl ?_;intro _ _ _)|(refine lo_alloc rfl ?_;intro _ _ _))
    refine l_no rfl (by omega) ?_
    refine l_go (.exit rfl) ?_
    exact done _ (by rw [← hb']; exact (by repeat (first | exact SubB.nil | refine SubB.cons rfl ?_))) _ (by rw [hrep]; exact (by repeat(first|exact MSub.refl|refine MSub.keep rfl ?_|exact MSub.nil|apply MSub.drop)))
end
theorem rs_k : runesOf ⟨#[104, 108, 119, 87, 98, 66, 101, 69, 125, 41, 40, 123]⟩ = keysL := by kernel_rfl
theorem stp_one {W : World} {v : Value} {l : List (List Int)} {key : Int} {s : Ps → Ps} {F : Nat → Prop} (hs0 : l.length + runesM l ≤ 4000) (h : Sl kRow F W v l) (h0 : l ≠ []) (hst : Stp l key s) (hkey : -2147483648 ≤ key ∧ key ≤ 2147483647) {q : Ps} (hq : At l q) (hP : P64 q) :
    CallsR Try.prog 10 #[v, posV q, moV ⟨key, 0, 0, 0⟩, .bool false] W fun u w' => Kn W w' ∧ ∃ how, u = stpV (s q) how (decide (s q ≠ q)) :=
  (move_calls hs0 h h0 hP ⟨hkey, ⟨by simp only; omega, by simp only; omega⟩, ⟨by simp only; omega, by simp only; omega⟩, ⟨by simp only; omega, by simp only; omega⟩⟩).mono fun u w' ⟨h1, r, h2, h3⟩ => by
    obtain ⟨e1, e2⟩ := hst.one h0 hq hkey h3
    obtain ⟨a, how, ok⟩ := r
    simp only at e1 e2
    subst e1 e2
    exact ⟨h1, how, h2⟩
theorem stp_many {W : World} {v : Value} {l : List (List Int)} {key : Int} {s : Ps → Ps} {F : Nat → Prop} (hs0 : l.length + runesM l ≤ 4000) (h : Sl kRow F W v l) (h0 : l ≠ []) (hst : Stp l key s) (hkey : -2147483648 ≤ key ∧ key ≤ 2147483647) {p : Ps} (hP : P64 p) {N : Nat} (hN1 : 1 ≤ N) (hN2 : N ≤ 20) :
    CallsR Try.prog 10 #[v, posV p, moV ⟨key, N, 0, 0⟩, .bool false] W fun u w' => Kn W w' ∧ ∃ how, u = stpV (repM s N (clipM l p) (clipM l p)).1 how (decide (s (clipM l p) ≠ clipM l p)) := by
  have hm : MoOk ⟨key, N, 0, 0⟩ := ⟨hkey, ⟨by simp only; omega, by simp only; omega⟩, ⟨by simp only; omega, by simp only; omega⟩, ⟨by simp only; omega, by simp only; omega⟩⟩
  have hc : (cntN ⟨key, N, 0, 0⟩).toNat = N := by unfold cntN; simp only; split <;> omega
  exact (move_calls hs0 h h0 hP hm).mono fun u w' ⟨h1, r, h2, h3⟩ => by
    obtain ⟨e1, e2⟩ := hst.move hm rfl h0 h3
    rw [hc] at e2
    obtain ⟨a, how, ok⟩ := r
    simp only at e1 e2
    subst e1 e2
    exact ⟨h1, how, h2⟩
theorem keys_i32 {k : Nat} (h : k < 12) : -2147483648 ≤ keysL.getD k 0 ∧ keysL.getD k 0 ≤ 2147483647 := by
  rcases (by omega : k = 0 ∨ k = 1 ∨ k = 2 ∨ k = 3 ∨ k = 4 ∨ k = 5 ∨ k = 6 ∨ k = 7 ∨ k = 8 ∨ k = 9 ∨ k = 10 ∨ k = 11) with rfl | rfl | rfl | rfl | rfl | rfl | rfl | rfl | rfl | rfl | rfl | rfl <;> decide
set_option maxHeartbeats 8000000 in
theorem core_MotionCounts {W : World} {u : Value} {l : List (List Int)} {p : Ps} {a b : Int} (h : Sl kRow (fun _ => True) W u l) (hp : P64 p) (ha : -9223372036854775808 ≤ a ∧ a ≤ 9223372036854775807) (hb : -9223372036854775808 ≤ b ∧ b ≤ 9223372036854775807) :
    CallsR Try.prog 4 #[u, posV p, .agg #[.int .i64 a, .int .i64 b]] W fun r w' => r = .bool true ∧ Kn W w' := by
  obtain ⟨A, c, ad, rV, rc, ra, rfl, hR⟩ := h.rws
  have hlen := hR.len
  refine l_enter (fun _ => False) Try.func4 rfl rfl ?_
  repeat(first|refine lrun_ ?_|(refine lo_boxA rfl rfl ?_;intro _ _ _)|(refine lo_box1 rfl rfl rfl ?_;intro _ _ _)|(refine lo_alloc rfl ?_;intro _ _ _))
  rename_i g4 _ _ g5 _ _
  refine lo_callP (n_call rfl) rfl (fun w hw => small_calls (Kn.sl hw.org h)) ?_
  cases hs : smallM l with
  | false =>
    repeat(first|refine lrun_ ?_|(refine lo_boxA rfl rfl ?_;intro _ _ _)|(refine lo_box1 rfl rfl rfl ?_;intro _ _ _)|(refine lo_alloc rfl ?_;intro _ _ _))
    refine l_true rfl ?_
    repeat(first|refine lrun_ ?_|(refine lo_boxA rfl rfl ?_;intro _ _ _)|(refine lo_box1 rfl rfl rfl ?_;intro _ _ _)|(refine lo_alloc rfl ?_;intro _ _ _))
    refine lo_call (n_call rfl) rfl (fun w hw => awake_calls) ?_
    repeat(first|refine lrun_ ?_|(refine lo_boxA rfl rfl ?_;intro _ _ _)|(refine lo_box1 rfl rfl rfl ?_;intro _ _ _)|(refine lo_alloc rfl ?_;intro _ _ _))
    exact l_ret1 rfl rfl fun w hw => ⟨rfl, hw.org⟩
  | true =>
    have hs0 := small_room hs
    by_cases hl0 : l = []
    · have e : l.length = 0 := by rw [hl0]; rfl
      repeat(first|refine lrun_ ?_|(refine lo_boxA rfl rfl ?_;intro _ _ _)|(refine lo_box1 rfl rfl rfl ?_;intro _ _ _)|(refine lo_alloc rfl ?_;intro _ _ _))
      refine l_yes rfl (by omega) ?_
      repeat(first|refine lrun_ ?_|(refine lo_boxA rfl rfl ?_;intro _ _ _)|(refine lo_box1 rfl rfl rfl ?_;intro _ _ _)|(refine lo_alloc rfl ?_;intro _ _ _))
      refine lo_call (n_call rfl) rfl (fun w hw => awake_calls) ?_
      repeat(first|refine lrun_ ?_|(refine lo_boxA rfl rfl ?_;intro _ _ _)|(refine lo_box1 rfl rfl rfl ?_;intro _ _ _)|(refine lo_alloc rfl ?_;intro _ _ _))
      exact l_ret1 rfl rfl fun w hw => ⟨rfl, hw.org⟩
    have hll := List.length_pos_iff.2 hl0
    repeat(first|refine lrun_ ?_|(refine lo_boxA rfl rfl ?_;intro _ _ _)|(refine lo_box1 rfl rfl rfl ?_;intro _ _ _)|(refine lo_alloc rfl ?_;intro _ _ _))
    refine l_no rfl (by omega) ?_
    repeat(first|refine lrun_ ?_|(refine lo_boxA rfl rfl ?_;intro _ _ _)|(refine lo_box1 rfl rfl rfl ?_;intro _ _ _)|(refine lo_alloc rfl ?_;intro _ _ _))
    refine lo_callM (n_call rfl) rfl (fun w hw => row_calls (by decide)) ?_
    rintro w0 _ w1 hw0 kn1 kp1 ⟨Ak, ck, rfl, hk1⟩
    rw [rs_k] at hk1 ⊢
    rw [show keysL.length = 12 from rfl]
    obtain ⟨Ak', ck', ak, hke, hX⟩ := (hk1.slF (F' := noB w0) (fun _ h => h) (fun _ h => h.elim)).rns
    simp only [Value.slice.injEq] at hke
    obtain ⟨rfl, -, rfl⟩ := hke
    have hA : Ak = some ak := hX.a (by decide)
    have hnk : ∀ j, ¬ MK [(g5, cb [.int .i64 a, .int .i64 b] 34), (g4, cb [.int .i64 p.1, .int .i64 p.2] 24)] (ak.add j).block := fun j hm => by
      have h1 := hw0.lt hm
      have h2 := hX.fa (by decide)
      rw [add_block] at h1
      unfold noB at h2
      omega
    have J : ∀ (kn : Nat), kn < 12 → ∀ σ', SubB σ' [(0, .slice A l.length c), (4, .pointer (some ⟨g4, 0, none⟩)), (5, .pointer (some ⟨g5, 0, none⟩)), (7, .slice Ak 12 ck), (8, .int .i64 (kn : Int))] → ∀ M', MSub [(g5, cb [.int .i64 a, .int .i64 b] 34), (g4, cb [.int .i64 p.1, .int .i64 p.2] 24)] M' →
        WL Try.prog Try.f4 [.code (bodyC Try.f4 [1, 1, 1, 1, 1])] σ' W (fun _ => False) w1 (MK [(g5, cb [.int .i64 a, .int .i64 b] 34), (g4, cb [.int .i64 p.1, .int .i64 p.2] 24)]) M' fun r w' => r = .bool true ∧ Kn W w' := by
      intro kn hkn σ' hsu M' hM
      refine WL.sub hsu hM ?_
      obtain ⟨s, hst⟩ := stp_key (l := l) hl0 hkn
      have hat := clip_at (p := p) hl0
      have hmany := fun (N : Nat) (h1 : 1 ≤ N) (h2 : N ≤ 20) (w' : World) (hk : Kn W w') => stp_many hs0 (Kn.sl hk h) hl0 hst (keys_i32 hkn) hp h1 h2
      have hone := fun (q : Ps) (w' : World) (hk : Kn W w') (hq : At l q) => stp_one hs0 (Kn.sl hk h) hl0 hst (keys_i32 hkn) hq (at_P hR hq)
      obtain ⟨N, hN, hN1, hN2⟩ : ∃ N : Nat, (if 1 < (if 20 < b then 20 else b) then (if 20 < b then 20 else b) else 1) = (N : Int) ∧ 1 ≤ N ∧ N ≤ 20 := by
        refine ⟨(if 1 < (if 20 < b then 20 else b) then (if 20 < b then 20 else b) else 1).toNat, ?_, ?_, ?_⟩ <;> (split <;> split <;> omega)
      repeat(first|refine lrun_ ?_|(refine lo_boxA rfl rfl ?_;intro _ _ _)|(refine lo_box1 rfl rfl rfl ?_;intro _ _ _)|(refine lo_alloc rfl ?_;intro _ _ _))
      refine lo_rn (fun _ => r_indexA rfl rfl (by decide) (by decide)) rfl ?_
      repeat(first|refine lrun_ ?_|(refine lo_boxA rfl rfl ?_;intro _ _ _)|(refine lo_box1 rfl rfl rfl ?_;intro _ _ _)|(refine lo_alloc rfl ?_;intro _ _ _))
      rw [hN]
      refine lo_call (n_call rfl) rfl (fun w hw => clipR_calls (p := p) (Kn.sl hw.org h) hp) ?_
      generalize clipM l p = q0 at *
      repeat(first|refine lrun_ ?_|(refine lo_boxA rfl rfl ?_;intro _ _ _)|(refine lo_box1 rfl rfl rfl ?_;intro _ _ _)|(refine lo_alloc rfl ?_;intro _ _ _))
      refine mc_loop (s := s) (N := N) hA hkn (hX.run kn hkn) (hnk _) hst hN1 hN2 hat (fun q w' hk hq => hone q w' hk hq) (fun σ' hs' M' hM' => ?_) _ (by repeat (first | exact SubB.nil | refine SubB.cons rfl ?_)) _ (by repeat(first|exact MSub.refl|refine MSub.keep rfl ?_|exact MSub.nil|apply MSub.drop))
      exact mc_tail hA hkn (hX.run kn hkn) (hnk _) (fun w' hk => hmany N hN1 hN2 w' hk) σ' hs' M' hM'
    have ht1 : -12 < a.tmod 12 ∧ a.tmod 12 < 12 := by
      have h1 := Int.tmod_lt_of_pos a (show (0 : Int) < 12 by decide)
      have h2 := Int.tmod_lt_of_pos (-a) (show (0 : Int) < 12 by decide)
      rw [Int.neg_tmod] at h2
      omega
    repeat(first|refine lrun_ ?_|(refine lo_boxA rfl rfl ?_;intro _ _ _)|(refine lo_box1 rfl rfl rfl ?_;intro _ _ _)|(refine lo_alloc rfl ?_;intro _ _ _))
    refine lo_rn (fun _ => r_indexA rfl rfl (by decide) (by decide)) rfl ?_
    repeat(first|refine lrun_ ?_|(refine lo_boxA rfl rfl ?_;intro _ _ _)|(refine lo_box1 rfl rfl rfl ?_;intro _ _ _)|(refine lo_alloc rfl ?_;intro _ _ _))
    refine lo_rn (fun _ => r_rem (b := 12) rfl rfl (by decide)) rfl ?_
    generalize a.tmod 12 = t at *
    repeat(first|refine lrun_ ?_|(refine lo_boxA rfl rfl ?_;intro _ _ _)|(refine lo_box1 rfl rfl rfl ?_;intro _ _ _)|(refine lo_alloc rfl ?_;intro _ _ _))
    refine l_ite rfl (fun hneg => ?_) (fun hneg => ?_)
    · obtain ⟨kn, hkn⟩ : ∃ kn : Nat, t + 12 = kn := ⟨(t + 12).toNat, by omega⟩
      refine l_region ?_;(repeat(first|refine lops_ ?_|(refine lo_boxA rfl rfl ?_;intro _ _ _)|(refine lo_box1 rfl rfl rfl ?_;intro _ _ _)|(refine lo_alloc rfl ?_;intro _ _ _)));refine lo_nil ?_
      exact J kn (by omega) _ (by rw [← hkn]; exact (by repeat (first | exact SubB.nil | refine SubB.cons rfl ?_))) _ (by repeat(first|exact MSub.refl|refine MSub.keep rfl ?_|exact MSub.nil|apply MSub.drop))
    · obtain ⟨kn, rfl⟩ : ∃ kn : Nat, t = kn := ⟨t.toNat, by omega⟩
      refine l_go .skip ?_
      exact J kn (by omega) _ (by repeat (first | exact SubB.nil | refine SubB.cons rfl ?_)) _ (by repeat(first|exact MSub.refl|refine MSub.keep rfl ?_|exact MSub.nil|apply MSub.drop))
end Go.Ink
