/-
  MotionThere.
-/
import Derived.Test.YthiblbcjebmanaaMC
import Derived.Test.YthiblbcjebmanaaW2r
set_option linter.unusedVariables false
set_option linter.unusedSimpArgs false
namespace Go.Ink
open Go Go.Proofs

theorem small_room {l : List (List Int)} (h : smallM l = true) : l.length + runesM l ≤ 4000 := by
  unfold smallM at h
  have := of_decide_eq_true h
  omega
/-- What a round sees. -/
theorem There.round {l : List (List Int)} {p : Ps} {m : Mo} {op : Bool} {r : Ps × Int × Bool} (h0 : l ≠ []) (hm : MoOk m) (h : MoveM l p m op r) :
    ∃ (i : Nat) (k : Int) (how : Int) (ok : Bool), mvV r = .tuple #[.agg #[.int .i64 i, .int .i64 k], .int .i64 how, .bool ok] ∧ i < l.length ∧ (0 ≤ k ∧ k ≤ (l.getD i []).length) ∧ ((ok = false ∧ i = (clipM l p).1 ∧ k = (clipM l p).2 ∧ how = 0) ∨ (ok = true ∧ clipM l ((i : Int), k) = ((i : Int), k)) ∨ (ok = true ∧ op = true ∧ k = ((l.getD i []).length : Int))) := by
  obtain ⟨⟨i, k⟩, how, ok⟩ := r
  obtain ⟨h1, h2⟩ := h.there h0 hm
  have hc := clip_at (p := p) h0
  cases ok with
  | false =>
    obtain ⟨h3, h4⟩ := h2 rfl
    have h3 : (i, k) = clipM l p := h3
    rw [← h3] at hc
    have hi := hc.i
    have hk := hc.k
    simp only at hi
    obtain ⟨i, rfl⟩ : ∃ j : Nat, i = j := ⟨i.toNat, by omega⟩
    rw [rowOf_at] at hk
    simp only at hk
    exact ⟨i, k, how, false, rfl, by omega, by omega, .inl ⟨rfl, by rw [← h3], by rw [← h3], h4⟩⟩
  | true =>
    have ht : There l op (i, k) := h1 rfl
    by_cases he : clipM l (i, k) = (i, k)
    · have hc : At l (i, k) := by rw [← he]; exact clip_at h0
      have hi := hc.i
      have hk := hc.k
      simp only at hi
      obtain ⟨i, rfl⟩ : ∃ j : Nat, i = j := ⟨i.toNat, by omega⟩
      rw [rowOf_at] at hk
      simp only at hk
      exact ⟨i, k, how, true, rfl, by omega, by omega, .inr (.inl ⟨rfl, he⟩)⟩
    · obtain ⟨a, b, c, d⟩ := There.clip h0 ht he
      simp only at b c d
      obtain ⟨i, rfl⟩ : ∃ j : Nat, i = j := ⟨i.toNat, by omega⟩
      rw [rowOf_at] at d
      exact ⟨i, k, how, true, rfl, by omega, by omega, .inr (.inr ⟨rfl, a, d⟩)⟩
section
variable {W : World} {l : List (List Int)} {A : Option Addr} {c : Nat} {ad : Addr} {rV : Nat → Option Addr} {rc : Nat → Nat} {ra : Nat → Addr} {i g4 g5 g7 g9 : Nat} {k a b : Int} {how : Int} {m4 m5 : Obj} {kk : List Item} {B : World} {K : Nat → Prop} {R : Value → World → Prop}
set_option maxHeartbeats 8000000 in
theorem mt_0ff (hR : Rws (fun _ => True) W A c l ad rV rc ra) (hin : i < l.length) (hpq : P64 ((i : Int), k)) (hcase : (i : Int) = a ∧ k = b)
    (done : ∀ σ', SubB σ' [(0, .slice A l.length c), (4, .pointer (some ⟨g4, 0, none⟩)), (5, .pointer (some ⟨g5, 0, none⟩)), (7, .pointer (some ⟨g7, 0, none⟩)), (8, .int .i64 ((0 : Nat) : Int))] → ∀ M', MSub [(g7, cb [.int .i64 a, .int .i64 b] 24), (g5, m5), (g4, m4)] M' → WL Try.prog Try.f3 kk σ' W (fun _ => False) B K M' R) :
    ∀ σ', SubB σ' [(0, .slice A l.length c), (4, .pointer (some ⟨g4, 0, none⟩)), (5, .pointer (some ⟨g5, 0, none⟩)), (7, .pointer (some ⟨g7, 0, none⟩)), (8, .int .i64 ((0 : Nat) : Int)), (9, .pointer (some ⟨g9, 0, none⟩)), (10, .int .i64 0), (11, .bool false)] → ∀ M', MSub [(g9, cb [.int .i64 i, .int .i64 k] 24), (g7, cb [.int .i64 a, .int .i64 b] 24), (g5, m5), (g4, m4)] M' →
      WL Try.prog Try.f3 (.code (bodyC Try.f3 [1, 1, 1, 0, 1, 0, 0, 1, 0, 0, 1]) :: kk) σ' W (fun _ => False) B K M' R := by
  intro σ' hs M' hM
  refine WL.sub hs hM ?_
  have hrl := hR.rl i
  repeat(first|refine lrun_ ?_|(refine lo_boxA rfl rfl ?_;intro _ _ _)|(refine lo_box1 rfl rfl rfl ?_;intro _ _ _)|(refine lo_alloc rfl ?_;intro _ _ _))
  obtain ⟨rfl, rfl⟩ := hcase
  refine l_draw [(0, 0), (1, 0), (2, 0), (3, 0), (4, 0), (5, 0), (6, 0), (7, 0), (8, 0), (9, 0), (10, 0), (11, 0), (12, 0), (13, 0), (14, 0), (15, 0), (16, 0), (17, 0), (18, 0), (19, 0), (20, 0), (21, 0), (22, 0), (23, 0), (24, 0), (25, 0)] (by kernel_rfl) (by kernel_rfl) rfl (by kernel_rfl) ?_
  repeat(first|refine lrund_ ?_|(refine ld_open rfl ?_;first|(refine ld_boxA rfl wy_ rfl ?_;intro _ _ _)|(refine ld_box1 rfl rfl wy_ rfl ?_;intro _ _ _)|(refine ld_alloc wy_ rfl ?_;intro _ _ _)))
  repeat(first|refine lrun_ ?_|(refine lo_boxA rfl rfl ?_;intro _ _ _)|(refine lo_box1 rfl rfl rfl ?_;intro _ _ _)|(refine lo_alloc rfl ?_;intro _ _ _))
  refine l_draw [(0, 0), (1, 0), (2, 0), (3, 0), (4, 0), (5, 0), (6, 0), (7, 0), (8, 0), (9, 0), (10, 0), (11, 0), (12, 0), (13, 0), (14, 0), (15, 0), (17, 0), (16, 1), (18, 0), (19, 0), (20, 0), (21, 0), (22, 0), (23, 0), (24, 0)] (by kernel_rfl) (by kernel_rfl) rfl (by kernel_rfl) ?_
  repeat(first|refine lrund_ ?_|(refine ld_open rfl ?_;first|(refine ld_boxA rfl wy_ rfl ?_;intro _ _ _)|(refine ld_box1 rfl rfl wy_ rfl ?_;intro _ _ _)|(refine ld_alloc wy_ rfl ?_;intro _ _ _)))
  refine l_false rfl ?_
  refine l_go .skip ?_
  exact done _ (by repeat (first | exact SubB.nil | refine SubB.cons rfl ?_)) _ (by repeat(first|exact MSub.refl|refine MSub.keep rfl ?_|exact MSub.nil|apply MSub.drop))
set_option maxHeartbeats 8000000 in
theorem mt_0at (hR : Rws (fun _ => True) W A c l ad rV rc ra) (hin : i < l.length) (hpq : P64 ((i : Int), k)) (hcase : clipM l ((i : Int), k) = ((i : Int), k))
    (done : ∀ σ', SubB σ' [(0, .slice A l.length c), (4, .pointer (some ⟨g4, 0, none⟩)), (5, .pointer (some ⟨g5, 0, none⟩)), (7, .pointer (some ⟨g7, 0, none⟩)), (8, .int .i64 ((0 : Nat) : Int))] → ∀ M', MSub [(g7, cb [.int .i64 a, .int .i64 b] 24), (g5, m5), (g4, m4)] M' → WL Try.prog Try.f3 kk σ' W (fun _ => False) B K M' R) :
    ∀ σ', SubB σ' [(0, .slice A l.length c), (4, .pointer (some ⟨g4, 0, none⟩)), (5, .pointer (some ⟨g5, 0, none⟩)), (7, .pointer (some ⟨g7, 0, none⟩)), (8, .int .i64 ((0 : Nat) : Int)), (9, .pointer (some ⟨g9, 0, none⟩)), (10, .int .i64 how), (11, .bool true)] → ∀ M', MSub [(g9, cb [.int .i64 i, .int .i64 k] 24), (g7, cb [.int .i64 a, .int .i64 b] 24), (g5, m5), (g4, m4)] M' →
      WL Try.prog Try.f3 (.code (bodyC Try.f3 [1, 1, 1, 0, 1, 0, 0, 1, 0, 0, 1]) :: kk) σ' W (fun _ => False) B K M' R := by
  intro σ' hs M' hM
  refine WL.sub hs hM ?_
  have hrl := hR.rl i
  repeat(first|refine lrun_ ?_|(refine lo_boxA rfl rfl ?_;intro _ _ _)|(refine lo_box1 rfl rfl rfl ?_;intro _ _ _)|(refine lo_alloc rfl ?_;intro _ _ _))
  refine l_draw [(0, 0), (1, 0), (2, 0), (3, 0), (4, 0), (5, 0), (6, 0), (7, 0), (8, 0), (9, 0), (10, 0), (11, 0), (12, 0), (13, 0), (14, 0), (15, 0), (16, 0), (17, 0), (18, 0), (19, 0), (20, 0), (21, 0), (22, 0), (23, 0), (24, 0), (25, 0)] (by kernel_rfl) (by kernel_rfl) rfl (by kernel_rfl) ?_
  repeat(first|refine lrund_ ?_|(refine ld_open rfl ?_;first|(refine ld_boxA rfl wy_ rfl ?_;intro _ _ _)|(refine ld_box1 rfl rfl wy_ rfl ?_;intro _ _ _)|(refine ld_alloc wy_ rfl ?_;intro _ _ _)))
  repeat(first|refine lrun_ ?_|(refine lo_boxA rfl rfl ?_;intro _ _ _)|(refine lo_box1 rfl rfl rfl ?_;intro _ _ _)|(refine lo_alloc rfl ?_;intro _ _ _))
  refine l_draw [(0, 0), (1, 0), (2, 0), (3, 0), (4, 0), (5, 0), (6, 0), (7, 0), (8, 0), (9, 0), (10, 0), (11, 0), (12, 0), (13, 0), (14, 0), (15, 0), (17, 0), (16, 1), (18, 0), (19, 0), (20, 0), (21, 0), (22, 0), (23, 0), (24, 0)] (by kernel_rfl) (by kernel_rfl) rfl (by kernel_rfl) ?_
  repeat(first|refine lrund_ ?_|(refine ld_open rfl ?_;first|(refine ld_boxA rfl wy_ rfl ?_;intro _ _ _)|(refine ld_box1 rfl rfl wy_ rfl ?_;intro _ _ _)|(refine ld_alloc wy_ rfl ?_;intro _ _ _)))
  refine ld_open rfl ?_; refine ld_call (n_call rfl) wy_ rfl (fun w hw => clipR_calls (p := ((i : Int), k)) (Kn.sl hw.org hR.sl) hpq) ?_
  rw [hcase]
  repeat(first|refine lrund_ ?_|(refine ld_open rfl ?_;first|(refine ld_boxA rfl wy_ rfl ?_;intro _ _ _)|(refine ld_box1 rfl rfl wy_ rfl ?_;intro _ _ _)|(refine ld_alloc wy_ rfl ?_;intro _ _ _)))
  refine l_false rfl ?_
  refine l_go .skip ?_
  exact done _ (by repeat (first | exact SubB.nil | refine SubB.cons rfl ?_)) _ (by repeat(first|exact MSub.refl|refine MSub.keep rfl ?_|exact MSub.nil|apply MSub.drop))
set_option maxHeartbeats 8000000 in
theorem mt_1ff (hR : Rws (fun _ => True) W A c l ad rV rc ra) (hin : i < l.length) (hpq : P64 ((i : Int), k)) (hcase : (i : Int) = a ∧ k = b)
    (done : ∀ σ', SubB σ' [(0, .slice A l.length c), (4, .pointer (some ⟨g4, 0, none⟩)), (5, .pointer (some ⟨g5, 0, none⟩)), (7, .pointer (some ⟨g7, 0, none⟩)), (8, .int .i64 ((1 : Nat) : Int))] → ∀ M', MSub [(g7, cb [.int .i64 a, .int .i64 b] 24), (g5, m5), (g4, m4)] M' → WL Try.prog Try.f3 kk σ' W (fun _ => False) B K M' R) :
    ∀ σ', SubB σ' [(0, .slice A l.length c), (4, .pointer (some ⟨g4, 0, none⟩)), (5, .pointer (some ⟨g5, 0, none⟩)), (7, .pointer (some ⟨g7, 0, none⟩)), (8, .int .i64 ((1 : Nat) : Int)), (9, .pointer (some ⟨g9, 0, none⟩)), (10, .int .i64 0), (11, .bool false)] → ∀ M', MSub [(g9, cb [.int .i64 i, .int .i64 k] 24), (g7, cb [.int .i64 a, .int .i64 b] 24), (g5, m5), (g4, m4)] M' →
      WL Try.prog Try.f3 (.code (bodyC Try.f3 [1, 1, 1, 0, 1, 0, 0, 1, 0, 0, 1]) :: kk) σ' W (fun _ => False) B K M' R := by
  intro σ' hs M' hM
  refine WL.sub hs hM ?_
  have hrl := hR.rl i
  repeat(first|refine lrun_ ?_|(refine lo_boxA rfl rfl ?_;intro _ _ _)|(refine lo_box1 rfl rfl rfl ?_;intro _ _ _)|(refine lo_alloc rfl ?_;intro _ _ _))
  obtain ⟨rfl, rfl⟩ := hcase
  refine l_draw [(0, 0), (1, 0), (2, 0), (3, 0), (4, 0), (5, 0), (6, 0), (7, 0), (8, 0), (9, 0), (10, 0), (11, 0), (12, 0), (13, 0), (14, 0), (15, 0), (16, 0), (17, 0), (18, 0), (19, 0), (20, 0), (21, 0), (22, 0), (23, 0), (24, 0), (25, 0)] (by kernel_rfl) (by kernel_rfl) rfl (by kernel_rfl) ?_
  repeat(first|refine lrund_ ?_|(refine ld_open rfl ?_;first|(refine ld_boxA rfl wy_ rfl ?_;intro _ _ _)|(refine ld_box1 rfl rfl wy_ rfl ?_;intro _ _ _)|(refine ld_alloc wy_ rfl ?_;intro _ _ _)))
  repeat(first|refine lrun_ ?_|(refine lo_boxA rfl rfl ?_;intro _ _ _)|(refine lo_box1 rfl rfl rfl ?_;intro _ _ _)|(refine lo_alloc rfl ?_;intro _ _ _))
  refine l_draw [(0, 0), (1, 0), (2, 0), (3, 0), (4, 0), (5, 0), (6, 0), (7, 0), (8, 0), (9, 0), (10, 0), (11, 0), (12, 0), (13, 0), (14, 0), (15, 0), (17, 0), (16, 1), (18, 0), (19, 0), (20, 0), (21, 0), (22, 0), (23, 0), (24, 0)] (by kernel_rfl) (by kernel_rfl) rfl (by kernel_rfl) ?_
  repeat(first|refine lrund_ ?_|(refine ld_open rfl ?_;first|(refine ld_boxA rfl wy_ rfl ?_;intro _ _ _)|(refine ld_box1 rfl rfl wy_ rfl ?_;intro _ _ _)|(refine ld_alloc wy_ rfl ?_;intro _ _ _)))
  refine l_false rfl ?_
  refine l_go .skip ?_
  exact done _ (by repeat (first | exact SubB.nil | refine SubB.cons rfl ?_)) _ (by repeat(first|exact MSub.refl|refine MSub.keep rfl ?_|exact MSub.nil|apply MSub.drop))
set_option maxHeartbeats 8000000 in
theorem mt_1at (hR : Rws (fun _ => True) W A c l ad rV rc ra) (hin : i < l.length) (hpq : P64 ((i : Int), k)) (hcase : clipM l ((i : Int), k) = ((i : Int), k))
    (done : ∀ σ', SubB σ' [(0, .slice A l.length c), (4, .pointer (some ⟨g4, 0, none⟩)), (5, .pointer (some ⟨g5, 0, none⟩)), (7, .pointer (some ⟨g7, 0, none⟩)), (8, .int .i64 ((1 : Nat) : Int))] → ∀ M', MSub [(g7, cb [.int .i64 a, .int .i64 b] 24), (g5, m5), (g4, m4)] M' → WL Try.prog Try.f3 kk σ' W (fun _ => False) B K M' R) :
    ∀ σ', SubB σ' [(0, .slice A l.length c), (4, .pointer (some ⟨g4, 0, none⟩)), (5, .pointer (some ⟨g5, 0, none⟩)), (7, .pointer (some ⟨g7, 0, none⟩)), (8, .int .i64 ((1 : Nat) : Int)), (9, .pointer (some ⟨g9, 0, none⟩)), (10, .int .i64 how), (11, .bool true)] → ∀ M', MSub [(g9, cb [.int .i64 i, .int .i64 k] 24), (g7, cb [.int .i64 a, .int .i64 b] 24), (g5, m5), (g4, m4)] M' →
      WL Try.prog Try.f3 (.code (bodyC Try.f3 [1, 1, 1, 0, 1, 0, 0, 1, 0, 0, 1]) :: kk) σ' W (fun _ => False) B K M' R := by
  intro σ' hs M' hM
  refine WL.sub hs hM ?_
  have hrl := hR.rl i
  repeat(first|refine lrun_ ?_|(refine lo_boxA rfl rfl ?_;intro _ _ _)|(refine lo_box1 rfl rfl rfl ?_;intro _ _ _)|(refine lo_alloc rfl ?_;intro _ _ _))
  refine l_draw [(0, 0), (1, 0), (2, 0), (3, 0), (4, 0), (5, 0), (6, 0), (7, 0), (8, 0), (9, 0), (10, 0), (11, 0), (12, 0), (13, 0), (14, 0), (15, 0), (16, 0), (17, 0), (18, 0), (19, 0), (20, 0), (21, 0), (22, 0), (23, 0), (24, 0), (25, 0)] (by kernel_rfl) (by kernel_rfl) rfl (by kernel_rfl) ?_
  repeat(first|refine lrund_ ?_|(refine ld_open rfl ?_;first|(refine ld_boxA rfl wy_ rfl ?_;intro _ _ _)|(refine ld_box1 rfl rfl wy_ rfl ?_;intro _ _ _)|(refine ld_alloc wy_ rfl ?_;intro _ _ _)))
  repeat(first|refine lrun_ ?_|(refine lo_boxA rfl rfl ?_;intro _ _ _)|(refine lo_box1 rfl rfl rfl ?_;intro _ _ _)|(refine lo_alloc rfl ?_;intro _ _ _))
  refine l_draw [(0, 0), (1, 0), (2, 0), (3, 0), (4, 0), (5, 0), (6, 0), (7, 0), (8, 0), (9, 0), (10, 0), (11, 0), (12, 0), (13, 0), (14, 0), (15, 0), (17, 0), (16, 1), (18, 0), (19, 0), (20, 0), (21, 0), (22, 0), (23, 0), (24, 0)] (by kernel_rfl) (by kernel_rfl) rfl (by kernel_rfl) ?_
  repeat(first|refine lrund_ ?_|(refine ld_open rfl ?_;first|(refine ld_boxA rfl wy_ rfl ?_;intro _ _ _)|(refine ld_box1 rfl rfl wy_ rfl ?_;intro _ _ _)|(refine ld_alloc wy_ rfl ?_;intro _ _ _)))
  refine ld_open rfl ?_; refine ld_call (n_call rfl) wy_ rfl (fun w hw => clipR_calls (p := ((i : Int), k)) (Kn.sl hw.org hR.sl) hpq) ?_
  rw [hcase]
  repeat(first|refine lrund_ ?_|(refine ld_open rfl ?_;first|(refine ld_boxA rfl wy_ rfl ?_;intro _ _ _)|(refine ld_box1 rfl rfl wy_ rfl ?_;intro _ _ _)|(refine ld_alloc wy_ rfl ?_;intro _ _ _)))
  refine l_false rfl ?_
  refine l_go .skip ?_
  exact done _ (by repeat (first | exact SubB.nil | refine SubB.cons rfl ?_)) _ (by repeat(first|exact MSub.refl|refine MSub.keep rfl ?_|exact MSub.nil|apply MSub.drop))
set_option maxHeartbeats 8000000 in
theorem mt_1end (hR : Rws (fun _ => True) W A c l ad rV rc ra) (hin : i < l.length) (hpq : P64 ((i : Int), k)) (hcase : k = ((l.getD i []).length : Int))
    (done : ∀ σ', SubB σ' [(0, .slice A l.length c), (4, .pointer (some ⟨g4, 0, none⟩)), (5, .pointer (some ⟨g5, 0, none⟩)), (7, .pointer (some ⟨g7, 0, none⟩)), (8, .int .i64 ((1 : Nat) : Int))] → ∀ M', MSub [(g7, cb [.int .i64 a, .int .i64 b] 24), (g5, m5), (g4, m4)] M' → WL Try.prog Try.f3 kk σ' W (fun _ => False) B K M' R) :
    ∀ σ', SubB σ' [(0, .slice A l.length c), (4, .pointer (some ⟨g4, 0, none⟩)), (5, .pointer (some ⟨g5, 0, none⟩)), (7, .pointer (some ⟨g7, 0, none⟩)), (8, .int .i64 ((1 : Nat) : Int)), (9, .pointer (some ⟨g9, 0, none⟩)), (10, .int .i64 how), (11, .bool true)] → ∀ M', MSub [(g9, cb [.int .i64 i, .int .i64 k] 24), (g7, cb [.int .i64 a, .int .i64 b] 24), (g5, m5), (g4, m4)] M' →
      WL Try.prog Try.f3 (.code (bodyC Try.f3 [1, 1, 1, 0, 1, 0, 0, 1, 0, 0, 1]) :: kk) σ' W (fun _ => False) B K M' R := by
  intro σ' hs M' hM
  refine WL.sub hs hM ?_
  have hrl := hR.rl i

  by_cases hcl : clipM l ((i : Int), k) = ((i : Int), k)
  · exact mt_1at hR hin hpq hcl done _ (by repeat (first | exact SubB.nil | refine SubB.cons rfl ?_)) _ (by repeat(first|exact MSub.refl|refine MSub.keep rfl ?_|exact MSub.nil|apply MSub.drop))
  have hne : ¬ ((clipM l ((i : Int), k)).1 = (i : Int) ∧ (clipM l ((i : Int), k)).2 = k) := fun h => hcl (Prod.ext h.1 h.2)
  repeat(first|refine lrun_ ?_|(refine lo_boxA rfl rfl ?_;intro _ _ _)|(refine lo_box1 rfl rfl rfl ?_;intro _ _ _)|(refine lo_alloc rfl ?_;intro _ _ _))
  refine l_draw [(0, 0), (1, 0), (2, 0), (3, 0), (4, 0), (5, 0), (6, 0), (7, 0), (8, 0), (9, 0), (10, 0), (11, 0), (12, 0), (13, 0), (14, 0), (15, 0), (16, 0), (17, 0), (18, 0), (19, 0), (20, 0), (21, 0), (22, 0), (23, 0), (24, 0), (25, 0)] (by kernel_rfl) (by kernel_rfl) rfl (by kernel_rfl) ?_
  repeat(first|refine lrund_ ?_|(refine ld_open rfl ?_;first|(refine ld_boxA rfl wy_ rfl ?_;intro _ _ _)|(refine ld_box1 rfl rfl wy_ rfl ?_;intro _ _ _)|(refine ld_alloc wy_ rfl ?_;intro _ _ _)))
  repeat(first|refine lrun_ ?_|(refine lo_boxA rfl rfl ?_;intro _ _ _)|(refine lo_box1 rfl rfl rfl ?_;intro _ _ _)|(refine lo_alloc rfl ?_;intro _ _ _))
  refine l_draw [(0, 0), (1, 0), (2, 0), (3, 0), (4, 0), (5, 0), (6, 0), (7, 0), (8, 0), (9, 0), (10, 0), (11, 0), (12, 0), (13, 0), (14, 0), (15, 0), (17, 0), (16, 1), (18, 0), (19, 0), (20, 0), (21, 0), (22, 0), (23, 0), (24, 0)] (by kernel_rfl) (by kernel_rfl) rfl (by kernel_rfl) ?_
  repeat(first|refine lrund_ ?_|(refine ld_open rfl ?_;first|(refine ld_boxA rfl wy_ rfl ?_;intro _ _ _)|(refine ld_box1 rfl rfl wy_ rfl ?_;intro _ _ _)|(refine ld_alloc wy_ rfl ?_;intro _ _ _)))
  refine ld_open rfl ?_; refine ld_call (n_call rfl) wy_ rfl (fun w hw => clipR_calls (p := ((i : Int), k)) (Kn.sl hw.org hR.sl) hpq) ?_
  repeat(first|refine lrund_ ?_|(refine ld_open rfl ?_;first|(refine ld_boxA rfl wy_ rfl ?_;intro _ _ _)|(refine ld_box1 rfl rfl wy_ rfl ?_;intro _ _ _)|(refine ld_alloc wy_ rfl ?_;intro _ _ _)))
  refine l_cond rfl (fun h => absurd h (by simp [hcase])) (fun _ => ?_)
  refine l_go .skip ?_
  exact done _ (by repeat (first | exact SubB.nil | refine SubB.cons rfl ?_)) _ (by repeat(first|exact MSub.refl|refine MSub.keep rfl ?_|exact MSub.nil|apply MSub.drop))
end
set_option maxHeartbeats 8000000 in
theorem core_MotionThere {W : World} {u : Value} {l : List (List Int)} {p : Ps} {m : Mo} (h : Sl kRow (fun _ => True) W u l) (hp : P64 p) (hm : MoOk m) :
    CallsR Try.prog 3 #[u, posV p, moV m] W fun r w' => r = .bool true ∧ Kn W w' := by
  obtain ⟨A, c, ad, rV, rc, ra, rfl, hR⟩ := h.rws
  have hlen := hR.len
  refine l_enter (fun _ => False) Try.func3 rfl rfl ?_
  repeat(first|refine lrun_ ?_|(refine lo_boxA rfl rfl ?_;intro _ _ _)|(refine lo_box1 rfl rfl rfl ?_;intro _ _ _)|(refine lo_alloc rfl ?_;intro _ _ _))
  rename_i g4 _ _ g5 _ _
  refine lo_callP (n_call rfl) rfl (fun w hw => small_calls (Kn.sl hw.org h)) ?_
  cases hs : smallM l with
  | false =>
    repeat(first|refine lrun_ ?_|(refine lo_boxA rfl rfl ?_;intro _ _ _)|(refine lo_box1 rfl rfl rfl ?_;intro _ _ _)|(refine lo_alloc rfl ?_;intro _ _ _))
    refine l_true rfl ?_
    repeat(first|refine lrun_ ?_|(refine lo_boxA rfl rfl ?_;intro _ _ _)|(refine lo_box1 rfl rfl rfl ?_;intro _ _ _)|(refine lo_alloc rfl ?_;intro _ _ _))
    refine lo_call (n_call rfl) rfl (fun w hw => awake_calls) ?_
    repeat(first|refine lrun_ ?_|(refine lo_boxA rfl rfl ?_;intro _ _ _)|(refine lo_box1 rfl rfl rfl ?_;intro _ _ _)|(refine lo_alloc rfl ?_;intro _ _ _))
    exact l_ret1 rfl rfl fun w hw => ⟨rfl, hw.org⟩
  | true =>
    have hs0 := small_room hs
    by_cases hl0 : l = []
    · have e : l.length = 0 := by rw [hl0]; rfl
      repeat(first|refine lrun_ ?_|(refine lo_boxA rfl rfl ?_;intro _ _ _)|(refine lo_box1 rfl rfl rfl ?_;intro _ _ _)|(refine lo_alloc rfl ?_;intro _ _ _))
      refine l_yes rfl (by omega) ?_
      repeat(first|refine lrun_ ?_|(refine lo_boxA rfl rfl ?_;intro _ _ _)|(refine lo_box1 rfl rfl rfl ?_;intro _ _ _)|(refine lo_alloc rfl ?_;intro _ _ _))
      refine lo_call (n_call rfl) rfl (fun w hw => awake_calls) ?_
      repeat(first|refine lrun_ ?_|(refine lo_boxA rfl rfl ?_;intro _ _ _)|(refine lo_box1 rfl rfl rfl ?_;intro _ _ _)|(refine lo_alloc rfl ?_;intro _ _ _))
      exact l_ret1 rfl rfl fun w hw => ⟨rfl, hw.org⟩
    have hll := List.length_pos_iff.2 hl0
    repeat(first|refine lrun_ ?_|(refine lo_boxA rfl rfl ?_;intro _ _ _)|(refine lo_box1 rfl rfl rfl ?_;intro _ _ _)|(refine lo_alloc rfl ?_;intro _ _ _))
    refine l_no rfl (by omega) ?_
    repeat(first|refine lrun_ ?_|(refine lo_boxA rfl rfl ?_;intro _ _ _)|(refine lo_box1 rfl rfl rfl ?_;intro _ _ _)|(refine lo_alloc rfl ?_;intro _ _ _))
    refine lo_call (n_call rfl) rfl (fun w hw => clipR_calls (p := p) (Kn.sl hw.org h) hp) ?_
    repeat(first|refine lrun_ ?_|(refine lo_boxA rfl rfl ?_;intro _ _ _)|(refine lo_box1 rfl rfl rfl ?_;intro _ _ _)|(refine lo_alloc rfl ?_;intro _ _ _))
    rename_i g7 _ _
    refine l_while (fun i : Nat => 2 - i) (fun i => [(0, .slice A l.length c), (4, .pointer (some ⟨g4, 0, none⟩)), (5, .pointer (some ⟨g5, 0, none⟩)), (7, .pointer (some ⟨g7, 0, none⟩)), (8, .int .i64 (i : Int))])
      (fun _ => [(g7, cb [.int .i64 (clipM l p).1, .int .i64 (clipM l p).2] 24), (g5, cb [.int .i32 m.key, .int .i64 m.count, .int .i32 m.arg, .int .i64 m.want] 26), (g4, cb [.int .i64 p.1, .int .i64 p.2] 24)]) (fun i => i ≤ 2) 0 (by repeat (first | exact SubB.nil | refine SubB.cons rfl ?_)) (by repeat(first|exact MSub.refl|refine MSub.keep rfl ?_|exact MSub.nil|apply MSub.drop)) (by omega) ?_
    rintro i hi ih
    rcases (by omega : i = 0 ∨ i = 1 ∨ i = 2) with rfl | rfl | rfl
    · repeat(first|refine lrun_ ?_|(refine lo_boxA rfl rfl ?_;intro _ _ _)|(refine lo_box1 rfl rfl rfl ?_;intro _ _ _)|(refine lo_alloc rfl ?_;intro _ _ _))
      refine l_true rfl ?_
      repeat(first|refine lrun_ ?_|(refine lo_boxA rfl rfl ?_;intro _ _ _)|(refine lo_box1 rfl rfl rfl ?_;intro _ _ _)|(refine lo_alloc rfl ?_;intro _ _ _))
      refine lo_callV (n_call rfl) rfl (fun w hw => move_calls (p := p) (m := m) (op := false) hs0 (Kn.sl hw.org h) hl0 hp hm) ?_
      rintro _ ⟨r, rfl, hr⟩
      obtain ⟨i, k, how, ok, he, hin, hkk, hcase⟩ := There.round hl0 hm hr
      rw [he]
      clear hr he
      have hrl := hR.rl i
      have hpq : P64 ((i : Int), k) := by unfold P64; simp only; omega
      rcases hcase with ⟨rfl, h1, h2, rfl⟩ | ⟨rfl, hc⟩ | ⟨rfl, hop, hend⟩
      · repeat(first|refine lops_ ?_|(refine lo_boxA rfl rfl ?_;intro _ _ _)|(refine lo_box1 rfl rfl rfl ?_;intro _ _ _)|(refine lo_alloc rfl ?_;intro _ _ _))
        refine lo_nil ?_
        refine mt_0ff hR hin hpq ⟨h1, h2⟩ (fun σ' hs' M' hM' => ?_) _ (by repeat (first | exact SubB.nil | refine SubB.cons rfl ?_)) _ (by repeat(first|exact MSub.refl|refine MSub.keep rfl ?_|exact MSub.nil|apply MSub.drop))
        refine WL.sub hs' hM' ?_
        repeat(first|refine lrun_ ?_|(refine lo_boxA rfl rfl ?_;intro _ _ _)|(refine lo_box1 rfl rfl rfl ?_;intro _ _ _)|(refine lo_alloc rfl ?_;intro _ _ _))
        exact ih 1 (by omega) (by omega) _ _ (by repeat (first | exact SubB.nil | refine SubB.cons rfl ?_)) (by repeat(first|exact MSub.refl|refine MSub.keep rfl ?_|exact MSub.nil|apply MSub.drop))
      · repeat(first|refine lops_ ?_|(refine lo_boxA rfl rfl ?_;intro _ _ _)|(refine lo_box1 rfl rfl rfl ?_;intro _ _ _)|(refine lo_alloc rfl ?_;intro _ _ _))
        refine lo_nil ?_
        refine mt_0at hR hin hpq hc (fun σ' hs' M' hM' => ?_) _ (by repeat (first | exact SubB.nil | refine SubB.cons rfl ?_)) _ (by repeat(first|exact MSub.refl|refine MSub.keep rfl ?_|exact MSub.nil|apply MSub.drop))
        refine WL.sub hs' hM' ?_
        repeat(first|refine lrun_ ?_|(refine lo_boxA rfl rfl ?_;intro _ _ _)|(refine lo_box1 rfl rfl rfl ?_;intro _ _ _)|(refine lo_alloc rfl ?_;intro _ _ _))
        exact ih 1 (by omega) (by omega) _ _ (by repeat (first | exact SubB.nil | refine SubB.cons rfl ?_)) (by repeat(first|exact MSub.refl|refine MSub.keep rfl ?_|exact MSub.nil|apply MSub.drop))
      · cases hop
    · repeat(first|refine lrun_ ?_|(refine lo_boxA rfl rfl ?_;intro _ _ _)|(refine lo_box1 rfl rfl rfl ?_;intro _ _ _)|(refine lo_alloc rfl ?_;intro _ _ _))
      refine l_true rfl ?_
      repeat(first|refine lrun_ ?_|(refine lo_boxA rfl rfl ?_;intro _ _ _)|(refine lo_box1 rfl rfl rfl ?_;intro _ _ _)|(refine lo_alloc rfl ?_;intro _ _ _))
      refine lo_callV (n_call rfl) rfl (fun w hw => move_calls (p := p) (m := m) (op := true) hs0 (Kn.sl hw.org h) hl0 hp hm) ?_
      rintro _ ⟨r, rfl, hr⟩
      obtain ⟨i, k, how, ok, he, hin, hkk, hcase⟩ := There.round hl0 hm hr
      rw [he]
      clear hr he
      have hrl := hR.rl i
      have hpq : P64 ((i : Int), k) := by unfold P64; simp only; omega
      rcases hcase with ⟨rfl, h1, h2, rfl⟩ | ⟨rfl, hc⟩ | ⟨rfl, hop, hend⟩
      · repeat(first|refine lops_ ?_|(refine lo_boxA rfl rfl ?_;intro _ _ _)|(refine lo_box1 rfl rfl rfl ?_;intro _ _ _)|(refine lo_alloc rfl ?_;intro _ _ _))
        refine lo_nil ?_
        refine mt_1ff hR hin hpq ⟨h1, h2⟩ (fun σ' hs' M' hM' => ?_) _ (by repeat (first | exact SubB.nil | refine SubB.cons rfl ?_)) _ (by repeat(first|exact MSub.refl|refine MSub.keep rfl ?_|exact MSub.nil|apply MSub.drop))
        refine WL.sub hs' hM' ?_
        repeat(first|refine lrun_ ?_|(refine lo_boxA rfl rfl ?_;intro _ _ _)|(refine lo_box1 rfl rfl rfl ?_;intro _ _ _)|(refine lo_alloc rfl ?_;intro _ _ _))
        exact ih 2 (by omega) (by omega) _ _ (by repeat (first | exact SubB.nil | refine SubB.cons rfl ?_)) (by repeat(first|exact MSub.refl|refine MSub.keep rfl ?_|exact MSub.nil|apply MSub.drop))
      · repeat(first|refine lops_ ?_|(refine lo_boxA rfl rfl ?_;intro _ _ _)|(refine lo_box1 rfl rfl rfl ?_;intro _ _ _)|(refine lo_alloc rfl ?_;intro _ _ _))
        refine lo_nil ?_
        refine mt_1at hR hin hpq hc (fun σ' hs' M' hM' => ?_) _ (by repeat (first | exact SubB.nil | refine SubB.cons rfl ?_)) _ (by repeat(first|exact MSub.refl|refine MSub.keep rfl ?_|exact MSub.nil|apply MSub.drop))
        refine WL.sub hs' hM' ?_
        repeat(first|refine lrun_ ?_|(refine lo_boxA rfl rfl ?_;intro _ _ _)|(refine lo_box1 rfl rfl rfl ?_;intro _ _ _)|(refine lo_alloc rfl ?_;intro _ _ _))
        exact ih 2 (by omega) (by omega) _ _ (by repeat (first | exact SubB.nil | refine SubB.cons rfl ?_)) (by repeat(first|exact MSub.refl|refine MSub.keep rfl ?_|exact MSub.nil|apply MSub.drop))
      · repeat(first|refine lops_ ?_|(refine lo_boxA rfl rfl ?_;intro _ _ _)|(refine lo_box1 rfl rfl rfl ?_;intro _ _ _)|(refine lo_alloc rfl ?_;intro _ _ _))
        refine lo_nil ?_
        refine mt_1end hR hin hpq hend (fun σ' hs' M' hM' => ?_) _ (by repeat (first | exact SubB.nil | refine SubB.cons rfl ?_)) _ (by repeat(first|exact MSub.refl|refine MSub.keep rfl ?_|exact MSub.nil|apply MSub.drop))
        refine WL.sub hs' hM' ?_
        repeat(first|refine lrun_ ?_|(refine lo_boxA rfl rfl ?_;intro _ _ _)|(refine lo_box1 rfl rfl rfl ?_;intro _ _ _)|(refine lo_alloc rfl ?_;intro _ _ _))
        exact ih 2 (by omega) (by omega) _ _ (by repeat (first | exact SubB.nil | refine SubB.cons rfl ?_)) (by repeat(first|exact MSub.refl|refine MSub.keep rfl ?_|exact MSub.nil|apply MSub.drop))
    · repeat(first|refine lrun_ ?_|(refine lo_boxA rfl rfl ?_;intro _ _ _)|(refine lo_box1 rfl rfl rfl ?_;intro _ _ _)|(refine lo_alloc rfl ?_;intro _ _ _))
      refine l_false rfl ?_
      repeat(first|refine lrun_ ?_|(refine lo_boxA rfl rfl ?_;intro _ _ _)|(refine lo_box1 rfl rfl rfl ?_;intro _ _ _)|(refine lo_alloc rfl ?_;intro _ _ _))
      refine lo_call (n_call rfl) rfl (fun w hw => awake_calls) ?_
      repeat(first|refine lrun_ ?_|(refine lo_boxA rfl rfl ?_;intro _ _ _)|(refine lo_box1 rfl rfl rfl ?_;intro _ _ _)|(refine lo_alloc rfl ?_;intro _ _ _))
      exact l_ret1 rfl rfl fun w hw => ⟨rfl, hw.org⟩
end Go.Ink
