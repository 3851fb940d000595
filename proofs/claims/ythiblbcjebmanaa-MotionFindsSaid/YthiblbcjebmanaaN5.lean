/-
  MotionFinds.
-/
import Derived.Test.YthiblbcjebmanaaN4
import Derived.Test.YthiblbcjebmanaaN3
set_option linter.unusedVariables false
set_option linter.unusedSimpArgs false
namespace Go.Ink
open Go Go.Proofs

section
variable {W : World} {l : List (List Int)} {A : Option Addr} {c cx : Nat} {ad ax : Addr} {x : List Int} {i j k g4 g5 g8 : Nat} {m : Mo} {n : Int} {o8 : Obj} {how : Int} {kk : List Item} {B : World} {K : Nat → Prop} {R : Value → World → Prop}
set_option maxHeartbeats 8000000 in
theorem mf_no {A1 : Option Addr} (hX : Rns (fun _ => True) W A1 cx x ax) (hk : k ≤ x.length) 
    (done : ∀ σ', SubB σ' [(0, .slice A l.length c), (4, .pointer (some ⟨g4, 0, none⟩)), (5, .pointer (some ⟨g5, 0, none⟩)), (7, .int .i64 n), (8, .pointer (some ⟨g8, 0, none⟩)), (10, .bool false), (11, .slice (A1) x.length cx), (12, .int .i64 (cntU x m.arg (k + 1) (x.length - (k + 1)) : Nat))] → ∀ M', MSub [(g8, o8), (g5, cb [.int .i32 102, .int .i64 m.count, .int .i32 m.arg, .int .i64 m.want] 26), (g4, cb [.int .i64 i, .int .i64 k] 24)] M' → WL Try.prog Try.f6 kk σ' W (fun _ => False) W (fun _ => False) M' R) :
    ∀ σ', SubB σ' [(0, .slice A l.length c), (4, .pointer (some ⟨g4, 0, none⟩)), (5, .pointer (some ⟨g5, 0, none⟩)), (7, .int .i64 n), (8, .pointer (some ⟨g8, 0, none⟩)), (10, .bool false), (11, .slice (A1) x.length cx), (12, .int .i64 (0 : Int)), (13, .int .i64 ((k : Int) + 1))] → ∀ M', MSub [(g8, o8), (g5, cb [.int .i32 102, .int .i64 m.count, .int .i32 m.arg, .int .i64 m.want] 26), (g4, cb [.int .i64 i, .int .i64 k] 24)] M' →
      WL Try.prog Try.f6 (.code (.loop (bodyC Try.f6 [1, 1, 1, 1, 1, 1, 1, 1, 0, 1, 0, 0])) :: .inBlock 0 :: kk) σ' W (fun _ => False) W (fun _ => False) M' R := by
  intro σ' hs M' hM
  refine WL.sub hs hM ?_
  have hc := hX.cap
  have hl := hX.len
  refine l_while (fun t : Nat => x.length + 1 - t) (fun t => [(0, .slice A l.length c), (4, .pointer (some ⟨g4, 0, none⟩)), (5, .pointer (some ⟨g5, 0, none⟩)), (7, .int .i64 n), (8, .pointer (some ⟨g8, 0, none⟩)), (10, .bool false), (11, .slice (A1) x.length cx), (12, .int .i64 (cntU x m.arg (k + 1) (t - (k + 1)) : Nat)), (13, .int .i64 (t : Int))])
    (fun _ => [(g8, o8), (g5, cb [.int .i32 102, .int .i64 m.count, .int .i32 m.arg, .int .i64 m.want] 26), (g4, cb [.int .i64 i, .int .i64 k] 24)]) (fun t => k + 1 ≤ t ∧ (t ≤ x.length ∨ t = k + 1)) (k + 1) (by rw [Nat.sub_self]; exact (by repeat (first | exact SubB.nil | refine SubB.cons rfl ?_))) (by repeat(first|exact MSub.refl|refine MSub.keep rfl ?_|exact MSub.nil|apply MSub.drop)) ⟨Nat.le_refl _, .inr rfl⟩ ?_
  rintro t ⟨ht, ht2⟩ ih
  have hcl := cntU_le x m.arg (k + 1) (t - (k + 1))
  by_cases hlt : t < x.length
  · have hlx : t < x.length := by omega
    have hsu : cntU x m.arg (k + 1) (t + 1 - (k + 1)) = cntU x m.arg (k + 1) (t - (k + 1)) + if x.getD t 0 = m.arg then 1 else 0 := by
      rw [show t + 1 - (k + 1) = (t - (k + 1)) + 1 by omega, cntU_succ, show k + 1 + (t - (k + 1)) = t by omega]
    repeat(first|refine lrun_ ?_|(refine lo_boxA rfl rfl ?_;intro _ _ _)|(refine lo_box1 rfl rfl rfl ?_;intro _ _ _)|(refine lo_alloc rfl ?_;intro _ _ _))
    refine l_true rfl ?_
    repeat(first|refine lrun_ ?_|(refine lo_boxA rfl rfl ?_;intro _ _ _)|(refine lo_box1 rfl rfl rfl ?_;intro _ _ _)|(refine lo_alloc rfl ?_;intro _ _ _))
    refine l_draw [(0, 0), (1, 0), (2, 0), (3, 0), (4, 0), (5, 0), (6, 0)] (by kernel_rfl) (by kernel_rfl) rfl (by kernel_rfl) ?_
    repeat(first|refine lrund_ ?_|(refine ld_open rfl ?_;first|(refine ld_boxA rfl wy_ rfl ?_;intro _ _ _)|(refine ld_box1 rfl rfl wy_ rfl ?_;intro _ _ _)|(refine ld_alloc wy_ rfl ?_;intro _ _ _)))
    refine l_ite rfl (fun he => ?_) (fun he => ?_)
    · rw [if_pos he] at hsu
      repeat(first|refine lrun_ ?_|(refine lo_boxA rfl rfl ?_;intro _ _ _)|(refine lo_box1 rfl rfl rfl ?_;intro _ _ _)|(refine lo_alloc rfl ?_;intro _ _ _))
      exact ih (t + 1) ⟨by omega, by omega⟩ (by omega) _ _ (by rw [hsu]; exact (by repeat (first | exact SubB.nil | refine SubB.cons rfl ?_))) (by repeat(first|exact MSub.refl|refine MSub.keep rfl ?_|exact MSub.nil|apply MSub.drop))
    · rw [if_neg he] at hsu
      repeat(first|refine lrun_ ?_|(refine lo_boxA rfl rfl ?_;intro _ _ _)|(refine lo_box1 rfl rfl rfl ?_;intro _ _ _)|(refine lo_alloc rfl ?_;intro _ _ _))
      exact ih (t + 1) ⟨by omega, by omega⟩ (by omega) _ _ (by rw [hsu]; exact (by repeat (first | exact SubB.nil | refine SubB.cons rfl ?_))) (by repeat(first|exact MSub.refl|refine MSub.keep rfl ?_|exact MSub.nil|apply MSub.drop))
  · have hte : cntU x m.arg (k + 1) (t - (k + 1)) = cntU x m.arg (k + 1) (x.length - (k + 1)) := by rw [show t - (k + 1) = x.length - (k + 1) by omega]
    rw [hte]
    repeat(first|refine lrun_ ?_|(refine lo_boxA rfl rfl ?_;intro _ _ _)|(refine lo_box1 rfl rfl rfl ?_;intro _ _ _)|(refine lo_alloc rfl ?_;intro _ _ _))
    refine l_false rfl ?_
    refine l_go (.exit rfl) ?_
    exact done _ (by repeat (first | exact SubB.nil | refine SubB.cons rfl ?_)) _ (by repeat(first|exact MSub.refl|refine MSub.keep rfl ?_|exact MSub.nil|apply MSub.drop))
set_option maxHeartbeats 8000000 in
theorem mf_yes {A1 : Option Addr} (hX : Rns (fun _ => True) W A1 cx x ax) (hk : k ≤ x.length) (hj : j < x.length) (hkj : k < j) 
    (done : ∀ σ', SubB σ' [(0, .slice A l.length c), (4, .pointer (some ⟨g4, 0, none⟩)), (5, .pointer (some ⟨g5, 0, none⟩)), (7, .int .i64 n), (8, .pointer (some ⟨g8, 0, none⟩)), (10, .bool true), (11, .slice (A1) x.length cx), (12, .int .i64 (cntU x m.arg (k + 1) ((j + 1) - (k + 1)) : Nat))] → ∀ M', MSub [(g8, cb [.int .i64 i, .int .i64 j] 24), (g5, cb [.int .i32 102, .int .i64 m.count, .int .i32 m.arg, .int .i64 m.want] 26), (g4, cb [.int .i64 i, .int .i64 k] 24)] M' → WL Try.prog Try.f6 kk σ' W (fun _ => False) W (fun _ => False) M' R) :
    ∀ σ', SubB σ' [(0, .slice A l.length c), (4, .pointer (some ⟨g4, 0, none⟩)), (5, .pointer (some ⟨g5, 0, none⟩)), (7, .int .i64 n), (8, .pointer (some ⟨g8, 0, none⟩)), (10, .bool true), (11, .slice (A1) x.length cx), (12, .int .i64 (0 : Int)), (13, .int .i64 ((k : Int) + 1))] → ∀ M', MSub [(g8, cb [.int .i64 i, .int .i64 j] 24), (g5, cb [.int .i32 102, .int .i64 m.count, .int .i32 m.arg, .int .i64 m.want] 26), (g4, cb [.int .i64 i, .int .i64 k] 24)] M' →
      WL Try.prog Try.f6 (.code (.loop (bodyC Try.f6 [1, 1, 1, 1, 1, 1, 1, 1, 0, 1, 0, 0])) :: .inBlock 0 :: kk) σ' W (fun _ => False) W (fun _ => False) M' R := by
  intro σ' hs M' hM
  refine WL.sub hs hM ?_
  have hc := hX.cap
  have hl := hX.len
  refine l_while (fun t : Nat => x.length + 1 - t) (fun t => [(0, .slice A l.length c), (4, .pointer (some ⟨g4, 0, none⟩)), (5, .pointer (some ⟨g5, 0, none⟩)), (7, .int .i64 n), (8, .pointer (some ⟨g8, 0, none⟩)), (10, .bool true), (11, .slice (A1) x.length cx), (12, .int .i64 (cntU x m.arg (k + 1) (t - (k + 1)) : Nat)), (13, .int .i64 (t : Int))])
    (fun _ => [(g8, cb [.int .i64 i, .int .i64 j] 24), (g5, cb [.int .i32 102, .int .i64 m.count, .int .i32 m.arg, .int .i64 m.want] 26), (g4, cb [.int .i64 i, .int .i64 k] 24)]) (fun t => k + 1 ≤ t ∧ (t ≤ (j + 1) ∨ t = k + 1)) (k + 1) (by rw [Nat.sub_self]; exact (by repeat (first | exact SubB.nil | refine SubB.cons rfl ?_))) (by repeat(first|exact MSub.refl|refine MSub.keep rfl ?_|exact MSub.nil|apply MSub.drop)) ⟨Nat.le_refl _, .inr rfl⟩ ?_
  rintro t ⟨ht, ht2⟩ ih
  have hcl := cntU_le x m.arg (k + 1) (t - (k + 1))
  by_cases hlt : t < (j + 1)
  · have hlx : t < x.length := by omega
    have hsu : cntU x m.arg (k + 1) (t + 1 - (k + 1)) = cntU x m.arg (k + 1) (t - (k + 1)) + if x.getD t 0 = m.arg then 1 else 0 := by
      rw [show t + 1 - (k + 1) = (t - (k + 1)) + 1 by omega, cntU_succ, show k + 1 + (t - (k + 1)) = t by omega]
    repeat(first|refine lrun_ ?_|(refine lo_boxA rfl rfl ?_;intro _ _ _)|(refine lo_box1 rfl rfl rfl ?_;intro _ _ _)|(refine lo_alloc rfl ?_;intro _ _ _))
    refine l_yes rfl (by omega) ?_
    repeat(first|refine lrun_ ?_|(refine lo_boxA rfl rfl ?_;intro _ _ _)|(refine lo_box1 rfl rfl rfl ?_;intro _ _ _)|(refine lo_alloc rfl ?_;intro _ _ _))
    refine l_draw [(0, 0), (1, 0), (2, 0), (3, 0), (4, 0), (5, 0), (6, 0)] (by kernel_rfl) (by kernel_rfl) rfl (by kernel_rfl) ?_
    repeat(first|refine lrund_ ?_|(refine ld_open rfl ?_;first|(refine ld_boxA rfl wy_ rfl ?_;intro _ _ _)|(refine ld_box1 rfl rfl wy_ rfl ?_;intro _ _ _)|(refine ld_alloc wy_ rfl ?_;intro _ _ _)))
    refine l_ite rfl (fun he => ?_) (fun he => ?_)
    · rw [if_pos he] at hsu
      repeat(first|refine lrun_ ?_|(refine lo_boxA rfl rfl ?_;intro _ _ _)|(refine lo_box1 rfl rfl rfl ?_;intro _ _ _)|(refine lo_alloc rfl ?_;intro _ _ _))
      exact ih (t + 1) ⟨by omega, by omega⟩ (by omega) _ _ (by rw [hsu]; exact (by repeat (first | exact SubB.nil | refine SubB.cons rfl ?_))) (by repeat(first|exact MSub.refl|refine MSub.keep rfl ?_|exact MSub.nil|apply MSub.drop))
    · rw [if_neg he] at hsu
      repeat(first|refine lrun_ ?_|(refine lo_boxA rfl rfl ?_;intro _ _ _)|(refine lo_box1 rfl rfl rfl ?_;intro _ _ _)|(refine lo_alloc rfl ?_;intro _ _ _))
      exact ih (t + 1) ⟨by omega, by omega⟩ (by omega) _ _ (by rw [hsu]; exact (by repeat (first | exact SubB.nil | refine SubB.cons rfl ?_))) (by repeat(first|exact MSub.refl|refine MSub.keep rfl ?_|exact MSub.nil|apply MSub.drop))
  · have hte : cntU x m.arg (k + 1) (t - (k + 1)) = cntU x m.arg (k + 1) ((j + 1) - (k + 1)) := by rw [show t - (k + 1) = (j + 1) - (k + 1) by omega]
    rw [hte]
    by_cases hlx : t < x.length
    · repeat(first|refine lrun_ ?_|(refine lo_boxA rfl rfl ?_;intro _ _ _)|(refine lo_box1 rfl rfl rfl ?_;intro _ _ _)|(refine lo_alloc rfl ?_;intro _ _ _))
      refine l_no rfl (by omega) ?_
      refine l_go (.exit rfl) ?_
      exact done _ (by repeat (first | exact SubB.nil | refine SubB.cons rfl ?_)) _ (by repeat(first|exact MSub.refl|refine MSub.keep rfl ?_|exact MSub.nil|apply MSub.drop))
    · repeat(first|refine lrun_ ?_|(refine lo_boxA rfl rfl ?_;intro _ _ _)|(refine lo_box1 rfl rfl rfl ?_;intro _ _ _)|(refine lo_alloc rfl ?_;intro _ _ _))
      refine l_false rfl ?_
      refine l_go (.exit rfl) ?_
      exact done _ (by repeat (first | exact SubB.nil | refine SubB.cons rfl ?_)) _ (by repeat(first|exact MSub.refl|refine MSub.keep rfl ?_|exact MSub.nil|apply MSub.drop))
end
theorem rws_rns {W : World} {l : List (List Int)} {A : Option Addr} {c : Nat} {ad : Addr} {rV : Nat → Option Addr} {rc : Nat → Nat} {ra : Nat → Addr} {F : Nat → Prop} {i : Nat} (hR : Rws F W A c l ad rV rc ra) (hi : i < l.length) : Rns F W (rV i) (rc i) (l.getD i []) (ra i) := by
  obtain ⟨A1, c1, a1, e, hx⟩ := (hR.rs i hi).rns
  exact ⟨hR.rs i hi, hR.rcap i hi, hR.rl i, hR.aa i hi, fun j hj => hR.run i j hi hj, hx.lo, hR.fr i hi⟩
set_option maxHeartbeats 8000000 in
theorem core_MotionFinds {W : World} {u : Value} {l : List (List Int)} {p : Ps} {m : Mo} (h : Sl kRow (fun _ => True) W u l) (hp : P64 p) (hm : MoOk m) :
    CallsR Try.prog 6 #[u, posV p, moV m] W fun r w' => r = .bool true ∧ Kn W w' := by
  obtain ⟨A, c, ad, rV, rc, ra, rfl, hR⟩ := h.rws
  have hlen := hR.len
  refine l_enter (fun _ => False) Try.func6 rfl rfl ?_
  repeat(first|refine lrun_ ?_|(refine lo_boxA rfl rfl ?_;intro _ _ _)|(refine lo_box1 rfl rfl rfl ?_;intro _ _ _)|(refine lo_alloc rfl ?_;intro _ _ _))
  rename_i g4 _ _ g5 _ _
  refine lo_callP (n_call rfl) rfl (fun w hw => small_calls (Kn.sl hw.org h)) ?_
  cases hs : smallM l with
  | false =>
    repeat(first|refine lrun_ ?_|(refine lo_boxA rfl rfl ?_;intro _ _ _)|(refine lo_box1 rfl rfl rfl ?_;intro _ _ _)|(refine lo_alloc rfl ?_;intro _ _ _))
    refine l_true rfl ?_
    repeat(first|refine lrun_ ?_|(refine lo_boxA rfl rfl ?_;intro _ _ _)|(refine lo_box1 rfl rfl rfl ?_;intro _ _ _)|(refine lo_alloc rfl ?_;intro _ _ _))
    refine lo_call (n_call rfl) rfl (fun w hw => awake_calls) ?_
    repeat(first|refine lrun_ ?_|(refine lo_boxA rfl rfl ?_;intro _ _ _)|(refine lo_box1 rfl rfl rfl ?_;intro _ _ _)|(refine lo_alloc rfl ?_;intro _ _ _))
    exact l_ret1 rfl rfl fun w hw => ⟨rfl, hw.org⟩
  | true =>
    have hs0 := small_room hs
    by_cases hl0 : l = []
    · have e : l.length = 0 := by rw [hl0]; rfl
      repeat(first|refine lrun_ ?_|(refine lo_boxA rfl rfl ?_;intro _ _ _)|(refine lo_box1 rfl rfl rfl ?_;intro _ _ _)|(refine lo_alloc rfl ?_;intro _ _ _))
      refine l_yes rfl (by omega) ?_
      repeat(first|refine lrun_ ?_|(refine lo_boxA rfl rfl ?_;intro _ _ _)|(refine lo_box1 rfl rfl rfl ?_;intro _ _ _)|(refine lo_alloc rfl ?_;intro _ _ _))
      refine lo_call (n_call rfl) rfl (fun w hw => awake_calls) ?_
      repeat(first|refine lrun_ ?_|(refine lo_boxA rfl rfl ?_;intro _ _ _)|(refine lo_box1 rfl rfl rfl ?_;intro _ _ _)|(refine lo_alloc rfl ?_;intro _ _ _))
      exact l_ret1 rfl rfl fun w hw => ⟨rfl, hw.org⟩
    have hll := List.length_pos_iff.2 hl0
    repeat(first|refine lrun_ ?_|(refine lo_boxA rfl rfl ?_;intro _ _ _)|(refine lo_box1 rfl rfl rfl ?_;intro _ _ _)|(refine lo_alloc rfl ?_;intro _ _ _))
    refine l_no rfl (by omega) ?_
    repeat(first|refine lrun_ ?_|(refine lo_boxA rfl rfl ?_;intro _ _ _)|(refine lo_box1 rfl rfl rfl ?_;intro _ _ _)|(refine lo_alloc rfl ?_;intro _ _ _))
    refine lo_call (n_call rfl) rfl (fun w hw => clipR_calls (p := p) (Kn.sl hw.org h) hp) ?_
    have hat := clip_at (p := p) hl0
    obtain ⟨i, k, hq, hi, hk, -⟩ := at_index hat
    rw [hq] at hat ⊢
    have hpq := at_P hR hat
    clear hq
    repeat(first|refine lrun_ ?_|(refine lo_boxA rfl rfl ?_;intro _ _ _)|(refine lo_box1 rfl rfl rfl ?_;intro _ _ _)|(refine lo_alloc rfl ?_;intro _ _ _))
    have hmf : ∀ key, (-2147483648 ≤ key ∧ key ≤ 2147483647) → MoOk ⟨key, m.count, m.arg, m.want⟩ := fun key hk => ⟨hk, hm.count, hm.arg, hm.want⟩
    have hX := rws_rns hR hi
    have hrl := hR.rl i
    have hcn : (if 1 < m.count then m.count else 1) = cntN m := rfl
    rw [hcn]
    refine lo_callV (n_call rfl) rfl (fun w hw => move_calls (p := ((i : Int), (k : Int))) (m := ⟨102, m.count, m.arg, m.want⟩) (op := false) hs0 (Kn.sl hw.org h) hl0 hpq (hmf _ (by decide))) ?_
    rintro _ ⟨r, rfl, hr⟩
    rcases find_f hat rfl hr with ⟨q, rfl, hlt⟩ | ⟨j, rfl, hkj, hj, hxj, hn⟩
    · rw [mvV_t]
      clear hr
      have hlt : (cntU (l.getD i []) m.arg (k + 1) ((l.getD i []).length - (k + 1)) : Int) < cntN m := hlt
      repeat(first|refine lrun_ ?_|(refine lo_boxA rfl rfl ?_;intro _ _ _)|(refine lo_box1 rfl rfl rfl ?_;intro _ _ _)|(refine lo_alloc rfl ?_;intro _ _ _))
      refine mf_no (l := l) (A := A) (c := c) (k := k) (m := m) (n := cntN m) hX (by omega) (fun σ' hs' M' hM' => ?_) _ (by repeat (first | exact SubB.nil | refine SubB.cons rfl ?_)) _ (by repeat(first|exact MSub.refl|refine MSub.keep rfl ?_|exact MSub.nil|apply MSub.drop))
      refine WL.sub hs' hM' ?_
      clear hR hX h hm hmf hp hpq hat
      repeat(first|refine lrun_ ?_|(refine lo_boxA rfl rfl ?_;intro _ _ _)|(refine lo_box1 rfl rfl rfl ?_;intro _ _ _)|(refine lo_alloc rfl ?_;intro _ _ _))
      refine l_true rfl ?_
      repeat(first|refine lrun_ ?_|(refine lo_boxA rfl rfl ?_;intro _ _ _)|(refine lo_box1 rfl rfl rfl ?_;intro _ _ _)|(refine lo_alloc rfl ?_;intro _ _ _))
      refine lo_call (n_call rfl) rfl (fun w hw => awake_calls) ?_
      repeat(first|refine lrun_ ?_|(refine lo_boxA rfl rfl ?_;intro _ _ _)|(refine lo_box1 rfl rfl rfl ?_;intro _ _ _)|(refine lo_alloc rfl ?_;intro _ _ _))
      exact l_ret1 rfl rfl fun w hw => ⟨rfl, hw.org⟩
    · rw [mvV_t]
      clear hr
      have hn : (cntU (l.getD i []) m.arg (k + 1) (j - k) : Int) = cntN m := hn
      have hatj : At l ((i : Int), (j : Int)) := ⟨hat.i, .inr ⟨by simp only; omega, by show (j : Int) < ((l.getD i []).length : Int); omega⟩⟩
      have hxj : (l.getD i []).getD j 0 = m.arg := hxj
      repeat(first|refine lrun_ ?_|(refine lo_boxA rfl rfl ?_;intro _ _ _)|(refine lo_box1 rfl rfl rfl ?_;intro _ _ _)|(refine lo_alloc rfl ?_;intro _ _ _))
      refine mf_yes (l := l) (A := A) (c := c) (i := i) (j := j) (k := k) (m := m) (n := cntN m) hX (by omega) hj hkj (fun σ' hs' M' hM' => ?_) _ (by repeat (first | exact SubB.nil | refine SubB.cons rfl ?_)) _ (by repeat(first|exact MSub.refl|refine MSub.keep rfl ?_|exact MSub.nil|apply MSub.drop))
      refine WL.sub hs' hM' ?_
      rw [show j + 1 - (k + 1) = j - k by omega, hn]
      repeat(first|refine lrun_ ?_|(refine lo_boxA rfl rfl ?_;intro _ _ _)|(refine lo_box1 rfl rfl rfl ?_;intro _ _ _)|(refine lo_alloc rfl ?_;intro _ _ _))
      refine l_false rfl ?_
      repeat(first|refine lrun_ ?_|(refine lo_boxA rfl rfl ?_;intro _ _ _)|(refine lo_box1 rfl rfl rfl ?_;intro _ _ _)|(refine lo_alloc rfl ?_;intro _ _ _))
      refine l_draw [(0, 0), (1, 0), (2, 0), (3, 0), (4, 0), (5, 0), (6, 0), (7, 0), (8, 0), (9, 0), (10, 0), (11, 0), (12, 0), (13, 0), (14, 0), (15, 0), (16, 0), (17, 0), (18, 0), (19, 0)] (by kernel_rfl) (by kernel_rfl) rfl (by kernel_rfl) ?_
      repeat(first|refine lrund_ ?_|(refine ld_open rfl ?_;first|(refine ld_boxA rfl wy_ rfl ?_;intro _ _ _)|(refine ld_box1 rfl rfl wy_ rfl ?_;intro _ _ _)|(refine ld_alloc wy_ rfl ?_;intro _ _ _)))
      refine l_no rfl (fun h => h hxj) ?_
      repeat(first|refine lrun_ ?_|(refine lo_boxA rfl rfl ?_;intro _ _ _)|(refine lo_box1 rfl rfl rfl ?_;intro _ _ _)|(refine lo_alloc rfl ?_;intro _ _ _))
      refine lo_call (n_call rfl) rfl (fun w hw => move_known (p := ((i : Int), (k : Int))) (m := ⟨116, m.count, m.arg, m.want⟩) (op := false) (R := (((i : Int), (j : Int) - 1), 1, true)) (fun r hr => find_t_move (m := ⟨116, m.count, m.arg, m.want⟩) hat rfl hkj hj hxj hn hr) hs0 (Kn.sl hw.org h) hl0 hpq (hmf _ (by decide))) ?_
      rw [mvV_t]
      repeat(first|refine lrun_ ?_|(refine lo_boxA rfl rfl ?_;intro _ _ _)|(refine lo_box1 rfl rfl rfl ?_;intro _ _ _)|(refine lo_alloc rfl ?_;intro _ _ _))
      refine l_no rfl (fun h => h ⟨rfl, rfl⟩) ?_
      repeat(first|refine lrun_ ?_|(refine lo_boxA rfl rfl ?_;intro _ _ _)|(refine lo_box1 rfl rfl rfl ?_;intro _ _ _)|(refine lo_alloc rfl ?_;intro _ _ _))
      refine l_draw [(0, 0), (1, 0), (2, 0), (3, 0), (4, 0), (5, 0), (6, 0), (7, 0)] (by kernel_rfl) (by kernel_rfl) rfl (by kernel_rfl) ?_
      repeat(first|refine lrund_ ?_|(refine ld_open rfl ?_;first|(refine ld_boxA rfl wy_ rfl ?_;intro _ _ _)|(refine ld_box1 rfl rfl wy_ rfl ?_;intro _ _ _)|(refine ld_alloc wy_ rfl ?_;intro _ _ _)))
      refine l_ite rfl (fun hkr => ?_) (fun hkr => ?_)
      · repeat(first|refine lrun_ ?_|(refine lo_boxA rfl rfl ?_;intro _ _ _)|(refine lo_box1 rfl rfl rfl ?_;intro _ _ _)|(refine lo_alloc rfl ?_;intro _ _ _))
        refine lo_call (n_call rfl) rfl (fun w hw => awake_calls) ?_
        repeat(first|refine lrun_ ?_|(refine lo_boxA rfl rfl ?_;intro _ _ _)|(refine lo_box1 rfl rfl rfl ?_;intro _ _ _)|(refine lo_alloc rfl ?_;intro _ _ _))
        exact l_ret1 rfl rfl fun w hw => ⟨rfl, hw.org⟩
      · have hkr : (l.getD i []).getD k 0 = m.arg := Decidable.not_not.1 hkr
        have hpj := at_P hR hatj
        repeat(first|refine lrun_ ?_|(refine lo_boxA rfl rfl ?_;intro _ _ _)|(refine lo_box1 rfl rfl rfl ?_;intro _ _ _)|(refine lo_alloc rfl ?_;intro _ _ _))
        refine lo_call (n_call rfl) rfl (fun w hw => move_known (p := ((i : Int), (j : Int))) (m := ⟨70, m.count, m.arg, m.want⟩) (op := false) (R := (((i : Int), (k : Int)), 0, true)) (fun r hr => find_F_move (m := ⟨70, m.count, m.arg, m.want⟩) hatj rfl hkj hj hxj hkr hn hr) hs0 (Kn.sl hw.org h) hl0 hpj (hmf _ (by decide))) ?_
        rw [mvV_t]
        repeat(first|refine lrun_ ?_|(refine lo_boxA rfl rfl ?_;intro _ _ _)|(refine lo_box1 rfl rfl rfl ?_;intro _ _ _)|(refine lo_alloc rfl ?_;intro _ _ _))
        refine lo_call (n_call rfl) rfl (fun w hw => awake_calls) ?_
        repeat(first|refine lrun_ ?_|(refine lo_boxA rfl rfl ?_;intro _ _ _)|(refine lo_box1 rfl rfl rfl ?_;intro _ _ _)|(refine lo_alloc rfl ?_;intro _ _ _))
        exact l_ret1 rfl rfl fun w hw => ⟨rfl, hw.org⟩
end Go.Ink
