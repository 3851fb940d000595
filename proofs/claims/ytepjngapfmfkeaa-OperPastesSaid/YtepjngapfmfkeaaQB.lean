/-
  Join: the loop.
  Join.
  size, fits, Contains.
-/
import Derived.Test.YtepjngapfmfkeaaQA
set_option linter.unusedVariables false
set_option linter.unusedSimpArgs false
namespace Go.Ink
open Go Go.Proofs Go.RowKit

def jnStep (s : List Int × Nat) (y : List Int) : List Int × Nat :=
  match y.findIdx? fun r => decide (classM r false ≠ 0) with
  | none => (s.1, s.1.length)
  | some k => ((if y.getD k 0 ≠ 41 ∧ 0 < s.1.length ∧ classM (s.1.getD (s.1.length - 1) 0) false ≠ 0 then s.1 ++ [32] else s.1) ++ y.drop k, s.1.length)
def jnM (x : List Int) (ls : List (List Int)) : Nat → List Int × Nat
  | 0 => (x, 0)
  | j + 1 => jnStep (jnM x ls j) (ls.getD j [])
theorem jnStep_len (s : List Int × Nat) (y : List Int) : (jnStep s y).1.length ≤ s.1.length + 1 + y.length ∧ (jnStep s y).2 = s.1.length := by
  unfold jnStep
  cases y.findIdx? fun r => decide (classM r false ≠ 0) with
  | none => exact ⟨by show s.1.length ≤ _; omega, rfl⟩
  | some k =>
    refine ⟨?_, rfl⟩
    simp only
    rw [List.length_append, List.length_drop]
    split
    · rw [List.length_append]; simp
    · omega
theorem jn_len {x : List Int} {ls : List (List Int)} (hx : x.length ≤ 4194304) (hk : ∀ j, (ls.getD j []).length ≤ 4194304) : ∀ j, (jnM x ls j).1.length ≤ (j + 1) * 4194305 ∧ (jnM x ls j).2 ≤ (j + 1) * 4194305
  | 0 => ⟨by show x.length ≤ (0 + 1) * 4194305; omega, Nat.zero_le _⟩
  | j + 1 => by
    have h1 := jn_len hx hk j
    have h2 := jnStep_len (jnM x ls j) (ls.getD j [])
    have h3 := hk j
    show (jnStep _ _).1.length ≤ _ ∧ (jnStep _ _).2 ≤ _
    omega
theorem join1_calls {w : World} {r : Int} : CallsR Try.prog 66 #[.int .i32 r] w fun u w' => Kn w w' ∧ u = .bool (decide (classM r false = 0)) := by
  refine l_enter (fun _ => False) Try.func66 rfl rfl ?_
  repeat(first|refine lrun_ ?_|(refine lo_boxA rfl rfl ?_;intro _ _ _)|(refine lo_box1 rfl rfl rfl ?_;intro _ _ _)|(refine lo_alloc rfl ?_;intro _ _ _))
  refine lo_callP (n_call rfl) rfl (fun w hw => classP_calls) ?_
  repeat(first|refine lrun_ ?_|(refine lo_boxA rfl rfl ?_;intro _ _ _)|(refine lo_box1 rfl rfl rfl ?_;intro _ _ _)|(refine lo_alloc rfl ?_;intro _ _ _))
  exact l_ret1 rfl rfl fun w hw => ⟨hw.org, rfl⟩
theorem join2_calls {w : World} {r : Int} {gb : Nat} (hb : w.cell? ⟨gb, 0, none⟩ = some (.func (.func 66) #[] #[])) : CallsR Try.prog 68 #[.int .i32 r, .pointer (some ⟨gb, 0, none⟩)] w fun u w' => Kn w w' ∧ u = .bool (decide (classM r false ≠ 0)) := by
  refine l_enter (fun _ => False) Try.func68 rfl rfl ?_
  repeat(first|refine lrun_ ?_|(refine lo_boxA rfl rfl ?_;intro _ _ _)|(refine lo_box1 rfl rfl rfl ?_;intro _ _ _)|(refine lo_alloc rfl ?_;intro _ _ _))
  refine lo_call (n_callV (cap := []) rfl rfl) rfl (fun w hw => join1_calls) ?_
  repeat(first|refine lrun_ ?_|(refine lo_boxA rfl rfl ?_;intro _ _ _)|(refine lo_box1 rfl rfl rfl ?_;intro _ _ _)|(refine lo_alloc rfl ?_;intro _ _ _))
  exact l_ret1 rfl rfl fun w hw => ⟨hw.org, by by_cases h : classM r false = 0 <;> simp [h]⟩
theorem Rws.rnsJ {F : Nat → Prop} {w : World} {A : Option Addr} {c : Nat} {l : List (List Int)} {ad : Addr} {rV : Nat → Option Addr} {rc : Nat → Nat} {ra : Nat → Addr} {i : Nat} (hR : Rws F w A c l ad rV rc ra) (hi : i < l.length) : Rns F w (rV i) (rc i) (l.getD i []) (ra i) :=
  ⟨hR.rs i hi, hR.rcap i hi, hR.rl i, fun h => hR.aa i hi h, fun k hk => hR.run i k hi hk, fun k => by
    obtain ⟨A', c', ad', e, hr⟩ := (hR.rs i hi).rns
    exact hr.lo k, fun h => hR.fr i hi h⟩
section
variable {F : Nat → Prop} {w B : World} {A2 : Option Addr} {c2 : Nat} {ls : List (List Int)} {ad2 : Addr} {rV : Nat → Option Addr} {rc : Nat → Nat} {ra : Nat → Addr} {x0 : List Int} {gb g7 : Nat} {a n : Int} {v0 : Value} {kk : List Item} {R : Value → World → Prop}
def jnMm (gb g7 : Nat) : Mm := [(gb, cb [.func (.func 66) #[] #[]] 96), (g7, cb [.int .i64 0, .int .i64 0] 24)]
set_option maxHeartbeats 8000000 in
theorem jn_loop (hR : Rws F w A2 c2 ls ad2 rV rc ra) (hl : ls.length ≤ 4096) (hk : ∀ j, (ls.getD j []).length ≤ 4194304) (hx : x0.length ≤ 4194304) {Ax0 : Option Addr} {cx0 : Nat} (hO : Og kRune w B (MK [(gb, cb [.func (.func 66) #[] #[]] 96), (g7, cb [.int .i64 0, .int .i64 0] 24)]) (fun _ => False) (.slice Ax0 x0.length cx0) x0)
    (done : ∀ b Ax cx, Og kRune w b (MK [(gb, cb [.func (.func 66) #[] #[]] 96), (g7, cb [.int .i64 0, .int .i64 0] 24)]) (fun _ => False) (.slice Ax (jnM x0 ls ls.length).1.length cx) (jnM x0 ls ls.length).1 → ∀ σ', SubB σ' [(0, v0), (1, .int .i64 a), (2, .int .i64 n), (7, .pointer (some ⟨g7, 0, none⟩)), (9, .slice Ax (jnM x0 ls ls.length).1.length cx), (10, .int .i64 (jnM x0 ls ls.length).2)] → ∀ M', MSub [(g7, cb [.int .i64 0, .int .i64 0] 24)] M' → WL Try.prog Try.f33 kk σ' w (fun _ => False) b (MK [(gb, cb [.func (.func 66) #[] #[]] 96), (g7, cb [.int .i64 0, .int .i64 0] 24)]) M' R) :
    ∀ σ', SubB σ' [(0, v0), (1, .int .i64 a), (2, .int .i64 n), (7, .pointer (some ⟨g7, 0, none⟩)), (9, .slice Ax0 x0.length cx0), (10, .int .i64 (0 : Nat)), (11, .pointer (some ⟨gb, 0, none⟩)), (46, .slice A2 ls.length c2), (47, .int .i64 ls.length), (48, .int .i64 (0 : Nat))] → ∀ M', MSub [(gb, cb [.func (.func 66) #[] #[]] 96), (g7, cb [.int .i64 0, .int .i64 0] 24)] M' →
      WL Try.prog Try.f33 (.code (.loop (bodyC Try.f33 [1, 1, 1, 1, 1, 0, 1, 0, 0])) :: .inBlock 0 :: kk) σ' w (fun _ => False) B (MK [(gb, cb [.func (.func 66) #[] #[]] 96), (g7, cb [.int .i64 0, .int .i64 0] 24)]) M' R := by
  intro σ' hs M' hM
  refine WL.sub hs hM ?_
  have hlen := hR.len
  refine l_whileB (fun s : Nat × Option Addr × Nat => ls.length - s.1) (fun s => [(0, v0), (1, .int .i64 a), (2, .int .i64 n), (7, .pointer (some ⟨g7, 0, none⟩)), (9, .slice s.2.1 (jnM x0 ls s.1).1.length s.2.2), (10, .int .i64 (jnM x0 ls s.1).2), (11, .pointer (some ⟨gb, 0, none⟩)), (46, .slice A2 ls.length c2), (47, .int .i64 ls.length), (48, .int .i64 (s.1 : Nat))]) (fun _ => [(gb, cb [.func (.func 66) #[] #[]] 96), (g7, cb [.int .i64 0, .int .i64 0] 24)])
    (fun s b => s.1 ≤ ls.length ∧ Og kRune w b (MK [(gb, cb [.func (.func 66) #[] #[]] 96), (g7, cb [.int .i64 0, .int .i64 0] 24)]) (fun _ => False) (.slice s.2.1 (jnM x0 ls s.1).1.length s.2.2) (jnM x0 ls s.1).1) (0, Ax0, cx0) (by repeat (first | exact SubB.nil | refine SubB.cons rfl ?_)) (by repeat(first|exact MSub.refl|refine MSub.keep rfl ?_|exact MSub.nil|apply MSub.drop)) (fun w hw => ⟨Nat.zero_le _, hO.now (fun _ h => h.elim) hw⟩) ?_
  rintro ⟨j, Ax, cx⟩ b ⟨hj, hOb⟩ hkb ih
  simp only at hj
  have hjl := jn_len hx hk j
  by_cases hlt : j < ls.length
  · have hX := hR.rnsJ hlt
    have e1 : jnM x0 ls (j + 1) = jnStep (jnM x0 ls j) (ls.getD j []) := rfl
    have hkj := hk j
    generalize jnM x0 ls j = s at *
    obtain ⟨x, col⟩ := s
    simp only at hjl hOb
    dsimp only
    repeat(first|refine lrun_ ?_|(refine lo_boxA rfl rfl ?_;intro _ _ _)|(refine lo_box1 rfl rfl rfl ?_;intro _ _ _)|(refine lo_alloc rfl ?_;intro _ _ _))
    refine l_yes rfl (by omega) ?_
    repeat(first|refine lrun_ ?_|(refine lo_boxA rfl rfl ?_;intro _ _ _)|(refine lo_box1 rfl rfl rfl ?_;intro _ _ _)|(refine lo_alloc rfl ?_;intro _ _ _))
    refine lo_call (n_call rfl) rfl (fun w' hw => indexF_calls (f := 68) (cap := [.pointer (some ⟨gb, 0, none⟩)]) (P := fun r => decide (classM r false ≠ 0)) (Kn.sl hw.org (hR.rs j hlt)) fun w'' hk2 r => join2_calls (hk2.cell (by rw [blk_cell (hw.mem gb _ .hd)]; rfl) id)) ?_
    have hmk : ∀ k, MK [(gb, cb [.func (.func 66) #[] #[]] 96), (g7, cb [.int .i64 0, .int .i64 0] 24)] k → k = gb ∨ k = g7 := fun k hm => by
      obtain ⟨o, hm⟩ := hm
      cases hm with
      | hd => exact .inl rfl
      | tl hm => cases hm with
        | hd => exact .inr rfl
        | tl hm => cases hm
    unfold jnStep at e1
    simp only at e1
    cases hf : (ls.getD j []).findIdx? fun r => decide (classM r false ≠ 0) with
    | none =>
      rw [hf] at e1
      simp only at e1
      unfold idxW
      repeat(first|refine lrun_ ?_|(refine lo_boxA rfl rfl ?_;intro _ _ _)|(refine lo_box1 rfl rfl rfl ?_;intro _ _ _)|(refine lo_alloc rfl ?_;intro _ _ _))
      refine l_yes rfl (by omega) ?_
      repeat(first|refine lrun_ ?_|(refine lo_boxA rfl rfl ?_;intro _ _ _)|(refine lo_box1 rfl rfl rfl ?_;intro _ _ _)|(refine lo_alloc rfl ?_;intro _ _ _))
      refine ih (j + 1, Ax, cx) b _ ⟨hlt, by simp only [e1]; exact hOb⟩ (by simp only; omega) _ _ (by simp only [e1]; exact (by repeat (first | exact SubB.nil | refine SubB.cons rfl ?_))) (by repeat(first|exact MSub.refl|refine MSub.keep rfl ?_|exact MSub.nil|apply MSub.drop)) (fun w' hw' => ⟨hlt, by simp only [e1]; exact hOb.now (fun _ h => h.elim) hw'⟩)
    | some i =>
      rw [hf] at e1
      simp only at e1
      unfold idxW
      repeat(first|refine lrun_ ?_|(refine lo_boxA rfl rfl ?_;intro _ _ _)|(refine lo_box1 rfl rfl rfl ?_;intro _ _ _)|(refine lo_alloc rfl ?_;intro _ _ _))
      refine l_no rfl (by omega) ?_
      refine l_go .skip ?_
      have hil : i < (ls.getD j []).length := by
        have := List.findIdx?_eq_some_iff_getElem.1 hf
        exact this.1
      have J : ∀ (b' : World) (K' : Nat → Prop) (x' : List Int) (Ax' : Option Addr) (cx' : Nat), Og kRune w b' K' (fun _ => False) (.slice Ax' x'.length cx') x' → x'.length ≤ (j + 1) * 4194305 + 1 → jnM x0 ls (j + 1) = (x' ++ (ls.getD j []).drop i, x.length) →
          ∀ σ', SubB σ' [(0, v0), (1, .int .i64 a), (2, .int .i64 n), (7, .pointer (some ⟨g7, 0, none⟩)), (9, .slice Ax' x'.length cx'), (10, .int .i64 x.length), (11, .pointer (some ⟨gb, 0, none⟩)), (13, .slice (rV j) (ls.getD j []).length (rc j)), (14, .int .i64 i), (46, .slice A2 ls.length c2), (47, .int .i64 ls.length), (48, .int .i64 (j : Nat))] → ∀ M', MSub [(gb, cb [.func (.func 66) #[] #[]] 96), (g7, cb [.int .i64 0, .int .i64 0] 24)] M' →
          WL Try.prog Try.f33 (.code (bodyC Try.f33 [1, 1, 1, 1, 1, 0, 1, 0, 0, 1, 1, 0, 0, 1, 1, 1, 1, 1]) :: .inBlock 1 :: .code (bodyC Try.f33 [1, 1, 1, 1, 1, 0, 1, 0, 0, 1, 1, 1]) :: .inLoop (bodyC Try.f33 [1, 1, 1, 1, 1, 0, 1, 0, 0]) :: .inBlock 0 :: kk) σ' w (fun _ => False) b' K' M' R := by
        intro b' K' x' Ax' cx' hO' hx' e2 σ' hs M' hM
        refine WL.sub hs hM ?_
        have hcx := hX.cap
        repeat(first|refine lrun_ ?_|(refine lo_boxA rfl rfl ?_;intro _ _ _)|(refine lo_box1 rfl rfl rfl ?_;intro _ _ _)|(refine lo_alloc rfl ?_;intro _ _ _))
        refine lo_suf rfl rfl rfl (Nat.le_of_lt hil) hcx rfl ?_
        refine lo_appendS (d := kRune) (ys := ((ls.getD j []).take (ls.getD j []).length).drop i) (F2 := fun k => k < w.heap.size) rfl rfl hO' (fun w' hw => Sl.cutV (d := kRune) (Kn.sl hw.org (hR.rs j hlt).old) (Nat.le_of_lt hil) (Nat.le_refl _) hcx (Nat.le_refl _)) (fun k hk ho => by have := (hO'.block k ho).1.1; omega) (by rw [List.take_length, List.length_drop]; show (x'.length + ((ls.getD j []).length - i)) * 4 ≤ 140737488355328; omega) rfl rfl rfl rfl ?_
        intro w3 A3 c3 w4 hw3 hk3 hk4 hown hog
        rw [List.take_length] at hog
        rw [List.take_length]
        repeat(first|refine lrun_ ?_|(refine lo_boxA rfl rfl ?_;intro _ _ _)|(refine lo_box1 rfl rfl rfl ?_;intro _ _ _)|(refine lo_alloc rfl ?_;intro _ _ _))
        refine ih (j + 1, A3, c3) w4 _ ⟨hlt, by simp only [e2]; exact hog⟩ (by simp only; omega) _ _ (by simp only [e2]; exact (by repeat (first | exact SubB.nil | refine SubB.cons rfl ?_))) (by repeat(first|exact MSub.refl|refine MSub.keep rfl ?_|exact MSub.nil|apply MSub.drop)) (fun w' hw' => ⟨hlt, by simp only [e2]; exact hog.now (fun _ h => h.elim) hw'⟩)
      by_cases c1 : (ls.getD j []).getD i 0 = 41
      · rw [if_neg (fun h => h.1 c1)] at e1
        repeat(first|refine lrun_ ?_|(refine lo_boxA rfl rfl ?_;intro _ _ _)|(refine lo_box1 rfl rfl rfl ?_;intro _ _ _)|(refine lo_alloc rfl ?_;intro _ _ _))
        refine l_draw [(0, 0), (1, 0), (2, 0), (3, 0), (4, 0), (5, 0), (6, 0), (7, 0), (8, 0), (9, 0), (10, 0), (11, 0), (12, 0), (13, 0), (14, 0), (15, 0), (16, 1), (17, 0), (18, 0)] (by kernel_rfl) (by kernel_rfl) rfl (by kernel_rfl) ?_
        repeat(first|refine lrund_ ?_|(refine ld_open rfl ?_;first|(refine ld_boxA rfl wy_ rfl ?_;intro _ _ _)|(refine ld_box1 rfl rfl wy_ rfl ?_;intro _ _ _)|(refine ld_alloc wy_ rfl ?_;intro _ _ _)))
        refine l_false rfl ?_
        refine l_go .skip ?_
        exact J b _ x Ax cx hOb (by omega) e1 _ (by repeat (first | exact SubB.nil | refine SubB.cons rfl ?_)) _ (by repeat(first|exact MSub.refl|refine MSub.keep rfl ?_|exact MSub.nil|apply MSub.drop))
      by_cases c2 : 0 < x.length
      case neg =>
        rw [if_neg (fun h => c2 h.2.1)] at e1
        have e3 : x.length = 0 := by omega
        repeat(first|refine lrun_ ?_|(refine lo_boxA rfl rfl ?_;intro _ _ _)|(refine lo_box1 rfl rfl rfl ?_;intro _ _ _)|(refine lo_alloc rfl ?_;intro _ _ _))
        refine l_draw [(0, 0), (1, 0), (2, 0), (3, 0), (4, 0), (5, 0), (6, 0), (7, 0), (8, 0), (9, 0), (10, 0), (11, 0), (12, 0), (13, 0), (14, 0), (15, 0), (16, 1), (17, 0), (18, 0)] (by kernel_rfl) (by kernel_rfl) rfl (by kernel_rfl) ?_
        repeat(first|refine lrund_ ?_|(refine ld_open rfl ?_;first|(refine ld_boxA rfl wy_ rfl ?_;intro _ _ _)|(refine ld_box1 rfl rfl wy_ rfl ?_;intro _ _ _)|(refine ld_alloc wy_ rfl ?_;intro _ _ _)))
        refine l_false rfl ?_
        refine l_go .skip ?_
        exact J b _ x Ax cx hOb (by omega) e1 _ (by repeat (first | exact SubB.nil | refine SubB.cons rfl ?_)) _ (by repeat(first|exact MSub.refl|refine MSub.keep rfl ?_|exact MSub.nil|apply MSub.drop))
      obtain ⟨Ay, cy, ay, ey, hY⟩ := hOb.sl.rns
      cases ey
      have hAy := hY.a c2
      have hload := hY.run (x.length - 1) (by omega)
      have hyb : ¬ MK [(gb, cb [.func (.func 66) #[] #[]] 96), (g7, cb [.int .i64 0, .int .i64 0] 24)] (ay.add ((x.length - 1) * 1)).block := fun h => by
        rw [add_block] at h
        exact (hOb.block ay.block (by rw [hAy]; rfl)).1.2 h
      by_cases c3 : classM (x.getD (x.length - 1) 0) false = 0
      · rw [if_neg (fun h => h.2.2 c3)] at e1
        have hc3 : ∀ w' : World, CallsR Try.prog 66 #[.int .i32 (x.getD (x.length - 1) 0)] w' fun u w'' => Kn w' w'' ∧ u = .bool true := fun w' => join1_calls.mono fun u w'' ⟨h1, h2⟩ => ⟨h1, by rw [h2, decide_eq_true c3]⟩
        repeat(first|refine lrun_ ?_|(refine lo_boxA rfl rfl ?_;intro _ _ _)|(refine lo_box1 rfl rfl rfl ?_;intro _ _ _)|(refine lo_alloc rfl ?_;intro _ _ _))
        refine l_draw [(0, 0), (1, 0), (2, 0), (3, 0), (4, 0), (5, 0), (6, 0), (7, 0), (8, 0), (9, 0), (10, 0), (11, 0), (12, 0), (13, 0), (14, 0), (15, 0), (16, 1), (17, 0), (18, 0)] (by kernel_rfl) (by kernel_rfl) rfl (by kernel_rfl) ?_
        repeat(first|refine lrund_ ?_|(refine ld_open rfl ?_;first|(refine ld_boxA rfl wy_ rfl ?_;intro _ _ _)|(refine ld_box1 rfl rfl wy_ rfl ?_;intro _ _ _)|(refine ld_alloc wy_ rfl ?_;intro _ _ _)))
        refine ld_open rfl ?_; refine ld_index (j := x.length - 1) rfl rfl (by omega) (by omega) hAy wy_ rfl ?_
        repeat(first|refine lrund_ ?_|(refine ld_open rfl ?_;first|(refine ld_boxA rfl wy_ rfl ?_;intro _ _ _)|(refine ld_box1 rfl rfl wy_ rfl ?_;intro _ _ _)|(refine ld_alloc wy_ rfl ?_;intro _ _ _)))
        refine ld_open rfl ?_; refine ld_loadB rfl hload hyb wy_ rfl ?_
        repeat(first|refine lrund_ ?_|(refine ld_open rfl ?_;first|(refine ld_boxA rfl wy_ rfl ?_;intro _ _ _)|(refine ld_box1 rfl rfl wy_ rfl ?_;intro _ _ _)|(refine ld_alloc wy_ rfl ?_;intro _ _ _)))
        refine ld_open rfl ?_; refine ld_call (n_callV (cap := []) rfl rfl) wy_ rfl (fun w' hw => hc3 w') ?_
        repeat(first|refine lrund_ ?_|(refine ld_open rfl ?_;first|(refine ld_boxA rfl wy_ rfl ?_;intro _ _ _)|(refine ld_box1 rfl rfl wy_ rfl ?_;intro _ _ _)|(refine ld_alloc wy_ rfl ?_;intro _ _ _)))
        refine l_false rfl ?_
        refine l_go .skip ?_
        exact J b _ x Ax cx hOb (by omega) e1 _ (by repeat (first | exact SubB.nil | refine SubB.cons rfl ?_)) _ (by repeat(first|exact MSub.refl|refine MSub.keep rfl ?_|exact MSub.nil|apply MSub.drop))
      · rw [if_pos ⟨c1, c2, c3⟩] at e1
        have hc3 : ∀ w' : World, CallsR Try.prog 66 #[.int .i32 (x.getD (x.length - 1) 0)] w' fun u w'' => Kn w' w'' ∧ u = .bool false := fun w' => join1_calls.mono fun u w'' ⟨h1, h2⟩ => ⟨h1, by rw [h2, decide_eq_false c3]⟩
        repeat(first|refine lrun_ ?_|(refine lo_boxA rfl rfl ?_;intro _ _ _)|(refine lo_box1 rfl rfl rfl ?_;intro _ _ _)|(refine lo_alloc rfl ?_;intro _ _ _))
        refine l_draw [(0, 0), (1, 0), (2, 0), (3, 0), (4, 0), (5, 0), (6, 0), (7, 0), (8, 0), (9, 0), (10, 0), (11, 0), (12, 0), (13, 0), (14, 0), (15, 0), (16, 1), (17, 0), (18, 0)] (by kernel_rfl) (by kernel_rfl) rfl (by kernel_rfl) ?_
        repeat(first|refine lrund_ ?_|(refine ld_open rfl ?_;first|(refine ld_boxA rfl wy_ rfl ?_;intro _ _ _)|(refine ld_box1 rfl rfl wy_ rfl ?_;intro _ _ _)|(refine ld_alloc wy_ rfl ?_;intro _ _ _)))
        refine ld_open rfl ?_; refine ld_index (j := x.length - 1) rfl rfl (by omega) (by omega) hAy wy_ rfl ?_
        repeat(first|refine lrund_ ?_|(refine ld_open rfl ?_;first|(refine ld_boxA rfl wy_ rfl ?_;intro _ _ _)|(refine ld_box1 rfl rfl wy_ rfl ?_;intro _ _ _)|(refine ld_alloc wy_ rfl ?_;intro _ _ _)))
        refine ld_open rfl ?_; refine ld_loadB rfl hload hyb wy_ rfl ?_
        repeat(first|refine lrund_ ?_|(refine ld_open rfl ?_;first|(refine ld_boxA rfl wy_ rfl ?_;intro _ _ _)|(refine ld_box1 rfl rfl wy_ rfl ?_;intro _ _ _)|(refine ld_alloc wy_ rfl ?_;intro _ _ _)))
        refine ld_open rfl ?_; refine ld_call (n_callV (cap := []) rfl rfl) wy_ rfl (fun w' hw => hc3 w') ?_
        repeat(first|refine lrund_ ?_|(refine ld_open rfl ?_;first|(refine ld_boxA rfl wy_ rfl ?_;intro _ _ _)|(refine ld_box1 rfl rfl wy_ rfl ?_;intro _ _ _)|(refine ld_alloc wy_ rfl ?_;intro _ _ _)))
        refine l_true rfl ?_
        repeat(first|refine lrun_ ?_|(refine lo_boxA rfl rfl ?_;intro _ _ _)|(refine lo_box1 rfl rfl rfl ?_;intro _ _ _)|(refine lo_alloc rfl ?_;intro _ _ _))
        refine lo_lit (cs := [.int .i32 32]) rfl (by decide) (by kernel_rfl) rfl ?_
        intro g9 _ _
        refine lo_append1 (d := kRune) (q := 32) rfl rfl hOb (fun _ h => h.elim) (by(repeat(first|exact MIn.hd|refine MIn.tl ?_));done) (fun w' hw => ⟨rfl, by decide, by decide⟩) (by show (x.length + 1) * 4 ≤ 140737488355328; omega) rfl rfl rfl rfl ?_
        intro w3 A3 c3' w4 hw3 hk3 hk4 hown hog
        repeat(first|refine lops_ ?_|(refine lo_boxA rfl rfl ?_;intro _ _ _)|(refine lo_box1 rfl rfl rfl ?_;intro _ _ _)|(refine lo_alloc rfl ?_;intro _ _ _))
        refine lo_nil ?_
        exact J w4 _ (x ++ [32]) A3 c3' hog (by rw [List.length_append]; simp; omega) e1 _ (by repeat (first | exact SubB.nil | refine SubB.cons rfl ?_)) _ (by repeat(first|exact MSub.refl|refine MSub.keep rfl ?_|exact MSub.nil|apply MSub.drop))
  · obtain rfl : j = ls.length := by omega
    repeat(first|refine lrun_ ?_|(refine lo_boxA rfl rfl ?_;intro _ _ _)|(refine lo_box1 rfl rfl rfl ?_;intro _ _ _)|(refine lo_alloc rfl ?_;intro _ _ _))
    refine l_no rfl (by omega) ?_
    refine l_go (.exit rfl) ?_
    exact done b Ax cx hOb _ (by repeat (first | exact SubB.nil | refine SubB.cons rfl ?_)) _ (by repeat(first|exact MSub.refl|refine MSub.keep rfl ?_|exact MSub.nil|apply MSub.drop))
end
end Go.Ink

set_option linter.unusedVariables false
set_option linter.unusedSimpArgs false
namespace Go.Ink
open Go Go.Proofs Go.RowKit

def joinM (l : List (List Int)) (a n : Int) : List (List Int) × Ps × Int :=
  if a < 0 ∨ (l.length : Int) ≤ a ∨ (l.length : Int) - a < (if n < 2 then 2 else n) then ([], (0, 0), 2)
  else
    let m := (if n < 2 then 2 else n).toNat
    let s := jnM (l.getD a.toNat []) ((l.take (a.toNat + m)).drop (a.toNat + 1)) (m - 1)
    let o := l.take a.toNat ++ [s.1] ++ l.drop (a.toNat + m)
    (o, clipM o (a, (s.2 : Int)), 0)
set_option maxHeartbeats 8000000 in
theorem join_calls {F : Nat → Prop} {w : World} {v : Value} {l : List (List Int)} {a n : Int} (h : Sl kRow F w v l) (ha : -9223372036854775808 ≤ a ∧ a ≤ 9223372036854775807) (hn : -9223372036854775808 ≤ n ∧ n ≤ 9223372036854775807) (hl : l.length ≤ 4096) (hk : ∀ j, (l.getD j []).length ≤ 4194304) :
    CallsR Try.prog 33 #[v, .int .i64 a, .int .i64 n] w fun u w' => Kn w w' ∧ ∃ s, u = .tuple #[s, posV (joinM l a n).2.1, .int .i64 (joinM l a n).2.2] ∧ Ow kRow (noB w) (noB w) w' s (joinM l a n).1 := by
  obtain ⟨A, c, ad, rV, rc, ra, rfl, hR⟩ := h.rws
  have hc := hR.cap
  refine l_enter (fun _ => False) Try.func33 rfl rfl ?_
  by_cases h1 : a < 0
  · unfold joinM
    rw [if_pos (.inl h1)]
    repeat(first|refine lrun_ ?_|(refine lo_boxA rfl rfl ?_;intro _ _ _)|(refine lo_box1 rfl rfl rfl ?_;intro _ _ _)|(refine lo_alloc rfl ?_;intro _ _ _))
    refine l_true rfl ?_
    repeat(first|refine lrun_ ?_|(refine lo_boxA rfl rfl ?_;intro _ _ _)|(refine lo_box1 rfl rfl rfl ?_;intro _ _ _)|(refine lo_alloc rfl ?_;intro _ _ _))
    exact l_retR3 rfl (by repeat(first|exact LRes.nil|refine LRes.tmp rfl ?_|refine LRes.agg rfl (by(repeat(first|exact MIn.hd|refine MIn.tl ?_));done) (by rfl) (by rfl) ?_|refine LRes.one rfl (by(repeat(first|exact MIn.hd|refine MIn.tl ?_));done) (by rfl) ?_)) fun w hw => ⟨hw.org, _, rfl, Ow.nil _ _ _ _⟩
  by_cases h2 : (l.length : Int) ≤ a
  · unfold joinM
    rw [if_pos (.inr (.inl h2))]
    repeat(first|refine lrun_ ?_|(refine lo_boxA rfl rfl ?_;intro _ _ _)|(refine lo_box1 rfl rfl rfl ?_;intro _ _ _)|(refine lo_alloc rfl ?_;intro _ _ _))
    refine l_true rfl ?_
    repeat(first|refine lrun_ ?_|(refine lo_boxA rfl rfl ?_;intro _ _ _)|(refine lo_box1 rfl rfl rfl ?_;intro _ _ _)|(refine lo_alloc rfl ?_;intro _ _ _))
    exact l_retR3 rfl (by repeat(first|exact LRes.nil|refine LRes.tmp rfl ?_|refine LRes.agg rfl (by(repeat(first|exact MIn.hd|refine MIn.tl ?_));done) (by rfl) (by rfl) ?_|refine LRes.one rfl (by(repeat(first|exact MIn.hd|refine MIn.tl ?_));done) (by rfl) ?_)) fun w hw => ⟨hw.org, _, rfl, Ow.nil _ _ _ _⟩
  by_cases h3 : (l.length : Int) - a < (if n < 2 then 2 else n)
  · unfold joinM
    rw [if_pos (.inr (.inr h3))]
    repeat(first|refine lrun_ ?_|(refine lo_boxA rfl rfl ?_;intro _ _ _)|(refine lo_box1 rfl rfl rfl ?_;intro _ _ _)|(refine lo_alloc rfl ?_;intro _ _ _))
    refine l_yes rfl h3 ?_
    repeat(first|refine lrun_ ?_|(refine lo_boxA rfl rfl ?_;intro _ _ _)|(refine lo_box1 rfl rfl rfl ?_;intro _ _ _)|(refine lo_alloc rfl ?_;intro _ _ _))
    exact l_retR3 rfl (by repeat(first|exact LRes.nil|refine LRes.tmp rfl ?_|refine LRes.agg rfl (by(repeat(first|exact MIn.hd|refine MIn.tl ?_));done) (by rfl) (by rfl) ?_|refine LRes.one rfl (by(repeat(first|exact MIn.hd|refine MIn.tl ?_));done) (by rfl) ?_)) fun w hw => ⟨hw.org, _, rfl, Ow.nil _ _ _ _⟩
  unfold joinM
  rw [if_neg (fun h => h.elim h1 fun h => h.elim h2 h3)]
  have hm2 : 2 ≤ (if n < 2 then 2 else n) := by split <;> omega
  generalize hme : (if n < 2 then 2 else n) = mm at *
  obtain ⟨i, rfl⟩ : ∃ i : Nat, a = (i : Int) := ⟨a.toNat, by omega⟩
  obtain ⟨m, rfl⟩ : ∃ m : Nat, mm = (m : Int) := ⟨mm.toNat, by omega⟩
  simp only [Int.toNat_natCast]
  have hil : i < l.length := by omega
  have him : i + m ≤ l.length := by omega
  have hkl : ((l.take (i + m)).drop (i + 1)).length = m - 1 := by rw [List.length_drop, List.length_take]; omega
  have hks : ∀ j, (((l.take (i + m)).drop (i + 1)).getD j []).length ≤ 4194304 := fun j => by
    by_cases hj : j < m - 1
    · have e : ((l.take (i + m)).drop (i + 1)).getD j [] = l.getD (i + 1 + j) [] := by
        rw [List.getD_eq_getElem?_getD, List.getD_eq_getElem?_getD, List.getElem?_drop, List.getElem?_take, if_pos (by omega)]
      rw [e]; exact hk _
    · rw [List.getD_eq_getElem?_getD, List.getElem?_eq_none (by omega)]
      exact Nat.zero_le _
  have hj := jn_len (hk i) hks (m - 1)
  repeat(first|refine lrun_ ?_|(refine lo_boxA rfl rfl ?_;intro _ _ _)|(refine lo_box1 rfl rfl rfl ?_;intro _ _ _)|(refine lo_alloc rfl ?_;intro _ _ _))
  refine l_no rfl (by omega) ?_
  refine l_go .skip ?_
  repeat(first|refine lrun_ ?_|(refine lo_boxA rfl rfl ?_;intro _ _ _)|(refine lo_box1 rfl rfl rfl ?_;intro _ _ _)|(refine lo_alloc rfl ?_;intro _ _ _))
  rename_i g7 _ _
  refine lo_callM (n_call rfl) rfl (fun w' hw => clone_calls (Kn.sl hw.org (hR.rs i hil))) ?_
  intro w1 u w2 hw1 kn1 kp1 hO
  obtain ⟨Au, cu, rfl, hau1, hau2⟩ := hO.form
  have hs1 := hw1.org.size
  have hg7 : g7 < w1.heap.size := hw1.lt (MK_iff.2 (by simp))
  repeat(first|refine lrun_ ?_|(refine lo_boxA rfl rfl ?_;intro _ _ _)|(refine lo_box1 rfl rfl rfl ?_;intro _ _ _)|(refine lo_alloc rfl ?_;intro _ _ _))
  rename_i gb _ hgb
  refine lo_rn (fun _ => r_slice rfl (i + 1) (i + m) c rfl ⟨_, by show some _ = some _; congr 1; congr 1; omega⟩ ⟨_, rfl⟩ (by omega) (by omega) (Nat.le_refl _)) rfl ?_
  obtain ⟨A2, c2, ad2, rV2, rc2, ra2, e, hR2⟩ := (Sl.cutV (d := kRow) h (show i + 1 ≤ i + m by omega) him (show i + m ≤ c by omega) (Nat.le_refl c)).rws
  have e' : cutV A (i + 1) (i + m) c 1 = .slice A2 ((l.take (i + m)).drop (i + 1)).length c2 := e
  rw [e']
  repeat(first|refine lrun_ ?_|(refine lo_boxA rfl rfl ?_;intro _ _ _)|(refine lo_box1 rfl rfl rfl ?_;intro _ _ _)|(refine lo_alloc rfl ?_;intro _ _ _))
  refine l_baseM (M3 := [_, _]) (by repeat(first|exact MSub.refl|refine MSub.keep rfl ?_|exact MSub.nil|apply MSub.drop)) fun w5 hw5 => ?_
  have hs2 := kn1.size
  have hO5 : Ow kRune (fun k => w1.heap.size ≤ k ∧ k < w2.heap.size) (fun _ => False) w5 (.slice Au (l.getD i []).length cu) (l.getD i []) := Kp.ow hw5.kp (hO.mono (fun k hk hl => ⟨hk, hl⟩) fun _ h _ => h) (fun k hk hm => by have := hw1.ltI (by rfl) hm; omega) (fun _ h => h.elim)
  refine jn_loop hR2 (by omega) hks (hk i) (hO5.mono (fun k hk hl => ⟨by omega, fun hm => ?_⟩) fun _ h _ => h) ?_ _ (by repeat (first | exact SubB.nil | refine SubB.cons rfl ?_)) _ (by repeat(first|exact MSub.refl|refine MSub.keep rfl ?_|exact MSub.nil|apply MSub.drop))
  · obtain ⟨o, hm⟩ := hm
    cases hm with
    | hd => omega
    | tl hm => cases hm with
      | hd => omega
      | tl hm => cases hm
  clear hw5 hO5 hw1 kn1 kp1 hR2
  rw [hkl]
  generalize jnM (l.getD i []) ((l.take (i + m)).drop (i + 1)) (m - 1) = sj at *
  obtain ⟨x, col⟩ := sj
  simp only at hj
  dsimp only
  intro b Ax cx hog σ' hs M' hM
  refine WL.sub hs hM ?_
  have hxb := fun k hk => hog.block k hk
  repeat(first|refine lrun_ ?_|(refine lo_boxA rfl rfl ?_;intro _ _ _)|(refine lo_box1 rfl rfl rfl ?_;intro _ _ _)|(refine lo_alloc rfl ?_;intro _ _ _))
  refine lo_lit (cs := [.slice Ax x.length cx]) rfl (by decide) (by kernel_rfl) rfl ?_
  intro gl _ hgl
  refine lo_callM (n_call rfl) rfl (fun w' hw => putI_calls (F2 := fun k => noB w k ∧ k ≠ g7 ∧ k ≠ gl) (i0 := i) (i1 := i + m) (ys := [x]) (Kn.sl hw.org h) (slE_blk (d := kRow) (xs := [x]) (hw.mem gl _ .hd) ⟨_, [], rfl, ⟨_, rfl, ?_⟩, rfl⟩) rfl ?_ (by omega) him (by simp only [List.length_singleton]; omega)) ?_
  · have hb1 : Sl kRune (fun k => (w.heap.size ≤ k ∧ ¬ MK [(gb, cb [.func (.func 66) #[] #[]] 96), (g7, cb [.int .i64 0, .int .i64 0] 24)] k) ∧ k < b.heap.size) b (.slice Ax x.length cx) x := hog.sl.mono fun k hk hl => ⟨hk.elim id False.elim, hl⟩
    exact (Kp.sl hw.kp hb1 fun k hk => hk.1.2).mono fun k hk _ => ⟨hk.1.1, fun e => hk.1.2 ⟨_, by subst e; exact .tl .hd⟩, by omega⟩
  · omega
  intro w3 u w4 hw3 kn3 kp3 hO3
  obtain ⟨Ao, co, rfl, _, _⟩ := hO3.form
  have hs3 := hw3.org.size
  have hml : ∀ k, MK [(gl, cb [.slice Ax x.length cx] 35), (g7, cb [.int .i64 0, .int .i64 0] 24)] k → k < w3.heap.size ∧ ¬ (k ≠ g7 ∧ k ≠ gl) := fun k hm => ⟨hw3.lt hm, fun h => by
    obtain ⟨o, hm⟩ := hm
    cases hm with
    | hd => exact h.2 rfl
    | tl hm => cases hm with
      | hd => exact h.1 rfl
      | tl hm => cases hm⟩
  clear hog hxb kp3
  repeat(first|refine lrun_ ?_|(refine lo_boxA rfl rfl ?_;intro _ _ _)|(refine lo_box1 rfl rfl rfl ?_;intro _ _ _)|(refine lo_alloc rfl ?_;intro _ _ _))
  refine lo_call (n_call rfl) rfl (fun w' hw => clipP_calls (p := ((i : Int), (col : Int))) (Kp.sl hw.kp hO3.sl fun k hk hm => by
    have := hml k hm
    unfold noB at hk
    omega) (by unfold P64; simp only; omega)) ?_
  repeat(first|refine lrun_ ?_|(refine lo_boxA rfl rfl ?_;intro _ _ _)|(refine lo_box1 rfl rfl rfl ?_;intro _ _ _)|(refine lo_alloc rfl ?_;intro _ _ _))
  refine l_retR3 rfl (by repeat(first|exact LRes.nil|refine LRes.tmp rfl ?_|refine LRes.agg rfl (by(repeat(first|exact MIn.hd|refine MIn.tl ?_));done) (by rfl) (by rfl) ?_|refine LRes.one rfl (by(repeat(first|exact MIn.hd|refine MIn.tl ?_));done) (by rfl) ?_)) fun w7 hw => ⟨hw.org, _, rfl, ?_⟩
  exact (Kp.ow hw.kp hO3 (fun k hk hm => by have := hml k hm; unfold noB at hk; omega) (fun k hk hm => by have := hml k hm; unfold noB at hk; omega)).mono (fun k hk _ => by unfold noB at *; omega) fun k hk _ => by unfold noB at *; omega
end Go.Ink

set_option linter.unusedVariables false
set_option linter.unusedSimpArgs false
namespace Go.Ink
open Go Go.Proofs Go.RowKit

def sizeM (l : List (List Int)) : Nat := (l.length - 1) + runesM l
theorem size_calls {F : Nat → Prop} {w : World} {v : Value} {l : List (List Int)} (h : Sl kRow F w v l) (hb : runesM l ≤ 1099511627776) :
    CallsR Try.prog 53 #[v] w fun u w' => Kn w w' ∧ u = .int .i64 (sizeM l : Nat) := by
  obtain ⟨A, c, ad, rV, rc, ra, rfl, hR⟩ := h.rws
  have hlen := hR.len
  refine l_enter (fun _ => False) Try.func53 rfl rfl ?_
  repeat(first|refine lrun_ ?_|(refine lo_boxA rfl rfl ?_;intro _ _ _)|(refine lo_box1 rfl rfl rfl ?_;intro _ _ _)|(refine lo_alloc rfl ?_;intro _ _ _))
  have e0 : (if (0 : Int) < (l.length : Int) - 1 then (l.length : Int) - 1 else 0) = ((l.length - 1 + runesM (l.take 0) : Nat) : Int) := by
    simp only [List.take_zero]
    show _ = ((l.length - 1 + 0 : Nat) : Int)
    split <;> omega
  refine l_while (fun k : Nat => l.length - k) (fun k => [(3, .int .i64 ((l.length - 1 + runesM (l.take k) : Nat) : Int)), (10, .slice A l.length c), (11, .int .i64 l.length), (12, .int .i64 (k : Nat))]) (fun _ => []) (fun k => k ≤ l.length) 0 (by rw [← e0]; exact (by repeat (first | exact SubB.nil | refine SubB.cons rfl ?_))) (by repeat(first|exact MSub.refl|refine MSub.keep rfl ?_|exact MSub.nil|apply MSub.drop)) (Nat.zero_le _) ?_
  rintro k hk ih
  by_cases hlt : k < l.length
  · have h1 := runes_take hlt
    have h2 := runes_take_le l (k + 1)
    have h3 := hR.rl k
    repeat(first|refine lrun_ ?_|(refine lo_boxA rfl rfl ?_;intro _ _ _)|(refine lo_box1 rfl rfl rfl ?_;intro _ _ _)|(refine lo_alloc rfl ?_;intro _ _ _))
    refine l_yes rfl (by omega) ?_
    repeat(first|refine lrun_ ?_|(refine lo_boxA rfl rfl ?_;intro _ _ _)|(refine lo_box1 rfl rfl rfl ?_;intro _ _ _)|(refine lo_alloc rfl ?_;intro _ _ _))
    exact ih (k + 1) hlt (by omega) _ _ (by rw [h1, ← Nat.add_assoc]; exact (by repeat (first | exact SubB.nil | refine SubB.cons rfl ?_))) (by repeat(first|exact MSub.refl|refine MSub.keep rfl ?_|exact MSub.nil|apply MSub.drop))
  · obtain rfl : k = l.length := by omega
    rw [List.take_length]
    repeat(first|refine lrun_ ?_|(refine lo_boxA rfl rfl ?_;intro _ _ _)|(refine lo_box1 rfl rfl rfl ?_;intro _ _ _)|(refine lo_alloc rfl ?_;intro _ _ _))
    refine l_no rfl (by omega) ?_
    refine l_go (.exit rfl) ?_
    repeat(first|refine lrun_ ?_|(refine lo_boxA rfl rfl ?_;intro _ _ _)|(refine lo_box1 rfl rfl rfl ?_;intro _ _ _)|(refine lo_alloc rfl ?_;intro _ _ _))
    exact l_ret1 rfl rfl fun w hw => ⟨hw.org, rfl⟩
def fitsM (l : List (List Int)) (p : Ps) : List (List Int) × Ps × Int := if 65536 < sizeM l then ([], (0, 0), 3) else (l, p, 0)
theorem fits_calls {G H : Nat → Prop} {w : World} {v : Value} {l : List (List Int)} {p : Ps} (h : Ow kRow G H w v l) (hb : runesM l ≤ 1099511627776) :
    CallsR Try.prog 55 #[v, posV p] w fun u w' => Kn w w' ∧ ∃ s, u = .tuple #[s, posV (fitsM l p).2.1, .int .i64 (fitsM l p).2.2] ∧ Ow kRow G H w' s (fitsM l p).1 := by
  obtain ⟨A, c, rfl, _⟩ := h.form
  refine l_enter (fun _ => False) Try.func55 rfl rfl ?_
  repeat(first|refine lrun_ ?_|(refine lo_boxA rfl rfl ?_;intro _ _ _)|(refine lo_box1 rfl rfl rfl ?_;intro _ _ _)|(refine lo_alloc rfl ?_;intro _ _ _))
  refine lo_call (n_call rfl) rfl (fun w hw => size_calls (Kn.ow hw.org h).sl hb) ?_
  unfold fitsM
  by_cases hs : 65536 < sizeM l
  · rw [if_pos hs]
    repeat(first|refine lrun_ ?_|(refine lo_boxA rfl rfl ?_;intro _ _ _)|(refine lo_box1 rfl rfl rfl ?_;intro _ _ _)|(refine lo_alloc rfl ?_;intro _ _ _))
    refine l_yes rfl (by omega) ?_
    repeat(first|refine lrun_ ?_|(refine lo_boxA rfl rfl ?_;intro _ _ _)|(refine lo_box1 rfl rfl rfl ?_;intro _ _ _)|(refine lo_alloc rfl ?_;intro _ _ _))
    exact l_retR3 rfl (by repeat(first|exact LRes.nil|refine LRes.tmp rfl ?_|refine LRes.agg rfl (by(repeat(first|exact MIn.hd|refine MIn.tl ?_));done) (by rfl) (by rfl) ?_|refine LRes.one rfl (by(repeat(first|exact MIn.hd|refine MIn.tl ?_));done) (by rfl) ?_)) fun w hw => ⟨hw.org, _, rfl, Ow.nil _ _ _ _⟩
  · rw [if_neg hs]
    repeat(first|refine lrun_ ?_|(refine lo_boxA rfl rfl ?_;intro _ _ _)|(refine lo_box1 rfl rfl rfl ?_;intro _ _ _)|(refine lo_alloc rfl ?_;intro _ _ _))
    refine l_no rfl (by omega) ?_
    repeat(first|refine lrun_ ?_|(refine lo_boxA rfl rfl ?_;intro _ _ _)|(refine lo_box1 rfl rfl rfl ?_;intro _ _ _)|(refine lo_alloc rfl ?_;intro _ _ _))
    refine l_draw [(0, 0), (1, 0), (2, 0), (3, 1), (4, 0)] (by kernel_rfl) (by kernel_rfl) rfl (by kernel_rfl) ?_
    repeat(first|refine lrund_ ?_|(refine ld_open rfl ?_;first|(refine ld_boxA rfl wy_ rfl ?_;intro _ _ _)|(refine ld_box1 rfl rfl wy_ rfl ?_;intro _ _ _)|(refine ld_alloc wy_ rfl ?_;intro _ _ _)))
    exact l_retR3 rfl (by repeat(first|exact LRes.nil|refine LRes.tmp rfl ?_|refine LRes.agg rfl (by(repeat(first|exact MIn.hd|refine MIn.tl ?_));done) (by rfl) (by rfl) ?_|refine LRes.one rfl (by(repeat(first|exact MIn.hd|refine MIn.tl ?_));done) (by rfl) ?_)) fun w hw => ⟨hw.org, _, rfl, Kn.ow hw.org h⟩
theorem index_calls {F : Nat → Prop} {w : World} {v : Value} {x : List Int} {r : Int} (h : Sl kRune F w v x) : CallsR Try.prog 75 #[v, .int .i32 r] w fun u w' => Kn w w' ∧ u = idxW (x.findIdx? fun y => decide (r = y)) := by
  obtain ⟨A, cx, ad, rfl, hX⟩ := h.rns
  have hl := hX.len
  have hc := hX.cap
  refine l_enter (fun _ => False) Try.func75 rfl rfl ?_
  repeat(first|refine lrun_ ?_|(refine lo_boxA rfl rfl ?_;intro _ _ _)|(refine lo_box1 rfl rfl rfl ?_;intro _ _ _)|(refine lo_alloc rfl ?_;intro _ _ _))
  refine l_while (fun i => x.length - i) (fun i : Nat => [(0, .slice A x.length cx), (1, .int .i32 r), (7, .int .i64 x.length), (8, .int .i64 i)]) (fun _ => []) (fun i => i ≤ x.length ∧ ∀ j, j < i → decide (r = x.getD j 0) = false) 0 (by repeat (first | exact SubB.nil | refine SubB.cons rfl ?_)) (by repeat(first|exact MSub.refl|refine MSub.keep rfl ?_|exact MSub.nil|apply MSub.drop)) ⟨Nat.zero_le _, fun j hj => by omega⟩ ?_
  rintro i ⟨hi, hno⟩ ih
  repeat(first|refine lrun_ ?_|(refine lo_boxA rfl rfl ?_;intro _ _ _)|(refine lo_box1 rfl rfl rfl ?_;intro _ _ _)|(refine lo_alloc rfl ?_;intro _ _ _))
  refine l_ite rfl (fun hlt => ?_) (fun hge => ?_)
  · repeat(first|refine lrun_ ?_|(refine lo_boxA rfl rfl ?_;intro _ _ _)|(refine lo_box1 rfl rfl rfl ?_;intro _ _ _)|(refine lo_alloc rfl ?_;intro _ _ _))
    refine l_ite rfl (fun hb => ?_) (fun hb => ?_)
    · repeat(first|refine lrun_ ?_|(refine lo_boxA rfl rfl ?_;intro _ _ _)|(refine lo_box1 rfl rfl rfl ?_;intro _ _ _)|(refine lo_alloc rfl ?_;intro _ _ _))
      exact l_ret1 rfl rfl fun w hw => ⟨hw.org, by rw [idx_some (P := fun y => decide (r = y)) (by omega) (decide_eq_true hb) hno]; rfl⟩
    · repeat(first|refine lrun_ ?_|(refine lo_boxA rfl rfl ?_;intro _ _ _)|(refine lo_box1 rfl rfl rfl ?_;intro _ _ _)|(refine lo_alloc rfl ?_;intro _ _ _))
      exact ih (i + 1) ⟨by omega, fun j hj => by
        by_cases e : j = i
        · subst e; exact decide_eq_false hb
        · exact hno j (by omega)⟩ (by omega) _ _ (by repeat (first | exact SubB.nil | refine SubB.cons rfl ?_)) (by repeat(first|exact MSub.refl|refine MSub.keep rfl ?_|exact MSub.nil|apply MSub.drop))
  · obtain rfl : i = x.length := by omega
    repeat(first|refine lrun_ ?_|(refine lo_boxA rfl rfl ?_;intro _ _ _)|(refine lo_box1 rfl rfl rfl ?_;intro _ _ _)|(refine lo_alloc rfl ?_;intro _ _ _))
    exact l_ret1 rfl rfl fun w hw => ⟨hw.org, by rw [idx_none hno]; rfl⟩
theorem contains_calls {F : Nat → Prop} {w : World} {v : Value} {x : List Int} {r : Int} (h : Sl kRune F w v x) : CallsR Try.prog 52 #[v, .int .i32 r] w fun u w' => Kn w w' ∧ u = .bool (decide (r ∈ x)) := by
  refine l_enter (fun _ => False) Try.func52 rfl rfl ?_
  repeat(first|refine lrun_ ?_|(refine lo_boxA rfl rfl ?_;intro _ _ _)|(refine lo_box1 rfl rfl rfl ?_;intro _ _ _)|(refine lo_alloc rfl ?_;intro _ _ _))
  refine lo_call (n_call rfl) rfl (fun w hw => index_calls (Kn.sl hw.org h)) ?_
  by_cases hm : r ∈ x
  · cases hf : x.findIdx? fun y => decide (r = y) with
    | none =>
      have := List.findIdx?_eq_none_iff.1 hf r hm
      simp at this
    | some k =>
      rw [decide_eq_true hm]
      unfold idxW
      repeat(first|refine lrun_ ?_|(refine lo_boxA rfl rfl ?_;intro _ _ _)|(refine lo_box1 rfl rfl rfl ?_;intro _ _ _)|(refine lo_alloc rfl ?_;intro _ _ _))
      refine l_ret1 rfl rfl fun w hw => ⟨hw.org, ?_⟩
      rw [decide_eq_true (by omega)]
  · rw [show (x.findIdx? fun y => decide (r = y)) = none from List.findIdx?_eq_none_iff.2 fun y hy => decide_eq_false fun e => hm (e ▸ hy), decide_eq_false hm]
    unfold idxW
    repeat(first|refine lrun_ ?_|(refine lo_boxA rfl rfl ?_;intro _ _ _)|(refine lo_box1 rfl rfl rfl ?_;intro _ _ _)|(refine lo_alloc rfl ?_;intro _ _ _))
    exact l_ret1 rfl rfl fun w hw => ⟨hw.org, rfl⟩
end Go.Ink
