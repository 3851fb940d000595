/-
  Joined, There, Offset.
  Plain: a region of characters, as a part of one row of runes.
-/
import Derived.Test.YtepjngapfmfkeaaTb
import Derived.Test.YtepjngapfmfkeaaHd
import Derived.Test.YtepjngapfmfkeaaSml
import Derived.Test.YtepjngapfmfkeaaW4
import Derived.Test.YtepjngapfmfkeaaFv
import Derived.Test.YtepjngapfmfkeaaLx
import Derived.Test.YtepjngapfmfkeaaR3
set_option linter.unusedVariables false
set_option linter.unusedSimpArgs false
namespace Go.Ink
open Go Go.Proofs Go.RowKit

/-- The first i lines, one behind the other. -/
def jndP (l : List (List Int)) : Nat → List Int
  | 0 => []
  | i + 1 => (if 0 < i then jndP l i ++ [10] else jndP l i) ++ l.getD i []
def jndM (l : List (List Int)) : List Int := jndP l l.length
theorem jndP_len (l : List (List Int)) : ∀ i, i ≤ l.length → (jndP l i).length = runesM (l.take i) + (i - 1)
  | 0, _ => by simp [jndP, runesM]
  | i + 1, h => by
    have ih := jndP_len l i (by omega)
    have e : runesM (l.take (i + 1)) = runesM (l.take i) + (l.getD i []).length := by
      unfold runesM
      rw [take_snoc (by omega), List.map_append, List.sum_append, List.getD_eq_getElem?_getD, List.getElem?_eq_getElem (by omega)]
      simp
    rw [jndP, List.length_append, e]
    split
    · rw [List.length_append, ih]; simp; omega
    · omega
theorem jndP_le (l : List (List Int)) (i : Nat) (h : i ≤ l.length) : (jndP l i).length ≤ runesM l + l.length := by
  have h1 := jndP_len l i h
  have h2 : runesM (l.take i) ≤ runesM l := by
    have : runesM l = runesM (l.take i) + runesM (l.drop i) := by
      unfold runesM; rw [← List.sum_append, ← List.map_append, List.take_append_drop]
    omega
  omega
section
variable {F : Nat → Prop} {w : World} {v : Value} {l : List (List Int)}
set_option maxHeartbeats 4000000 in
theorem joined_calls (h : Sl kRow F w v l) (hb : runesM l + l.length ≤ 4194304) : CallsR Try.prog 27 #[v] w fun u w' => Kn w w' ∧ Ow kRune (noB w) (fun _ => False) w' u (jndM l) := by
  obtain ⟨A, c, ad, rV, rc, ra, rfl, hR⟩ := h.rws
  have hlen := hR.len
  refine l_enter (fun _ => False) Try.func27 rfl rfl ?_
  repeat(first|refine lrun_ ?_|(refine lo_boxA rfl rfl ?_;intro _ _ _)|(refine lo_box1 rfl rfl rfl ?_;intro _ _ _)|(refine lo_alloc rfl ?_;intro _ _ _))
  refine l_whileB (fun s : Nat × Option Addr × Nat => l.length - s.1) (fun s => [(0, .slice A l.length c), (3, .slice s.2.1 (jndP l s.1).length s.2.2), (4, .int .i64 (s.1 : Int))]) (fun _ => [])
    (fun s b => s.1 ≤ l.length ∧ Og kRune w b (MK []) (fun _ => False) (.slice s.2.1 (jndP l s.1).length s.2.2) (jndP l s.1)) (0, none, 0) (by repeat (first | exact SubB.nil | refine SubB.cons rfl ?_)) (by repeat(first|exact MSub.refl|refine MSub.keep rfl ?_|exact MSub.nil|apply MSub.drop)) (fun w' hw => ⟨Nat.zero_le _, Ow.nil _ _ _ _⟩) ?_
  rintro ⟨i, A1, c1⟩ b ⟨hi, hO⟩ hkb ih
  simp only at hi hO
  have hjl := jndP_le l i hi
  dsimp only
  by_cases hlt : i < l.length
  · have hjl2 := jndP_le l (i + 1) hlt
    have J : ∀ (b2 : World) (x : List Int) (A2 : Option Addr) (c2 : Nat), x = (if 0 < i then jndP l i ++ [10] else jndP l i) → Og kRune w b2 (MK []) (fun _ => False) (.slice A2 x.length c2) x → ∀ σ', SubB σ' [(0, .slice A l.length c), (3, .slice A2 x.length c2), (4, .int .i64 (i : Int))] → ∀ M', MSub [] M' →
        WL Try.prog Try.f27 (.code (bodyC Try.f27 [1, 1, 0, 1, 0, 0, 1, 0, 0, 1]) :: .inBlock 1 :: .code (bodyC Try.f27 [1, 1, 0, 1, 0, 0, 1, 1]) :: .inLoop (bodyC Try.f27 [1, 1, 0, 1, 0, 0]) :: .inBlock 0 :: [.code (bodyC Try.f27 [1, 1, 1])]) σ' w (fun _ => False) b2 (MK []) M' (fun u w' => Kn w w' ∧ Ow kRune (noB w) (fun _ => False) w' u (jndM l)) := by
      intro b2 x A2 c2 hx hO2 σ' hs M' hM
      refine WL.sub hs hM ?_
      have e : jndP l (i + 1) = x ++ l.getD i [] := by rw [jndP, hx]
      rw [e] at hjl2
      rw [List.length_append] at hjl2
      repeat(first|refine lrun_ ?_|(refine lo_boxA rfl rfl ?_;intro _ _ _)|(refine lo_box1 rfl rfl rfl ?_;intro _ _ _)|(refine lo_alloc rfl ?_;intro _ _ _))
      refine lo_appendS (d := kRune) (ys := l.getD i []) (F2 := fun k => k < w.heap.size) rfl rfl hO2 (fun w' hw => Kn.sl hw.org (hR.rs i hlt).old) (fun j hj ho => by have := (hO2.block j ho).1.1; omega) (by show (x.length + (l.getD i []).length) * 4 ≤ 140737488355328; omega) rfl rfl rfl rfl ?_
      intro w3 A3 n3 w4 hw3 ko3 kp3 hown hog
      rw [← e] at hog ⊢
      repeat(first|refine lrun_ ?_|(refine lo_boxA rfl rfl ?_;intro _ _ _)|(refine lo_box1 rfl rfl rfl ?_;intro _ _ _)|(refine lo_alloc rfl ?_;intro _ _ _))
      exact ih (i + 1, A3, n3) w4 _ ⟨hlt, hog⟩ (by simp only; omega) _ _ (by repeat (first | exact SubB.nil | refine SubB.cons rfl ?_)) (by repeat(first|exact MSub.refl|refine MSub.keep rfl ?_|exact MSub.nil|apply MSub.drop)) fun w' hw' => ⟨hlt, hog.now (fun _ h => h.elim) hw'⟩
    by_cases h0 : 0 < i
    · have hx : jndP l i ++ [10] = (if 0 < i then jndP l i ++ [10] else jndP l i) := by rw [if_pos h0]
      repeat(first|refine lrun_ ?_|(refine lo_boxA rfl rfl ?_;intro _ _ _)|(refine lo_box1 rfl rfl rfl ?_;intro _ _ _)|(refine lo_alloc rfl ?_;intro _ _ _))
      refine l_yes rfl (by omega) ?_
      repeat(first|refine lrun_ ?_|(refine lo_boxA rfl rfl ?_;intro _ _ _)|(refine lo_box1 rfl rfl rfl ?_;intro _ _ _)|(refine lo_alloc rfl ?_;intro _ _ _))
      refine l_yes rfl (by omega) ?_
      repeat(first|refine lrun_ ?_|(refine lo_boxA rfl rfl ?_;intro _ _ _)|(refine lo_box1 rfl rfl rfl ?_;intro _ _ _)|(refine lo_alloc rfl ?_;intro _ _ _))
      refine lo_lit (cs := [.int .i32 10]) rfl (by decide) (by kernel_rfl) rfl ?_
      intro g9 _ _
      refine lo_append1 (d := kRune) (q := 10) rfl rfl hO (fun _ h => h.elim) (by(repeat(first|exact MIn.hd|refine MIn.tl ?_));done) (fun w' hw => ⟨rfl, by decide, by decide⟩) (by show ((jndP l i).length + 1) * 4 ≤ 140737488355328; omega) rfl rfl rfl rfl ?_
      intro w3 A3 c3 w4 hw3 hk3 hk4 hown hog
      repeat(first|refine lops_ ?_|(refine lo_boxA rfl rfl ?_;intro _ _ _)|(refine lo_box1 rfl rfl rfl ?_;intro _ _ _)|(refine lo_alloc rfl ?_;intro _ _ _))
      refine lo_nil ?_
      refine l_baseM (M3 := []) .nil fun w5 hw5 => ?_
      exact J w5 _ A3 c3 hx ((hog.now (fun _ h => h.elim) hw5).mono (fun k hk _ => ⟨hk.1, mk_nil⟩) fun _ h _ => h) _ (by repeat (first | exact SubB.nil | refine SubB.cons rfl ?_)) _ .nil
    · have hx : jndP l i = (if 0 < i then jndP l i ++ [10] else jndP l i) := by rw [if_neg h0]
      repeat(first|refine lrun_ ?_|(refine lo_boxA rfl rfl ?_;intro _ _ _)|(refine lo_box1 rfl rfl rfl ?_;intro _ _ _)|(refine lo_alloc rfl ?_;intro _ _ _))
      refine l_yes rfl (by omega) ?_
      repeat(first|refine lrun_ ?_|(refine lo_boxA rfl rfl ?_;intro _ _ _)|(refine lo_box1 rfl rfl rfl ?_;intro _ _ _)|(refine lo_alloc rfl ?_;intro _ _ _))
      refine l_no rfl (by omega) ?_
      refine l_go .skip ?_
      exact J b _ A1 c1 hx hO _ (by repeat (first | exact SubB.nil | refine SubB.cons rfl ?_)) _ .nil
  · obtain rfl : i = l.length := by omega
    repeat(first|refine lrun_ ?_|(refine lo_boxA rfl rfl ?_;intro _ _ _)|(refine lo_box1 rfl rfl rfl ?_;intro _ _ _)|(refine lo_alloc rfl ?_;intro _ _ _))
    refine l_no rfl (by omega) ?_
    refine l_go (.exit rfl) ?_
    repeat(first|refine lrun_ ?_|(refine lo_boxA rfl rfl ?_;intro _ _ _)|(refine lo_box1 rfl rfl rfl ?_;intro _ _ _)|(refine lo_alloc rfl ?_;intro _ _ _))
    exact l_ret1 rfl rfl fun w7 hw => ⟨hw.org, (hO.now (fun _ h => h.elim) hw).mono (fun k hk _ => hk.1) fun _ h _ => h⟩
def thereP (l : List (List Int)) (p : Ps) : Prop := 0 ≤ p.1 ∧ p.1 < l.length ∧ 0 ≤ p.2 ∧ p.2 ≤ (l.getD p.1.toNat []).length
instance (l : List (List Int)) (p : Ps) : Decidable (thereP l p) := by unfold thereP; infer_instance
theorem there_calls {p : Ps} (h : Sl kRow F w v l) : CallsR Try.prog 61 #[v, posV p] w fun u w' => Kn w w' ∧ u = .bool (decide (thereP l p)) := by
  obtain ⟨A, c, ad, rV, rc, ra, rfl, hR⟩ := h.rws
  have hlen := hR.len
  refine l_enter (fun _ => False) Try.func61 rfl rfl ?_
  by_cases h1 : 0 ≤ p.1
  case neg =>
    rw [show decide (thereP l p) = false from decide_eq_false fun h => h1 h.1]
    repeat(first|refine lrun_ ?_|(refine lo_boxA rfl rfl ?_;intro _ _ _)|(refine lo_box1 rfl rfl rfl ?_;intro _ _ _)|(refine lo_alloc rfl ?_;intro _ _ _))
    refine l_draw [(0, 0), (1, 0), (2, 0), (3, 0), (4, 0), (5, 0), (6, 0), (7, 0), (8, 0), (9, 0), (10, 0), (11, 0), (12, 0), (13, 0), (14, 0), (15, 0), (16, 0), (17, 0), (18, 0), (19, 0), (20, 0), (21, 0), (22, 0), (23, 0), (24, 0), (25, 0), (26, 0)] (by kernel_rfl) (by kernel_rfl) rfl (by kernel_rfl) ?_
    repeat(first|refine lrund_ ?_|(refine ld_open rfl ?_;first|(refine ld_boxA rfl wy_ rfl ?_;intro _ _ _)|(refine ld_box1 rfl rfl wy_ rfl ?_;intro _ _ _)|(refine ld_alloc wy_ rfl ?_;intro _ _ _)))
    repeat(first|refine lrun_ ?_|(refine lo_boxA rfl rfl ?_;intro _ _ _)|(refine lo_box1 rfl rfl rfl ?_;intro _ _ _)|(refine lo_alloc rfl ?_;intro _ _ _))
    exact l_ret1 rfl rfl fun w' hw => ⟨hw.org, rfl⟩
  by_cases h2 : p.1 < l.length
  case neg =>
    rw [show decide (thereP l p) = false from decide_eq_false fun h => h2 h.2.1]
    repeat(first|refine lrun_ ?_|(refine lo_boxA rfl rfl ?_;intro _ _ _)|(refine lo_box1 rfl rfl rfl ?_;intro _ _ _)|(refine lo_alloc rfl ?_;intro _ _ _))
    refine l_draw [(0, 0), (1, 0), (2, 0), (3, 0), (4, 0), (5, 0), (6, 0), (7, 0), (8, 0), (9, 0), (10, 0), (11, 0), (12, 0), (13, 0), (14, 0), (15, 0), (16, 0), (17, 0), (18, 0), (19, 0), (20, 0), (21, 0), (22, 0), (23, 0), (24, 0), (25, 0), (26, 0)] (by kernel_rfl) (by kernel_rfl) rfl (by kernel_rfl) ?_
    repeat(first|refine lrund_ ?_|(refine ld_open rfl ?_;first|(refine ld_boxA rfl wy_ rfl ?_;intro _ _ _)|(refine ld_box1 rfl rfl wy_ rfl ?_;intro _ _ _)|(refine ld_alloc wy_ rfl ?_;intro _ _ _)))
    repeat(first|refine lrun_ ?_|(refine lo_boxA rfl rfl ?_;intro _ _ _)|(refine lo_box1 rfl rfl rfl ?_;intro _ _ _)|(refine lo_alloc rfl ?_;intro _ _ _))
    exact l_ret1 rfl rfl fun w' hw => ⟨hw.org, rfl⟩
  by_cases h3 : 0 ≤ p.2
  case neg =>
    rw [show decide (thereP l p) = false from decide_eq_false fun h => h3 h.2.2.1]
    repeat(first|refine lrun_ ?_|(refine lo_boxA rfl rfl ?_;intro _ _ _)|(refine lo_box1 rfl rfl rfl ?_;intro _ _ _)|(refine lo_alloc rfl ?_;intro _ _ _))
    refine l_draw [(0, 0), (1, 0), (2, 0), (3, 0), (4, 0), (5, 0), (6, 0), (7, 0), (8, 0), (9, 0), (10, 0), (11, 0), (12, 0), (13, 0), (14, 0), (15, 0), (16, 0), (17, 0), (18, 0), (19, 0), (20, 0), (21, 0), (22, 0), (23, 0), (24, 0), (25, 0), (26, 0)] (by kernel_rfl) (by kernel_rfl) rfl (by kernel_rfl) ?_
    repeat(first|refine lrund_ ?_|(refine ld_open rfl ?_;first|(refine ld_boxA rfl wy_ rfl ?_;intro _ _ _)|(refine ld_box1 rfl rfl wy_ rfl ?_;intro _ _ _)|(refine ld_alloc wy_ rfl ?_;intro _ _ _)))
    repeat(first|refine lrun_ ?_|(refine lo_boxA rfl rfl ?_;intro _ _ _)|(refine lo_box1 rfl rfl rfl ?_;intro _ _ _)|(refine lo_alloc rfl ?_;intro _ _ _))
    exact l_ret1 rfl rfl fun w' hw => ⟨hw.org, rfl⟩
  obtain ⟨p1, p2⟩ := p
  simp only at h1 h2 h3
  obtain ⟨i, rfl⟩ : ∃ i : Nat, p1 = (i : Int) := ⟨p1.toNat, by omega⟩
  have hil : i < l.length := by omega
  rw [show decide (thereP l ((i : Int), p2)) = decide (p2 ≤ (l.getD i []).length) from decide_eq_decide.2 ⟨fun h => h.2.2.2, fun h4 => ⟨h1, h2, h3, h4⟩⟩]
  repeat(first|refine lrun_ ?_|(refine lo_boxA rfl rfl ?_;intro _ _ _)|(refine lo_box1 rfl rfl rfl ?_;intro _ _ _)|(refine lo_alloc rfl ?_;intro _ _ _))
  refine l_draw [(0, 0), (1, 0), (2, 0), (3, 0), (4, 0), (5, 0), (6, 0), (7, 0), (8, 0), (9, 0), (10, 0), (11, 0), (12, 0), (13, 0), (14, 0), (15, 0), (16, 0), (17, 0), (18, 0), (19, 0), (20, 0), (21, 0), (22, 0), (23, 0), (24, 0), (25, 0), (26, 0)] (by kernel_rfl) (by kernel_rfl) rfl (by kernel_rfl) ?_
  repeat(first|refine lrund_ ?_|(refine ld_open rfl ?_;first|(refine ld_boxA rfl wy_ rfl ?_;intro _ _ _)|(refine ld_box1 rfl rfl wy_ rfl ?_;intro _ _ _)|(refine ld_alloc wy_ rfl ?_;intro _ _ _)))
  repeat(first|refine lrun_ ?_|(refine lo_boxA rfl rfl ?_;intro _ _ _)|(refine lo_box1 rfl rfl rfl ?_;intro _ _ _)|(refine lo_alloc rfl ?_;intro _ _ _))
  exact l_ret1 rfl rfl fun w' hw => ⟨hw.org, rfl⟩
/-- How many runes are ahead of line i. -/
def ofs (l : List (List Int)) (i : Nat) : Nat := runesM (l.take i) + i
theorem ofs_succ {i : Nat} (h : i < l.length) : ofs l (i + 1) = ofs l i + ((l.getD i []).length + 1) := by
  unfold ofs runesM
  rw [take_snoc h, List.map_append, List.sum_append, List.getD_eq_getElem?_getD, List.getElem?_eq_getElem h]
  simp
  omega
theorem ofs_le (i : Nat) : ofs l i ≤ runesM l + i := by
  have : runesM l = runesM (l.take i) + runesM (l.drop i) := by
    unfold runesM; rw [← List.sum_append, ← List.map_append, List.take_append_drop]
  unfold ofs
  omega
set_option maxHeartbeats 4000000 in
theorem offset_calls {p : Ps} {g : Nat} (hg : w.cell? ⟨g, 0, none⟩ = some v) (h : Sl kRow F w v l) (hb : runesM l + l.length ≤ 4194304) (hp : P64 p) :
    CallsR Try.prog 26 #[.pointer (some ⟨g, 0, none⟩), posV p] w fun u w' => Kn w w' ∧ u = .tuple #[.int .i64 (if thereP l p then p.2 + (ofs l p.1.toNat : Nat) else 0), .int .i64 (if thereP l p then 0 else 2)] := by
  obtain ⟨A, c, ad, rV, rc, ra, rfl, hR⟩ := h.rws
  have hlen := hR.len
  refine l_enter (fun _ => False) Try.func26 rfl rfl ?_
  repeat(first|refine lrun_ ?_|(refine lo_boxA rfl rfl ?_;intro _ _ _)|(refine lo_box1 rfl rfl rfl ?_;intro _ _ _)|(refine lo_alloc rfl ?_;intro _ _ _))
  refine l_draw [(0, 0), (1, 0), (2, 0), (3, 0), (4, 0), (5, 1), (6, 0)] (by kernel_rfl) (by kernel_rfl) rfl (by kernel_rfl) ?_
  repeat(first|refine lrund_ ?_|(refine ld_open rfl ?_;first|(refine ld_boxA rfl wy_ rfl ?_;intro _ _ _)|(refine ld_box1 rfl rfl wy_ rfl ?_;intro _ _ _)|(refine ld_alloc wy_ rfl ?_;intro _ _ _)))
  refine ld_open rfl ?_; refine ld_call (n_call rfl) wy_ rfl (fun w' hw => there_calls (p := p) (Kn.sl hw.org h)) ?_
  repeat(first|refine lrund_ ?_|(refine ld_open rfl ?_;first|(refine ld_boxA rfl wy_ rfl ?_;intro _ _ _)|(refine ld_box1 rfl rfl wy_ rfl ?_;intro _ _ _)|(refine ld_alloc wy_ rfl ?_;intro _ _ _)))
  by_cases ht : thereP l p
  case neg =>
    rw [decide_eq_false ht, if_neg ht, if_neg ht]
    refine l_true rfl ?_
    repeat(first|refine lrun_ ?_|(refine lo_boxA rfl rfl ?_;intro _ _ _)|(refine lo_box1 rfl rfl rfl ?_;intro _ _ _)|(refine lo_alloc rfl ?_;intro _ _ _))
    exact l_retR2 rfl (by repeat(first|exact LRes.nil|refine LRes.tmp rfl ?_|refine LRes.agg rfl (by(repeat(first|exact MIn.hd|refine MIn.tl ?_));done) (by rfl) (by rfl) ?_|refine LRes.one rfl (by(repeat(first|exact MIn.hd|refine MIn.tl ?_));done) (by rfl) ?_)) fun w' hw => ⟨hw.org, rfl⟩
  rw [decide_eq_true ht, if_pos ht, if_pos ht]
  obtain ⟨p1, p2⟩ := p
  obtain ⟨h1, h2, h3, h4⟩ := ht
  simp only at h1 h2 h3 h4
  obtain ⟨n, rfl⟩ : ∃ n : Nat, p1 = (n : Int) := ⟨p1.toNat, by omega⟩
  simp only [Int.toNat_natCast] at h4 ⊢
  have hrl := hR.rl n
  refine l_false rfl ?_
  refine l_go .skip ?_
  repeat(first|refine lrun_ ?_|(refine lo_boxA rfl rfl ?_;intro _ _ _)|(refine lo_box1 rfl rfl rfl ?_;intro _ _ _)|(refine lo_alloc rfl ?_;intro _ _ _))
  rename_i g3 _ _
  have hol := ofs_le (l := l) n
  refine l_while (fun i : Nat => n - i) (fun i => [(0, .pointer (some ⟨g, 0, none⟩)), (3, .pointer (some ⟨g3, 0, none⟩)), (6, .int .i64 (p2 + (ofs l i : Nat))), (7, .int .i64 (i : Int))]) (fun _ => [(g3, cb [.int .i64 n, .int .i64 p2] 24)]) (fun i => i ≤ n) 0 (by simp only [show ofs l 0 = 0 from rfl, Int.natCast_zero, Int.add_zero]; exact (by repeat (first | exact SubB.nil | refine SubB.cons rfl ?_))) (by repeat(first|exact MSub.refl|refine MSub.keep rfl ?_|exact MSub.nil|apply MSub.drop)) (Nat.zero_le _) ?_
  intro i hi ih
  by_cases hlt : i < n
  · have hil : i < l.length := by omega
    have hrl2 := hR.rl i
    have hos := ofs_succ hil
    have hol2 := ofs_le (l := l) (i + 1)
    have ih2 := ih (i + 1) hlt (by omega)
    rw [show p2 + ((ofs l (i + 1) : Nat) : Int) = p2 + ((ofs l i : Nat) : Int) + (((l.getD i []).length : Int) + 1) by rw [hos]; omega] at ih2
    repeat(first|refine lrun_ ?_|(refine lo_boxA rfl rfl ?_;intro _ _ _)|(refine lo_box1 rfl rfl rfl ?_;intro _ _ _)|(refine lo_alloc rfl ?_;intro _ _ _))
    refine l_yes rfl (by omega) ?_
    repeat(first|refine lrun_ ?_|(refine lo_boxA rfl rfl ?_;intro _ _ _)|(refine lo_box1 rfl rfl rfl ?_;intro _ _ _)|(refine lo_alloc rfl ?_;intro _ _ _))
    exact ih2 _ _ (by repeat (first | exact SubB.nil | refine SubB.cons rfl ?_)) (by repeat(first|exact MSub.refl|refine MSub.keep rfl ?_|exact MSub.nil|apply MSub.drop))
  · obtain rfl : i = n := by omega
    repeat(first|refine lrun_ ?_|(refine lo_boxA rfl rfl ?_;intro _ _ _)|(refine lo_box1 rfl rfl rfl ?_;intro _ _ _)|(refine lo_alloc rfl ?_;intro _ _ _))
    refine l_no rfl (by omega) ?_
    refine l_go (.exit rfl) ?_
    repeat(first|refine lrun_ ?_|(refine lo_boxA rfl rfl ?_;intro _ _ _)|(refine lo_box1 rfl rfl rfl ?_;intro _ _ _)|(refine lo_alloc rfl ?_;intro _ _ _))
    exact l_retR2 rfl (by repeat(first|exact LRes.nil|refine LRes.tmp rfl ?_|refine LRes.agg rfl (by(repeat(first|exact MIn.hd|refine MIn.tl ?_));done) (by rfl) (by rfl) ?_|refine LRes.one rfl (by(repeat(first|exact MIn.hd|refine MIn.tl ?_));done) (by rfl) ?_)) fun w' hw => ⟨hw.org, rfl⟩
end
end Go.Ink

set_option linter.unusedVariables false
set_option linter.unusedSimpArgs false
namespace Go.Ink
open Go Go.Proofs Go.RowKit

/-! ### Lines one behind the other -/
theorem jndP_app (l : List (List Int)) (m : List (List Int)) : ∀ i, i ≤ l.length → jndP (l ++ m) i = jndP l i
  | 0, _ => rfl
  | i + 1, h => by
    have e : (l ++ m).getD i [] = l.getD i [] := by rw [List.getD_eq_getElem?_getD, List.getElem?_append_left (by omega), List.getD_eq_getElem?_getD]
    rw [jndP, jndP, jndP_app l m i (by omega), e]
theorem snoc_ind {α : Type} {p : List α → Prop} (h0 : p []) (h1 : ∀ l x, p l → p (l ++ [x])) (l : List α) : p l := by
  rw [← List.reverse_reverse l]
  induction l.reverse with
  | nil => exact h0
  | cons x l ih => rw [List.reverse_cons]; exact h1 _ x ih
def preJ (u : List (List Int)) : List Int := if u = [] then [] else jndM u ++ [10]
def postJ (v : List (List Int)) : List Int := if v = [] then [] else 10 :: jndM v
theorem jnd_snoc (l : List (List Int)) (x : List Int) : jndM (l ++ [x]) = preJ l ++ x := by
  unfold jndM preJ
  rw [List.length_append, List.length_singleton, jndP, jndP_app l [x] l.length (Nat.le_refl _)]
  have e : (l ++ [x]).getD l.length [] = x := by rw [List.getD_eq_getElem?_getD, List.getElem?_append_right (Nat.le_refl _), Nat.sub_self]; rfl
  rw [e]
  by_cases h : l = []
  · subst h; rfl
  · rw [if_pos (List.length_pos_iff.2 h), if_neg h]; rfl
theorem jnd_one (x : List Int) : jndM [x] = x := by
  have := jnd_snoc [] x
  rw [List.nil_append] at this
  rw [this]; rfl
theorem jnd_nil : jndM [] = [] := rfl
theorem pre_snoc (u : List (List Int)) (x : List Int) : preJ (u ++ [x]) = preJ u ++ x ++ [10] := by
  conv => lhs; unfold preJ
  rw [if_neg (by simp), jnd_snoc]
theorem pre_app (u : List (List Int)) : ∀ v, preJ (u ++ v) = preJ u ++ preJ v := by
  refine snoc_ind (by simp [preJ]) fun v x ih => ?_
  rw [← List.append_assoc, pre_snoc, ih, pre_snoc]; simp
theorem pre_len (u : List (List Int)) : (preJ u).length = runesM u + u.length := by
  by_cases h : u = []
  · subst h; rfl
  · have h0 := List.length_pos_iff.2 h
    unfold preJ
    rw [if_neg h, List.length_append]
    show (jndP u u.length).length + 1 = _
    rw [jndP_len u u.length (Nat.le_refl _), List.take_length]
    omega
theorem jnd_mid (u : List (List Int)) (x : List Int) (v : List (List Int)) : jndM (u ++ [x] ++ v) = preJ u ++ x ++ postJ v := by
  revert v
  refine snoc_ind ?_ fun v y _ => ?_
  · rw [List.append_nil, jnd_snoc]; simp [postJ]
  · rw [← List.append_assoc, jnd_snoc, pre_app, pre_snoc]
    have : postJ (v ++ [y]) = 10 :: (preJ v ++ y) := by unfold postJ; rw [if_neg (by simp), jnd_snoc]
    rw [this]
    simp
theorem pre_ofs (l : List (List Int)) (i : Nat) (h : i ≤ l.length) : (preJ (l.take i)).length = ofs l i := by
  rw [pre_len, List.length_take, Nat.min_eq_left h]; rfl
/-! ### What a region of characters has -/
theorem gat_add (res : Nat → List Int) (i0 n : Nat) : ∀ m, gatM res i0 (n + m) = gatM res i0 n ++ gatM res (i0 + n) m
  | 0 => by simp [gatM]
  | m + 1 => by rw [show n + (m + 1) = (n + m) + 1 by omega, gatM, gat_add res i0 n m, gatM, List.append_assoc, show i0 + (n + m) = i0 + n + m by omega]
theorem gat_ext {res res' : Nat → List Int} {i0 : Nat} : ∀ n, (∀ i, i0 ≤ i → i < i0 + n → res i = res' i) → gatM res i0 n = gatM res' i0 n
  | 0, _ => rfl
  | n + 1, h => by rw [gatM, gatM, gat_ext n (fun i h1 h2 => h i h1 (by omega)), h (i0 + n) (by omega) (by omega)]
theorem gat_nil (i0 : Nat) : ∀ n, (gatM (fun _ => []) i0 n).flatten = []
  | 0 => rfl
  | n + 1 => by rw [gatM, List.flatten_append, gat_nil i0 n]; rfl
section
variable {l : List (List Int)} {r : Rg} {i0 k1 i1 k2 : Nat}
structure ChR (l : List (List Int)) (r : Rg) (i0 k1 i1 k2 : Nat) : Prop where
  ends : endsR r = (((i0 : Int), (k1 : Int)), ((i1 : Int), (k2 : Int)))
  kind : r.kind = 0
  there : thereR l r = 0
  hi0 : i0 < l.length
  hi1 : i1 < l.length
  hk1 : (l.getD i0 []).length = 0 ∧ k1 = 0 ∨ k1 < (l.getD i0 []).length
  hk2 : (l.getD i1 []).length = 0 ∧ k2 = 0 ∨ k2 < (l.getD i1 []).length
  le : i0 < i1 ∨ i0 = i1 ∧ k1 ≤ k2
/-- Up to which column. -/
def toC (l : List (List Int)) (i1 k2 : Nat) : Nat := k2 + if 0 < (l.getD i1 []).length then 1 else 0
theorem ChR.toC_le (h : ChR l r i0 k1 i1 k2) : toC l i1 k2 ≤ (l.getD i1 []).length := by
  have := h.hk2
  unfold toC
  split <;> omega
theorem ChR.from_ (h : ChR l r i0 k1 i1 k2) (i : Nat) (h1 : i0 ≤ i) (h2 : i ≤ i1) : fromR l r i = if i = i0 then k1 else 0 := by
  have a1 := h.hk1
  have a2 := h.hk2
  have a3 := h.le
  unfold fromR colsR
  simp only [h.ends, h.kind]
  by_cases e0 : i = i0
  · subst e0
    by_cases e1 : i = i1
    · subst e1
      simp only [and_self, if_true]
      (repeat' split) <;> omega
    · have : ¬ ((i : Int) = (i1 : Int)) := by omega
      simp only [this, and_false, if_true, if_false, and_self]
      (repeat' split) <;> omega
  · have : ¬ ((i : Int) = (i0 : Int)) := by omega
    simp only [this, and_false, if_false, e0]
    (repeat' split) <;> omega
theorem ChR.to_ (h : ChR l r i0 k1 i1 k2) (i : Nat) (h1 : i0 ≤ i) (h2 : i ≤ i1) : toR l r i = if i = i1 then toC l i1 k2 else (l.getD i []).length := by
  have a1 := h.hk1
  have a2 := h.hk2
  have a3 := h.le
  unfold toR colsR toC
  simp only [h.ends, h.kind]
  by_cases e1 : i = i1
  · subst e1
    simp only [and_self, if_true]
    (repeat' split) <;> omega
  · have : ¬ ((i : Int) = (i1 : Int)) := by omega
    simp only [this, and_false, if_false, e1]
    (repeat' split) <;> omega
theorem ChR.nums (h : ChR l r i0 k1 i1 k2) : r0 r = i0 ∧ rn r = i1 + 1 - i0 := by
  have := h.le
  unfold r0 rn
  rw [h.ends]
  simp only
  omega
theorem split2 {i j : Nat} (hij : i < j) (hj : j < l.length) : l = l.take i ++ [l.getD i []] ++ (l.take j).drop (i + 1) ++ [l.getD j []] ++ l.drop (j + 1) := by
  have e1 : l.take (i + 1) = l.take i ++ [l.getD i []] := by rw [take_snoc (by omega), List.getD_eq_getElem?_getD, List.getElem?_eq_getElem (by omega)]; rfl
  have e2 : l.take (j + 1) = l.take j ++ [l.getD j []] := by rw [take_snoc hj, List.getD_eq_getElem?_getD, List.getElem?_eq_getElem hj]; rfl
  have e3 : (l.take j).take (i + 1) = l.take (i + 1) := by rw [List.take_take]; congr 1; omega
  rw [← e1, ← e3, List.take_append_drop, ← e2, List.take_append_drop]
theorem split1 {i : Nat} (hi : i < l.length) : l = l.take i ++ [l.getD i []] ++ l.drop (i + 1) := by
  have e1 : l.take (i + 1) = l.take i ++ [l.getD i []] := by rw [take_snoc hi, List.getD_eq_getElem?_getD, List.getElem?_eq_getElem hi]; rfl
  rw [← e1, List.take_append_drop]
theorem cut3 {a b c d : List Int} {n m : Nat} (h1 : a.length = n) (h2 : a.length + b.length = m) : (((a ++ b ++ c).take m).drop n = b) ∧ (a ++ b ++ c).take n = a ∧ (a ++ b ++ c).drop m = c := by
  subst h1
  subst h2
  refine ⟨?_, ?_, ?_⟩
  · rw [List.take_append_of_le_length (by simp), List.take_of_length_le (by simp), List.drop_left]
  · rw [List.append_assoc, List.take_left]
  · rw [← List.length_append, List.drop_left]
/-- Take's text, and Cut's. -/
theorem flat_law (h : ChR l r i0 k1 i1 k2) :
    jndM (takeM l r) = ((jndM l).take (ofs l i1 + toC l i1 k2)).drop (ofs l i0 + k1) ∧ jndM (cutM l r).1 = (jndM l).take (ofs l i0 + k1) ++ (jndM l).drop (ofs l i1 + toC l i1 k2) := by
  obtain ⟨hr0, hrn⟩ := h.nums
  have hle := h.le
  have hi0 := h.hi0
  have hi1 := h.hi1
  have ht := h.toC_le
  have hk1 : k1 ≤ (l.getD i0 []).length := by have := h.hk1; omega
  have etk : takeM l r = gatM (inR l r) i0 (i1 + 1 - i0) := by
    unfold takeM
    rw [if_pos h.there]
    show gatM (inR l r) (r0 r) (rn r) = _
    rw [hr0, hrn]
  have ect : (cutM l r).1 = l.take i0 ++ [(gatM (outR l r) i0 (i1 + 1 - i0)).flatten] ++ l.drop (i1 + 1) := by
    unfold cutM
    rw [if_neg (fun e => e h.there), if_neg (by rw [h.kind]; decide), if_pos h.kind, hr0, hrn, show i0 + (i1 + 1 - i0) = i1 + 1 by omega]
  rw [etk, ect]
  have hpo := pre_ofs l i0 (by omega)
  by_cases heq : i0 = i1
  · subst heq
    have hk12 : k1 ≤ k2 := by omega
    have hkt : k1 ≤ toC l i0 k2 := by unfold toC; omega
    have e1 : inR l r i0 = ((l.getD i0 []).take (toC l i0 k2)).drop k1 := by
      unfold inR; rw [h.from_ i0 (Nat.le_refl _) (Nat.le_refl _), h.to_ i0 (Nat.le_refl _) (Nat.le_refl _), if_pos rfl, if_pos rfl]
    have e2 : outR l r i0 = (l.getD i0 []).take k1 ++ (l.getD i0 []).drop (toC l i0 k2) := by
      unfold outR; rw [h.from_ i0 (Nat.le_refl _) (Nat.le_refl _), h.to_ i0 (Nat.le_refl _) (Nat.le_refl _), if_pos rfl, if_pos rfl]
    rw [show i0 + 1 - i0 = 0 + 1 by omega, gatM, gatM, gatM, gatM, List.nil_append, List.nil_append, Nat.add_zero, e1, e2, jnd_one]
    have hJ : jndM l = (preJ (l.take i0) ++ (l.getD i0 []).take k1) ++ ((l.getD i0 []).take (toC l i0 k2)).drop k1 ++ ((l.getD i0 []).drop (toC l i0 k2) ++ postJ (l.drop (i0 + 1))) := by
      conv => lhs; rw [split1 hi0]
      rw [jnd_mid]
      have : l.getD i0 [] = (l.getD i0 []).take k1 ++ (((l.getD i0 []).take (toC l i0 k2)).drop k1 ++ (l.getD i0 []).drop (toC l i0 k2)) := by
        have e3 : (l.getD i0 []).take k1 = ((l.getD i0 []).take (toC l i0 k2)).take k1 := by rw [List.take_take]; congr 1; omega
        rw [← List.append_assoc, e3, List.take_append_drop, List.take_append_drop]
      conv => lhs; rw [this]
      simp only [List.append_assoc]
    obtain ⟨c1, c2, c3⟩ := cut3 (d := []) (a := preJ (l.take i0) ++ (l.getD i0 []).take k1) (b := ((l.getD i0 []).take (toC l i0 k2)).drop k1) (c := (l.getD i0 []).drop (toC l i0 k2) ++ postJ (l.drop (i0 + 1))) (n := ofs l i0 + k1) (m := ofs l i0 + toC l i0 k2)
      (by rw [List.length_append, hpo, List.length_take]; omega) (by rw [List.length_append, hpo, List.length_take, List.length_drop, List.length_take]; omega)
    rw [← hJ] at c1 c2 c3
    rw [c1, c2, c3]
    refine ⟨rfl, ?_⟩
    rw [List.flatten_cons, List.flatten_nil, List.append_nil, jnd_mid]
    simp only [List.append_assoc]
  · have hlt : i0 < i1 := by omega
    have hn : i1 + 1 - i0 = 1 + (i1 - i0 - 1) + 1 := by omega
    have a0 : ∀ (res : Nat → List Int), gatM res i0 (i1 + 1 - i0) = [res i0] ++ gatM res (i0 + 1) (i1 - i0 - 1) ++ [res i1] := fun res => by
      rw [hn, gatM, gat_add, show i0 + (1 + (i1 - i0 - 1)) = i1 by omega]
      simp [gatM]
    have in0 : inR l r i0 = (l.getD i0 []).drop k1 := by
      unfold inR
      rw [h.from_ i0 (Nat.le_refl _) (by omega), h.to_ i0 (Nat.le_refl _) (by omega), if_pos rfl, if_neg heq, List.take_length]
    have in1 : inR l r i1 = (l.getD i1 []).take (toC l i1 k2) := by
      unfold inR
      rw [h.from_ i1 (by omega) (Nat.le_refl _), h.to_ i1 (by omega) (Nat.le_refl _), if_neg (fun e => heq e.symm), if_pos rfl, List.drop_zero]
    have inm : gatM (inR l r) (i0 + 1) (i1 - i0 - 1) = (l.take i1).drop (i0 + 1) := by
      rw [gat_ext (res' := fun i => l.getD i []) _ fun i h1 h2 => ?_, gat_id _ (fun _ => rfl) _ _ (by omega)]
      · congr 2; omega
      · unfold inR
        rw [h.from_ i (by omega) (by omega), h.to_ i (by omega) (by omega), if_neg (by omega), if_neg (by omega), List.take_length, List.drop_zero]
    have out0 : outR l r i0 = (l.getD i0 []).take k1 := by
      unfold outR
      rw [h.from_ i0 (Nat.le_refl _) (by omega), h.to_ i0 (Nat.le_refl _) (by omega), if_pos rfl, if_neg heq, List.drop_length, List.append_nil]
    have out1 : outR l r i1 = (l.getD i1 []).drop (toC l i1 k2) := by
      unfold outR
      rw [h.from_ i1 (by omega) (Nat.le_refl _), h.to_ i1 (by omega) (Nat.le_refl _), if_neg (fun e => heq e.symm), if_pos rfl, List.take_zero, List.nil_append]
    have outm : (gatM (outR l r) (i0 + 1) (i1 - i0 - 1)).flatten = [] := by
      rw [gat_ext (res' := fun i => []) _ fun i h1 h2 => ?_, gat_nil]
      unfold outR
      rw [h.from_ i (by omega) (by omega), h.to_ i (by omega) (by omega), if_neg (by omega), if_neg (by omega), List.take_zero, List.drop_length, List.append_nil]
    rw [a0, a0, in0, in1, inm, out0, out1, List.flatten_append, List.flatten_append, outm]
    have hJ : jndM l = (preJ (l.take i0) ++ (l.getD i0 []).take k1) ++ ((l.getD i0 []).drop k1 ++ [10] ++ preJ ((l.take i1).drop (i0 + 1)) ++ (l.getD i1 []).take (toC l i1 k2)) ++ ((l.getD i1 []).drop (toC l i1 k2) ++ postJ (l.drop (i1 + 1))) := by
      conv => lhs; rw [split2 hlt hi1]
      rw [jnd_mid, pre_app, pre_snoc]
      conv => lhs; rw [← List.take_append_drop k1 (l.getD i0 []), ← List.take_append_drop (toC l i1 k2) (l.getD i1 [])]
      simp only [List.append_assoc]
    have hpo1 : ofs l i1 = ofs l i0 + (l.getD i0 []).length + 1 + (preJ ((l.take i1).drop (i0 + 1))).length := by
      rw [← pre_ofs l i1 (by omega), ← hpo]
      have e1 : l.take i1 = l.take i0 ++ [l.getD i0 []] ++ (l.take i1).drop (i0 + 1) := by
        have e2 : l.take (i0 + 1) = l.take i0 ++ [l.getD i0 []] := by rw [take_snoc (by omega), List.getD_eq_getElem?_getD, List.getElem?_eq_getElem (by omega)]; rfl
        have e3 : (l.take i1).take (i0 + 1) = l.take (i0 + 1) := by rw [List.take_take]; congr 1; omega
        rw [← e2, ← e3, List.take_append_drop]
      conv => lhs; rw [e1]
      rw [pre_app, pre_snoc]
      simp only [List.length_append, List.length_singleton]
    obtain ⟨c1, c2, c3⟩ := cut3 (d := []) (a := preJ (l.take i0) ++ (l.getD i0 []).take k1) (b := (l.getD i0 []).drop k1 ++ [10] ++ preJ ((l.take i1).drop (i0 + 1)) ++ (l.getD i1 []).take (toC l i1 k2)) (c := (l.getD i1 []).drop (toC l i1 k2) ++ postJ (l.drop (i1 + 1))) (n := ofs l i0 + k1) (m := ofs l i1 + toC l i1 k2)
      (by rw [List.length_append, hpo, List.length_take]; omega) (by simp only [List.length_append, hpo, List.length_take, List.length_drop, List.length_singleton]; omega)
    rw [← hJ] at c1 c2 c3
    rw [c1, c2, c3]
    constructor
    · rw [jnd_snoc, pre_app]
      have : preJ [(l.getD i0 []).drop k1] = (l.getD i0 []).drop k1 ++ [10] := by unfold preJ; rw [if_neg (by simp), jnd_one]
      rw [this]
    · rw [jnd_mid]
      simp
end
end Go.Ink
