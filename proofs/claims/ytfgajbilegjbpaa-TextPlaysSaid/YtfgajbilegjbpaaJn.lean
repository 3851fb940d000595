/-
  inkhornref04: Joined, There, Offset.
  Plain: lines one behind the other, as one row of runes; what is split.
-/
import Derived.Test.YtfgajbilegjbpaaTb
import Derived.Test.YtfgajbilegjbpaaHd
import Derived.Test.YtfgajbilegjbpaaSml
import Derived.Test.YtfgajbilegjbpaaPl
import Derived.Test.YtfgajbilegjbpaaFv
import Derived.Test.YtfgajbilegjbpaaLx
import Derived.Test.YtfgajbilegjbpaaSp
set_option linter.unusedVariables false
set_option linter.unusedSimpArgs false
namespace Go.Ink
open Go Go.Proofs Go.RowKit
theorem take_one {row : List Int} {k : Nat} (h : k < row.length) : row.take (k + 1) = row.take k ++ [row.getD k 0] := by
  rw [List.take_succ_eq_append_getElem h, List.getD_eq_getElem?_getD, List.getElem?_eq_getElem h]; rfl

/-- The first i lines, one behind the other. -/
def jndP (l : List (List Int)) : Nat → List Int
  | 0 => []
  | i + 1 => (if 0 < i then jndP l i ++ [10] else jndP l i) ++ l.getD i []
def jndM (l : List (List Int)) : List Int := jndP l l.length
theorem jndP_len (l : List (List Int)) : ∀ i, i ≤ l.length → (jndP l i).length = runesM (l.take i) + (i - 1)
  | 0, _ => by simp [jndP, runesM]
  | i + 1, h => by
    have ih := jndP_len l i (by omega)
    have e : runesM (l.take (i + 1)) = runesM (l.take i) + (l.getD i []).length := by
      unfold runesM
      rw [take_snoc (by omega), List.map_append, List.sum_append, List.getD_eq_getElem?_getD, List.getElem?_eq_getElem (by omega)]
      simp
    rw [jndP, List.length_append, e]
    split
    · rw [List.length_append, ih]; simp; omega
    · omega
theorem jndP_le (l : List (List Int)) (i : Nat) (h : i ≤ l.length) : (jndP l i).length ≤ runesM l + l.length := by
  have h1 := jndP_len l i h
  have h2 : runesM (l.take i) ≤ runesM l := by
    have : runesM l = runesM (l.take i) + runesM (l.drop i) := by
      unfold runesM; rw [← List.sum_append, ← List.map_append, List.take_append_drop]
    omega
  omega
section
variable {F : Nat → Prop} {w : World} {v : Value} {l : List (List Int)}
set_option maxHeartbeats 4000000 in
theorem joined_calls (h : Sl kRow F w v l) (hb : runesM l + l.length ≤ 4194304) : CallsR Try.prog 50 #[v] w fun u w' => Kn w w' ∧ Ow kRune (noB w) (fun _ => False) w' u (jndM l) := by
  obtain ⟨A, c, ad, rV, rc, ra, rfl, hR⟩ := h.rws
  have hlen := hR.len
  refine l_enter (fun _ => False) Try.func50 rfl rfl ?_
  repeat(first|refine lrun_ ?_|(refine lo_boxA rfl rfl ?_;intro _ _ _)|(refine lo_box1 rfl rfl rfl ?_;intro _ _ _)|(refine lo_alloc rfl ?_;intro _ _ _))
  refine l_whileB (fun s : Nat × Option Addr × Nat => l.length - s.1) (fun s => [(0, .slice A l.length c), (3, .slice s.2.1 (jndP l s.1).length s.2.2), (4, .int .i64 (s.1 : Int))]) (fun _ => [])
    (fun s b => s.1 ≤ l.length ∧ Og kRune w b (MK []) (fun _ => False) (.slice s.2.1 (jndP l s.1).length s.2.2) (jndP l s.1)) (0, none, 0) (by repeat (first | exact SubB.nil | refine SubB.cons rfl ?_)) (by repeat(first|exact MSub.refl|refine MSub.keep rfl ?_|exact MSub.nil|apply MSub.drop)) (fun w' hw => ⟨Nat.zero_le _, Ow.nil _ _ _ _⟩) ?_
  rintro ⟨i, A1, c1⟩ b ⟨hi, hO⟩ hkb ih
  simp only at hi hO
  have hjl := jndP_le l i hi
  dsimp only
  by_cases hlt : i < l.length
  · have hjl2 := jndP_le l (i + 1) hlt
    have J : ∀ (b2 : World) (x : List Int) (A2 : Option Addr) (c2 : Nat), x = (if 0 < i then jndP l i ++ [10] else jndP l i) → Og kRune w b2 (MK []) (fun _ => False) (.slice A2 x.length c2) x → ∀ σ', SubB σ' [(0, .slice A l.length c), (3, .slice A2 x.length c2), (4, .int .i64 (i : Int))] → ∀ M', MSub [] M' →
        WL Try.prog Try.f50 (.code (bodyC Try.f50 [1, 1, 0, 1, 0, 0, 1, 0, 0, 1]) :: .inBlock 1 :: .code (bodyC Try.f50 [1, 1, 0, 1, 0, 0, 1, 1]) :: .inLoop (bodyC Try.f50 [1, 1, 0, 1, 0, 0]) :: .inBlock 0 :: [.code (bodyC Try.f50 [1, 1, 1])]) σ' w (fun _ => False) b2 (MK []) M' (fun u w' => Kn w w' ∧ Ow kRune (noB w) (fun _ => False) w' u (jndM l)) := by
      intro b2 x A2 c2 hx hO2 σ' hs M' hM
      refine WL.sub hs hM ?_
      have e : jndP l (i + 1) = x ++ l.getD i [] := by rw [jndP, hx]
      rw [e] at hjl2
      rw [List.length_append] at hjl2
      repeat(first|refine lrun_ ?_|(refine lo_boxA rfl rfl ?_;intro _ _ _)|(refine lo_box1 rfl rfl rfl ?_;intro _ _ _)|(refine lo_alloc rfl ?_;intro _ _ _))
      refine lo_appendS (d := kRune) (ys := l.getD i []) (F2 := fun k => k < w.heap.size) rfl rfl hO2 (fun w' hw => Kn.sl hw.org (hR.rs i hlt).old) (fun j hj ho => by have := (hO2.block j ho).1.1; omega) (by show (x.length + (l.getD i []).length) * 4 ≤ 140737488355328; omega) rfl rfl rfl rfl ?_
      intro w3 A3 n3 w4 hw3 ko3 kp3 hown hog
      rw [← e] at hog ⊢
      repeat(first|refine lrun_ ?_|(refine lo_boxA rfl rfl ?_;intro _ _ _)|(refine lo_box1 rfl rfl rfl ?_;intro _ _ _)|(refine lo_alloc rfl ?_;intro _ _ _))
      exact ih (i + 1, A3, n3) w4 _ ⟨hlt, hog⟩ (by simp only; omega) _ _ (by repeat (first | exact SubB.nil | refine SubB.cons rfl ?_)) (by repeat(first|exact MSub.refl|refine MSub.keep rfl ?_|exact MSub.nil|apply MSub.drop)) fun w' hw' => ⟨hlt, hog.now (fun _ h => h.elim) hw'⟩
    by_cases h0 : 0 < i
    · have hx : jndP l i ++ [10] = (if 0 < i then jndP l i ++ [10] else jndP l i) := by rw [if_pos h0]
      repeat(first|refine lrun_ ?_|(refine lo_boxA rfl rfl ?_;intro _ _ _)|(refine lo_box1 rfl rfl rfl ?_;intro _ _ _)|(refine lo_alloc rfl ?_;intro _ _ _))
      refine l_yes rfl (by omega) ?_
      repeat(first|refine lrun_ ?_|(refine lo_boxA rfl rfl ?_;intro _ _ _)|(refine lo_box1 rfl rfl rfl ?_;intro _ _ _)|(refine lo_alloc rfl ?_;intro _ _ _))
      refine l_yes rfl (by omega) ?_
      repeat(first|refine lrun_ ?_|(refine lo_boxA rfl rfl ?_;intro _ _ _)|(refine lo_box1 rfl rfl rfl ?_;intro _ _ _)|(refine lo_alloc rfl ?_;intro _ _ _))
      refine lo_lit (cs := [.int .i32 10]) rfl (by decide) (by kernel_rfl) rfl ?_
      intro g9 _ _
      refine lo_append1 (d := kRune) (q := 10) rfl rfl hO (fun _ h => h.elim) (by(repeat(first|exact MIn.hd|refine MIn.tl ?_));done) (fun w' hw => ⟨rfl, by decide, by decide⟩) (by show ((jndP l i).length + 1) * 4 ≤ 140737488355328; omega) rfl rfl rfl rfl ?_
      intro w3 A3 c3 w4 hw3 hk3 hk4 hown hog
      repeat(first|refine lops_ ?_|(refine lo_boxA rfl rfl ?_;intro _ _ _)|(refine lo_box1 rfl rfl rfl ?_;intro _ _ _)|(refine lo_alloc rfl ?_;intro _ _ _))
      refine lo_nil ?_
      refine l_baseM (M3 := []) .nil fun w5 hw5 => ?_
      exact J w5 _ A3 c3 hx ((hog.now (fun _ h => h.elim) hw5).mono (fun k hk _ => ⟨hk.1, mk_nil⟩) fun _ h _ => h) _ (by repeat (first | exact SubB.nil | refine SubB.cons rfl ?_)) _ .nil
    · have hx : jndP l i = (if 0 < i then jndP l i ++ [10] else jndP l i) := by rw [if_neg h0]
      repeat(first|refine lrun_ ?_|(refine lo_boxA rfl rfl ?_;intro _ _ _)|(refine lo_box1 rfl rfl rfl ?_;intro _ _ _)|(refine lo_alloc rfl ?_;intro _ _ _))
      refine l_yes rfl (by omega) ?_
      repeat(first|refine lrun_ ?_|(refine lo_boxA rfl rfl ?_;intro _ _ _)|(refine lo_box1 rfl rfl rfl ?_;intro _ _ _)|(refine lo_alloc rfl ?_;intro _ _ _))
      refine l_no rfl (by omega) ?_
      refine l_go .skip ?_
      exact J b _ A1 c1 hx hO _ (by repeat (first | exact SubB.nil | refine SubB.cons rfl ?_)) _ .nil
  · obtain rfl : i = l.length := by omega
    repeat(first|refine lrun_ ?_|(refine lo_boxA rfl rfl ?_;intro _ _ _)|(refine lo_box1 rfl rfl rfl ?_;intro _ _ _)|(refine lo_alloc rfl ?_;intro _ _ _))
    refine l_no rfl (by omega) ?_
    refine l_go (.exit rfl) ?_
    repeat(first|refine lrun_ ?_|(refine lo_boxA rfl rfl ?_;intro _ _ _)|(refine lo_box1 rfl rfl rfl ?_;intro _ _ _)|(refine lo_alloc rfl ?_;intro _ _ _))
    exact l_ret1 rfl rfl fun w7 hw => ⟨hw.org, (hO.now (fun _ h => h.elim) hw).mono (fun k hk _ => hk.1) fun _ h _ => h⟩
def thereP (l : List (List Int)) (p : Ps) : Prop := 0 ≤ p.1 ∧ p.1 < l.length ∧ 0 ≤ p.2 ∧ p.2 ≤ (l.getD p.1.toNat []).length
instance (l : List (List Int)) (p : Ps) : Decidable (thereP l p) := by unfold thereP; infer_instance
theorem there_calls {p : Ps} (h : Sl kRow F w v l) : CallsR Try.prog 47 #[v, posV p] w fun u w' => Kn w w' ∧ u = .bool (decide (thereP l p)) := by
  obtain ⟨A, c, ad, rV, rc, ra, rfl, hR⟩ := h.rws
  have hlen := hR.len
  refine l_enter (fun _ => False) Try.func47 rfl rfl ?_
  by_cases h1 : 0 ≤ p.1
  case neg =>
    rw [show decide (thereP l p) = false from decide_eq_false fun h => h1 h.1]
    repeat(first|refine lrun_ ?_|(refine lo_boxA rfl rfl ?_;intro _ _ _)|(refine lo_box1 rfl rfl rfl ?_;intro _ _ _)|(refine lo_alloc rfl ?_;intro _ _ _))
    refine l_draw [(0, 0), (1, 0), (2, 0), (3, 0), (4, 0), (5, 0), (6, 0), (7, 0), (8, 0), (9, 0), (10, 0), (11, 0), (12, 0), (13, 0), (14, 0), (15, 0), (16, 0), (17, 0), (18, 0), (19, 0), (20, 0), (21, 0), (22, 0), (23, 0), (24, 0), (25, 0), (26, 0)] (by kernel_rfl) (by kernel_rfl) rfl (by kernel_rfl) ?_
    repeat(first|refine lrund_ ?_|(refine ld_open rfl ?_;first|(refine ld_boxA rfl wy_ rfl ?_;intro _ _ _)|(refine ld_box1 rfl rfl wy_ rfl ?_;intro _ _ _)|(refine ld_alloc wy_ rfl ?_;intro _ _ _)))
    repeat(first|refine lrun_ ?_|(refine lo_boxA rfl rfl ?_;intro _ _ _)|(refine lo_box1 rfl rfl rfl ?_;intro _ _ _)|(refine lo_alloc rfl ?_;intro _ _ _))
    exact l_ret1 rfl rfl fun w' hw => ⟨hw.org, rfl⟩
  by_cases h2 : p.1 < l.length
  case neg =>
    rw [show decide (thereP l p) = false from decide_eq_false fun h => h2 h.2.1]
    repeat(first|refine lrun_ ?_|(refine lo_boxA rfl rfl ?_;intro _ _ _)|(refine lo_box1 rfl rfl rfl ?_;intro _ _ _)|(refine lo_alloc rfl ?_;intro _ _ _))
    refine l_draw [(0, 0), (1, 0), (2, 0), (3, 0), (4, 0), (5, 0), (6, 0), (7, 0), (8, 0), (9, 0), (10, 0), (11, 0), (12, 0), (13, 0), (14, 0), (15, 0), (16, 0), (17, 0), (18, 0), (19, 0), (20, 0), (21, 0), (22, 0), (23, 0), (24, 0), (25, 0), (26, 0)] (by kernel_rfl) (by kernel_rfl) rfl (by kernel_rfl) ?_
    repeat(first|refine lrund_ ?_|(refine ld_open rfl ?_;first|(refine ld_boxA rfl wy_ rfl ?_;intro _ _ _)|(refine ld_box1 rfl rfl wy_ rfl ?_;intro _ _ _)|(refine ld_alloc wy_ rfl ?_;intro _ _ _)))
    repeat(first|refine lrun_ ?_|(refine lo_boxA rfl rfl ?_;intro _ _ _)|(refine lo_box1 rfl rfl rfl ?_;intro _ _ _)|(refine lo_alloc rfl ?_;intro _ _ _))
    exact l_ret1 rfl rfl fun w' hw => ⟨hw.org, rfl⟩
  by_cases h3 : 0 ≤ p.2
  case neg =>
    rw [show decide (thereP l p) = false from decide_eq_false fun h => h3 h.2.2.1]
    repeat(first|refine lrun_ ?_|(refine lo_boxA rfl rfl ?_;intro _ _ _)|(refine lo_box1 rfl rfl rfl ?_;intro _ _ _)|(refine lo_alloc rfl ?_;intro _ _ _))
    refine l_draw [(0, 0), (1, 0), (2, 0), (3, 0), (4, 0), (5, 0), (6, 0), (7, 0), (8, 0), (9, 0), (10, 0), (11, 0), (12, 0), (13, 0), (14, 0), (15, 0), (16, 0), (17, 0), (18, 0), (19, 0), (20, 0), (21, 0), (22, 0), (23, 0), (24, 0), (25, 0), (26, 0)] (by kernel_rfl) (by kernel_rfl) rfl (by kernel_rfl) ?_
    repeat(first|refine lrund_ ?_|(refine ld_open rfl ?_;first|(refine ld_boxA rfl wy_ rfl ?_;intro _ _ _)|(refine ld_box1 rfl rfl wy_ rfl ?_;intro _ _ _)|(refine ld_alloc wy_ rfl ?_;intro _ _ _)))
    repeat(first|refine lrun_ ?_|(refine lo_boxA rfl rfl ?_;intro _ _ _)|(refine lo_box1 rfl rfl rfl ?_;intro _ _ _)|(refine lo_alloc rfl ?_;intro _ _ _))
    exact l_ret1 rfl rfl fun w' hw => ⟨hw.org, rfl⟩
  obtain ⟨p1, p2⟩ := p
  simp only at h1 h2 h3
  obtain ⟨i, rfl⟩ : ∃ i : Nat, p1 = (i : Int) := ⟨p1.toNat, by omega⟩
  have hil : i < l.length := by omega
  rw [show decide (thereP l ((i : Int), p2)) = decide (p2 ≤ (l.getD i []).length) from decide_eq_decide.2 ⟨fun h => h.2.2.2, fun h4 => ⟨h1, h2, h3, h4⟩⟩]
  repeat(first|refine lrun_ ?_|(refine lo_boxA rfl rfl ?_;intro _ _ _)|(refine lo_box1 rfl rfl rfl ?_;intro _ _ _)|(refine lo_alloc rfl ?_;intro _ _ _))
  refine l_draw [(0, 0), (1, 0), (2, 0), (3, 0), (4, 0), (5, 0), (6, 0), (7, 0), (8, 0), (9, 0), (10, 0), (11, 0), (12, 0), (13, 0), (14, 0), (15, 0), (16, 0), (17, 0), (18, 0), (19, 0), (20, 0), (21, 0), (22, 0), (23, 0), (24, 0), (25, 0), (26, 0)] (by kernel_rfl) (by kernel_rfl) rfl (by kernel_rfl) ?_
  repeat(first|refine lrund_ ?_|(refine ld_open rfl ?_;first|(refine ld_boxA rfl wy_ rfl ?_;intro _ _ _)|(refine ld_box1 rfl rfl wy_ rfl ?_;intro _ _ _)|(refine ld_alloc wy_ rfl ?_;intro _ _ _)))
  repeat(first|refine lrun_ ?_|(refine lo_boxA rfl rfl ?_;intro _ _ _)|(refine lo_box1 rfl rfl rfl ?_;intro _ _ _)|(refine lo_alloc rfl ?_;intro _ _ _))
  exact l_ret1 rfl rfl fun w' hw => ⟨hw.org, rfl⟩
/-- How many runes are ahead of line i. -/
def ofs (l : List (List Int)) (i : Nat) : Nat := runesM (l.take i) + i
theorem ofs_succ {i : Nat} (h : i < l.length) : ofs l (i + 1) = ofs l i + ((l.getD i []).length + 1) := by
  unfold ofs runesM
  rw [take_snoc h, List.map_append, List.sum_append, List.getD_eq_getElem?_getD, List.getElem?_eq_getElem h]
  simp
  omega
theorem ofs_le (i : Nat) : ofs l i ≤ runesM l + i := by
  have : runesM l = runesM (l.take i) + runesM (l.drop i) := by
    unfold runesM; rw [← List.sum_append, ← List.map_append, List.take_append_drop]
  unfold ofs
  omega
set_option maxHeartbeats 4000000 in
theorem offset_calls {p : Ps} {g : Nat} (hg : w.cell? ⟨g, 0, none⟩ = some v) (h : Sl kRow F w v l) (hb : runesM l + l.length ≤ 4194304) (hp : P64 p) :
    CallsR Try.prog 28 #[.pointer (some ⟨g, 0, none⟩), posV p] w fun u w' => Kn w w' ∧ u = .tuple #[.int .i64 (if thereP l p then p.2 + (ofs l p.1.toNat : Nat) else 0), .int .i64 (if thereP l p then 0 else 2)] := by
  obtain ⟨A, c, ad, rV, rc, ra, rfl, hR⟩ := h.rws
  have hlen := hR.len
  refine l_enter (fun _ => False) Try.func28 rfl rfl ?_
  repeat(first|refine lrun_ ?_|(refine lo_boxA rfl rfl ?_;intro _ _ _)|(refine lo_box1 rfl rfl rfl ?_;intro _ _ _)|(refine lo_alloc rfl ?_;intro _ _ _))
  refine l_draw [(0, 0), (1, 0), (2, 0), (3, 0), (4, 0), (5, 1), (6, 0)] (by kernel_rfl) (by kernel_rfl) rfl (by kernel_rfl) ?_
  repeat(first|refine lrund_ ?_|(refine ld_open rfl ?_;first|(refine ld_boxA rfl wy_ rfl ?_;intro _ _ _)|(refine ld_box1 rfl rfl wy_ rfl ?_;intro _ _ _)|(refine ld_alloc wy_ rfl ?_;intro _ _ _)))
  refine ld_open rfl ?_; refine ld_call (n_call rfl) wy_ rfl (fun w' hw => there_calls (p := p) (Kn.sl hw.org h)) ?_
  repeat(first|refine lrund_ ?_|(refine ld_open rfl ?_;first|(refine ld_boxA rfl wy_ rfl ?_;intro _ _ _)|(refine ld_box1 rfl rfl wy_ rfl ?_;intro _ _ _)|(refine ld_alloc wy_ rfl ?_;intro _ _ _)))
  by_cases ht : thereP l p
  case neg =>
    rw [decide_eq_false ht, if_neg ht, if_neg ht]
    refine l_true rfl ?_
    repeat(first|refine lrun_ ?_|(refine lo_boxA rfl rfl ?_;intro _ _ _)|(refine lo_box1 rfl rfl rfl ?_;intro _ _ _)|(refine lo_alloc rfl ?_;intro _ _ _))
    exact l_retR2 rfl (by repeat(first|exact LRes.nil|refine LRes.tmp rfl ?_|refine LRes.agg rfl (by(repeat(first|exact MIn.hd|refine MIn.tl ?_));done) (by rfl) (by rfl) ?_|refine LRes.one rfl (by(repeat(first|exact MIn.hd|refine MIn.tl ?_));done) (by rfl) ?_)) fun w' hw => ⟨hw.org, rfl⟩
  rw [decide_eq_true ht, if_pos ht, if_pos ht]
  obtain ⟨p1, p2⟩ := p
  obtain ⟨h1, h2, h3, h4⟩ := ht
  simp only at h1 h2 h3 h4
  obtain ⟨n, rfl⟩ : ∃ n : Nat, p1 = (n : Int) := ⟨p1.toNat, by omega⟩
  simp only [Int.toNat_natCast] at h4 ⊢
  have hrl := hR.rl n
  refine l_false rfl ?_
  refine l_go .skip ?_
  repeat(first|refine lrun_ ?_|(refine lo_boxA rfl rfl ?_;intro _ _ _)|(refine lo_box1 rfl rfl rfl ?_;intro _ _ _)|(refine lo_alloc rfl ?_;intro _ _ _))
  rename_i g3 _ _
  have hol := ofs_le (l := l) n
  refine l_while (fun i : Nat => n - i) (fun i => [(0, .pointer (some ⟨g, 0, none⟩)), (3, .pointer (some ⟨g3, 0, none⟩)), (6, .int .i64 (p2 + (ofs l i : Nat))), (7, .int .i64 (i : Int))]) (fun _ => [(g3, cb [.int .i64 n, .int .i64 p2] 29)]) (fun i => i ≤ n) 0 (by simp only [show ofs l 0 = 0 from rfl, Int.natCast_zero, Int.add_zero]; exact (by repeat (first | exact SubB.nil | refine SubB.cons rfl ?_))) (by repeat(first|exact MSub.refl|refine MSub.keep rfl ?_|exact MSub.nil|apply MSub.drop)) (Nat.zero_le _) ?_
  intro i hi ih
  by_cases hlt : i < n
  · have hil : i < l.length := by omega
    have hrl2 := hR.rl i
    have hos := ofs_succ hil
    have hol2 := ofs_le (l := l) (i + 1)
    have ih2 := ih (i + 1) hlt (by omega)
    rw [show p2 + ((ofs l (i + 1) : Nat) : Int) = p2 + ((ofs l i : Nat) : Int) + (((l.getD i []).length : Int) + 1) by rw [hos]; omega] at ih2
    repeat(first|refine lrun_ ?_|(refine lo_boxA rfl rfl ?_;intro _ _ _)|(refine lo_box1 rfl rfl rfl ?_;intro _ _ _)|(refine lo_alloc rfl ?_;intro _ _ _))
    refine l_yes rfl (by omega) ?_
    repeat(first|refine lrun_ ?_|(refine lo_boxA rfl rfl ?_;intro _ _ _)|(refine lo_box1 rfl rfl rfl ?_;intro _ _ _)|(refine lo_alloc rfl ?_;intro _ _ _))
    exact ih2 _ _ (by repeat (first | exact SubB.nil | refine SubB.cons rfl ?_)) (by repeat(first|exact MSub.refl|refine MSub.keep rfl ?_|exact MSub.nil|apply MSub.drop))
  · obtain rfl : i = n := by omega
    repeat(first|refine lrun_ ?_|(refine lo_boxA rfl rfl ?_;intro _ _ _)|(refine lo_box1 rfl rfl rfl ?_;intro _ _ _)|(refine lo_alloc rfl ?_;intro _ _ _))
    refine l_no rfl (by omega) ?_
    refine l_go (.exit rfl) ?_
    repeat(first|refine lrun_ ?_|(refine lo_boxA rfl rfl ?_;intro _ _ _)|(refine lo_box1 rfl rfl rfl ?_;intro _ _ _)|(refine lo_alloc rfl ?_;intro _ _ _))
    exact l_retR2 rfl (by repeat(first|exact LRes.nil|refine LRes.tmp rfl ?_|refine LRes.agg rfl (by(repeat(first|exact MIn.hd|refine MIn.tl ?_));done) (by rfl) (by rfl) ?_|refine LRes.one rfl (by(repeat(first|exact MIn.hd|refine MIn.tl ?_));done) (by rfl) ?_)) fun w' hw => ⟨hw.org, rfl⟩
end

/-! ### Lines one behind the other -/
theorem jndP_app (l : List (List Int)) (m : List (List Int)) : ∀ i, i ≤ l.length → jndP (l ++ m) i = jndP l i
  | 0, _ => rfl
  | i + 1, h => by
    have e : (l ++ m).getD i [] = l.getD i [] := by rw [List.getD_eq_getElem?_getD, List.getElem?_append_left (by omega), List.getD_eq_getElem?_getD]
    rw [jndP, jndP, jndP_app l m i (by omega), e]
theorem snoc_ind {α : Type} {p : List α → Prop} (h0 : p []) (h1 : ∀ l x, p l → p (l ++ [x])) (l : List α) : p l := by
  rw [← List.reverse_reverse l]
  induction l.reverse with
  | nil => exact h0
  | cons x l ih => rw [List.reverse_cons]; exact h1 _ x ih
def preJ (u : List (List Int)) : List Int := if u = [] then [] else jndM u ++ [10]
def postJ (v : List (List Int)) : List Int := if v = [] then [] else 10 :: jndM v
theorem jnd_snoc (l : List (List Int)) (x : List Int) : jndM (l ++ [x]) = preJ l ++ x := by
  unfold jndM preJ
  rw [List.length_append, List.length_singleton, jndP, jndP_app l [x] l.length (Nat.le_refl _)]
  have e : (l ++ [x]).getD l.length [] = x := by rw [List.getD_eq_getElem?_getD, List.getElem?_append_right (Nat.le_refl _), Nat.sub_self]; rfl
  rw [e]
  by_cases h : l = []
  · subst h; rfl
  · rw [if_pos (List.length_pos_iff.2 h), if_neg h]; rfl
theorem jnd_one (x : List Int) : jndM [x] = x := by
  have := jnd_snoc [] x
  rw [List.nil_append] at this
  rw [this]; rfl
theorem jnd_nil : jndM [] = [] := rfl
theorem pre_snoc (u : List (List Int)) (x : List Int) : preJ (u ++ [x]) = preJ u ++ x ++ [10] := by
  conv => lhs; unfold preJ
  rw [if_neg (by simp), jnd_snoc]
theorem pre_app (u : List (List Int)) : ∀ v, preJ (u ++ v) = preJ u ++ preJ v := by
  refine snoc_ind (by simp [preJ]) fun v x ih => ?_
  rw [← List.append_assoc, pre_snoc, ih, pre_snoc]; simp
theorem pre_len (u : List (List Int)) : (preJ u).length = runesM u + u.length := by
  by_cases h : u = []
  · subst h; rfl
  · have h0 := List.length_pos_iff.2 h
    unfold preJ
    rw [if_neg h, List.length_append]
    show (jndP u u.length).length + 1 = _
    rw [jndP_len u u.length (Nat.le_refl _), List.take_length]
    omega
theorem jnd_mid (u : List (List Int)) (x : List Int) (v : List (List Int)) : jndM (u ++ [x] ++ v) = preJ u ++ x ++ postJ v := by
  revert v
  refine snoc_ind ?_ fun v y _ => ?_
  · rw [List.append_nil, jnd_snoc]; simp [postJ]
  · rw [← List.append_assoc, jnd_snoc, pre_app, pre_snoc]
    have : postJ (v ++ [y]) = 10 :: (preJ v ++ y) := by unfold postJ; rw [if_neg (by simp), jnd_snoc]
    rw [this]
    simp
theorem pre_ofs (l : List (List Int)) (i : Nat) (h : i ≤ l.length) : (preJ (l.take i)).length = ofs l i := by
  rw [pre_len, List.length_take, Nat.min_eq_left h]; rfl
def spT (s : List (List Int) × List Int) (r : Int) : List (List Int) × List Int := if r = 10 then (s.1 ++ [s.2], []) else (s.1, s.2 ++ [r])
def spF (s : List (List Int) × List Int) (x : List Int) : List (List Int) × List Int := x.foldl spT s
theorem spF_app (s : List (List Int) × List Int) (x y : List Int) : spF s (x ++ y) = spF (spF s x) y := List.foldl_append
theorem spM_F (x : List Int) : ∀ k, k ≤ x.length → spM x k = spF ([], []) (x.take k)
  | 0, _ => rfl
  | k + 1, h => by
    rw [take_one (by omega), spF_app, ← spM_F x k (by omega)]
    rfl
theorem spF_plain {x : List Int} (h : 10 ∉ x) (s : List (List Int) × List Int) : spF s x = (s.1, s.2 ++ x) := by
  induction x generalizing s with
  | nil => simp [spF]
  | cons r x ih =>
    have hr : r ≠ 10 := fun e => h (by rw [e]; simp)
    show spF (spT s r) x = _
    rw [ih (fun hm => h (List.mem_cons_of_mem _ hm))]
    unfold spT
    rw [if_neg hr]
    simp
def preS (s : List (List Int) × List Int) (u : List (List Int)) : List (List Int) × List Int := u.foldl (fun t x => (t.1 ++ [t.2 ++ x], [])) s
theorem preS_nil (ys u : List (List Int)) : preS (ys, []) u = (ys ++ u, []) := by
  induction u generalizing ys with
  | nil => simp [preS]
  | cons x u ih =>
    show preS (ys ++ [[] ++ x], []) u = _
    rw [ih]
    simp
theorem spF_pre {u : List (List Int)} (h : ∀ x ∈ u, 10 ∉ x) (s : List (List Int) × List Int) : spF s (preJ u) = preS s u := by
  revert h
  refine snoc_ind (p := fun u => (∀ x ∈ u, 10 ∉ x) → spF s (preJ u) = preS s u) ?_ ?_ u
  · intro _; rfl
  · intro u x ih h
    rw [pre_snoc, spF_app, spF_app, ih fun y hy => h y (List.mem_append.2 (.inl hy)), spF_plain (h x (by simp))]
    show spT _ 10 = _
    unfold spT
    rw [if_pos rfl]
    unfold preS
    rw [List.foldl_append]
    rfl
theorem split_jnd {g : List (List Int)} (h : ∀ x ∈ g, 10 ∉ x) (hg : g ≠ []) : splitM (jndM g) = g := by
  obtain ⟨u, x, rfl⟩ : ∃ u x, g = u ++ [x] := ⟨g.dropLast, g.getLast hg, (List.dropLast_concat_getLast hg).symm⟩
  unfold splitM
  rw [spM_F _ _ (Nat.le_refl _), List.take_length, jnd_snoc, spF_app, spF_pre (fun y hy => h y (List.mem_append.2 (.inl hy))), spF_plain (h x (by simp)), preS_nil]
  simp
theorem spM_jnd (x : List Int) : ∀ k, k ≤ x.length → jndM ((spM x k).1 ++ [(spM x k).2]) = x.take k ∧ ∀ l ∈ (spM x k).1 ++ [(spM x k).2], 10 ∉ l
  | 0, _ => ⟨rfl, by intro l hl; obtain rfl : l = [] := by simpa [spM] using hl
                     simp⟩
  | k + 1, h => by
    obtain ⟨i1, i2⟩ := spM_jnd x k (by omega)
    rw [jnd_snoc] at i1
    have e : x.take (k + 1) = x.take k ++ [x.getD k 0] := take_one (by omega)
    have hs : spM x (k + 1) = if x.getD k 0 = 10 then ((spM x k).1 ++ [(spM x k).2], []) else ((spM x k).1, (spM x k).2 ++ [x.getD k 0]) := rfl
    rw [e, ← i1, hs]
    generalize spM x k = t at *
    obtain ⟨ys, z⟩ := t
    simp only at i2 ⊢
    by_cases h1 : x.getD k 0 = 10
    · rw [if_pos h1]
      refine ⟨by simp only [jnd_snoc, pre_snoc, h1, List.append_nil], fun l hl => ?_⟩
      rcases List.mem_append.1 hl with hl | hl
      · exact i2 l hl
      · obtain rfl := List.mem_singleton.1 hl; simp
    · rw [if_neg h1]
      refine ⟨by simp only [jnd_snoc, List.append_assoc], fun l hl => ?_⟩
      rcases List.mem_append.1 hl with hl | hl
      · exact i2 l (List.mem_append.2 (.inl hl))
      · obtain rfl := List.mem_singleton.1 hl
        intro hm
        rcases List.mem_append.1 hm with hm | hm
        · exact i2 _ (List.mem_append.2 (.inr (by simp))) hm
        · exact h1 (List.mem_singleton.1 hm).symm
theorem jnd_split (x : List Int) : jndM (splitM x) = x := by
  have := (spM_jnd x x.length (Nat.le_refl _)).1
  rwa [List.take_length] at this
theorem split_plain (x : List Int) : ∀ l ∈ splitM x, 10 ∉ l := (spM_jnd x x.length (Nat.le_refl _)).2
theorem split_ne (x : List Int) : splitM x ≠ [] := by unfold splitM; simp
theorem split_len (x : List Int) : (splitM x).length ≤ x.length + 1 := by
  have := spM_len x x.length
  unfold splitM
  rw [List.length_append, List.length_singleton]; omega
theorem jnd_len (l : List (List Int)) : (jndM l).length = runesM l + (l.length - 1) := by
  unfold jndM
  rw [jndP_len l l.length (Nat.le_refl _), List.take_length]
theorem jnd_app3 (u : List (List Int)) {m : List (List Int)} (hm : m ≠ []) (v : List (List Int)) : jndM (u ++ m ++ v) = preJ u ++ jndM m ++ postJ v := by
  obtain ⟨a, x, rfl⟩ : ∃ a x, m = a ++ [x] := ⟨m.dropLast, m.getLast hm, (List.dropLast_concat_getLast hm).symm⟩
  rw [← List.append_assoc u, jnd_mid, pre_app, jnd_snoc]
  simp
end Go.Ink
