/-
  slices.Repeat of runes.
  Blanks behind a row (block$1).
  block: one round of its loop.
  block.
-/
import Derived.Test.YtepjngapfmfkeaaBw
import Derived.Test.YtepjngapfmfkeaaCp2
import Derived.Test.YtepjngapfmfkeaaV1
import Derived.Test.YtepjngapfmfkeaaQA
set_option linter.unusedVariables false
set_option linter.unusedSimpArgs false
namespace Go.Ink
open Go Go.Proofs Go.RowKit

theorem mul64_calls {w : World} {x y : Nat} (hx : x < 4294967296) (hy : y < 4294967296) : CallsR Try.prog 84 #[.int .u64 (x : Int), .int .u64 (y : Int)] w fun u w' => Kn w w' ∧ u = .tuple #[.int .u64 0, .int .u64 ((x * y : Nat) : Int)] := by
  have hxy : x * y ≤ 4294967295 * 4294967295 := Nat.mul_le_mul (by omega) (by omega)
  have hx1 : x / 4294967296 = 0 := Nat.div_eq_of_lt hx
  have hy1 : y / 4294967296 = 0 := Nat.div_eq_of_lt hy
  refine l_enter (fun _ => False) Try.func84 rfl rfl ?_
  repeat(first|refine lrun_ ?_|(refine lo_boxA rfl rfl ?_;intro _ _ _)|(refine lo_box1 rfl rfl rfl ?_;intro _ _ _)|(refine lo_alloc rfl ?_;intro _ _ _))
  refine lo_rn (fun _ => r_and rfl rfl (and_mask hx)) rfl ?_
  repeat(first|refine lrun_ ?_|(refine lo_boxA rfl rfl ?_;intro _ _ _)|(refine lo_box1 rfl rfl rfl ?_;intro _ _ _)|(refine lo_alloc rfl ?_;intro _ _ _))
  refine lo_rn (fun _ => r_shr rfl rfl (by decide) shr_32) rfl ?_
  rw [hx1]
  repeat(first|refine lrun_ ?_|(refine lo_boxA rfl rfl ?_;intro _ _ _)|(refine lo_box1 rfl rfl rfl ?_;intro _ _ _)|(refine lo_alloc rfl ?_;intro _ _ _))
  refine lo_rn (fun _ => r_and rfl rfl (and_mask hy)) rfl ?_
  repeat(first|refine lrun_ ?_|(refine lo_boxA rfl rfl ?_;intro _ _ _)|(refine lo_box1 rfl rfl rfl ?_;intro _ _ _)|(refine lo_alloc rfl ?_;intro _ _ _))
  refine lo_rn (fun _ => r_shr rfl rfl (by decide) shr_32) rfl ?_
  rw [hy1]
  repeat(first|refine lrun_ ?_|(refine lo_boxA rfl rfl ?_;intro _ _ _)|(refine lo_box1 rfl rfl rfl ?_;intro _ _ _)|(refine lo_alloc rfl ?_;intro _ _ _))
  refine lo_rn (fun _ => r_mulW (c := ((x * y : Nat) : Int)) rfl rfl (by rw [← Int.natCast_mul]; exact wrap_u64 (by omega) (by omega))) rfl ?_
  repeat(first|refine lrun_ ?_|(refine lo_boxA rfl rfl ?_;intro _ _ _)|(refine lo_box1 rfl rfl rfl ?_;intro _ _ _)|(refine lo_alloc rfl ?_;intro _ _ _))
  refine lo_rn (fun _ => r_mulW (c := 0) rfl rfl (by simp [IntKind.wrap, IntKind.signed])) rfl ?_
  repeat(first|refine lrun_ ?_|(refine lo_boxA rfl rfl ?_;intro _ _ _)|(refine lo_box1 rfl rfl rfl ?_;intro _ _ _)|(refine lo_alloc rfl ?_;intro _ _ _))
  refine lo_rn (fun _ => r_shr rfl rfl (by decide) shr_32) rfl ?_
  repeat(first|refine lrun_ ?_|(refine lo_boxA rfl rfl ?_;intro _ _ _)|(refine lo_box1 rfl rfl rfl ?_;intro _ _ _)|(refine lo_alloc rfl ?_;intro _ _ _))
  refine lo_rn (fun _ => r_addW (c := ((x * y / 4294967296 : Nat) : Int)) rfl rfl (by rw [Int.zero_add]; exact wrap_u64 (by omega) (by omega))) rfl ?_
  repeat(first|refine lrun_ ?_|(refine lo_boxA rfl rfl ?_;intro _ _ _)|(refine lo_box1 rfl rfl rfl ?_;intro _ _ _)|(refine lo_alloc rfl ?_;intro _ _ _))
  refine lo_rn (fun _ => r_and rfl rfl (and_mask (by omega))) rfl ?_
  repeat(first|refine lrun_ ?_|(refine lo_boxA rfl rfl ?_;intro _ _ _)|(refine lo_box1 rfl rfl rfl ?_;intro _ _ _)|(refine lo_alloc rfl ?_;intro _ _ _))
  refine lo_rn (fun _ => r_shr (c := 0) rfl rfl (by decide) (by rw [shr_32]; omega)) rfl ?_
  repeat(first|refine lrun_ ?_|(refine lo_boxA rfl rfl ?_;intro _ _ _)|(refine lo_box1 rfl rfl rfl ?_;intro _ _ _)|(refine lo_alloc rfl ?_;intro _ _ _))
  refine lo_rn (fun _ => r_mulW (c := 0) rfl rfl (by simp [IntKind.wrap, IntKind.signed])) rfl ?_
  repeat(first|refine lrun_ ?_|(refine lo_boxA rfl rfl ?_;intro _ _ _)|(refine lo_box1 rfl rfl rfl ?_;intro _ _ _)|(refine lo_alloc rfl ?_;intro _ _ _))
  refine lo_rn (fun _ => r_addW (c := ((x * y / 4294967296 : Nat) : Int)) rfl rfl (by rw [Int.add_zero]; exact wrap_u64 (by omega) (by omega))) rfl ?_
  repeat(first|refine lrun_ ?_|(refine lo_boxA rfl rfl ?_;intro _ _ _)|(refine lo_box1 rfl rfl rfl ?_;intro _ _ _)|(refine lo_alloc rfl ?_;intro _ _ _))
  refine lo_rn (fun _ => r_mulW (c := 0) rfl rfl (by simp [IntKind.wrap, IntKind.signed])) rfl ?_
  repeat(first|refine lrun_ ?_|(refine lo_boxA rfl rfl ?_;intro _ _ _)|(refine lo_box1 rfl rfl rfl ?_;intro _ _ _)|(refine lo_alloc rfl ?_;intro _ _ _))
  refine lo_rn (fun _ => r_addW (c := 0) rfl rfl (by simp [IntKind.wrap, IntKind.signed])) rfl ?_
  repeat(first|refine lrun_ ?_|(refine lo_boxA rfl rfl ?_;intro _ _ _)|(refine lo_box1 rfl rfl rfl ?_;intro _ _ _)|(refine lo_alloc rfl ?_;intro _ _ _))
  refine lo_rn (fun _ => r_shr (c := 0) rfl rfl (by decide) (by rw [shr_32]; omega)) rfl ?_
  repeat(first|refine lrun_ ?_|(refine lo_boxA rfl rfl ?_;intro _ _ _)|(refine lo_box1 rfl rfl rfl ?_;intro _ _ _)|(refine lo_alloc rfl ?_;intro _ _ _))
  refine lo_rn (fun _ => r_addW (c := 0) rfl rfl (by simp [IntKind.wrap, IntKind.signed])) rfl ?_
  repeat(first|refine lrun_ ?_|(refine lo_boxA rfl rfl ?_;intro _ _ _)|(refine lo_box1 rfl rfl rfl ?_;intro _ _ _)|(refine lo_alloc rfl ?_;intro _ _ _))
  refine lo_rn (fun _ => r_mulW (c := ((x * y : Nat) : Int)) rfl rfl (by rw [← Int.natCast_mul]; exact wrap_u64 (by omega) (by omega))) rfl ?_
  repeat(first|refine lrun_ ?_|(refine lo_boxA rfl rfl ?_;intro _ _ _)|(refine lo_box1 rfl rfl rfl ?_;intro _ _ _)|(refine lo_alloc rfl ?_;intro _ _ _))
  exact l_retR2 rfl (by repeat(first|exact LRes.nil|refine LRes.tmp rfl ?_|refine LRes.agg rfl (by(repeat(first|exact MIn.hd|refine MIn.tl ?_));done) (by rfl) (by rfl) ?_|refine LRes.one rfl (by(repeat(first|exact MIn.hd|refine MIn.tl ?_));done) (by rfl) ?_)) fun w hw => ⟨hw.org, rfl⟩
theorem mul_calls {w : World} {x y : Nat} (hx : x < 4294967296) (hy : y < 4294967296) : CallsR Try.prog 80 #[.int .u64 (x : Int), .int .u64 (y : Int)] w fun u w' => Kn w w' ∧ u = .tuple #[.int .u64 0, .int .u64 ((x * y : Nat) : Int)] := by
  refine l_enter (fun _ => False) Try.func80 rfl rfl ?_
  repeat(first|refine lrun_ ?_|(refine lo_boxA rfl rfl ?_;intro _ _ _)|(refine lo_box1 rfl rfl rfl ?_;intro _ _ _)|(refine lo_alloc rfl ?_;intro _ _ _))
  refine l_false rfl ?_
  repeat(first|refine lrun_ ?_|(refine lo_boxA rfl rfl ?_;intro _ _ _)|(refine lo_box1 rfl rfl rfl ?_;intro _ _ _)|(refine lo_alloc rfl ?_;intro _ _ _))
  refine lo_call (n_call rfl) rfl (fun w' hw => mul64_calls hx hy) ?_
  repeat(first|refine lrun_ ?_|(refine lo_boxA rfl rfl ?_;intro _ _ _)|(refine lo_box1 rfl rfl rfl ?_;intro _ _ _)|(refine lo_alloc rfl ?_;intro _ _ _))
  exact l_retR2 rfl (by repeat(first|exact LRes.nil|refine LRes.tmp rfl ?_|refine LRes.agg rfl (by(repeat(first|exact MIn.hd|refine MIn.tl ?_));done) (by rfl) (by rfl) ?_|refine LRes.one rfl (by(repeat(first|exact MIn.hd|refine MIn.tl ?_));done) (by rfl) ?_)) fun w hw => ⟨hw.org, rfl⟩
def repX (x : List Int) (n : Nat) : List Int := (List.replicate n x).flatten
theorem repX_len (x : List Int) (n : Nat) : (repX x n).length = n * x.length := by
  unfold repX; simp [List.length_flatten]
theorem repX_add (x : List Int) (a b : Nat) : repX x (a + b) = repX x a ++ repX x b := by
  unfold repX; rw [← List.flatten_append, List.replicate_append_replicate]
theorem repX_take {x : List Int} {a b k : Nat} (h1 : k ≤ a * x.length) (h2 : k ≤ b * x.length) : (repX x a).take k = (repX x b).take k := by
  rcases Nat.le_total a b with h | h
  · obtain ⟨c, rfl⟩ := Nat.exists_eq_add_of_le h
    rw [repX_add, List.take_append_of_le_length (by rw [repX_len]; exact h1)]
  · obtain ⟨c, rfl⟩ := Nat.exists_eq_add_of_le h
    rw [repX_add, List.take_append_of_le_length (by rw [repX_len]; exact h2)]
theorem repX_step {x zs : List Int} {n q m k : Nat} (hm : m = q * x.length) (hq : q ≤ n) (hl : zs.length = n * x.length) (hz : zs.take m = (repX x n).take m) (hk : k = min m (n * x.length - m)) :
    (zs.take m ++ (zs.take m).take (n * x.length - m) ++ zs.drop (m + min (zs.take m).length (n * x.length - m))).take (m + k) = (repX x n).take (m + k) := by
  have hmn : m ≤ n * x.length := by rw [hm]; exact Nat.mul_le_mul_right _ hq
  have e1 : (zs.take m).length = m := by rw [List.length_take]; omega
  have e2 : ((zs.take m).take (n * x.length - m)).length = k := by rw [List.length_take, e1]; omega
  have e3 : (zs.take m ++ (zs.take m).take (n * x.length - m)).length = m + k := by rw [List.length_append, e1, e2]
  rw [List.take_append_of_le_length (by omega), List.take_of_length_le (by omega), hz]
  have hs : repX x n = repX x q ++ repX x (n - q) := by rw [← repX_add]; congr 1; omega
  have hq' : (repX x q).length = m := by rw [repX_len, hm]
  have hnq : (n - q) * x.length = n * x.length - m := by rw [Nat.sub_mul, hm]
  have e4 : (repX x n).take m = repX x q := by rw [hs, List.take_append_of_le_length (by omega), List.take_of_length_le (by omega)]
  rw [e4, hs, List.take_append, hq', List.take_of_length_le (by omega : (repX x q).length ≤ m + k)]
  congr 1
  rw [show m + k - m = k by omega]
  by_cases h : m ≤ n * x.length - m
  · rw [List.take_of_length_le (by omega)]
    have : k = m := by omega
    rw [this, ← repX_take (x := x) (a := q) (b := n - q) (by omega) (by omega), List.take_of_length_le (by omega)]
  · have : k = n * x.length - m := by omega
    rw [this]
    exact repX_take (by omega) (by omega)
theorem cutV_lt {ad : Addr} {l h m sz : Nat} (hne : l < m) : cutV (some ad) l h m sz = .slice (some (ad.add (l * sz))) (h - l) (m - l) := by
  unfold cutV; rw [if_neg (by omega)]; rfl
set_option maxHeartbeats 4000000 in
theorem repeat_calls {F : Nat → Prop} {w : World} {v : Value} {x : List Int} {n : Nat} (h : Sl kRune F w v x) (hb : n * x.length ≤ 4194304) (hx : x.length ≤ 4194304) (hn : n ≤ 4194304) :
    CallsR Try.prog 62 #[v, .int .i64 (n : Int)] w fun u w' => Kn w w' ∧ Ow kRune (noB w) (fun _ => False) w' u (repX x n) := by
  obtain ⟨A, c, ad, rfl, hX⟩ := h.rns
  refine l_enter (fun _ => False) Try.func62 rfl rfl ?_
  repeat(first|refine lrun_ ?_|(refine lo_boxA rfl rfl ?_;intro _ _ _)|(refine lo_box1 rfl rfl rfl ?_;intro _ _ _)|(refine lo_alloc rfl ?_;intro _ _ _))
  refine l_no rfl (by omega) ?_
  refine l_go .skip ?_
  repeat(first|refine lrun_ ?_|(refine lo_boxA rfl rfl ?_;intro _ _ _)|(refine lo_box1 rfl rfl rfl ?_;intro _ _ _)|(refine lo_alloc rfl ?_;intro _ _ _))
  refine lo_rn (fun _ => r_convW (c := (x.length : Int)) rfl (wrap_u64 (by omega) (by omega))) rfl ?_
  repeat(first|refine lrun_ ?_|(refine lo_boxA rfl rfl ?_;intro _ _ _)|(refine lo_box1 rfl rfl rfl ?_;intro _ _ _)|(refine lo_alloc rfl ?_;intro _ _ _))
  refine lo_rn (fun _ => r_convW (c := (n : Int)) rfl (wrap_u64 (by omega) (by omega))) rfl ?_
  refine lo_call (n_call rfl) rfl (fun w' hw => mul_calls (by omega) (by omega)) ?_
  rw [Nat.mul_comm x.length n]
  repeat(first|refine lrun_ ?_|(refine lo_boxA rfl rfl ?_;intro _ _ _)|(refine lo_box1 rfl rfl rfl ?_;intro _ _ _)|(refine lo_alloc rfl ?_;intro _ _ _))
  refine l_no rfl (by omega) ?_
  refine l_go .skip ?_
  repeat(first|refine lrun_ ?_|(refine lo_boxA rfl rfl ?_;intro _ _ _)|(refine lo_box1 rfl rfl rfl ?_;intro _ _ _)|(refine lo_alloc rfl ?_;intro _ _ _))
  refine lo_makeM (d := kRune) (n := n * x.length) 0 rfl rfl rfl rfl (by show n * x.length * 4 ≤ 140737488355328; omega) (fun _ => ⟨rfl, by decide, by decide⟩) rfl rfl rfl ?_
  intro w1 g w2 hw1 kn1 ko1 hO
  have hs1 := hw1.org.size
  have hO2 : Og kRune w w2 (MK []) (fun _ => False) (.slice (some ⟨g, 0, none⟩) (List.replicate (n * x.length) (0 : Int)).length (n * x.length)) (List.replicate (n * x.length) 0) := by
    rw [List.length_replicate]
    exact hO.mono (fun k hk _ => ⟨by unfold noB at hk; omega, mk_nil⟩) fun _ h _ => h
  clear hO hw1 kn1 ko1
  repeat(first|refine lrun_ ?_|(refine lo_boxA rfl rfl ?_;intro _ _ _)|(refine lo_box1 rfl rfl rfl ?_;intro _ _ _)|(refine lo_alloc rfl ?_;intro _ _ _))
  refine lo_copyO (ad := ⟨g, 0, none⟩) (j := 0) (ys := x) rfl rfl hO2 (by simp) (fun w' hw => (Kn.sl hw.org h).e) rfl rfl ?_
  intro w3 w4 hw3 ko3 kp3 hO4
  have hz4 : ∃ q m zs, m = q * x.length ∧ q ≤ n ∧ m = min x.length (n * x.length) ∧ zs.length = n * x.length ∧ zs.take m = (repX x n).take m ∧ (0 < n * x.length → 0 < m) ∧ Og kRune w w4 (MK []) (fun _ => False) (.slice (some ⟨g, 0, none⟩) (n * x.length) (n * x.length)) zs := by
    rw [List.length_replicate] at hO4
    rcases Nat.eq_zero_or_pos n with h0 | h0
    · subst h0
      exact ⟨0, 0, _, by simp, Nat.le_refl _, by simp, by simp, by simp, fun h => by simp at h, hO4⟩
    · have hle : x.length ≤ n * x.length := Nat.le_mul_of_pos_left _ h0
      refine ⟨1, x.length, _, by simp, h0, (Nat.min_eq_left hle).symm, ?_, ?_, fun h => Nat.pos_of_mul_pos_left h, hO4⟩
      · simp; omega
      · rw [List.take_zero, List.nil_append, List.take_of_length_le hle, List.take_append_of_le_length (Nat.le_refl _), List.take_of_length_le (Nat.le_refl _)]
        rw [repX_take (a := n) (b := 1) (by omega) (by omega)]
        simp [repX]
  obtain ⟨q, m, zs, hmq, hqn, hmm, hzl, hzt, hm0, hO5⟩ := hz4
  rw [← hmm]
  clear hO4 hO2 hw3 kp3 ko3
  repeat(first|refine lrun_ ?_|(refine lo_boxA rfl rfl ?_;intro _ _ _)|(refine lo_box1 rfl rfl rfl ?_;intro _ _ _)|(refine lo_alloc rfl ?_;intro _ _ _))
  refine l_whileB (fun s : Nat × Nat × List Int => n * x.length - s.1) (fun s => [(7, .slice (some ⟨g, 0, none⟩) (n * x.length) (n * x.length)), (8, .int .i64 (s.1 : Nat))]) (fun _ => [])
    (fun s b => s.1 = s.2.1 * x.length ∧ s.2.1 ≤ n ∧ s.2.2.length = n * x.length ∧ s.2.2.take s.1 = (repX x n).take s.1 ∧ (0 < n * x.length → 0 < s.1) ∧ Og kRune w b (MK []) (fun _ => False) (.slice (some ⟨g, 0, none⟩) (n * x.length) (n * x.length)) s.2.2) (m, q, zs) (by repeat (first | exact SubB.nil | refine SubB.cons rfl ?_)) (by repeat(first|exact MSub.refl|refine MSub.keep rfl ?_|exact MSub.nil|apply MSub.drop)) (fun w' hw => ⟨hmq, hqn, hzl, hzt, hm0, hO5.now (fun _ h => h.elim) hw⟩) ?_
  clear hmq hqn hmm hzl hzt hm0 hO5
  rintro ⟨m, q, zs⟩ b ⟨hmq, hqn, hzl, hzt, hm0, hO⟩ hkb ih
  simp only at hmq hqn hzl hzt hm0 hO
  have hmn : m ≤ n * x.length := by rw [hmq]; exact Nat.mul_le_mul_right _ hqn
  dsimp only
  by_cases hlt : m < n * x.length
  · have h0 := hm0 (by omega)
    repeat(first|refine lrun_ ?_|(refine lo_boxA rfl rfl ?_;intro _ _ _)|(refine lo_box1 rfl rfl rfl ?_;intro _ _ _)|(refine lo_alloc rfl ?_;intro _ _ _))
    refine l_yes rfl (by omega) ?_
    refine l_go .skip ?_
    repeat(first|refine lrun_ ?_|(refine lo_boxA rfl rfl ?_;intro _ _ _)|(refine lo_box1 rfl rfl rfl ?_;intro _ _ _)|(refine lo_alloc rfl ?_;intro _ _ _))
    refine l_draw [(0, 0), (1, 0), (2, 0), (3, 0), (4, 0), (5, 0), (6, 0), (7, 1), (8, 0), (9, 0)] (by kernel_rfl) (by kernel_rfl) rfl (by kernel_rfl) ?_
    repeat(first|refine lrund_ ?_|(refine ld_open rfl ?_;first|(refine ld_boxA rfl wy_ rfl ?_;intro _ _ _)|(refine ld_box1 rfl rfl wy_ rfl ?_;intro _ _ _)|(refine ld_alloc wy_ rfl ?_;intro _ _ _)))
    refine ld_open rfl ?_; refine ld_suf (j := m) rfl rfl rfl (by omega) (Nat.le_refl _) wy_ rfl ?_
    rw [cutV_lt hlt]
    repeat(first|refine lrund_ ?_|(refine ld_open rfl ?_;first|(refine ld_boxA rfl wy_ rfl ?_;intro _ _ _)|(refine ld_box1 rfl rfl wy_ rfl ?_;intro _ _ _)|(refine ld_alloc wy_ rfl ?_;intro _ _ _)))
    refine ld_open rfl ?_; refine ld_pre (j := m) rfl rfl rfl (by omega) wy_ rfl ?_
    rw [← hzl] at hO
    refine ld_open rfl ?_; refine ld_copyO (ad := ⟨g, 0, none⟩) (j := m) (C := zs.length) (n' := n * x.length - m) (ys := zs.take m) (F2 := fun k => fre w (MK []) k ∨ False) (by repeat constructor) (by kernel_rfl) rfl rfl hO (by omega) (fun w' hw => ?_) rfl wy_ rfl ?_
    · have h1 := (hO.now (fun _ h => h.elim) hw).sl
      have h2 := (Sl.pre h1 (i := m) (by omega) (by omega)).e
      rwa [hzl] at h2
    intro w5 w6 hw5 ko5 kp5 hO6
    rw [hzl] at hO6
    have hst := repX_step (k := min m (n * x.length - m)) hmq hqn hzl hzt rfl
    have hml : (zs.take m).length = m := by rw [List.length_take]; omega
    have hzl2 : (zs.take m ++ (zs.take m).take (n * x.length - m) ++ zs.drop (m + min (zs.take m).length (n * x.length - m))).length = n * x.length := by
      rw [List.length_append, List.length_append, List.length_take, List.length_drop, List.length_take]; omega
    rw [hml] at hO6 hst hzl2 ⊢
    generalize zs.take m ++ (zs.take m).take (n * x.length - m) ++ zs.drop (m + min m (n * x.length - m)) = zs2 at *
    have hq2 : ∃ q2, m + min m (n * x.length - m) = q2 * x.length ∧ q2 ≤ n := by
      by_cases h : m ≤ n * x.length - m
      · refine ⟨q + q, by rw [Nat.min_eq_left h, Nat.add_mul, ← hmq], ?_⟩
        have hx0 : 0 < x.length := Nat.pos_of_ne_zero fun e => by rw [e] at hmq; omega
        have : (q + q) * x.length ≤ n * x.length := by rw [Nat.add_mul, ← hmq]; omega
        exact Nat.le_of_mul_le_mul_right this hx0
      · exact ⟨n, by omega, Nat.le_refl _⟩
    obtain ⟨q2, hq2, hq2n⟩ := hq2
    repeat(first|refine lrund_ ?_|(refine ld_open rfl ?_;first|(refine ld_boxA rfl wy_ rfl ?_;intro _ _ _)|(refine ld_box1 rfl rfl wy_ rfl ?_;intro _ _ _)|(refine ld_alloc wy_ rfl ?_;intro _ _ _)))
    repeat(first|refine lrun_ ?_|(refine lo_boxA rfl rfl ?_;intro _ _ _)|(refine lo_box1 rfl rfl rfl ?_;intro _ _ _)|(refine lo_alloc rfl ?_;intro _ _ _))
    refine ih (m + min m (n * x.length - m), q2, zs2) w6 _ ⟨hq2, hq2n, hzl2, hst, fun _ => by simp only; omega, hO6⟩ (by simp only; omega) _ _ (by simp only [Int.natCast_add]; exact (by repeat (first | exact SubB.nil | refine SubB.cons rfl ?_))) (by repeat(first|exact MSub.refl|refine MSub.keep rfl ?_|exact MSub.nil|apply MSub.drop)) fun w' hw' => ⟨hq2, hq2n, hzl2, hst, fun _ => by simp only; omega, hO6.now (fun _ h => h.elim) hw'⟩
  · obtain rfl : m = n * x.length := by omega
    repeat(first|refine lrun_ ?_|(refine lo_boxA rfl rfl ?_;intro _ _ _)|(refine lo_box1 rfl rfl rfl ?_;intro _ _ _)|(refine lo_alloc rfl ?_;intro _ _ _))
    refine l_no rfl (by omega) ?_
    refine l_go (.exit rfl) ?_
    repeat(first|refine lrun_ ?_|(refine lo_boxA rfl rfl ?_;intro _ _ _)|(refine lo_box1 rfl rfl rfl ?_;intro _ _ _)|(refine lo_alloc rfl ?_;intro _ _ _))
    refine l_ret1 rfl rfl fun w7 hw => ⟨hw.org, ?_⟩
    have e : zs = repX x n := by
      have h1 := List.take_of_length_le (l := zs) (i := n * x.length) (by omega)
      have h2 := List.take_of_length_le (l := repX x n) (i := n * x.length) (by rw [repX_len]; omega)
      rw [← h1, ← h2]; exact hzt
    rw [← e]
    exact (hO.now (fun _ h => h.elim) hw).mono (fun k hk _ => hk.1) fun _ h _ => h
end Go.Ink

set_option linter.unusedVariables false
set_option linter.unusedSimpArgs false
namespace Go.Ink
open Go Go.Proofs Go.RowKit

def padM (x : List Int) (n : Nat) : List Int := x ++ List.replicate (n - x.length) 32
theorem padM_len (x : List Int) (n : Nat) : (padM x n).length = max x.length n := by unfold padM; simp; omega
set_option maxHeartbeats 1000000 in
theorem blanks_calls {G : Nat → Prop} {w : World} {v : Value} {x : List Int} {n : Nat} (h : Ow kRune G (fun _ => False) w v x) (hx : x.length ≤ 4194304) (hn : n ≤ 4194304) :
    CallsR Try.prog 76 #[v, .int .i64 (n : Int)] w fun u w' => Kp (fun k => v.ownBlock = some k) w w' ∧ Ow kRune (fun k => v.ownBlock = some k ∨ w.heap.size ≤ k) (fun _ => False) w' u (padM x n) := by
  refine calls_enter Try.func76 rfl rfl ?_
  repeat(refine run_ ?_)
  refine k_while (fun s : Nat × Value => n - s.1) (fun s => [(0, s.2), (1, .int .i64 n)])
    (fun s wr => s.1 + x.length ≤ max x.length n ∧ Kp (fun k => v.ownBlock = some k) w wr ∧ Ow kRune (fun k => v.ownBlock = some k ∨ w.heap.size ≤ k) (fun _ => False) wr s.2 (x ++ List.replicate s.1 32)) (0, v) (by repeat (first | exact SubB.nil | refine SubB.cons rfl ?_))
    ⟨by simp only; omega, Kp.refl _ _, by
      rw [List.replicate_zero, List.append_nil]
      exact h.nE.mono (fun k hk _ => .inl hk.2) fun _ h _ => h⟩ ?_
  rintro ⟨j, u⟩ wr ⟨hj, hk, hO⟩ ih
  simp only at hj hO
  obtain ⟨A, c, rfl, hc, hf⟩ := hO.form
  have hlen : (x ++ List.replicate j (32 : Int)).length = x.length + j := by simp
  have hb := hO.block
  dsimp only
  repeat(refine run_ ?_)
  refine k_ite rfl (fun hlt => ?_) (fun hge => ?_)
  · repeat(refine run_ ?_)
    refine o_any (e_one (z := .int .i32 0) (v := .int .i32 32) rfl rfl rfl (by decide)) (wants_none rfl) rfl ?_
    rintro _ w1 ⟨g, rfl, nb⟩
    have hg := nb.ge
    have hs := nb.kn.size
    have hs0 := hk.size
    refine o_any (e_append1 (q := 32) rfl rfl (Kn.ow nb.kn hO) nb.at_ ⟨rfl, by decide, by decide⟩ (by rw [hlen]; show (x.length + j + 1) * 4 ≤ 140737488355328; omega) rfl rfl rfl) (wants_none rfl) rfl ?_
    intro u2 w2 hA
    have hO2 : Ow kRune (fun k => v.ownBlock = some k ∨ w.heap.size ≤ k) (fun _ => False) w2 u2 (x ++ List.replicate (j + 1) 32) := by
      have := hA.ow
      rw [show x ++ List.replicate j (32 : Int) ++ [32] = x ++ List.replicate (j + 1) 32 by rw [List.replicate_succ', List.append_assoc]] at this
      exact this.mono (fun k hk _ => hk.elim id fun hk => .inr (by omega)) fun _ h _ => h
    have hk2 : Kp (fun k => v.ownBlock = some k) w w2 := by
      refine Kp.then (hk.trans (nb.kn.kp)) hA.kp (fun _ h => h) fun k hl hk => ?_
      rcases (hb k hk).1 with h | h
      · exact h
      · omega
    repeat(refine run_ ?_)
    exact ih (j + 1, u2) w2 ⟨by simp only; omega, hk2, hO2⟩ (by simp only; omega) _ (by repeat (first | exact SubB.nil | refine SubB.cons rfl ?_))
  · repeat(refine run_ ?_)
    refine k_ret1 rfl rfl ⟨hk, ?_⟩
    have : j = n - x.length := by omega
    unfold padM
    rw [← this]
    exact hO
end Go.Ink

set_option linter.unusedVariables false
set_option linter.unusedSimpArgs false
namespace Go.Ink
open Go Go.Proofs Go.RowKit

def blkStep (o : List (List Int)) (at_ col : Nat) (row : List Int) (wide n : Nat) : List (List Int) :=
  let o2 := if at_ = o.length then o ++ [[]] else o
  o2.set at_ ((padM (o2.getD at_ []) col).take col ++ repX (padM row wide) n ++ (padM (o2.getD at_ []) col).drop col)
theorem sl_three {F : Nat → Prop} {w : World} {g : Nat} {e : TypeId} {fr : Nat × Nat} {x y z : List Int} {u1 u2 u3 : Value} (hb : w.heap[g]? = some (.cells [u1, u2, u3].toArray e fr)) (h1 : Sl kRune F w u1 x) (h2 : Sl kRune F w u2 y) (h3 : Sl kRune F w u3 z) (hF : F g) :
    Sl kRow F w (.slice (some ⟨g, 0, none⟩) 3 3) [x, y, z] :=
  sl_blk (d := kRow) (xs := [x, y, z]) hb ⟨[u1], [u2, u3], rfl, ⟨u1, rfl, h1⟩, [u2], [u3], rfl, ⟨u2, rfl, h2⟩, [u3], [], rfl, ⟨u3, rfl, h3⟩, rfl⟩ hF (by show 3 * 24 ≤ 140737488355328; decide)
section
variable {F : Nat → Prop} {w : World} {Ar Ao : Option Addr} {cr co : Nat} {rows o : List (List Int)} {adr : Addr} {rV : Nat → Option Addr} {rc : Nat → Nat} {ra : Nat → Addr} {us : List Value} {line col wide n i : Nat} {rest : List Item} {R : Value → World → Prop}
set_option maxHeartbeats 8000000 in
theorem bk_round (hR : Rws F w Ar cr rows adr rV rc ra) (hi : i < rows.length) {b : World} (hT : Tab (fre w (MK [])) (fun _ => True) b (.slice Ao o.length co) us o) (hat : line + i ≤ o.length) (ho : o.length ≤ 1048576) (hor : (o.getD (line + i) []).length ≤ 1048576) (hrw : (rows.getD i []).length ≤ wide) (hcol : col ≤ 1048576) (hw : wide ≤ 1048576) (hn : n ≤ 1048576) (hwn : n * wide ≤ 1048576)
    (next : ∀ (b' : World) (A' : Option Addr) (c' : Nat) (us' : List Value), Tab (fre w (MK [])) (fun _ => True) b' (.slice A' (blkStep o (line + i) col (rows.getD i []) wide n).length c') us' (blkStep o (line + i) col (rows.getD i []) wide n) → ∀ σ', SubB σ' [(1, .int .i64 line), (2, .int .i64 col), (4, .int .i64 wide), (5, .int .i64 n), (13, .slice A' (blkStep o (line + i) col (rows.getD i []) wide n).length c'), (14, .func (.func 76) #[] #[]), (20, .slice Ar rows.length cr), (21, .int .i64 rows.length), (22, .int .i64 ((i : Int) + 1))] → ∀ M', MSub [] M' → WL Try.prog Try.f56 rest σ' w (fun _ => False) b' (MK []) M' R) :
    WL Try.prog Try.f56 (.code (bodyC Try.f56 [1, 1, 1, 0, 1, 0, 0, 1, 1]) :: rest) [(1, .int .i64 line), (2, .int .i64 col), (4, .int .i64 wide), (5, .int .i64 n), (13, .slice Ao o.length co), (14, .func (.func 76) #[] #[]), (20, .slice Ar rows.length cr), (21, .int .i64 rows.length), (22, .int .i64 i)] w (fun _ => False) b (MK []) [] R := by
  have hlen := hR.len
  have J : ∀ (b2 : World) (A2 : Option Addr) (c2 : Nat) (us2 : List Value) (o2 : List (List Int)), o2 = (if line + i = o.length then o ++ [[]] else o) → Tab (fre w (MK [])) (fun _ => True) b2 (.slice A2 o2.length c2) us2 o2 → ∀ σ', SubB σ' [(1, .int .i64 line), (2, .int .i64 col), (4, .int .i64 wide), (5, .int .i64 n), (13, .slice A2 o2.length c2), (14, .func (.func 76) #[] #[]), (15, .int .i64 i), (16, .slice (rV i) (rows.getD i []).length (rc i)), (20, .slice Ar rows.length cr), (21, .int .i64 rows.length), (22, .int .i64 i)] → ∀ M', MSub [] M' →
      WL Try.prog Try.f56 (.code (bodyC Try.f56 [1, 1, 1, 0, 1, 0, 0, 1, 1, 0, 0, 1, 1]) :: .inBlock 1 :: .code (bodyC Try.f56 [1, 1, 1, 0, 1, 0, 0, 1, 1, 1]) :: rest) σ' w (fun _ => False) b2 (MK []) M' R := by
    intro b2 A2 c2 us2 o2 e2 hT2 σ' hs M' hM
    refine WL.sub hs hM ?_
    have hstep : blkStep o (line + i) col (rows.getD i []) wide n = o2.set (line + i) ((padM (o2.getD (line + i) []) col).take col ++ repX (padM (rows.getD i []) wide) n ++ (padM (o2.getD (line + i) []) col).drop col) := by unfold blkStep; rw [← e2]
    have hjl : line + i < o2.length := by
      rw [e2]
      split
      · simp; omega
      · omega
    have hrl : (o2.getD (line + i) []).length ≤ 1048576 := by
      rw [e2]; split
      · next h => rw [List.getD_eq_getElem?_getD, List.getElem?_append_right (by omega), h, Nat.sub_self]; simp
      · exact hor
    rw [hstep, List.length_set] at next
    clear e2 hT hor hstep
    obtain ⟨ad, rfl⟩ := hT2.ad (by omega)
    obtain ⟨u, hu, hO⟩ := hT2.at_ trivial hjl
    generalize hx : o2.getD (line + i) [] = x at *
    have hub := hO.block
    have hcell := hT2.cell hu
    repeat(first|refine lrun_ ?_|(refine lo_boxA rfl rfl ?_;intro _ _ _)|(refine lo_box1 rfl rfl rfl ?_;intro _ _ _)|(refine lo_alloc rfl ?_;intro _ _ _))
    refine lo_index (j := line + i) rfl rfl (by omega) hjl rfl rfl ?_
    refine lo_loadB rfl hcell mk_nil rfl ?_
    repeat(first|refine lrun_ ?_|(refine lo_boxA rfl rfl ?_;intro _ _ _)|(refine lo_box1 rfl rfl rfl ?_;intro _ _ _)|(refine lo_alloc rfl ?_;intro _ _ _))
    refine lo_callW (n_callV (cap := []) rfl rfl) rfl (T := fun k => u.ownBlock = some k) (fun k hk => ⟨(hub k hk).1.1, (hub k hk).2⟩) (fun w' hw' => blanks_calls (n := col) (Kp.ow hw'.kp hO (fun _ _ => mk_nil) fun _ h => h.elim) (by omega) (by omega)) ?_
    intro w3 ux w4 hw3 kT3 ko3 kp3 hx4
    have hs3 := hw3.org.size
    have hs3' := hw3.kp.size
    have hs4 := kT3.size
    have hT4 := (((hT2.kp hw3.kp fun _ _ => mk_nil).take trivial hu).kp kT3 fun k hk => hk.2).bound
    have hx4 := hx4.mono (G' := fun k => (u.ownBlock = some k ∨ w3.heap.size ≤ k) ∧ k < w4.heap.size) (F' := fun _ => False) (fun k hk hl => ⟨hk, hl⟩) fun _ h _ => h
    have hub3 : ∀ k, u.ownBlock = some k → k < w3.heap.size := fun k hk => by have := (hub k hk).2; omega
    have hub0 : ∀ k, u.ownBlock = some k → w.heap.size ≤ k ∧ (Value.slice (some ad) o2.length c2).ownBlock ≠ some k := fun k hk => ⟨(hub k hk).1.1.1, (hub k hk).1.2⟩
    clear hcell hO hw3 kp3 ko3 hT2 hub
    repeat(first|refine lrun_ ?_|(refine lo_boxA rfl rfl ?_;intro _ _ _)|(refine lo_box1 rfl rfl rfl ?_;intro _ _ _)|(refine lo_alloc rfl ?_;intro _ _ _))
    refine lo_callM (n_call rfl) rfl (fun w' hw => clone_calls (Kn.sl hw.org (hR.rs i hi))) ?_
    intro w5 ur w6 hw5 kn5 ko5 hr6
    have hs5 := hw5.kp.size
    have hs6 := kn5.size
    have hT6 := (hT4.kp hw5.kp fun _ _ => mk_nil).kn kn5
    have hx6 := Kn.ow kn5 (Kp.ow hw5.kp hx4 (fun _ _ => mk_nil) fun _ h => h.elim)
    have hrb := hr6.block
    clear hT4 hx4 hw5 kn5 ko5
    repeat(first|refine lrun_ ?_|(refine lo_boxA rfl rfl ?_;intro _ _ _)|(refine lo_box1 rfl rfl rfl ?_;intro _ _ _)|(refine lo_alloc rfl ?_;intro _ _ _))
    refine lo_callW (n_callV (cap := []) rfl rfl) rfl (T := fun k => ur.ownBlock = some k) (fun k hk => ⟨⟨by have := (hrb k hk).1; unfold noB at this; omega, mk_nil⟩, (hrb k hk).2⟩) (fun w' hw' => blanks_calls (n := wide) (Kp.ow hw'.kp hr6 (fun _ _ => mk_nil) fun _ h => h.elim) (by omega) (by omega)) ?_
    intro w7 ur2 w8 hw7 kT7 ko7 kp7 hr8
    have hs7 := hw7.kp.size
    have hs8 := kT7.size
    have hT8 := (hT6.kp hw7.kp fun _ _ => mk_nil).kp kT7 fun k hk e => by have h9 : k < w4.heap.size := hk.2; have := (hrb k e).1; unfold noB at this; omega
    have hx8 := Kp.ow kT7 (Kp.ow hw7.kp hx6 (fun _ _ => mk_nil) fun _ h => h.elim) (fun k hk e => by have h9 : k < w4.heap.size := hk.2; have := (hrb k e).1; unfold noB at this; omega) fun _ h => h.elim
    have hr8 := hr8.mono (G' := fun k => w5.heap.size ≤ k) (F' := fun _ => False) (fun k hk _ => by
      rcases hk with hk | hk
      · exact (hrb k hk).1
      · omega) fun _ h _ => h
    clear hT6 hx6 hr6 hw7 kp7 ko7 kT7
    obtain ⟨Ax, cx, rfl, hcx, _⟩ := hx8.form
    obtain ⟨Ar2, cr2, rfl, hcr2, _⟩ := hr8.form
    have hpx := padM_len x col
    have hpr : (padM (rows.getD i []) wide).length = wide := by rw [padM_len]; omega
    have hcx' : col ≤ (padM x col).length := by rw [hpx]; omega
    repeat(first|refine lrun_ ?_|(refine lo_boxA rfl rfl ?_;intro _ _ _)|(refine lo_box1 rfl rfl rfl ?_;intro _ _ _)|(refine lo_alloc rfl ?_;intro _ _ _))
    refine l_draw [(0, 0), (1, 0), (2, 0), (3, 0), (4, 0), (5, 0), (6, 0), (7, 0), (8, 0), (10, 0), (11, 0), (12, 0), (9, 1), (13, 1), (14, 1), (15, 0), (16, 1)] (by kernel_rfl) (by kernel_rfl) rfl (by kernel_rfl) ?_
    repeat(first|refine lrund_ ?_|(refine ld_open rfl ?_;first|(refine ld_boxA rfl wy_ rfl ?_;intro _ _ _)|(refine ld_box1 rfl rfl wy_ rfl ?_;intro _ _ _)|(refine ld_alloc wy_ rfl ?_;intro _ _ _)))
    refine ld_open rfl ?_; refine ld_pre (j := col) rfl rfl rfl (by omega) wy_ rfl ?_
    repeat(first|refine lrund_ ?_|(refine ld_open rfl ?_;first|(refine ld_boxA rfl wy_ rfl ?_;intro _ _ _)|(refine ld_box1 rfl rfl wy_ rfl ?_;intro _ _ _)|(refine ld_alloc wy_ rfl ?_;intro _ _ _)))
    refine ld_open rfl ?_; refine ld_suf (j := col) rfl rfl rfl hcx' hcx wy_ rfl ?_
    have hpre : Sl kRune (fun k => w.heap.size ≤ k) w8 (.slice Ax col cx) ((padM x col).take col) := ((hx8.slF (F' := fun k => w.heap.size ≤ k) (fun k hk => hk.1.elim (fun h => (hub0 k h).1) fun h => by omega) fun _ h => h.elim).pre hcx' (by omega))
    have hsuf : Sl kRune (fun k => w.heap.size ≤ k) w8 (cutV Ax col (padM x col).length cx 1) ((padM x col).drop col) := by
      have := Sl.cutV (hx8.slF (F' := fun k => w.heap.size ≤ k) (fun k hk => hk.1.elim (fun h => (hub0 k h).1) fun h => by omega) fun _ h => h.elim) hcx' (Nat.le_refl _) hcx (Nat.le_refl _)
      rwa [List.take_length] at this
    repeat(first|refine lrund_ ?_|(refine ld_open rfl ?_;first|(refine ld_boxA rfl wy_ rfl ?_;intro _ _ _)|(refine ld_box1 rfl rfl wy_ rfl ?_;intro _ _ _)|(refine ld_alloc wy_ rfl ?_;intro _ _ _)))
    refine ld_open rfl ?_; refine ld_callN (n_call rfl) wy_ rfl (fun w' hw' => repeat_calls (n := n) (Kp.sl hw'.kp (hr8.slF (F' := fun k => w5.heap.size ≤ k) (fun _ h => h) fun _ h => h.elim) fun _ _ => mk_nil) (by rw [hpr]; omega) (by omega) (by omega)) ?_
    intro wa urep wb N hwa kna hrep hcov
    have hsa := hwa.kp.size
    have hsa0 := hwa.org.size
    obtain ⟨Arp, crp, rfl, _, _⟩ := hrep.form
    refine ld_open rfl ?_; refine ld_lit (cs := [.slice Ax col cx, .slice Arp (repX (padM (rows.getD i []) wide) n).length crp, cutV Ax col (padM x col).length cx 1]) rfl (by decide) (by kernel_rfl) wy_ rfl ?_
    intro g9 hg9 _
    have hcl : runesM [(padM x col).take col, repX (padM (rows.getD i []) wide) n, (padM x col).drop col] ≤ 4194304 := by
      have h9 := repX_len (padM (rows.getD i []) wide) n
      rw [hpr] at h9
      simp only [runesM, List.map_cons, List.map_nil, List.sum_cons, List.sum_nil, List.length_take, List.length_drop, h9, hpx]
      omega
    refine ld_open rfl ?_; refine ld_callN (n_call rfl) wy_ rfl (Φ := fun w0 u w' => Ow kRune (noB w0) (fun _ => False) w' u [(padM x col).take col, repX (padM (rows.getD i []) wide) n, (padM x col).drop col].flatten) (fun w' hw' => concat_calls (F := fun k => w.heap.size ≤ k) (sl_three (hw'.mem g9 _ .hd) (Kp.sl hw'.kp hpre fun _ _ => mk_nil) ((hrep.move fun k hk hl => by
      rcases hk with hk | hk
      · obtain ⟨o, hm, ho⟩ := hcov k hk hl
        rw [ho]
        exact hw'.mem k o (.tl (min_l (min_l hm)))
      · exact hk.elim).slF (F' := fun k => w.heap.size ≤ k) (fun k hk => by unfold noB at hk; omega) fun _ h => h.elim) (Kp.sl hw'.kp hsuf fun _ _ => mk_nil) hg9) hcl) ?_
    intro wc uc wd N2 hwc knc hOc hcov2
    have hsc := hwc.kp.size
    have hsc0 := hwc.org.size
    have hfl : [(padM x col).take col, repX (padM (rows.getD i []) wide) n, (padM x col).drop col].flatten = (padM x col).take col ++ repX (padM (rows.getD i []) wide) n ++ (padM x col).drop col := by simp
    rw [hfl] at hOc
    generalize (padM x col).take col ++ repX (padM (rows.getD i []) wide) n ++ (padM x col).drop col = row' at *
    have hcb := hOc.block
    have hTd := hT8.mono (G' := fre w (MK [])) fun k hk _ => hk.1.1
    have had : ad.block < w4.heap.size := (hT8.t.block ad.block rfl).1.2
    have hbl : ∀ i' u2 k, (True ∧ i' ≠ line + i) → us2[i']? = some u2 → u2.ownBlock = some k → k < w4.heap.size := fun i' u2 k hi' hu2 hk => (hT8.blk (i := i') hi' hu2 hk).1.2
    obtain ⟨Auc, cuc, rfl, _, _⟩ := hOc.form
    clear hT8 hx8 hr8 hpre hsuf hrep hcov
    repeat(first|refine lrund_ ?_|(refine ld_open rfl ?_;first|(refine ld_boxA rfl wy_ rfl ?_;intro _ _ _)|(refine ld_box1 rfl rfl wy_ rfl ?_;intro _ _ _)|(refine ld_alloc wy_ rfl ?_;intro _ _ _)))
    refine ld_open rfl ?_; refine ld_index (j := line + i) rfl rfl (by omega) hjl rfl wy_ rfl ?_
    refine ld_open rfl ?_; refine ld_tabSetD (Y' := []) (r := row') (j := line + i) (mcat_app (MCat.cons (mcat_app MCat.nil))) .nil (by kernel_rfl) rfl rfl hTd hjl (fun w' hw' => ?_) (fun k hk => ?_) (fun h => h.2 rfl) (fun i' u2 k hi' hu2 hk hk2 => ?_) rfl wy_ rfl ?_
    · refine (hOc.nE.move fun k hk hl => ?_).mono (fun k hk _ => hk.2) fun _ h _ => h
      rcases hk with hk | hk
      · obtain ⟨o, hm, ho⟩ := hcov2 k hk.1 hl
        rw [ho]
        exact hw'.mem k o (min_l hm)
      · exact hk.elim
    · have := (hcb k hk).1
      unfold noB at this
      exact ⟨by omega, mk_nil, by omega⟩
    · have := (hcb k hk2).1
      have := hbl i' u2 k hi' hu2 hk
      unfold noB at *
      omega
    intro we wf hwe koe kpe hTf
    have hTf' := hTf.less (L' := fun _ => True) fun j _ => by
      by_cases h : j = line + i
      · exact .inr h
      · exact .inl ⟨trivial, h⟩
    repeat(first|refine lrund_ ?_|(refine ld_open rfl ?_;first|(refine ld_boxA rfl wy_ rfl ?_;intro _ _ _)|(refine ld_box1 rfl rfl wy_ rfl ?_;intro _ _ _)|(refine ld_alloc wy_ rfl ?_;intro _ _ _)))
    repeat(first|refine lrun_ ?_|(refine lo_boxA rfl rfl ?_;intro _ _ _)|(refine lo_box1 rfl rfl rfl ?_;intro _ _ _)|(refine lo_alloc rfl ?_;intro _ _ _))
    exact next wf _ _ _ hTf' _ (by repeat (first | exact SubB.nil | refine SubB.cons rfl ?_)) _ .nil
  by_cases h : line + i = o.length
  · repeat(first|refine lrun_ ?_|(refine lo_boxA rfl rfl ?_;intro _ _ _)|(refine lo_box1 rfl rfl rfl ?_;intro _ _ _)|(refine lo_alloc rfl ?_;intro _ _ _))
    refine l_yes rfl (by omega) ?_
    repeat(first|refine lrun_ ?_|(refine lo_boxA rfl rfl ?_;intro _ _ _)|(refine lo_box1 rfl rfl rfl ?_;intro _ _ _)|(refine lo_alloc rfl ?_;intro _ _ _))
    refine lo_lit (cs := [.slice none 0 0]) rfl (by decide) (by kernel_rfl) rfl ?_
    intro g9 hg9 _
    refine lo_tabPush (r := []) rfl rfl (hT.less (L' := fun j => j < o.length) fun _ _ => trivial) (by(repeat(first|exact MIn.hd|refine MIn.tl ?_));done) (Ow.nil _ _ _ _) (Nat.lt_irrefl _) (fun i u2 k _ _ _ hk => by cases hk) (by omega) rfl rfl ?_
    intro w3 A3 n3 w4 hw3 ko3 kp3 hT4
    repeat(first|refine lops_ ?_|(refine lo_boxA rfl rfl ?_;intro _ _ _)|(refine lo_box1 rfl rfl rfl ?_;intro _ _ _)|(refine lo_alloc rfl ?_;intro _ _ _))
    refine lo_nil ?_
    refine l_baseM (M3 := []) .nil fun w5 hw5 => ?_
    refine J w5 A3 n3 (us ++ [.slice none 0 0]) (o ++ [[]]) (by rw [if_pos h]) ?_ _ (by repeat (first | exact SubB.nil | refine SubB.cons rfl ?_)) _ .nil
    exact ((hT4.kp hw5.kp fun k hk => hk.2).mono fun k hk _ => ⟨hk.1, mk_nil⟩).all fun j hj => by rw [List.length_append] at hj; simp at hj; omega
  · repeat(first|refine lrun_ ?_|(refine lo_boxA rfl rfl ?_;intro _ _ _)|(refine lo_box1 rfl rfl rfl ?_;intro _ _ _)|(refine lo_alloc rfl ?_;intro _ _ _))
    refine l_no rfl (by omega) ?_
    refine l_go .skip ?_
    exact J b Ao co us o (by rw [if_neg h]) hT _ (by repeat (first | exact SubB.nil | refine SubB.cons rfl ?_)) _ .nil
end
end Go.Ink

set_option linter.unusedVariables false
set_option linter.unusedSimpArgs false
namespace Go.Ink
open Go Go.Proofs Go.RowKit

def blkM (l : List (List Int)) (line col : Nat) (rows : List (List Int)) (wide n : Nat) : Nat → List (List Int)
  | 0 => l
  | i + 1 => blkStep (blkM l line col rows wide n i) (line + i) col (rows.getD i []) wide n
theorem blk_inv {l : List (List Int)} {line col : Nat} {rows : List (List Int)} {wide n : Nat} (hl : line ≤ l.length) : ∀ i, (blkM l line col rows wide n i).length = max l.length (line + i) ∧ ∀ j, line + i ≤ j → (blkM l line col rows wide n i).getD j [] = l.getD j []
  | 0 => ⟨by show l.length = _; omega, fun j _ => rfl⟩
  | i + 1 => by
    obtain ⟨h1, h2⟩ := blk_inv (line := line) (col := col) (rows := rows) (wide := wide) (n := n) hl i
    have e : (blkM l line col rows wide n (i + 1)) = blkStep (blkM l line col rows wide n i) (line + i) col (rows.getD i []) wide n := rfl
    rw [e]
    unfold blkStep
    constructor
    · rw [List.length_set]
      split
      · rw [List.length_append]; simp; omega
      · omega
    · intro j hj
      rw [List.getD_eq_getElem?_getD, List.getElem?_set_ne (by omega), ← h2 j (by omega)]
      split
      · next he =>
        rw [List.getD_eq_getElem?_getD]
        by_cases hj2 : j < (blkM l line col rows wide n i).length
        · rw [List.getElem?_append_left hj2]
        · rw [List.getElem?_append_right (by omega), List.getElem?_eq_none (by simp; omega), List.getElem?_eq_none (by omega)]
      · rw [List.getD_eq_getElem?_getD]
section
variable {F F2 : Nat → Prop} {w : World} {v vr : Value} {l rows : List (List Int)} {line col wide n : Nat}
set_option maxHeartbeats 8000000 in
theorem block_calls (h : Sl kRow F w v l) (hr : Sl kRow F2 w vr rows) (hline : line < l.length) (hl : l.length ≤ 4096) (hrl : rows.length ≤ 4096) (hk : ∀ j, (l.getD j []).length ≤ 1048576) (hwide : ∀ i, (rows.getD i []).length ≤ wide) (hcol : col ≤ 1048576) (hw : wide ≤ 1048576) (hn : n ≤ 1048576) (hwn : n * wide ≤ 1048576) :
    CallsR Try.prog 56 #[v, .int .i64 line, .int .i64 col, vr, .int .i64 wide, .int .i64 n] w fun u w' => Kn w w' ∧ Ow kRow (noB w) (noB w) w' u (blkM l line col rows wide n rows.length) := by
  obtain ⟨A, c, ad, rV, rc, ra, rfl, hR⟩ := hr.rws
  refine l_enter (fun _ => False) Try.func56 rfl rfl ?_
  repeat(first|refine lrun_ ?_|(refine lo_boxA rfl rfl ?_;intro _ _ _)|(refine lo_box1 rfl rfl rfl ?_;intro _ _ _)|(refine lo_alloc rfl ?_;intro _ _ _))
  refine lo_callM (n_call rfl) rfl (fun w' hw => linesT_calls (Kn.sl hw.org h)) ?_
  rintro w1 u w2 hw1 kn1 ko1 ⟨us, hT⟩
  have hs1 := hw1.org.size
  have hT2 := hT.mono (G' := fre w (MK [])) fun k hk _ => ⟨by unfold noB at hk; omega, mk_nil⟩
  obtain ⟨Ao, co, rfl, _, _⟩ := hT.form
  clear hT hw1 kn1 ko1
  repeat(first|refine lrun_ ?_|(refine lo_boxA rfl rfl ?_;intro _ _ _)|(refine lo_box1 rfl rfl rfl ?_;intro _ _ _)|(refine lo_alloc rfl ?_;intro _ _ _))
  refine l_whileB (fun s : Nat × Option Addr × Nat × List Value => rows.length - s.1) (fun s => [(1, .int .i64 line), (2, .int .i64 col), (4, .int .i64 wide), (5, .int .i64 n), (13, .slice s.2.1 (blkM l line col rows wide n s.1).length s.2.2.1), (14, .func (.func 76) #[] #[]), (20, .slice A rows.length c), (21, .int .i64 rows.length), (22, .int .i64 (s.1 : Nat))]) (fun _ => [])
    (fun s b => s.1 ≤ rows.length ∧ Tab (fre w (MK [])) (fun _ => True) b (.slice s.2.1 (blkM l line col rows wide n s.1).length s.2.2.1) s.2.2.2 (blkM l line col rows wide n s.1)) (0, Ao, co, us) (by repeat (first | exact SubB.nil | refine SubB.cons rfl ?_)) (by repeat(first|exact MSub.refl|refine MSub.keep rfl ?_|exact MSub.nil|apply MSub.drop)) (fun w' hw => ⟨Nat.zero_le _, hT2.kp hw.kp fun _ _ => mk_nil⟩) ?_
  rintro ⟨i, A', c', us'⟩ b ⟨hi, hTb⟩ hkb ih
  simp only at hi hTb
  have hinv := blk_inv (col := col) (rows := rows) (wide := wide) (n := n) (Nat.le_of_lt hline) i
  dsimp only
  by_cases hlt : i < rows.length
  · repeat(first|refine lrun_ ?_|(refine lo_boxA rfl rfl ?_;intro _ _ _)|(refine lo_box1 rfl rfl rfl ?_;intro _ _ _)|(refine lo_alloc rfl ?_;intro _ _ _))
    refine l_yes rfl (by omega) ?_
    refine l_go .skip ?_
    refine WL.sub (by repeat (first | exact SubB.nil | refine SubB.cons rfl ?_)) .refl (bk_round (i := i) (rest := .inLoop (bodyC Try.f56 [1, 1, 1, 0, 1, 0, 0]) :: .inBlock 0 :: [.code (bodyC Try.f56 [1, 1, 1, 1])]) hR hlt hTb (by omega) (by omega) (by rw [hinv.2 _ (Nat.le_refl _)]; exact hk _) (hwide i) hcol hw hn hwn ?_)
    intro b' A2 c2 us2 hT3 σ2 hs2 M2 hM2
    exact ih (i + 1, A2, c2, us2) b' _ ⟨hlt, hT3⟩ (by simp only; omega) σ2 M2 hs2 hM2 (fun w' hw' => ⟨hlt, hT3.kp hw'.kp fun _ _ => mk_nil⟩)
  · obtain rfl : i = rows.length := by omega
    repeat(first|refine lrun_ ?_|(refine lo_boxA rfl rfl ?_;intro _ _ _)|(refine lo_box1 rfl rfl rfl ?_;intro _ _ _)|(refine lo_alloc rfl ?_;intro _ _ _))
    refine l_no rfl (by omega) ?_
    refine l_go (.exit rfl) ?_
    repeat(first|refine lrun_ ?_|(refine lo_boxA rfl rfl ?_;intro _ _ _)|(refine lo_box1 rfl rfl rfl ?_;intro _ _ _)|(refine lo_alloc rfl ?_;intro _ _ _))
    refine l_ret1 rfl rfl fun w7 hw => ⟨hw.org, ?_⟩
    exact ((hTb.kp hw.kp fun _ _ => mk_nil).mono (G' := noB w) fun k hk _ => hk.1).ow fun _ _ => trivial
end
end Go.Ink
