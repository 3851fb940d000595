/-
  slices.Grow of none, slices.Concat.
-/
import Derived.Test.YtbmjcjlenbgpkaaB1
import Derived.Test.YtbmjcjlenbgpkaaV1
import Derived.Test.YtbmjcjlenbgpkaaRow
import Derived.Lib.AppendZeros
set_option linter.unusedVariables false
set_option linter.unusedSimpArgs false
namespace Go.Ink
open Go Go.Proofs Go.RowKit

def runesM (l : List (List Int)) : Nat := (l.map List.length).sum
theorem e_zeros {P : Program} {N : Nat} {σ : Sig} {w : World} {dst : Option Nat} {ty : TypeId} {pos : String} {af : Array Edge} {gd : Option (Nat × Bool)} {x y : Operand} {t tn e : TypeId} {kn : IntKind} {sz bytes : Nat} {z : Value} [hT : SlT P t e] [hI : IntT P tn kn] [hE : ElT P e sz bytes z] {n : Nat} (hx : ev σ x = some (.slice none 0 0)) (hy : ev σ y = some (.int .i64 (n : Int))) (h0 : 0 < n) (hs : 0 < sz) (hb : n * bytes ≤ 140737488355328) (h63 : (n : Int) ≤ 9223372036854775807) (hz : z.cells.size = sz) :
    Ef P N σ w ⟨dst, .call { callee := .builtin .append, args := #[x, y], argTypes := #[t, tn] }, ty, pos, af, gd⟩ (fun u w' => ∃ g c, ∃ cs : Array Value, u = .slice (some ⟨g, 0, none⟩) n c ∧ n ≤ c ∧ c ≤ maxLen ∧ c * sz ≤ cs.size ∧ Nb w w' g (.cells cs e)) := by
  constructor; intro _ a w0 ha h0'
  obtain ⟨i, hi1, hi2, hi3, hi4⟩ := hE.parts
  have hr := Go.Lib.run_append_nil_zeros (P := P) w0 t tn ty e i z .i64 kn hT.und hI.und hi1 hi2 n h0 (by omega) h63 (by rw [hi4]; omega)
  have hge := grownCap_ge w0 n 0 e
  have hcm := grownCap_le_maxLen w0 n 0 e (by simpa [maxLen] using (show n ≤ 9223372036854775807 by omega))
  have hn := nb_alloc (w := w) (w0 := w0.drew) (h0'.trans ⟨rfl, rfl, rfl, rfl⟩) (.cells (Builtin.zeroCells z.cells n ++ Builtin.zeroCells z.cells (grownCap w0 n 0 e - n)) e)
  refine ⟨_, _, ?_, w0.heap.size, _, Builtin.zeroCells z.cells n ++ Builtin.zeroCells z.cells (grownCap w0 n 0 e - n), rfl, hge, hcm, ?_, hn⟩
  · simp only [execOp, resolve, invoke, builtin, Sem.run_bind, Sem.run_pure, Result.andThen_ok, List.map_toArray, List.map_cons, List.map_nil, ha.ev hx, ha.ev hy, hr]
  · rw [Array.size_append, size_zeroCells, size_zeroCells, hz, ← Nat.add_mul]
    exact Nat.mul_le_mul_right _ (by omega)
theorem grow_calls {w : World} {n : Nat} (hn : n ≤ 4194304) : CallsR Try.prog 47 #[.slice none 0 0, .int .i64 (n : Int)] w fun u w' => Kn w w' ∧ ∃ A c, u = .slice A 0 c ∧ Ow kRune (noB w) (fun _ => False) w' u [] := by
  refine l_enter (fun _ => False) Try.func47 rfl rfl ?_
  repeat(first|refine lrun_ ?_|(refine lo_boxA rfl rfl ?_;intro _ _ _)|(refine lo_box1 rfl rfl rfl ?_;intro _ _ _)|(refine lo_alloc rfl ?_;intro _ _ _))
  refine l_no rfl (by omega) ?_
  repeat(first|refine lrun_ ?_|(refine lo_boxA rfl rfl ?_;intro _ _ _)|(refine lo_box1 rfl rfl rfl ?_;intro _ _ _)|(refine lo_alloc rfl ?_;intro _ _ _))
  refine lo_rn (fun _ => r_cap rfl) rfl ?_
  repeat(first|refine lrun_ ?_|(refine lo_boxA rfl rfl ?_;intro _ _ _)|(refine lo_box1 rfl rfl rfl ?_;intro _ _ _)|(refine lo_alloc rfl ?_;intro _ _ _))
  refine l_ite rfl (fun h0 => ?_) (fun h0 => ?_)
  · repeat(first|refine lrun_ ?_|(refine lo_boxA rfl rfl ?_;intro _ _ _)|(refine lo_box1 rfl rfl rfl ?_;intro _ _ _)|(refine lo_alloc rfl ?_;intro _ _ _))
    refine lo_rn (fun _ => r_cap rfl) rfl ?_
    refine lo_rn (fun _ => r_slice (A := none) (n := 0) (c := 0) rfl 0 0 0 rfl ⟨_, rfl⟩ rfl (Nat.le_refl _) (Nat.le_refl _) (Nat.le_refl _)) rfl ?_
    repeat(first|refine lrun_ ?_|(refine lo_boxA rfl rfl ?_;intro _ _ _)|(refine lo_box1 rfl rfl rfl ?_;intro _ _ _)|(refine lo_alloc rfl ?_;intro _ _ _))
    refine lo_any (Φ := fun w u w' => ∃ g c, ∃ cs : Array Value, u = .slice (some ⟨g, 0, none⟩) n c ∧ n ≤ c ∧ c ≤ maxLen ∧ c * 1 ≤ cs.size ∧ Nb w w' g (.cells cs 21)) (fun w hw => e_zeros (n := n) rfl (by show some _ = some _; simp) (by omega) (by decide) (by omega) (by omega) rfl) rfl ?_
    rintro w1 _ w2 hw1 ⟨g, c, cs, rfl, h1, h2, h3, nb⟩
    refine lo_close ((hw1.nb nb)) ?_
    repeat(first|refine lrun_ ?_|(refine lo_boxA rfl rfl ?_;intro _ _ _)|(refine lo_box1 rfl rfl rfl ?_;intro _ _ _)|(refine lo_alloc rfl ?_;intro _ _ _))
    refine l_ret1 rfl rfl fun w3 hw => ⟨hw.org, _, _, rfl, [], rfl, Fits.zero _, .inr ⟨g, 0, c, cs, _, rfl, ?_, hw.mem g _ .hd, Nat.zero_le _, h2, by show 0 + c * 1 ≤ _; omega, fun j u hu => by simp at hu⟩⟩
    have := nb.ge
    have := hw1.org.size
    unfold noB
    omega
  · refine l_go .skip ?_
    repeat(first|refine lrun_ ?_|(refine lo_boxA rfl rfl ?_;intro _ _ _)|(refine lo_box1 rfl rfl rfl ?_;intro _ _ _)|(refine lo_alloc rfl ?_;intro _ _ _))
    exact l_ret1 rfl rfl fun w hw => ⟨hw.org, none, 0, rfl, Ow.nil _ _ _ _⟩
theorem runes_take {xs : List (List Int)} {k : Nat} (h : k < xs.length) : runesM (xs.take (k + 1)) = runesM (xs.take k) + (xs.getD k []).length := by
  unfold runesM
  rw [List.take_succ_eq_append_getElem h, List.map_append, List.sum_append, List.getD_eq_getElem?_getD, List.getElem?_eq_getElem h]
  simp
theorem runes_take_le (xs : List (List Int)) (k : Nat) : runesM (xs.take k) ≤ runesM xs := by
  have : runesM xs = runesM (xs.take k) + runesM (xs.drop k) := by
    unfold runesM
    rw [← List.sum_append, ← List.map_append, List.take_append_drop]
  omega
theorem flat_take {xs : List (List Int)} {k : Nat} (h : k < xs.length) : (xs.take (k + 1)).flatten = (xs.take k).flatten ++ xs.getD k [] := by
  rw [List.take_succ_eq_append_getElem h, List.flatten_append, List.getD_eq_getElem?_getD, List.getElem?_eq_getElem h]
  simp
theorem flat_len (xs : List (List Int)) : xs.flatten.length = runesM xs := by unfold runesM; rw [List.length_flatten]
set_option maxHeartbeats 4000000 in
theorem concat_calls {F : Nat → Prop} {w : World} {v : Value} {xs : List (List Int)} (h : Sl kRow F w v xs) (hb : runesM xs ≤ 4194304) :
    CallsR Try.prog 31 #[v] w fun u w' => Kn w w' ∧ Ow kRune (noB w) (fun _ => False) w' u xs.flatten := by
  obtain ⟨A, c, ad, rV, rc, ra, rfl, hR⟩ := h.rws
  have hlen := hR.len
  refine l_enter (fun _ => False) Try.func31 rfl rfl ?_
  repeat(first|refine lrun_ ?_|(refine lo_boxA rfl rfl ?_;intro _ _ _)|(refine lo_box1 rfl rfl rfl ?_;intro _ _ _)|(refine lo_alloc rfl ?_;intro _ _ _))
  refine l_while (fun k : Nat => xs.length - k) (fun k => [(0, .slice A xs.length c), (3, .int .i64 (runesM (xs.take k) : Nat)), (9, .slice A xs.length c), (10, .int .i64 xs.length), (11, .int .i64 (k : Int))]) (fun _ => []) (fun k => k ≤ xs.length) 0 (by repeat (first | exact SubB.nil | refine SubB.cons rfl ?_)) (by repeat(first|exact MSub.refl|refine MSub.keep rfl ?_|exact MSub.nil|apply MSub.drop)) (Nat.zero_le _) ?_
  rintro k hk ih
  by_cases hlt : k < xs.length
  · have h1 := runes_take hlt
    have h2 := runes_take_le xs (k + 1)
    have h3 := hR.rl k
    repeat(first|refine lrun_ ?_|(refine lo_boxA rfl rfl ?_;intro _ _ _)|(refine lo_box1 rfl rfl rfl ?_;intro _ _ _)|(refine lo_alloc rfl ?_;intro _ _ _))
    refine l_yes rfl (by omega) ?_
    repeat(first|refine lrun_ ?_|(refine lo_boxA rfl rfl ?_;intro _ _ _)|(refine lo_box1 rfl rfl rfl ?_;intro _ _ _)|(refine lo_alloc rfl ?_;intro _ _ _))
    refine l_no rfl (by omega) ?_
    repeat(first|refine lrun_ ?_|(refine lo_boxA rfl rfl ?_;intro _ _ _)|(refine lo_box1 rfl rfl rfl ?_;intro _ _ _)|(refine lo_alloc rfl ?_;intro _ _ _))
    exact ih (k + 1) hlt (by omega) _ _ (by rw [h1]; exact (by repeat (first | exact SubB.nil | refine SubB.cons rfl ?_))) (by repeat(first|exact MSub.refl|refine MSub.keep rfl ?_|exact MSub.nil|apply MSub.drop))
  · obtain rfl : k = xs.length := by omega
    rw [List.take_length]
    repeat(first|refine lrun_ ?_|(refine lo_boxA rfl rfl ?_;intro _ _ _)|(refine lo_box1 rfl rfl rfl ?_;intro _ _ _)|(refine lo_alloc rfl ?_;intro _ _ _))
    refine l_no rfl (by omega) ?_
    refine l_go (.exit rfl) ?_
    repeat(first|refine lrun_ ?_|(refine lo_boxA rfl rfl ?_;intro _ _ _)|(refine lo_box1 rfl rfl rfl ?_;intro _ _ _)|(refine lo_alloc rfl ?_;intro _ _ _))
    refine lo_callM (n_call rfl) rfl (fun w hw => grow_calls hb) ?_
    rintro w1 _ w2 hw1 kn1 kp1 ⟨A1, c1, rfl, hO⟩
    have hog : Og kRune w w2 (MK []) (fun _ => False) (.slice A1 0 c1) [] := hO.mono (fun k hk _ => ⟨by have := hw1.org.size; unfold noB at hk; omega, mk_nil⟩) fun _ h _ => h
    clear hO hw1 kn1 kp1 ih
    repeat(first|refine lrun_ ?_|(refine lo_boxA rfl rfl ?_;intro _ _ _)|(refine lo_box1 rfl rfl rfl ?_;intro _ _ _)|(refine lo_alloc rfl ?_;intro _ _ _))
    refine l_whileB (fun s : Nat × Option Addr × Nat => xs.length - s.1) (fun s => [(6, .slice s.2.1 (xs.take s.1).flatten.length s.2.2), (25, .slice A xs.length c), (26, .int .i64 xs.length), (27, .int .i64 (s.1 : Int))]) (fun _ => [])
      (fun s b => s.1 ≤ xs.length ∧ Og kRune w b (MK []) (fun _ => False) (.slice s.2.1 (xs.take s.1).flatten.length s.2.2) (xs.take s.1).flatten) (0, A1, c1) (by repeat (first | exact SubB.nil | refine SubB.cons rfl ?_)) (by repeat(first|exact MSub.refl|refine MSub.keep rfl ?_|exact MSub.nil|apply MSub.drop)) (fun w hw => ⟨Nat.zero_le _, hog.now (fun _ h => h.elim) hw⟩) ?_
    rintro ⟨k, A2, c2⟩ b ⟨hk, hO⟩ hkb ih
    simp only at hk
    by_cases hlt : k < xs.length
    · have h1 := flat_take hlt
      have h2 := runes_take_le xs (k + 1)
      rw [← flat_len, h1, List.length_append] at h2
      repeat(first|refine lrun_ ?_|(refine lo_boxA rfl rfl ?_;intro _ _ _)|(refine lo_box1 rfl rfl rfl ?_;intro _ _ _)|(refine lo_alloc rfl ?_;intro _ _ _))
      refine l_yes rfl (by omega) ?_
      repeat(first|refine lrun_ ?_|(refine lo_boxA rfl rfl ?_;intro _ _ _)|(refine lo_box1 rfl rfl rfl ?_;intro _ _ _)|(refine lo_alloc rfl ?_;intro _ _ _))
      refine lo_appendS (d := kRune) (ys := xs.getD k []) rfl rfl hO (fun w' hw => Kn.sl hw.org (hR.rs k hlt).old) (fun j hj ho => by have := (hO.block j ho).1.1; omega) (by show ((xs.take k).flatten.length + (xs.getD k []).length) * 4 ≤ 140737488355328; omega) rfl rfl rfl rfl ?_
      intro w1 A3 c3 w2 hw1 hk1 hk2 hown hog2
      repeat(first|refine lrun_ ?_|(refine lo_boxA rfl rfl ?_;intro _ _ _)|(refine lo_box1 rfl rfl rfl ?_;intro _ _ _)|(refine lo_alloc rfl ?_;intro _ _ _))
      exact ih (k + 1, A3, c3) w2 _ ⟨by simp only; omega, by simp only [h1]; exact hog2⟩ (by simp only; omega) _ _ (by simp only; rw [h1]; exact (by repeat (first | exact SubB.nil | refine SubB.cons rfl ?_))) (by repeat(first|exact MSub.refl|refine MSub.keep rfl ?_|exact MSub.nil|apply MSub.drop)) (fun w3 hw3 => ⟨by simp only; omega, by simp only [h1]; exact hog2.now (fun _ h => h.elim) hw3⟩)
    · obtain rfl : k = xs.length := by omega
      rw [List.take_length] at hO
      repeat(first|refine lrun_ ?_|(refine lo_boxA rfl rfl ?_;intro _ _ _)|(refine lo_box1 rfl rfl rfl ?_;intro _ _ _)|(refine lo_alloc rfl ?_;intro _ _ _))
      refine l_no rfl (by omega) ?_
      refine l_go (.exit rfl) ?_
      repeat(first|refine lrun_ ?_|(refine lo_boxA rfl rfl ?_;intro _ _ _)|(refine lo_box1 rfl rfl rfl ?_;intro _ _ _)|(refine lo_alloc rfl ?_;intro _ _ _))
      refine l_ret1 rfl rfl fun w3 hw => ⟨hw.org, ?_⟩
      rw [List.take_length]
      exact (hO.now (fun _ h => h.elim) hw).mono (fun k hk _ => hk.1) fun _ h _ => h
end Go.Ink
