/-
  TextLong.
-/
import Derived.Test.YtfgajbilegjbpaaY2
import Derived.Test.YtfgajbilegjbpaaZ1
import Derived.Test.YtfgajbilegjbpaaIdx
import Derived.Test.YtfgajbilegjbpaaRead
set_option linter.unusedVariables false
set_option linter.unusedSimpArgs false
namespace Go.Ink
open Go Go.Proofs Go.RowKit

/-- The lines. -/
def lngM (e k : Nat) : List (List Int) := (List.range k).map fun i => List.replicate (i % e) 0
theorem lng_len (e k : Nat) : (lngM e k).length = k := by simp [lngM]
theorem lng_succ (e k : Nat) : lngM e (k + 1) = lngM e k ++ [List.replicate (k % e) 0] := by unfold lngM; rw [List.range_succ, List.map_append]; rfl
theorem lng_at {e k i : Nat} (h : i < k) : (lngM e k).getD i [] = List.replicate (i % e) 0 := by
  unfold lngM
  rw [List.getD_eq_getElem?_getD, List.getElem?_map, List.getElem?_range h]
  rfl
theorem lng_plain (e k : Nat) : plainB (lngM e k) = true := plain_iff.2 fun x hx h10 => by
  unfold lngM at hx
  obtain ⟨i, _, rfl⟩ := List.mem_map.1 hx
  have := List.eq_of_mem_replicate h10
  omega
theorem lng_runes (e k : Nat) (he : 0 < e) : runesM (lngM e k) ≤ k * e := by
  induction k with
  | zero => exact Nat.zero_le _
  | succ k ih =>
    have h1 := Nat.mod_lt k he
    have h2 : runesM (lngM e (k + 1)) = runesM (lngM e k) + k % e := by
      rw [lng_succ]
      unfold runesM
      rw [List.map_append, List.sum_append]
      simp
    rw [h2, Nat.succ_mul]
    omega
set_option maxHeartbeats 8000000 in
theorem long_tail {w B : World} {D : Nat → Prop} {gt b e N : Nat} (he : 0 < e) (he2 : e ≤ 20) (hN : 1 ≤ N) (hN2 : N ≤ 1000) (hT : IsTxt D gt B (lngM e N) b) :
    ∀ σ', SubB σ' [(0, .int .i64 (N : Int)), (1, .int .i64 (e : Int)), (7, .pointer (some ⟨gt, 0, none⟩))] → ∀ M', MSub [] M' →
      WL Try.prog Try.f4 (.code (bodyC Try.f4 [1, 1, 1, 1, 1, 1, 1]) :: []) σ' w (fun _ => False) B (MK []) M' fun u w' => Kn w w' ∧ u = .bool true := by
  intro σ' hs M' hM
  refine WL.sub hs hM ?_
  have hL := lng_len e N
  have hr := lng_runes e N he
  have hr2 : N * e ≤ 1000 * 20 := Nat.mul_le_mul hN2 he2
  have hjl := jnd_len (lngM e N)
  repeat(first|refine lrun_ ?_|(refine lo_boxA rfl rfl ?_;intro _ _ _)|(refine lo_box1 rfl rfl rfl ?_;intro _ _ _)|(refine lo_alloc rfl ?_;intro _ _ _))
  refine l_while (fun i : Nat => N - i) (fun i => [(0, .int .i64 (N : Int)), (1, .int .i64 (e : Int)), (7, .pointer (some ⟨gt, 0, none⟩)), (8, .int .i64 (ofs (lngM e N) i : Nat)), (9, .int .i64 (i : Int))]) (fun _ => []) (fun i => i ≤ N) 0 (by repeat (first | exact SubB.nil | refine SubB.cons rfl ?_)) (by repeat(first|exact MSub.refl|refine MSub.keep rfl ?_|exact MSub.nil|apply MSub.drop)) (Nat.zero_le _) ?_
  intro i hi ih
  have ho := ofs_le (l := lngM e N) i
  by_cases hlt : i < N
  · have hrow := lng_at (e := e) hlt
    have hm := Nat.mod_lt i he
    have hos := ofs_succ (l := lngM e N) (i := i) (by omega)
    rw [hrow, List.length_replicate] at hos
    have ho2 := ofs_le (l := lngM e N) (i + 1)
    have ih2 := ih (i + 1) hlt (by omega)
    rw [show ((ofs (lngM e N) (i + 1) : Nat) : Int) = ((ofs (lngM e N) i : Nat) : Int) + (((i % e : Nat) : Int) + 1) by rw [hos]; omega] at ih2
    repeat(first|refine lrun_ ?_|(refine lo_boxA rfl rfl ?_;intro _ _ _)|(refine lo_box1 rfl rfl rfl ?_;intro _ _ _)|(refine lo_alloc rfl ?_;intro _ _ _))
    refine l_yes rfl (by omega) ?_
    repeat(first|refine lrun_ ?_|(refine lo_boxA rfl rfl ?_;intro _ _ _)|(refine lo_box1 rfl rfl rfl ?_;intro _ _ _)|(refine lo_alloc rfl ?_;intro _ _ _))
    have ht : thereP (lngM e N) ((i : Int), (0 : Int)) := ⟨by simp only; omega, by simp only; omega, by simp only; omega, by simp only [Int.toNat_natCast]; omega⟩
    refine lo_call (n_call rfl) rfl (fun w' hw => offsetT_calls (p := ((i : Int), 0)) (hT.kp hw.kp fun _ _ => mk_nil) (by unfold P64; simp only; omega)) ?_
    rw [if_pos ht, if_pos ht]
    simp only [Int.toNat_natCast]
    rw [Int.zero_add]
    repeat(first|refine lrun_ ?_|(refine lo_boxA rfl rfl ?_;intro _ _ _)|(refine lo_box1 rfl rfl rfl ?_;intro _ _ _)|(refine lo_alloc rfl ?_;intro _ _ _))
    refine l_no rfl (by omega) ?_
    refine l_go .skip ?_
    repeat(first|refine lrun_ ?_|(refine lo_boxA rfl rfl ?_;intro _ _ _)|(refine lo_box1 rfl rfl rfl ?_;intro _ _ _)|(refine lo_alloc rfl ?_;intro _ _ _))
    refine lo_rn (fun _ => r_rem rfl rfl (by omega)) rfl ?_
    rw [show (i : Int).tmod (e : Int) = ((i % e : Nat) : Int) from (Int.ofNat_tmod i e).symm]
    repeat(first|refine lrun_ ?_|(refine lo_boxA rfl rfl ?_;intro _ _ _)|(refine lo_box1 rfl rfl rfl ?_;intro _ _ _)|(refine lo_alloc rfl ?_;intro _ _ _))
    exact ih2 _ _ (by repeat (first | exact SubB.nil | refine SubB.cons rfl ?_)) (by repeat(first|exact MSub.refl|refine MSub.keep rfl ?_|exact MSub.nil|apply MSub.drop))
  · obtain rfl : i = N := by omega
    have hof : ofs (lngM e i) i = runesM (lngM e i) + i := by unfold ofs; rw [List.take_of_length_le (by omega)]
    repeat(first|refine lrun_ ?_|(refine lo_boxA rfl rfl ?_;intro _ _ _)|(refine lo_box1 rfl rfl rfl ?_;intro _ _ _)|(refine lo_alloc rfl ?_;intro _ _ _))
    refine l_no rfl (by omega) ?_
    refine l_go (.exit rfl) ?_
    repeat(first|refine lrun_ ?_|(refine lo_boxA rfl rfl ?_;intro _ _ _)|(refine lo_box1 rfl rfl rfl ?_;intro _ _ _)|(refine lo_alloc rfl ?_;intro _ _ _))
    refine lo_call (n_call rfl) rfl (fun w' hw => runesT_calls (hT.kp hw.kp fun _ _ => mk_nil)) ?_
    rw [show ((jndM (lngM e i)).length : Int) = ((ofs (lngM e i) i : Nat) : Int) - 1 by omega]
    repeat(first|refine lrun_ ?_|(refine lo_boxA rfl rfl ?_;intro _ _ _)|(refine lo_box1 rfl rfl rfl ?_;intro _ _ _)|(refine lo_alloc rfl ?_;intro _ _ _))
    refine lo_call (n_call (args := []) rfl) rfl (fun w' hw => awake_calls) ?_
    repeat(first|refine lrun_ ?_|(refine lo_boxA rfl rfl ?_;intro _ _ _)|(refine lo_box1 rfl rfl rfl ?_;intro _ _ _)|(refine lo_alloc rfl ?_;intro _ _ _))
    exact l_ret1 rfl rfl fun w' hw => ⟨hw.org, rfl⟩
set_option maxHeartbeats 8000000 in
theorem law_TextLong {W : World} {n0 e0 : Int} (hn0 : -9223372036854775808 ≤ n0 ∧ n0 ≤ 9223372036854775807) (he0 : -9223372036854775808 ≤ e0 ∧ e0 ≤ 9223372036854775807) : CallsR Try.prog 4 #[.int .i64 n0, .int .i64 e0] W fun r w' => r = .bool true ∧ Kn W w' := by
  suffices h : CallsR Try.prog 4 #[.int .i64 n0, .int .i64 e0] W fun r w' => Kn W w' ∧ r = .bool true from h.mono fun _ _ ⟨a, b⟩ => ⟨b, a⟩
  refine l_enter (args := [.int .i64 n0, .int .i64 e0]) (fun _ => False) Try.func4 rfl rfl ?_
  obtain ⟨N, hN, hN1, hN2⟩ : ∃ N : Nat, (if (1 : Int) < (if (1000 : Int) < n0 then 1000 else n0) then (if (1000 : Int) < n0 then 1000 else n0) else 1) = (N : Int) ∧ 1 ≤ N ∧ N ≤ 1000 := ⟨(if (1 : Int) < (if (1000 : Int) < n0 then 1000 else n0) then (if (1000 : Int) < n0 then 1000 else n0) else 1).toNat, by split <;> split <;> omega, by split <;> split <;> omega, by split <;> split <;> omega⟩
  obtain ⟨e, he, he1, he2⟩ : ∃ N : Nat, (if (1 : Int) < (if (20 : Int) < e0 then 20 else e0) then (if (20 : Int) < e0 then 20 else e0) else 1) = (N : Int) ∧ 1 ≤ N ∧ N ≤ 20 := ⟨(if (1 : Int) < (if (20 : Int) < e0 then 20 else e0) then (if (20 : Int) < e0 then 20 else e0) else 1).toNat, by split <;> split <;> omega, by split <;> split <;> omega, by split <;> split <;> omega⟩
  have hrl := lng_runes e N he1
  have hr2 : N * e ≤ 1000 * 20 := Nat.mul_le_mul hN2 he2
  repeat(first|refine lrun_ ?_|(refine lo_boxA rfl rfl ?_;intro _ _ _)|(refine lo_box1 rfl rfl rfl ?_;intro _ _ _)|(refine lo_alloc rfl ?_;intro _ _ _))
  rw [hN, he]
  refine l_whileB (fun s : Nat × Value × List Value => N - s.1) (fun s => [(0, .int .i64 (N : Int)), (1, .int .i64 (e : Int)), (5, s.2.1), (6, .int .i64 (s.1 : Int))]) (fun _ => []) (fun s b => s.1 ≤ N ∧ Tab (fre W (MK [])) (fun j => True) b s.2.1 s.2.2 (lngM e s.1)) (0, .slice none 0 0, []) (by repeat (first | exact SubB.nil | refine SubB.cons rfl ?_)) (by repeat(first|exact MSub.refl|refine MSub.keep rfl ?_|exact MSub.nil|apply MSub.drop)) (fun w' hw => ⟨Nat.zero_le _, Tab.nil _ _ _⟩) ?_
  rintro ⟨k, v, us⟩ b ⟨hk, hT⟩ hkb ih
  simp only at hk hT
  have hlk := lng_len e k
  by_cases hlt : k < N
  · have hm := Nat.mod_lt k he1
    have hT1 := hT.less (L' := fun j => j < k) fun _ _ => trivial
    repeat(first|refine lrun_ ?_|(refine lo_boxA rfl rfl ?_;intro _ _ _)|(refine lo_box1 rfl rfl rfl ?_;intro _ _ _)|(refine lo_alloc rfl ?_;intro _ _ _))
    refine l_yes rfl (by omega) ?_
    repeat(first|refine lrun_ ?_|(refine lo_boxA rfl rfl ?_;intro _ _ _)|(refine lo_box1 rfl rfl rfl ?_;intro _ _ _)|(refine lo_alloc rfl ?_;intro _ _ _))
    refine lo_rn (fun _ => r_rem rfl rfl (by omega)) rfl ?_
    rw [show (k : Int).tmod (e : Int) = ((k % e : Nat) : Int) from (Int.ofNat_tmod k e).symm]
    refine lo_makeM (d := kRune) (n := k % e) 0 rfl rfl rfl rfl (by show k % e * 4 ≤ 140737488355328; omega) (fun _ => ⟨rfl, by decide, by decide⟩) rfl rfl rfl ?_
    intro w3 g27 w4 hw3 kn3 ko3 hO
    have hs3 := hw3.kp.size
    have hT3 := (hT1.bound.kp hw3.kp fun _ _ => mk_nil).kn kn3
    refine lo_lit (cs := [.slice (some ⟨g27, 0, none⟩) (k % e : Nat) (k % e : Nat)]) rfl (by decide) (by kernel_rfl) rfl ?_
    intro g28 _ _
    have hvb : ∀ m, v.ownBlock = some m → m < b.heap.size := fun m hm => (hT1.t.block m hm).2
    have hrb : ∀ i u2 m, i < k → us[i]? = some u2 → u2.ownBlock = some m → m < b.heap.size := fun i u2 m hi hu hm => (hT1.blk hi hu hm).2.1
    have hob : ∀ m, (Value.slice (some ⟨g27, 0, none⟩) (k % e) (k % e)).ownBlock = some m → w3.heap.size ≤ m := fun m hm => by have := (hO.block m hm).1; unfold noB at this; omega
    have hs4 := kn3.size
    refine lo_tabPush (r := List.replicate (k % e) 0) rfl rfl (hT3.mono (G' := fre W (MK [])) fun k hk _ => ⟨hk.1.1, mk_nil⟩) (by(repeat(first|exact MIn.hd|refine MIn.tl ?_));done) (hO.mono (fun i hi hl => ⟨⟨by have := hw3.org.size; unfold noB at hi; omega, mk_nil⟩, fun e => ?_⟩) fun _ h _ => h) (by rw [hlk]; omega) (fun i u2 m hi hu hm hm2 => ?_) (by rw [hlk]; omega) rfl rfl ?_
    · have := hvb i e
      unfold noB at hi
      omega
    · have := hob m hm2
      have := hrb i u2 m hi hu hm
      omega
    intro w5 A5 n5 w6 hw5 ko5 kp5 hT6
    rw [← lng_succ] at hT6 ⊢
    repeat(first|refine lops_ ?_|(refine lo_boxA rfl rfl ?_;intro _ _ _)|(refine lo_box1 rfl rfl rfl ?_;intro _ _ _)|(refine lo_alloc rfl ?_;intro _ _ _))
    refine lo_nil ?_
    refine l_baseM (M3 := []) .nil fun w7 hw7 => ?_
    have hT7 := ((hT6.kp hw7.kp fun k hk => hk.2).mono (G' := fre W (MK [])) fun k hk _ => ⟨hk.1, mk_nil⟩).all fun j hj => by
      rw [lng_len] at hj; omega
    repeat(first|refine lrun_ ?_|(refine lo_boxA rfl rfl ?_;intro _ _ _)|(refine lo_box1 rfl rfl rfl ?_;intro _ _ _)|(refine lo_alloc rfl ?_;intro _ _ _))
    exact ih (k + 1, _, _) w7 _ ⟨hlt, hT7⟩ (by simp only; omega) _ _ (by repeat (first | exact SubB.nil | refine SubB.cons rfl ?_)) (by repeat(first|exact MSub.refl|refine MSub.keep rfl ?_|exact MSub.nil|apply MSub.drop)) fun w' hw' => ⟨hlt, hT7.kp hw'.kp fun _ _ => mk_nil⟩
  · obtain rfl : k = N := by omega
    have hR := hT.ow fun _ _ => trivial
    have hv : Sl kRow (fun _ => True) b v (lngM e k) := hR.slF (fun _ _ => trivial) fun _ _ => trivial
    repeat(first|refine lrun_ ?_|(refine lo_boxA rfl rfl ?_;intro _ _ _)|(refine lo_box1 rfl rfl rfl ?_;intro _ _ _)|(refine lo_alloc rfl ?_;intro _ _ _))
    refine l_no rfl (by omega) ?_
    refine l_go (.exit rfl) ?_
    repeat(first|refine lrun_ ?_|(refine lo_boxA rfl rfl ?_;intro _ _ _)|(refine lo_box1 rfl rfl rfl ?_;intro _ _ _)|(refine lo_alloc rfl ?_;intro _ _ _))
    refine lo_callM (n_call rfl) rfl (fun w' hw => newT_calls (Kp.sl hw.kp hv fun _ _ => mk_nil) (by rw [hlk]; omega)) ?_
    rintro w1 u w2 hw1 kn1 ko1 hu
    rw [lng_plain] at hu
    rcases hu with ⟨hp, _⟩ | ⟨hp, gt, rfl, hT⟩
    · cases hp
    rw [new_split (lng_plain e k)] at hT
    rw [show newL (lngM e k) = lngM e k by unfold newL; rw [if_neg (fun h => by rw [h] at hlk; simp at hlk; omega)]] at hT
    repeat(first|refine lrun_ ?_|(refine lo_boxA rfl rfl ?_;intro _ _ _)|(refine lo_box1 rfl rfl rfl ?_;intro _ _ _)|(refine lo_alloc rfl ?_;intro _ _ _))
    refine l_false rfl ?_
    refine l_go .skip ?_
    exact long_tail he1 he2 hN1 hN2 hT _ (by repeat (first | exact SubB.nil | refine SubB.cons rfl ?_)) _ (by repeat(first|exact MSub.refl|refine MSub.keep rfl ?_|exact MSub.nil|apply MSub.drop))
end Go.Ink
