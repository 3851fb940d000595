/-
  Places of the reference.
-/
import Derived.Test.YtcfbkoajhllcaaaW4
import Derived.Test.YtcfbkoajhllcaaaApp
set_option linter.unusedVariables false
set_option linter.unusedSimpArgs false
namespace Go.Ink
open Go Go.Proofs

section
variable {F : Nat → Prop} {w : World} {v : Value} {l : List (List Int)} {p q : Ps}
structure PcSt where
  i : Nat
  A : Option Addr
  c : Nat
structure PkSt where
  k : Nat
  A : Option Addr
  c : Nat
theorem app_next {α : Type} {d : Kd α} [ScK d] {F : Nat → Prop} {w w1 w2 : World} {v v2 : Value} {xs zs : List α} (hk : Kn w w1) (hO : Ow d (noB w) (fun _ => False) w1 v xs) (hA : App d (noB w) F w1 v zs v2 w2) :
    Kn w w2 ∧ Ow d (noB w) (fun _ => False) w2 v2 zs := by
  have hz := hk.size
  refine ⟨Kp.then hk hA.kp (fun _ h => h) (fun i hi he => ?_), (hA.ow.sc (F' := fun _ => False)).mono (fun k hk _ => hk.elim id (fun h => ?_)) (fun _ h _ => h)⟩
  · have := (hO.block i he).1
    simp only [noB] at this
    omega
  · simp only [noB]; omega
set_option maxHeartbeats 2000000 in
theorem places_calls (h : Sl kRow F w v l) (hs : l.length + runesM l ≤ 4000) : CallsR Try.prog 16 #[v] w fun u w' => Kn w w' ∧ ∃ A c, u = .slice A (placesTo l l.length).length c ∧ Ow kPs (noB w) (fun _ => False) w' (.slice A (placesTo l l.length).length c) (placesTo l l.length) := by
  obtain ⟨A, c, rfl, hc, hlf⟩ := h.form
  have hrt : ∀ n, runesM (l.take n) ≤ runesM l := fun n => by
    unfold runesM
    have : l.map List.length = (l.take n).map List.length ++ (l.drop n).map List.length := by rw [← List.map_append, List.take_append_drop]
    rw [this, List.sum_append]
    omega
  refine calls_enter Try.func16 rfl rfl ?_
  repeat(refine run_ ?_)
  refine k_while (S := PcSt) (fun s => l.length - s.i) (fun s => [(0, .slice A l.length c), (3, .slice s.A (placesTo l s.i).length s.c), (4, .int .i64 s.i)])
    (fun s wr => s.i ≤ l.length ∧ Kn w wr ∧ Ow kPs (noB w) (fun _ => False) wr (.slice s.A (placesTo l s.i).length s.c) (placesTo l s.i)) ⟨0, none, 0⟩ (by repeat (first | exact SubB.nil | refine SubB.cons rfl ?_)) ⟨Nat.zero_le _, Kp.refl _ _, Ow.nil _ _ _ _⟩ ?_
  rintro ⟨i, B, cB⟩ wr ⟨hi, hkn, hO⟩ ih
  simp only at hi hkn hO ih ⊢
  have hle := placesTo_le (l := l) i hi
  have hr := hrt i
  repeat(refine run_ ?_)
  refine k_ite rfl (fun hlt => ?_) (fun hge => ?_)
  case refine_2 =>
    obtain rfl : i = l.length := by omega
    repeat(refine run_ ?_)
    exact k_ret1 rfl rfl ⟨hkn, B, cB, rfl, hO⟩
  have hlt' : i < l.length := by omega
  have hle2 := placesTo_le (l := l) (i + 1) (by omega)
  have hr2 := hrt (i + 1)
  have hps := placesTo_succ (l := l) i
  obtain ⟨ad, cs, rfl, ⟨v1, rfl, hrow⟩, hcell⟩ := h.at_ (List.getElem?_eq_getElem hlt')
  obtain ⟨A1, c1, rfl, hc1, hf1⟩ := hrow.form
  have hlx := hf1.len
  have hgd := getD_get hlt'
  have hpa : placesAt l i = if l[i].length = 0 then [((i : Int), 0)] else colsTo i l[i].length := by unfold placesAt; rw [hgd]
  have J : ∀ (B2 : Option Addr) (c2 : Nat) (w2 : World) (base : List Ps), (l[i].length = 0 → base = placesTo l (i + 1)) → (l[i].length ≠ 0 → base = placesTo l i) → Kn w w2 → Ow kPs (noB w) (fun _ => False) w2 (.slice B2 base.length c2) base →
      ∀ σ', SubB σ' [(0, .slice (some ad) l.length c), (3, .slice B2 base.length c2), (4, .int .i64 i)] → WK Try.prog Try.f16 [.code (bodyC Try.f16 [1, 1, 0, 1, 0, 0, 1, 0, 0, 1]), .inBlock 1, .code (bodyC Try.f16 [1, 1, 0, 1, 0, 0, 1, 1]), .inLoop (bodyC Try.f16 [1, 1, 0, 1, 0, 0]), .inBlock 0, .code (bodyC Try.f16 [1, 1, 1])] σ' w2 fun u w' => Kn w w' ∧ ∃ A c, u = .slice A (placesTo l l.length).length c ∧ Ow kPs (noB w) (fun _ => False) w' (.slice A (placesTo l l.length).length c) (placesTo l l.length) := by
    intro B2 c2 w2 base hb0 hb1 k2 hO2 σ' hs'
    refine WK.sub (Sub.mk hs') ?_
    clear hs' σ'
    repeat(refine run_ ?_)
    refine k_while (S := PkSt) (fun s => l[i].length - s.k) (fun s => [(0, .slice (some ad) l.length c), (3, .slice s.A (base.length + s.k) s.c), (4, .int .i64 i), (5, .int .i64 s.k)])
      (fun s wq => s.k ≤ l[i].length ∧ Kn w wq ∧ Ow kPs (noB w) (fun _ => False) wq (.slice s.A (base.length + s.k) s.c) (base ++ colsTo i s.k)) ⟨0, B2, c2⟩ (by repeat (first | exact SubB.nil | refine SubB.cons rfl ?_)) ⟨Nat.zero_le _, k2, by show Ow kPs (noB w) (fun _ => False) w2 (.slice B2 (base.length + 0) c2) (base ++ colsTo i 0); simpa [colsTo] using hO2⟩ ?_
    rintro ⟨k, B3, c3⟩ wq ⟨hk, hkq, hOq⟩ ih2
    simp only at hk hkq hOq ih2 ⊢
    repeat(refine run_ ?_)
    refine o_still (r_index rfl rfl rfl (by omega) (by omega)) (wants_none rfl) rfl ?_
    refine o_still (r_load rfl (hkq.cell (hcell 0 _ rfl) id)) (wants_none rfl) rfl ?_
    repeat(refine run_ ?_)
    refine k_ite rfl (fun hlt2 => ?_) (fun hge2 => ?_)
    · have hk' : k < l[i].length := by omega
      have hbase : base = placesTo l i := hb1 (by omega)
      have hpl : (placesTo l (i + 1)).length = (placesTo l i).length + l[i].length := by rw [hps, List.length_append, hpa, if_neg (by omega), colsTo_len]
      repeat (first | refine o_nil ?_ | refine k_seq ?_ | refine k_region ?_ | refine k_block ?_ | refine k_inBlock ?_ | refine k_skip ?_)
      refine o_still (r_move rfl) (wants_none rfl) rfl ?_
      refine o_still (r_move rfl) (wants_none rfl) rfl ?_
      refine o_still (r_move rfl) (wants_none rfl) rfl ?_
      refine o_still (r_build (c := #[.int .i64 i, .int .i64 k]) rfl rfl) (wants_none rfl) rfl ?_
      refine o_any (e_one (z := .agg #[.int .i64 0, .int .i64 0]) (sz := 2) rfl rfl rfl (by decide)) (wants_none rfl) rfl ?_
      rintro _ w4 ⟨g4, rfl, nb4⟩
      have hOq4 := Kn.ow nb4.kn hOq
      have k4 : Kn w w4 := hkq.trans nb4.kn
      have e4 := nb4.ge
      refine o_any (e_append2 (d := kPs) rfl rfl hOq4 (sl_blk (F := fun k => k = g4) (xs := [((i : Int), (k : Int))]) (cells := [.int .i64 i, .int .i64 k]) nb4.at_ ⟨_, [], rfl, ps_R (by omega) (by omega), rfl⟩ rfl (show 1 * 16 ≤ 140737488355328 by decide)) (by
        rintro j rfl he
        have := (hOq.block _ he).2
        omega) (by rw [List.length_append, colsTo_len]; show (base.length + k + 1) * 16 ≤ 140737488355328; rw [hbase]; omega) rfl rfl rfl) (wants_none rfl) rfl ?_
      rintro v5 w5 hA
      obtain ⟨k5, hO5⟩ := app_next k4 hOq4 hA
      have hl5 : (base ++ colsTo i k) ++ [((i : Int), (k : Int))] = base ++ colsTo i (k + 1) := by rw [colsTo_succ, List.append_assoc]
      rw [hl5] at hO5
      obtain ⟨A5, c5, hv5, _⟩ := hO5.form
      rw [List.length_append, colsTo_len] at hv5
      subst hv5
      repeat(refine run_ ?_)
      exact ih2 ⟨k + 1, A5, c5⟩ w5 ⟨by show k + 1 ≤ _; omega, k5, hO5⟩ (by show l[i].length - (k + 1) < l[i].length - k; omega) _ (by repeat (first | exact SubB.nil | refine SubB.cons rfl ?_))
    · have hkk : k = l[i].length := by omega
      have hfin : base ++ colsTo i k = placesTo l (i + 1) := by
        by_cases h0 : l[i].length = 0
        · rw [hkk, h0, hb0 h0]; simp [colsTo]
        · rw [hb1 h0, hps, hpa, if_neg h0, hkk]
      have hlen : base.length + k = (placesTo l (i + 1)).length := by rw [← hfin, List.length_append, colsTo_len]
      rw [hfin, hlen] at hOq
      rw [hlen]
      repeat(refine run_ ?_)
      exact ih ⟨i + 1, B3, c3⟩ wq ⟨by show i + 1 ≤ _; omega, hkq, hOq⟩ (by show l.length - (i + 1) < l.length - i; omega) _ (by repeat (first | exact SubB.nil | refine SubB.cons rfl ?_))
  repeat(refine run_ ?_)
  refine o_still (r_index rfl rfl rfl (by omega) (by omega)) (wants_none rfl) rfl ?_
  refine o_still (r_load rfl (hkn.cell (hcell 0 _ rfl) id)) (wants_none rfl) rfl ?_
  repeat(refine run_ ?_)
  refine k_ite rfl (fun h0 => ?_) (fun h0 => ?_)
  · have h0' : l[i].length = 0 := by omega
    refine k_region ?_
    refine o_still (r_move rfl) (wants_none rfl) rfl ?_
    refine o_still (r_move rfl) (wants_none rfl) rfl ?_
    refine o_still (r_build (c := #[.int .i64 i, .int .i64 0]) rfl rfl) (wants_none rfl) rfl ?_
    refine o_any (e_one (z := .agg #[.int .i64 0, .int .i64 0]) (sz := 2) rfl rfl rfl (by decide)) (wants_none rfl) rfl ?_
    rintro _ w4 ⟨g4, rfl, nb4⟩
    have hOq4 := Kn.ow nb4.kn hO
    have k4 : Kn w w4 := hkn.trans nb4.kn
    have e4 := nb4.ge
    refine o_any (e_append2 (d := kPs) rfl rfl hOq4 (sl_blk (F := fun k => k = g4) (xs := [((i : Int), (0 : Int))]) (cells := [.int .i64 i, .int .i64 0]) nb4.at_ ⟨_, [], rfl, ps_R (by omega) (by decide), rfl⟩ rfl (show 1 * 16 ≤ 140737488355328 by decide)) (by
      rintro j rfl he
      have := (hO.block _ he).2
      omega) (by show ((placesTo l i).length + 1) * 16 ≤ 140737488355328; omega) rfl rfl rfl) (wants_none rfl) rfl ?_
    rintro v5 w5 hA
    obtain ⟨k5, hO5⟩ := app_next k4 hOq4 hA
    obtain ⟨A5, c5, rfl, _⟩ := hO5.form
    refine o_still (r_assign rfl) (wants_none rfl) rfl ?_
    refine o_nil ?_
    exact J A5 c5 w5 (placesTo l i ++ [((i : Int), 0)]) (fun _ => by rw [hps, hpa, if_pos h0']) (fun h => absurd h0' h) k5 hO5 _ (by repeat (first | exact SubB.nil | refine SubB.cons rfl ?_))
  · refine k_skip ?_
    exact J B cB wr (placesTo l i) (fun h => absurd h (by omega)) (fun _ => rfl) hkn hO _ (by repeat (first | exact SubB.nil | refine SubB.cons rfl ?_))
end
end Go.Ink
