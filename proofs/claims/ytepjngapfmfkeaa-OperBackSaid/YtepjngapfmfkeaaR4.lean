/-
  OperBack.
-/
import Derived.Test.YtepjngapfmfkeaaR1
import Derived.Test.YtepjngapfmfkeaaR3
import Derived.Test.YtepjngapfmfkeaaArr
set_option linter.unusedVariables false
set_option linter.unusedSimpArgs false
namespace Go.Ink
open Go Go.Proofs Go.RowKit

set_option maxHeartbeats 8000000 in
theorem back_calls {F : Nat → Prop} {w : World} {v : Value} {l : List (List Int)} {x y : Int} (h : Sl kRow F w v l) (hx : -9223372036854775808 ≤ x ∧ x ≤ 9223372036854775807) (hy : -9223372036854775808 ≤ y ∧ y ≤ 9223372036854775807) :
    CallsR Try.prog 7 #[v, .agg #[.int .i64 x, .int .i64 y]] w fun u w' => Kn w w' ∧ u = .bool true := by
  obtain ⟨A, c, e⟩ : ∃ A c, v = .slice A l.length c := by obtain ⟨A, c, e, _⟩ := h.form; exact ⟨A, c, e⟩
  subst e
  refine l_enter (fun _ => False) Try.func7 rfl rfl ?_
  repeat(first|refine lrun_ ?_|(refine lo_boxA rfl rfl ?_;intro _ _ _)|(refine lo_box1 rfl rfl rfl ?_;intro _ _ _)|(refine lo_alloc rfl ?_;intro _ _ _))
  refine lo_call (n_call rfl) rfl (fun w' hw => fit_calls (Kn.sl hw.org h)) ?_
  cases hf : fitB l with
  | false =>
    repeat(first|refine lrun_ ?_|(refine lo_boxA rfl rfl ?_;intro _ _ _)|(refine lo_box1 rfl rfl rfl ?_;intro _ _ _)|(refine lo_alloc rfl ?_;intro _ _ _))
    refine l_true rfl ?_
    repeat(first|refine lrun_ ?_|(refine lo_boxA rfl rfl ?_;intro _ _ _)|(refine lo_box1 rfl rfl rfl ?_;intro _ _ _)|(refine lo_alloc rfl ?_;intro _ _ _))
    refine lo_call (n_call (args := []) rfl) rfl (fun w' hw => awake_calls) ?_
    repeat(first|refine lrun_ ?_|(refine lo_boxA rfl rfl ?_;intro _ _ _)|(refine lo_box1 rfl rfl rfl ?_;intro _ _ _)|(refine lo_alloc rfl ?_;intro _ _ _))
    exact l_ret1 rfl rfl fun w' hw => ⟨hw.org, rfl⟩
  | true =>
  obtain ⟨⟨hll, hlr⟩, hpl⟩ := fit_iff.1 hf
  by_cases h0 : l.length = 0
  · repeat(first|refine lrun_ ?_|(refine lo_boxA rfl rfl ?_;intro _ _ _)|(refine lo_box1 rfl rfl rfl ?_;intro _ _ _)|(refine lo_alloc rfl ?_;intro _ _ _))
    refine l_yes rfl (by omega) ?_
    repeat(first|refine lrun_ ?_|(refine lo_boxA rfl rfl ?_;intro _ _ _)|(refine lo_box1 rfl rfl rfl ?_;intro _ _ _)|(refine lo_alloc rfl ?_;intro _ _ _))
    refine lo_call (n_call (args := []) rfl) rfl (fun w' hw => awake_calls) ?_
    repeat(first|refine lrun_ ?_|(refine lo_boxA rfl rfl ?_;intro _ _ _)|(refine lo_box1 rfl rfl rfl ?_;intro _ _ _)|(refine lo_alloc rfl ?_;intro _ _ _))
    exact l_ret1 rfl rfl fun w' hw => ⟨hw.org, rfl⟩
  repeat(first|refine lrun_ ?_|(refine lo_boxA rfl rfl ?_;intro _ _ _)|(refine lo_box1 rfl rfl rfl ?_;intro _ _ _)|(refine lo_alloc rfl ?_;intro _ _ _))
  refine l_no rfl (by omega) ?_
  refine l_go .skip ?_
  repeat(first|refine lrun_ ?_|(refine lo_boxA rfl rfl ?_;intro _ _ _)|(refine lo_box1 rfl rfl rfl ?_;intro _ _ _)|(refine lo_alloc rfl ?_;intro _ _ _))
  refine lo_rn (fun _ => r_indexA rfl rfl (by decide) (by decide)) rfl ?_
  repeat(first|refine lrun_ ?_|(refine lo_boxA rfl rfl ?_;intro _ _ _)|(refine lo_box1 rfl rfl rfl ?_;intro _ _ _)|(refine lo_alloc rfl ?_;intro _ _ _))
  obtain ⟨a, ha, hal⟩ : ∃ a : Nat, (if 0 < (if (l.length : Int) - 1 < x then (l.length : Int) - 1 else x) then (if (l.length : Int) - 1 < x then (l.length : Int) - 1 else x) else 0) = (a : Int) ∧ a < l.length :=
    ⟨(if 0 < (if (l.length : Int) - 1 < x then (l.length : Int) - 1 else x) then (if (l.length : Int) - 1 < x then (l.length : Int) - 1 else x) else 0).toNat, by constructor <;> (repeat' split) <;> omega⟩
  rw [ha]
  refine lo_rn (fun _ => r_indexA rfl rfl (by decide) (by decide)) rfl ?_
  repeat(first|refine lrun_ ?_|(refine lo_boxA rfl rfl ?_;intro _ _ _)|(refine lo_box1 rfl rfl rfl ?_;intro _ _ _)|(refine lo_alloc rfl ?_;intro _ _ _))
  obtain ⟨b, hb, hbl, hab⟩ : ∃ b : Nat, (if (a : Int) < (if (l.length : Int) - 1 < y then (l.length : Int) - 1 else y) then (if (l.length : Int) - 1 < y then (l.length : Int) - 1 else y) else (a : Int)) = (b : Int) ∧ b < l.length ∧ a ≤ b :=
    ⟨(if (a : Int) < (if (l.length : Int) - 1 < y then (l.length : Int) - 1 else y) then (if (l.length : Int) - 1 < y then (l.length : Int) - 1 else y) else (a : Int)).toNat, by refine ⟨?_, ?_, ?_⟩ <;> (repeat' split) <;> omega⟩
  rw [hb]
  have hrg : RgP (lnR a b) := ⟨by unfold P64 lnR; simp only; omega, by unfold P64 lnR; simp only; omega, by unfold lnR; simp only; omega⟩
  have hth := ln_there hab hbl
  have hgl := ln_len hab hbl
  have hsum : (l.map List.length).sum = runesM l := rfl
  refine lo_callM (n_call rfl) rfl (fun w' hw => take_calls (r := lnR a b) (Kn.sl hw.org h) hrg (by omega)) ?_
  rintro w3 _ w4 hw3 kn3 ko3 ⟨sT, rfl, hOT⟩
  rw [ln_take hab hbl] at hOT
  rw [hth]
  have hT := Hd.of hOT hw3
  obtain ⟨AT, cT, rfl, _, _⟩ := hOT.form
  clear hOT hw3 kn3 ko3
  repeat(first|refine lrun_ ?_|(refine lo_boxA rfl rfl ?_;intro _ _ _)|(refine lo_box1 rfl rfl rfl ?_;intro _ _ _)|(refine lo_alloc rfl ?_;intro _ _ _))
  refine lo_callM (n_call rfl) rfl (fun w' hw => cut_calls (r := lnR a b) (Kn.sl hw.org h) hrg (by omega) (fun j => Nat.le_trans (runes_getD _ j) (by omega)) (Nat.le_trans (gat_out _ _ _ _) (by omega))) ?_
  rintro w5 _ w6 hw5 kn5 ko5 ⟨sC, rfl, hOC⟩
  rw [hth]
  have hT := hT.next hw5 kn5
  have hC := Hd.of hOC hw5
  obtain ⟨AC, cC, rfl, _, _⟩ := hOC.form
  clear hOC hw5 kn5 ko5
  repeat(first|refine lrun_ ?_|(refine lo_boxA rfl rfl ?_;intro _ _ _)|(refine lo_box1 rfl rfl rfl ?_;intro _ _ _)|(refine lo_alloc rfl ?_;intro _ _ _))
  refine l_no rfl (by rw [hgl]; omega) ?_
  refine l_go .skip ?_
  repeat(first|refine lrun_ ?_|(refine lo_boxA rfl rfl ?_;intro _ _ _)|(refine lo_box1 rfl rfl rfl ?_;intro _ _ _)|(refine lo_alloc rfl ?_;intro _ _ _))
  by_cases hall : b + 1 - a = l.length
  · have hm := back_all hab hbl hall
    rw [hm] at hC ⊢
    obtain ⟨FC, hCs, hCF⟩ := hC
    obtain ⟨_, _, adC, rVC, rcC, raC, eC, hRC⟩ := hCs.rws
    cases eC
    refine l_yes rfl (by omega) ?_
    repeat(first|refine lrun_ ?_|(refine lo_boxA rfl rfl ?_;intro _ _ _)|(refine lo_box1 rfl rfl rfl ?_;intro _ _ _)|(refine lo_alloc rfl ?_;intro _ _ _))
    refine lo_index (j := 0) rfl rfl rfl (by decide) (hRC.a (by decide)) rfl ?_
    repeat(first|refine lops_ ?_|(refine lo_boxA rfl rfl ?_;intro _ _ _)|(refine lo_box1 rfl rfl rfl ?_;intro _ _ _)|(refine lo_alloc rfl ?_;intro _ _ _))
    refine lo_loadB rfl (hRC.row 0 (by decide)) (by rw [add_block]; exact (hCF _ (hRC.fa (by decide))).1) rfl ?_
    repeat(first|refine lrun_ ?_|(refine lo_boxA rfl rfl ?_;intro _ _ _)|(refine lo_box1 rfl rfl rfl ?_;intro _ _ _)|(refine lo_alloc rfl ?_;intro _ _ _))
    refine lo_call (n_call (args := []) rfl) rfl (fun w' hw => awake_calls) ?_
    repeat(first|refine lrun_ ?_|(refine lo_boxA rfl rfl ?_;intro _ _ _)|(refine lo_box1 rfl rfl rfl ?_;intro _ _ _)|(refine lo_alloc rfl ?_;intro _ _ _))
    exact l_ret1 rfl rfl fun w' hw => ⟨hw.org, rfl⟩
  · have hbk := back_some hab hbl hall hll hlr hpl
    refine l_no rfl (by omega) ?_
    refine l_go .skip ?_
    repeat(first|refine lrun_ ?_|(refine lo_boxA rfl rfl ?_;intro _ _ _)|(refine lo_box1 rfl rfl rfl ?_;intro _ _ _)|(refine lo_alloc rfl ?_;intro _ _ _))
    have hok := ln_cut_ok hab hbl hll (by omega)
    have hgr : runesM ((l.take (b + 1)).drop a) ≤ 3000 := by have := runes_dr (l.take (b + 1)) a; have := runes_tk l (b + 1); omega
    refine lo_callM (n_call rfl) rfl (fun w' hw => paste_calls (p := (cutM l (lnR a b)).2) (kd := 1) (behind := decide ((b : Int) = (l.length : Int) - 1)) (n := 1) (hC.now hw) (hT.now hw) hok.1 hok.2.1 (by omega) (by omega) hok.2.2 (by decide)) ?_
    rintro w7 _ w8 hw7 kn7 ko7 ⟨sP, rfl, hOP⟩
    rw [hbk.1] at hOP
    rw [hbk.2]
    have hP := Hd.of hOP hw7
    obtain ⟨AP, cP, rfl, _, _⟩ := hOP.form
    clear hOP hw7 kn7 ko7
    repeat(first|refine lrun_ ?_|(refine lo_boxA rfl rfl ?_;intro _ _ _)|(refine lo_box1 rfl rfl rfl ?_;intro _ _ _)|(refine lo_alloc rfl ?_;intro _ _ _))
    refine lo_call (n_call rfl) rfl (fun w' hw => same04_calls (hP.now hw) (Kn.sl hw.org h)) ?_
    rw [decide_eq_true rfl]
    repeat(first|refine lrun_ ?_|(refine lo_boxA rfl rfl ?_;intro _ _ _)|(refine lo_box1 rfl rfl rfl ?_;intro _ _ _)|(refine lo_alloc rfl ?_;intro _ _ _))
    refine lo_call (n_call (args := []) rfl) rfl (fun w' hw => awake_calls) ?_
    repeat(first|refine lrun_ ?_|(refine lo_boxA rfl rfl ?_;intro _ _ _)|(refine lo_box1 rfl rfl rfl ?_;intro _ _ _)|(refine lo_alloc rfl ?_;intro _ _ _))
    exact l_ret1 rfl rfl fun w' hw => ⟨hw.org, rfl⟩
abbrev kTwo : Kd (List Int) := kArr 2 (by decide) kI64
instance : RdT Try.prog 55 kTwo := rd_array (e := 3) (by kernel_rfl) (by kernel_rfl) (by kernel_rfl) inferInstance
theorem law_OperBack {W : World} {u : Value} {l : List (List Int)} {ds : List Value} {x : List Int} (h : Sl kRow (fun _ => True) W u l) (hx : kTwo.R (fun _ => True) W x ds) :
    CallsR Try.prog 7 #[u, .agg ds.toArray] W fun r w' => r = .bool true ∧ Kn W w' := by
  obtain ⟨a, b, rfl, rfl, ha, hb⟩ := arr2_cells hx
  exact (back_calls h ha hb).mono fun r w' ⟨h1, h2⟩ => ⟨h2, h1⟩
end Go.Ink
