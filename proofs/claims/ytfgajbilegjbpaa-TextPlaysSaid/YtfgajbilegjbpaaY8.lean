/-
  TextSwaps.
-/
import Derived.Test.YtfgajbilegjbpaaP2
import Derived.Test.YtfgajbilegjbpaaY7
import Derived.Test.YtfgajbilegjbpaaArr
set_option linter.unusedVariables false
set_option linter.unusedSimpArgs false
namespace Go.Ink
open Go Go.Proofs Go.RowKit

theorem clamp_one (n : Int) (m : Nat) (hm : 1 ≤ m) : ∃ N : Nat, (if (1 : Int) < (if (m : Int) < n then (m : Int) else n) then (if (m : Int) < n then (m : Int) else n) else 1) = (N : Int) ∧ N ≤ m ∧ 1 ≤ N :=
  ⟨(if (1 : Int) < (if (m : Int) < n then (m : Int) else n) then (if (m : Int) < n then (m : Int) else n) else 1).toNat, by split <;> split <;> omega, by split <;> split <;> omega, by split <;> split <;> omega⟩
abbrev kTwo : Kd (List Int) := kArr 2 (by decide) kI64
instance : RdT Try.prog 55 kTwo := rd_array (e := 3) (by kernel_rfl) (by kernel_rfl) (by kernel_rfl) inferInstance
theorem TxB.re {O B w : World} {S K D : Nat → Prop} {M : Mm} {g b : Nat} {L : List (List Int)} (h : TxB O B K D g L b) (hw : Lw O S B K M w) : TxB O w (MK []) D g L b := ⟨h.now hw, fun k hk => ⟨(h.2 k hk).1, by have := hw.kp.size; have := (h.2 k hk).2.1; omega, mk_nil⟩⟩
theorem HdF.re {α : Type} {d : Kd α} {F : Nat → Prop} {O B w : World} {S K : Nat → Prop} {M : Mm} {v : Value} {xs : List α} (h : HdF d F B K v xs) (hw : Lw O S B K M w) : HdF d F w (MK []) v xs := ⟨h.now hw, fun k hk => ⟨mk_nil, by have := hw.kp.size; have := (h.2 k hk).2; omega⟩⟩
set_option maxHeartbeats 8000000 in
theorem swaps_tail {W B : World} {K D F : Nat → Prop} {L more : List (List Int)} {gt jb i n : Nat} {Am Au : Option Addr} {cm cu : Nat} (hv : Sl kRow (fun _ => True) W (.slice Am more.length cm) more) (hT : TxB W B K D gt L jb) (hA : HdF kRow F B K (.slice Au L.length cu) L) (hcu : L.length ≤ cu) (hFD : ∀ k, F k → ¬ D k) (hFB : ∀ k, F k → k < B.heap.size) (hpl : ∀ x ∈ L, 10 ∉ x) (hne : L ≠ []) (hpm : ∀ x ∈ more, 10 ∉ x) (hm0 : more ≠ []) (hin : i + n ≤ L.length) (hn1 : 1 ≤ n) (hl : L.length ≤ 300 ∧ runesM L + L.length ≤ 3001) (hm : more.length ≤ 300 ∧ runesM more + more.length ≤ 3001) (hjb : jb ≤ 3001) :
    ∀ σ', SubB σ' [(2, .slice Am more.length cm), (7, .pointer (some ⟨gt, 0, none⟩)), (8, .slice Au L.length cu), (9, .int .i64 (i : Int)), (10, .int .i64 (n : Int))] → ∀ M', MSub [] M' →
      WL Try.prog Try.f8 (.code (bodyC Try.f8 [1, 1, 1, 1, 1, 1, 1]) :: []) σ' W (fun _ => False) B K M' fun u w' => Kn W w' ∧ u = .bool true := by
  intro σ' hs M' hM
  refine WL.sub hs hM ?_
  have hv' := hv.old
  obtain ⟨_, _, adm, rVm, rcm, ram, e, hR⟩ := hv.rws
  cases e
  have hr1 := repT_ok (l := more) hpl hne hin hpm hm0 (by omega)
  have hss := splice_small (l := more) hin
  have hps := splice_plain (i := i) (n := n) hpl hpm
  have hat : ∀ k, k < more.length → (L.take i ++ more ++ L.drop (i + n)).getD (i + k) [] = more.getD k [] := fun k hk => splice_at hin hk
  have hbk := splice_back (l := more) hin
  have hne1 : L.take i ++ more ++ L.drop (i + n) ≠ [] := by simp [hm0]
  have hmid := mid_small hin
  have hmp := mid_plain (i := i) (n := n) hpl
  have hmid0 : (L.drop i).take n ≠ [] := by intro h; have := hmid.2; rw [h] at this; simp at this; omega
  have hr2 := repT_ok (L := L.take i ++ more ++ L.drop (i + n)) (i := i) (n := more.length) (l := (L.drop i).take n) hps hne1 (by omega) hmp hmid0 (by omega)
  rw [hbk] at hr2
  have hjm := jnd_len more
  have hjq := jnd_len ((L.drop i).take n)
  generalize L.take i ++ more ++ L.drop (i + n) = L1 at *
  repeat(first|refine lrun_ ?_|(refine lo_boxA rfl rfl ?_;intro _ _ _)|(refine lo_box1 rfl rfl rfl ?_;intro _ _ _)|(refine lo_alloc rfl ?_;intro _ _ _))
  refine lo_txt hT (n_call rfl) rfl (fun w' hw hT' => replaceT_calls (i := i) (n := n) (l := more) (F := fun k => k < W.heap.size) hT' (by omega) (by omega) (Kn.sl hw.org hv') (fun k hk _ e => by have := (hT.2 k e).1; omega) (by omega) (by omega)) ?_
  intro w2 w3 hw2 kp2 ko2 hT3
  rw [hr1] at hT3 ⊢
  replace hT3 : TxB W w3 _ _ gt L1 _ := hT3
  have hA3 := hA.nextT hw2 kp2 hFD
  have hs2 := hw2.kp.size
  have hs3 := kp2.size
  repeat(first|refine lrun_ ?_|(refine lo_boxA rfl rfl ?_;intro _ _ _)|(refine lo_box1 rfl rfl rfl ?_;intro _ _ _)|(refine lo_alloc rfl ?_;intro _ _ _))
  refine lo_call (n_call rfl) rfl (fun w' hw => count_calls (hT3.now hw)) ?_
  rw [show (L1.length : Int) = (L.length : Int) - (n : Int) + (more.length : Int) by omega]
  repeat(first|refine lrun_ ?_|(refine lo_boxA rfl rfl ?_;intro _ _ _)|(refine lo_box1 rfl rfl rfl ?_;intro _ _ _)|(refine lo_alloc rfl ?_;intro _ _ _))
  refine l_no rfl (by simp) ?_
  refine l_go .skip ?_
  repeat(first|refine lrun_ ?_|(refine lo_boxA rfl rfl ?_;intro _ _ _)|(refine lo_box1 rfl rfl rfl ?_;intro _ _ _)|(refine lo_alloc rfl ?_;intro _ _ _))
  refine l_whileB (fun k : Nat => more.length - k) (fun k => [(2, .slice Am more.length cm), (7, .pointer (some ⟨gt, 0, none⟩)), (8, .slice Au L.length cu), (9, .int .i64 (i : Int)), (10, .int .i64 (n : Int)), (11, .int .i64 (k : Int))]) (fun _ => [])
    (fun k b => k ≤ more.length ∧ TxB W b (MK []) (fun k => grownD D w2 k ∧ k < w3.heap.size) gt L1 (jb + (jndM more).length + 1) ∧ HdF kRow F b (MK []) (.slice Au L.length cu) L) 0 (by repeat (first | exact SubB.nil | refine SubB.cons rfl ?_)) (by repeat(first|exact MSub.refl|refine MSub.keep rfl ?_|exact MSub.nil|apply MSub.drop)) (fun w' hw => ⟨Nat.zero_le _, hT3.re hw, hA3.re hw⟩) ?_
  rintro k b ⟨hk, hTb, hAb⟩ hkb ih
  by_cases hlt : k < more.length
  · have hrl := hR.rl k
    have hak := hat k hlt
    repeat(first|refine lrun_ ?_|(refine lo_boxA rfl rfl ?_;intro _ _ _)|(refine lo_box1 rfl rfl rfl ?_;intro _ _ _)|(refine lo_alloc rfl ?_;intro _ _ _))
    refine l_yes rfl (by omega) ?_
    repeat(first|refine lrun_ ?_|(refine lo_boxA rfl rfl ?_;intro _ _ _)|(refine lo_box1 rfl rfl rfl ?_;intro _ _ _)|(refine lo_alloc rfl ?_;intro _ _ _))
    rw [show (i : Int) + (k : Int) = ((i + k : Nat) : Int) by omega]
    refine lo_callM (n_call rfl) rfl (fun w' hw => line_calls (i := ((i + k : Nat) : Int)) (hTb.now hw) (by omega)) ?_
    rintro w4 _ w5 hw4 kn4 ko4 ⟨vx, rfl, hX⟩
    rw [if_pos (by omega), Int.toNat_natCast, hak] at hX
    rw [if_pos (by omega)]
    have hTb5 := hTb.next hw4 kn4
    have hAb5 := hAb.next hw4 kn4
    have hX5 := Hd.of hX hw4
    obtain ⟨Ax, cx, rfl, _⟩ := hX5.form
    repeat(first|refine lrun_ ?_|(refine lo_boxA rfl rfl ?_;intro _ _ _)|(refine lo_box1 rfl rfl rfl ?_;intro _ _ _)|(refine lo_alloc rfl ?_;intro _ _ _))
    refine lo_call (n_call rfl) rfl (fun w' hw => runes_calls (hX5.now hw) (Kn.sl hw.org (hR.rs k hlt))) ?_
    rw [decide_eq_true rfl]
    repeat(first|refine lrun_ ?_|(refine lo_boxA rfl rfl ?_;intro _ _ _)|(refine lo_box1 rfl rfl rfl ?_;intro _ _ _)|(refine lo_alloc rfl ?_;intro _ _ _))
    refine l_false rfl ?_
    refine l_go .skip ?_
    repeat(first|refine lrun_ ?_|(refine lo_boxA rfl rfl ?_;intro _ _ _)|(refine lo_box1 rfl rfl rfl ?_;intro _ _ _)|(refine lo_alloc rfl ?_;intro _ _ _))
    exact ih (k + 1) w5 _ ⟨hlt, hTb5, hAb5⟩ (by omega) _ _ (by repeat (first | exact SubB.nil | refine SubB.cons rfl ?_)) (by repeat(first|exact MSub.refl|refine MSub.keep rfl ?_|exact MSub.nil|apply MSub.drop)) fun w' hw' => ⟨hlt, hTb5.re hw', hAb5.re hw'⟩
  · repeat(first|refine lrun_ ?_|(refine lo_boxA rfl rfl ?_;intro _ _ _)|(refine lo_box1 rfl rfl rfl ?_;intro _ _ _)|(refine lo_alloc rfl ?_;intro _ _ _))
    refine l_no rfl (by omega) ?_
    refine l_go (.exit rfl) ?_
    repeat(first|refine lrun_ ?_|(refine lo_boxA rfl rfl ?_;intro _ _ _)|(refine lo_box1 rfl rfl rfl ?_;intro _ _ _)|(refine lo_alloc rfl ?_;intro _ _ _))
    rw [show (i : Int) + (n : Int) = ((i + n : Nat) : Int) by omega]
    refine lo_rn (fun _ => r_slice rfl i (i + n) cu rfl ⟨_, rfl⟩ ⟨_, rfl⟩ (by omega) (by omega) (Nat.le_refl _)) rfl ?_
    have e2 : (L.take (i + n)).drop i = (L.drop i).take n := by rw [List.drop_take, Nat.add_sub_cancel_left]
    have hs4 := hkb.size
    refine lo_txt hTb (n_call rfl) rfl (fun w' hw hT' => replaceT_calls (i := i) (n := more.length) (l := (L.drop i).take n) (F := F) hT' (by omega) (by omega) (e2 ▸ Sl.cutV (hAb.now hw) (by omega) hin (by omega) (Nat.le_refl _)) (fun k hk _ e => ?_) (by omega) (by omega)) ?_
    · obtain ⟨e1 | e1, _⟩ := e
      · exact hFD k hk e1
      · have := hFB k hk; omega
    intro w6 w7 hw6 kp6 ko6 hT7
    rw [hr2] at hT7 ⊢
    replace hT7 : TxB W w7 _ _ gt L _ := hT7
    have hA7 := hAb.nextT hw6 kp6 fun k hk e => by
      obtain ⟨e1 | e1, _⟩ := e
      · exact hFD k hk e1
      · have := hFB k hk; omega
    repeat(first|refine lrun_ ?_|(refine lo_boxA rfl rfl ?_;intro _ _ _)|(refine lo_box1 rfl rfl rfl ?_;intro _ _ _)|(refine lo_alloc rfl ?_;intro _ _ _))
    refine lo_callM (n_call rfl) rfl (fun w' hw => all_calls (hT7.now hw)) ?_
    rintro w8 u8 w9 hw8 kn8 ko8 hA8
    have hA9 := hA7.next hw8 kn8
    have hO9 := Hd.of (hA8.ow (by omega)) hw8
    obtain ⟨A9, c9, rfl, _⟩ := hO9.form
    repeat(first|refine lrun_ ?_|(refine lo_boxA rfl rfl ?_;intro _ _ _)|(refine lo_box1 rfl rfl rfl ?_;intro _ _ _)|(refine lo_alloc rfl ?_;intro _ _ _))
    refine lo_call (n_call rfl) rfl (fun w' hw => same04_calls (hO9.now hw) (hA9.now hw)) ?_
    rw [decide_eq_true rfl]
    repeat(first|refine lrun_ ?_|(refine lo_boxA rfl rfl ?_;intro _ _ _)|(refine lo_box1 rfl rfl rfl ?_;intro _ _ _)|(refine lo_alloc rfl ?_;intro _ _ _))
    refine lo_call (n_call (args := []) rfl) rfl (fun w' hw => awake_calls) ?_
    repeat(first|refine lrun_ ?_|(refine lo_boxA rfl rfl ?_;intro _ _ _)|(refine lo_box1 rfl rfl rfl ?_;intro _ _ _)|(refine lo_alloc rfl ?_;intro _ _ _))
    exact l_ret1 rfl rfl fun w' hw => ⟨hw.org, rfl⟩
set_option maxHeartbeats 8000000 in
theorem swaps_calls {W : World} {u v : Value} {l more : List (List Int)} {a0 a1 : Int} (h : Sl kRow (fun _ => True) W u l) (ha0 : -9223372036854775808 ≤ a0 ∧ a0 ≤ 9223372036854775807) (ha1 : -9223372036854775808 ≤ a1 ∧ a1 ≤ 9223372036854775807) (hv : Sl kRow (fun _ => True) W v more) : CallsR Try.prog 8 #[u, .agg #[.int .i64 a0, .int .i64 a1], v] W fun r w' => Kn W w' ∧ r = .bool true := by
  refine l_enter (args := [u, .agg #[.int .i64 a0, .int .i64 a1], v]) (fun _ => False) Try.func8 rfl rfl ?_
  have hv' := hv.old
  obtain ⟨Am, cm, adm, rVm, rcm, ram, rfl, hR⟩ := hv.rws
  repeat(first|refine lrun_ ?_|(refine lo_boxA rfl rfl ?_;intro _ _ _)|(refine lo_box1 rfl rfl rfl ?_;intro _ _ _)|(refine lo_alloc rfl ?_;intro _ _ _))
  rename_i g4 hg4 hg4'
  refine lo_callP (n_call rfl) rfl (fun w' hw => small_calls (Kn.sl hw.org h)) ?_
  cases hs : smallM l
  case false =>
    repeat(first|refine lrun_ ?_|(refine lo_boxA rfl rfl ?_;intro _ _ _)|(refine lo_box1 rfl rfl rfl ?_;intro _ _ _)|(refine lo_alloc rfl ?_;intro _ _ _))
    refine l_true rfl ?_
    repeat(first|refine lrun_ ?_|(refine lo_boxA rfl rfl ?_;intro _ _ _)|(refine lo_box1 rfl rfl rfl ?_;intro _ _ _)|(refine lo_alloc rfl ?_;intro _ _ _))
    refine lo_call (n_call (args := []) rfl) rfl (fun w' hw => awake_calls) ?_
    repeat(first|refine lrun_ ?_|(refine lo_boxA rfl rfl ?_;intro _ _ _)|(refine lo_box1 rfl rfl rfl ?_;intro _ _ _)|(refine lo_alloc rfl ?_;intro _ _ _))
    exact l_ret1 rfl rfl fun w' hw => ⟨hw.org, rfl⟩
  obtain ⟨hl1, hl2⟩ := small_bound hs
  repeat(first|refine lrun_ ?_|(refine lo_boxA rfl rfl ?_;intro _ _ _)|(refine lo_box1 rfl rfl rfl ?_;intro _ _ _)|(refine lo_alloc rfl ?_;intro _ _ _))
  refine lo_callP (n_call rfl) rfl (fun w' hw => small_calls (Kn.sl hw.org hv)) ?_
  cases hs2 : smallM more
  case false =>
    repeat(first|refine lrun_ ?_|(refine lo_boxA rfl rfl ?_;intro _ _ _)|(refine lo_box1 rfl rfl rfl ?_;intro _ _ _)|(refine lo_alloc rfl ?_;intro _ _ _))
    refine l_true rfl ?_
    repeat(first|refine lrun_ ?_|(refine lo_boxA rfl rfl ?_;intro _ _ _)|(refine lo_box1 rfl rfl rfl ?_;intro _ _ _)|(refine lo_alloc rfl ?_;intro _ _ _))
    refine lo_call (n_call (args := []) rfl) rfl (fun w' hw => awake_calls) ?_
    repeat(first|refine lrun_ ?_|(refine lo_boxA rfl rfl ?_;intro _ _ _)|(refine lo_box1 rfl rfl rfl ?_;intro _ _ _)|(refine lo_alloc rfl ?_;intro _ _ _))
    exact l_ret1 rfl rfl fun w' hw => ⟨hw.org, rfl⟩
  obtain ⟨hm1, hm2⟩ := small_bound hs2
  by_cases hm0 : more = []
  · have : more.length = 0 := by rw [hm0]; rfl
    repeat(first|refine lrun_ ?_|(refine lo_boxA rfl rfl ?_;intro _ _ _)|(refine lo_box1 rfl rfl rfl ?_;intro _ _ _)|(refine lo_alloc rfl ?_;intro _ _ _))
    refine l_yes rfl (by omega) ?_
    repeat(first|refine lrun_ ?_|(refine lo_boxA rfl rfl ?_;intro _ _ _)|(refine lo_box1 rfl rfl rfl ?_;intro _ _ _)|(refine lo_alloc rfl ?_;intro _ _ _))
    refine lo_call (n_call (args := []) rfl) rfl (fun w' hw => awake_calls) ?_
    repeat(first|refine lrun_ ?_|(refine lo_boxA rfl rfl ?_;intro _ _ _)|(refine lo_box1 rfl rfl rfl ?_;intro _ _ _)|(refine lo_alloc rfl ?_;intro _ _ _))
    exact l_ret1 rfl rfl fun w' hw => ⟨hw.org, rfl⟩
  have hm00 := List.length_pos_iff.2 hm0
  repeat(first|refine lrun_ ?_|(refine lo_boxA rfl rfl ?_;intro _ _ _)|(refine lo_box1 rfl rfl rfl ?_;intro _ _ _)|(refine lo_alloc rfl ?_;intro _ _ _))
  refine l_no rfl (by omega) ?_
  refine l_go .skip ?_
  repeat(first|refine lrun_ ?_|(refine lo_boxA rfl rfl ?_;intro _ _ _)|(refine lo_box1 rfl rfl rfl ?_;intro _ _ _)|(refine lo_alloc rfl ?_;intro _ _ _))
  refine lo_callM (n_call rfl) rfl (fun w' hw => newT_calls (Kn.sl hw.org h) (by omega)) ?_
  rintro w1 u w2 hw1 kn1 ko1 hu
  rcases hu with ⟨hp, rfl⟩ | ⟨hp, gt, rfl, hT⟩
  · repeat(first|refine lrun_ ?_|(refine lo_boxA rfl rfl ?_;intro _ _ _)|(refine lo_box1 rfl rfl rfl ?_;intro _ _ _)|(refine lo_alloc rfl ?_;intro _ _ _))
    refine l_true rfl ?_
    repeat(first|refine lrun_ ?_|(refine lo_boxA rfl rfl ?_;intro _ _ _)|(refine lo_box1 rfl rfl rfl ?_;intro _ _ _)|(refine lo_alloc rfl ?_;intro _ _ _))
    refine lo_call (v := .pointer none) (n_call rfl) rfl (fun w' hw => (new04_calls (Kn.sl hw.org h) (by omega)).mono fun r w'' ⟨h1, h2⟩ => ⟨h1, ?_⟩) ?_
    · rcases h2 with ⟨_, h2⟩ | ⟨h2, _⟩
      · exact h2
      · rw [hp] at h2; cases h2
    repeat(first|refine lrun_ ?_|(refine lo_boxA rfl rfl ?_;intro _ _ _)|(refine lo_box1 rfl rfl rfl ?_;intro _ _ _)|(refine lo_alloc rfl ?_;intro _ _ _))
    exact l_ret1 rfl rfl fun w' hw => ⟨hw.org, rfl⟩
  repeat(first|refine lrun_ ?_|(refine lo_boxA rfl rfl ?_;intro _ _ _)|(refine lo_box1 rfl rfl rfl ?_;intro _ _ _)|(refine lo_alloc rfl ?_;intro _ _ _))
  refine lo_callM (n_call rfl) rfl (fun w' hw => newT_calls (Kn.sl hw.org hv) (by omega)) ?_
  rintro w3 u w4 hw3 kn3 ko3 hu
  rcases hu with ⟨hp2, rfl⟩ | ⟨hp2, gt2, rfl, hT2⟩
  · repeat(first|refine lrun_ ?_|(refine lo_boxA rfl rfl ?_;intro _ _ _)|(refine lo_box1 rfl rfl rfl ?_;intro _ _ _)|(refine lo_alloc rfl ?_;intro _ _ _))
    refine l_true rfl ?_
    repeat(first|refine lrun_ ?_|(refine lo_boxA rfl rfl ?_;intro _ _ _)|(refine lo_box1 rfl rfl rfl ?_;intro _ _ _)|(refine lo_alloc rfl ?_;intro _ _ _))
    refine lo_callM (n_call rfl) rfl (fun w' hw => new04_calls (Kn.sl hw.org h) (by omega)) ?_
    rintro w5 u w6 hw5 kn5 ko5 hu
    rcases hu with ⟨hp3, rfl⟩ | ⟨hp3, gx, rfl, hT3⟩
    · rw [hp] at hp3; cases hp3
    repeat(first|refine lrun_ ?_|(refine lo_boxA rfl rfl ?_;intro _ _ _)|(refine lo_box1 rfl rfl rfl ?_;intro _ _ _)|(refine lo_alloc rfl ?_;intro _ _ _))
    refine lo_call (v := .pointer none) (n_call rfl) rfl (fun w' hw => (new04_calls (Kn.sl hw.org hv) (by omega)).mono fun r w'' ⟨h1, h2⟩ => ⟨h1, ?_⟩) ?_
    · rcases h2 with ⟨_, h2⟩ | ⟨h2, _⟩
      · exact h2
      · rw [hp2] at h2; cases h2
    repeat(first|refine lrun_ ?_|(refine lo_boxA rfl rfl ?_;intro _ _ _)|(refine lo_box1 rfl rfl rfl ?_;intro _ _ _)|(refine lo_alloc rfl ?_;intro _ _ _))
    exact l_ret1 rfl rfl fun w' hw => ⟨hw.org, rfl⟩
  have hbl := jnd_small hl1 hl2
  have hnl : (newL l).length ≤ 300 ∧ runesM (newL l) + (newL l).length ≤ 3001 := by
    unfold newL
    split
    · exact ⟨by decide, by decide⟩
    · omega
  rw [new_split hp] at hT
  generalize hjb : (jndM l).length = jb at hT
  have hjb2 : jb ≤ 3001 := by have := jnd_len l; omega
  have hpl := new_plain hp
  have hpm := plain_iff.1 hp2
  have hne := newL_ne l
  generalize newL l = L at *
  have hs1 := hw1.org.size
  have hs2' := kn1.size
  have hB := hT.mono (D' := fun k => noB w1 k ∧ k < w2.heap.size) fun k hk hl => ⟨hk, hl⟩
  have hs3 := hw3.kp.size
  have hs4 := kn3.size
  have hB2 : TxB W w2 (MK [(g4, cb [.int .i64 a0, .int .i64 a1] 55)]) (fun k => noB w1 k ∧ k < w2.heap.size) gt L jb := ⟨hB, fun k hk => ⟨by have := hk.1; unfold noB at this; omega, hk.2, fun hm => by have := hw1.lt hm; have := hk.1; unfold noB at this; omega⟩⟩
  have hB4 := hB2.next hw3 kn3
  have hA0 : ∀ k, noB w1 k ∧ k < w2.heap.size → W.heap.size ≤ k := fun k hk => by have := hk.1; unfold noB at this; omega
  clear hT hB hB2 hT2 hw1 kn1 ko1
  repeat(first|refine lrun_ ?_|(refine lo_boxA rfl rfl ?_;intro _ _ _)|(refine lo_box1 rfl rfl rfl ?_;intro _ _ _)|(refine lo_alloc rfl ?_;intro _ _ _))
  refine l_false rfl ?_
  refine l_go .skip ?_
  repeat(first|refine lrun_ ?_|(refine lo_boxA rfl rfl ?_;intro _ _ _)|(refine lo_box1 rfl rfl rfl ?_;intro _ _ _)|(refine lo_alloc rfl ?_;intro _ _ _))
  refine lo_callM (n_call rfl) rfl (fun w' hw => all_calls (hB4.now hw)) ?_
  rintro w6 u8 w7 hw6 kn6 ko6 hA
  have hB7 := hB4.next hw6 kn6
  have hs6 := hw6.kp.size
  have hs7 := kn6.size
  have hA7 : HdF kRow (fun k => noB w6 k ∧ k < w7.heap.size) w7 (MK [(g4, cb [.int .i64 a0, .int .i64 a1] 55)]) u8 L := ⟨(((hA.ow (by omega)).slF (fun _ h => h) fun _ h => h)).mono fun k hk hl => ⟨hk, hl⟩, fun k hk => ⟨fun hm => by have := hw6.lt hm; have := hk.1; unfold noB at this; omega, hk.2⟩⟩
  obtain ⟨Au, cu, rfl, hcu, hfu⟩ := hA7.1.form
  have hL0 := List.length_pos_iff.2 hne
  repeat(first|refine lrun_ ?_|(refine lo_boxA rfl rfl ?_;intro _ _ _)|(refine lo_box1 rfl rfl rfl ?_;intro _ _ _)|(refine lo_alloc rfl ?_;intro _ _ _))
  refine l_draw [(0, 0), (1, 0), (2, 0), (3, 1), (4, 0), (5, 0), (6, 0), (7, 0)] (by kernel_rfl) (by kernel_rfl) rfl (by kernel_rfl) ?_
  refine ld_open rfl ?_; refine ld_still (fun w' _ => r_indexA rfl rfl (by decide) (by decide)) wy_ rfl ?_
  repeat(first|refine lrund_ ?_|(refine ld_open rfl ?_;first|(refine ld_boxA rfl wy_ rfl ?_;intro _ _ _)|(refine ld_box1 rfl rfl wy_ rfl ?_;intro _ _ _)|(refine ld_alloc wy_ rfl ?_;intro _ _ _)))
  refine ld_open rfl ?_; refine ld_call (n_call rfl) wy_ rfl (fun w' hw' => count_calls (hB7.now hw')) ?_
  repeat(first|refine lrund_ ?_|(refine ld_open rfl ?_;first|(refine ld_boxA rfl wy_ rfl ?_;intro _ _ _)|(refine ld_box1 rfl rfl wy_ rfl ?_;intro _ _ _)|(refine ld_alloc wy_ rfl ?_;intro _ _ _)))
  obtain ⟨i, hi, hil⟩ := clamp_nat a0 (L.length - 1)
  rw [show (L.length : Int) - 1 = ((L.length - 1 : Nat) : Int) by omega, hi]
  repeat(first|refine lrun_ ?_|(refine lo_boxA rfl rfl ?_;intro _ _ _)|(refine lo_box1 rfl rfl rfl ?_;intro _ _ _)|(refine lo_alloc rfl ?_;intro _ _ _))
  refine l_draw [(0, 0), (1, 0), (2, 0), (4, 0), (3, 1), (5, 0), (6, 0), (7, 0), (8, 0)] (by kernel_rfl) (by kernel_rfl) rfl (by kernel_rfl) ?_
  refine ld_open rfl ?_; refine ld_still (fun w' _ => r_indexA rfl rfl (by decide) (by decide)) wy_ rfl ?_
  repeat(first|refine lrund_ ?_|(refine ld_open rfl ?_;first|(refine ld_boxA rfl wy_ rfl ?_;intro _ _ _)|(refine ld_box1 rfl rfl wy_ rfl ?_;intro _ _ _)|(refine ld_alloc wy_ rfl ?_;intro _ _ _)))
  refine ld_open rfl ?_; refine ld_call (n_call rfl) wy_ rfl (fun w' hw' => count_calls (hB7.now hw')) ?_
  repeat(first|refine lrund_ ?_|(refine ld_open rfl ?_;first|(refine ld_boxA rfl wy_ rfl ?_;intro _ _ _)|(refine ld_box1 rfl rfl wy_ rfl ?_;intro _ _ _)|(refine ld_alloc wy_ rfl ?_;intro _ _ _)))
  obtain ⟨n, hn, hnl2, hn1⟩ := clamp_one a1 (L.length - i) (by omega)
  rw [show (L.length : Int) - (i : Int) = ((L.length - i : Nat) : Int) by omega, hn]
  exact swaps_tail (i := i) (n := n) hv hB7 hA7 hcu (fun k hk e => by have := hk.1; have := e.2; unfold noB at *; omega) (fun k hk => hk.2) hpl hne hpm hm0 (by omega) hn1 hnl ⟨hm1, hm2⟩ hjb2 _ (by repeat (first | exact SubB.nil | refine SubB.cons rfl ?_)) _ .nil
theorem law_TextSwaps {W : World} {u v : Value} {l more : List (List Int)} {ds : List Value} {x : List Int} (h : Sl kRow (fun _ => True) W u l) (hx : kTwo.R (fun _ => True) W x ds) (hv : Sl kRow (fun _ => True) W v more) :
    CallsR Try.prog 8 #[u, .agg ds.toArray, v] W fun r w' => r = .bool true ∧ Kn W w' := by
  obtain ⟨a, b, rfl, rfl, ha, hb⟩ := arr2_cells hx
  exact (swaps_calls h ha hb hv).mono fun r w' ⟨h1, h2⟩ => ⟨h2, h1⟩
end Go.Ink
