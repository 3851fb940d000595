/-
  The index of a text: sizes, blocked.
-/
import Derived.Test.YtfgajbilegjbpaaX2
import Derived.Test.YtfgajbilegjbpaaSp
set_option linter.unusedVariables false
set_option linter.unusedSimpArgs false
namespace Go.Ink
open Go Go.Proofs Go.RowKit

/-- The lengths behind k runes. -/
def szK (x : List Int) (k : Nat) : List Int := lenZ ((spM x k).1 ++ [(spM x k).2])
theorem szK_len (x : List Int) (k : Nat) : (szK x k).length = (spM x k).1.length + 1 := by unfold szK; rw [lenZ_len, List.length_append]; rfl
theorem szK_last (x : List Int) (k : Nat) : (szK x k)[(spM x k).1.length]? = some ((spM x k).2.length : Int) := by
  unfold szK
  rw [lenZ_app, List.getElem?_append_right (by rw [lenZ_len]; omega), lenZ_len, Nat.sub_self]; rfl
theorem szK_all (x : List Int) : szK x x.length = lenZ (splitM x) := rfl
theorem szK_yes {x : List Int} {k : Nat} (h : x.getD k 0 = 10) : szK x (k + 1) = szK x k ++ [0] := by
  unfold szK
  have hs : spM x (k + 1) = if x.getD k 0 = 10 then ((spM x k).1 ++ [(spM x k).2], []) else ((spM x k).1, (spM x k).2 ++ [x.getD k 0]) := rfl
  rw [hs, if_pos h, lenZ_app]; rfl
theorem szK_no {x : List Int} {k : Nat} (h : ¬ x.getD k 0 = 10) : szK x (k + 1) = (szK x k).set (spM x k).1.length (((spM x k).2.length : Int) + 1) := by
  unfold szK
  have hs : spM x (k + 1) = if x.getD k 0 = 10 then ((spM x k).1 ++ [(spM x k).2], []) else ((spM x k).1, (spM x k).2 ++ [x.getD k 0]) := rfl
  rw [hs, if_neg h, lenZ_app, lenZ_app, List.set_append_right _ _ (by rw [lenZ_len]; omega), lenZ_len, Nat.sub_self]
  simp [lenZ]
section
variable {F : Nat → Prop} {w : World} {v : Value} {x : List Int}
set_option maxHeartbeats 4000000 in
theorem sizes_calls (h : Sl kRune F w v x) (hx : x.length ≤ 4194304) : CallsR Try.prog 48 #[v] w fun u w' => Kn w w' ∧ Ow kI64 (noB w) (fun _ => False) w' u (lenZ (splitM x)) := by
  obtain ⟨A, c, ad, rfl, hX⟩ := h.rns
  refine l_enter (fun _ => False) Try.func48 rfl rfl ?_
  repeat(first|refine lrun_ ?_|(refine lo_boxA rfl rfl ?_;intro _ _ _)|(refine lo_box1 rfl rfl rfl ?_;intro _ _ _)|(refine lo_alloc rfl ?_;intro _ _ _))
  refine lo_lit (cs := [.int .i64 0]) rfl (by decide) (by kernel_rfl) rfl ?_
  intro g6 hg6 _
  repeat(first|refine lops_ ?_|(refine lo_boxA rfl rfl ?_;intro _ _ _)|(refine lo_box1 rfl rfl rfl ?_;intro _ _ _)|(refine lo_alloc rfl ?_;intro _ _ _))
  refine lo_nil ?_
  refine l_take (M' := []) .nil fun w1 hw1 => ?_
  have hO0 : Og kI64 w w1 (MK []) (fun _ => False) (.slice (some ⟨g6, 0, none⟩) (szK x 0).length 1) (szK x 0) := by
    refine ⟨[.int .i64 0], ⟨[_], [], rfl, ⟨rfl, show (-9223372036854775808 : Int) ≤ 0 by decide, show (0 : Int) ≤ 9223372036854775807 by decide⟩, rfl⟩, show 1 * 8 ≤ 140737488355328 by decide, .inr ⟨g6, 0, 1, _, _, rfl, ⟨hg6, mk_nil⟩, hw1.mem g6 _ .hd, by simp [szK, spM, lenZ], by decide, by simp [kI64, kInt], fun j u hu => ?_⟩⟩
    rw [Nat.zero_add]
    simpa using hu
  repeat(first|refine lrun_ ?_|(refine lo_boxA rfl rfl ?_;intro _ _ _)|(refine lo_box1 rfl rfl rfl ?_;intro _ _ _)|(refine lo_alloc rfl ?_;intro _ _ _))
  refine l_whileB (fun s : Nat × Option Addr × Nat => x.length - s.1) (fun s => [(7, .slice A x.length c), (8, .int .i64 x.length), (3, .slice s.2.1 (szK x s.1).length s.2.2), (9, .int .i64 (s.1 : Int))]) (fun _ => [])
    (fun s b => s.1 ≤ x.length ∧ Og kI64 w b (MK []) (fun _ => False) (.slice s.2.1 (szK x s.1).length s.2.2) (szK x s.1)) (0, some ⟨g6, 0, none⟩, 1) (by repeat (first | exact SubB.nil | refine SubB.cons rfl ?_)) (by repeat(first|exact MSub.refl|refine MSub.keep rfl ?_|exact MSub.nil|apply MSub.drop)) (fun w' hw => ⟨Nat.zero_le _, Kn.ow (kn_mk hw.kp) hO0⟩) ?_
  clear hO0 hw1
  rintro ⟨k, A1, c1⟩ b ⟨hk, hO⟩ hkb ih
  simp only at hk hO
  dsimp only
  have hsl := spM_len x k
  have hzl := szK_len x k
  by_cases hlt : k < x.length
  case neg =>
    obtain rfl : k = x.length := by omega
    repeat(first|refine lrun_ ?_|(refine lo_boxA rfl rfl ?_;intro _ _ _)|(refine lo_box1 rfl rfl rfl ?_;intro _ _ _)|(refine lo_alloc rfl ?_;intro _ _ _))
    refine l_no rfl (by omega) ?_
    refine l_go (.exit rfl) ?_
    repeat(first|refine lrun_ ?_|(refine lo_boxA rfl rfl ?_;intro _ _ _)|(refine lo_box1 rfl rfl rfl ?_;intro _ _ _)|(refine lo_alloc rfl ?_;intro _ _ _))
    refine l_ret1 rfl rfl fun w' hw => ⟨hw.org, ?_⟩
    exact (Kn.ow (kn_mk hw.kp) hO).mono (fun k hk _ => hk.1) fun _ h _ => h
  by_cases hnl : x.getD k 0 = 10
  · have hst := szK_yes hnl
    repeat(first|refine lrun_ ?_|(refine lo_boxA rfl rfl ?_;intro _ _ _)|(refine lo_box1 rfl rfl rfl ?_;intro _ _ _)|(refine lo_alloc rfl ?_;intro _ _ _))
    refine l_yes rfl (by omega) ?_
    repeat(first|refine lrun_ ?_|(refine lo_boxA rfl rfl ?_;intro _ _ _)|(refine lo_box1 rfl rfl rfl ?_;intro _ _ _)|(refine lo_alloc rfl ?_;intro _ _ _))
    refine l_yes rfl hnl ?_
    repeat(first|refine lrun_ ?_|(refine lo_boxA rfl rfl ?_;intro _ _ _)|(refine lo_box1 rfl rfl rfl ?_;intro _ _ _)|(refine lo_alloc rfl ?_;intro _ _ _))
    refine lo_lit (cs := [.int .i64 0]) rfl (by decide) (by kernel_rfl) rfl ?_
    intro g16 hg16 hg16'
    refine lo_append1 (d := kI64) (q := 0) rfl rfl (hO.mono (G' := fre w (MK [])) (F' := fun _ => False) (fun k hk _ => hk) fun _ h _ => h) (fun _ h => h.elim) (by(repeat(first|exact MIn.hd|refine MIn.tl ?_));done) (fun w' hw => ⟨rfl, by decide, by decide⟩) (by rw [hzl]; show (_ + 1) * 8 ≤ 140737488355328; omega) rfl rfl rfl rfl ?_
    intro w3 A3 n3 w4 hw3 ko3 kp3 hown hog
    rw [← hst] at hog hown ⊢
    repeat(first|refine lops_ ?_|(refine lo_boxA rfl rfl ?_;intro _ _ _)|(refine lo_box1 rfl rfl rfl ?_;intro _ _ _)|(refine lo_alloc rfl ?_;intro _ _ _))
    refine lo_nil ?_
    refine l_baseM (M3 := []) .nil fun w5 hw5 => ?_
    have hO5 : Og kI64 w w5 (MK []) (fun _ => False) (.slice A3 (szK x (k + 1)).length n3) (szK x (k + 1)) := (Kp.ow hw5.kp hog (fun _ h => h.2) fun _ h => h.elim).mono (fun k hk _ => ⟨hk.1, mk_nil⟩) fun _ h _ => h
    repeat(first|refine lrun_ ?_|(refine lo_boxA rfl rfl ?_;intro _ _ _)|(refine lo_box1 rfl rfl rfl ?_;intro _ _ _)|(refine lo_alloc rfl ?_;intro _ _ _))
    exact ih (k + 1, A3, n3) w5 _ ⟨hlt, hO5⟩ (by simp only; omega) _ _ (by repeat (first | exact SubB.nil | refine SubB.cons rfl ?_)) (by repeat(first|exact MSub.refl|refine MSub.keep rfl ?_|exact MSub.nil|apply MSub.drop)) fun w' hw' => ⟨hlt, Kn.ow (kn_mk hw'.kp) hO5⟩
  · have hst := szK_no hnl
    obtain ⟨ad1, rfl⟩ := ow_someA hO (by intro e; rw [e] at hzl; simp at hzl)
    obtain ⟨ad2, cs2, hA2, ⟨rfl, -⟩, hcell⟩ := hO.sl.at_ (szK_last x k)
    cases hA2
    repeat(first|refine lrun_ ?_|(refine lo_boxA rfl rfl ?_;intro _ _ _)|(refine lo_box1 rfl rfl rfl ?_;intro _ _ _)|(refine lo_alloc rfl ?_;intro _ _ _))
    refine l_yes rfl (by omega) ?_
    repeat(first|refine lrun_ ?_|(refine lo_boxA rfl rfl ?_;intro _ _ _)|(refine lo_box1 rfl rfl rfl ?_;intro _ _ _)|(refine lo_alloc rfl ?_;intro _ _ _))
    refine l_no rfl hnl ?_
    repeat(first|refine lrun_ ?_|(refine lo_boxA rfl rfl ?_;intro _ _ _)|(refine lo_box1 rfl rfl rfl ?_;intro _ _ _)|(refine lo_alloc rfl ?_;intro _ _ _))
    refine lo_index (j := (spM x k).1.length) rfl rfl (by omega) (by omega) rfl rfl ?_
    refine lo_loadB rfl (hcell 0 _ rfl) mk_nil rfl ?_
    repeat(first|refine lrun_ ?_|(refine lo_boxA rfl rfl ?_;intro _ _ _)|(refine lo_box1 rfl rfl rfl ?_;intro _ _ _)|(refine lo_alloc rfl ?_;intro _ _ _))
    refine lo_index (j := (spM x k).1.length) rfl rfl (by omega) (by omega) rfl rfl ?_
    refine lo_setM (d := kI64) (F := fun _ => False) (xs := szK x k) (j := (spM x k).1.length) (q := ((spM x k).2.length : Int) + 1) rfl rfl hO (fun _ h => h.elim) (by omega) (fun w' hw => ⟨rfl, by omega, by omega⟩) rfl rfl ?_
    intro w3 w4 hw3 ko3 kp3 hog
    rw [← hst] at hog
    have hzl2 : (szK x k).length = (szK x (k + 1)).length := by rw [hst, List.length_set]
    rw [hzl2]
    repeat(first|refine lrun_ ?_|(refine lo_boxA rfl rfl ?_;intro _ _ _)|(refine lo_box1 rfl rfl rfl ?_;intro _ _ _)|(refine lo_alloc rfl ?_;intro _ _ _))
    exact ih (k + 1, some ad1, c1) w4 _ ⟨hlt, hzl2 ▸ hog⟩ (by simp only; omega) _ _ (by repeat (first | exact SubB.nil | refine SubB.cons rfl ?_)) (by repeat(first|exact MSub.refl|refine MSub.keep rfl ?_|exact MSub.nil|apply MSub.drop)) fun w' hw' => ⟨hlt, hzl2 ▸ Kn.ow (kn_mk hw'.kp) hog⟩
end
/-- The lines in groups. -/
def chk (L : List (List Int)) (i : Nat) : List (List Int) := (L.drop (64 * i)).take 64
def chks (L : List (List Int)) (n : Nat) : List (List (List Int)) := (List.range n).map (chk L)
theorem chks_len (L : List (List Int)) (n : Nat) : (chks L n).length = n := by unfold chks; rw [List.length_map, List.length_range]
theorem chks_succ (L : List (List Int)) (n : Nat) : chks L (n + 1) = chks L n ++ [chk L n] := by unfold chks; rw [List.range_succ, List.map_append]; rfl
theorem chks_flat (L : List (List Int)) : ∀ n, (chks L n).flatten = L.take (64 * n)
  | 0 => by simp [chks]
  | n + 1 => by
    rw [chks_succ, List.flatten_append, chks_flat L n, show 64 * (n + 1) = 64 * n + 64 by omega, List.take_add]
    simp [chk]
theorem lenZ_take (L : List (List Int)) (n : Nat) : (lenZ L).take n = lenZ (L.take n) := by unfold lenZ; rw [List.map_take]
theorem lenZ_drop (L : List (List Int)) (n : Nat) : (lenZ L).drop n = lenZ (L.drop n) := by unfold lenZ; rw [List.map_drop]
section
variable {F : Nat → Prop} {w : World} {v : Value} {L : List (List Int)}
set_option maxHeartbeats 8000000 in
theorem blocked_calls (h : Sl kI64 F w v (lenZ L)) (hs : sumN L ≤ 1099511627776) : CallsR Try.prog 49 #[v] w fun u w' => Kn w w' ∧ ∃ gs : List (List (List Int)), Ow kBlk (noB w) (noB w) w' u (gs.map blkOf) ∧ gs.flatten = L ∧ NeB gs := by
  obtain ⟨A, c, ad, rfl, hX⟩ := h.gis
  have hll : L.length ≤ 1099511627776 := by unfold sumN at hs; omega
  refine l_enter (fun _ => False) Try.func49 rfl rfl ?_
  repeat(first|refine lrun_ ?_|(refine lo_boxA rfl rfl ?_;intro _ _ _)|(refine lo_box1 rfl rfl rfl ?_;intro _ _ _)|(refine lo_alloc rfl ?_;intro _ _ _))
  refine l_whileB (fun s : Nat × Option Addr × Nat × Option Addr × Nat => L.length - 64 * s.1) (fun s => [(0, .slice s.2.1 (L.drop (64 * s.1)).length s.2.2.1), (3, .slice s.2.2.2.1 s.1 s.2.2.2.2)]) (fun _ => [])
    (fun s b => Sl kI64 F w (.slice s.2.1 (L.drop (64 * s.1)).length s.2.2.1) (lenZ (L.drop (64 * s.1))) ∧ Og kBlk w b (MK []) (noB w) (.slice s.2.2.2.1 s.1 s.2.2.2.2) ((chks L s.1).map blkOf) ∧ NeB (chks L s.1)) (0, A, c, none, 0) (by simp only [Nat.mul_zero, List.drop_zero]; exact (by repeat (first | exact SubB.nil | refine SubB.cons rfl ?_))) (by repeat(first|exact MSub.refl|refine MSub.keep rfl ?_|exact MSub.nil|apply MSub.drop)) (fun w' hw => ⟨by simp only [Nat.mul_zero, List.drop_zero]; exact hX.sl, Ow.nil _ _ _ _, fun x hx => by simp [chks] at hx⟩) ?_

  rintro ⟨i, Al, cl, A1, c1⟩ b ⟨hS, hO, hNe⟩ hkb ih
  simp only at hS hO hNe
  dsimp only
  have hdl : (L.drop (64 * i)).length = L.length - 64 * i := List.length_drop
  have hbs := hkb.size
  by_cases hlt : 64 * i < L.length
  case neg =>
    repeat(first|refine lrun_ ?_|(refine lo_boxA rfl rfl ?_;intro _ _ _)|(refine lo_box1 rfl rfl rfl ?_;intro _ _ _)|(refine lo_alloc rfl ?_;intro _ _ _))
    refine l_no rfl (by omega) ?_
    refine l_go (.exit rfl) ?_
    repeat(first|refine lrun_ ?_|(refine lo_boxA rfl rfl ?_;intro _ _ _)|(refine lo_box1 rfl rfl rfl ?_;intro _ _ _)|(refine lo_alloc rfl ?_;intro _ _ _))
    refine l_ret1 rfl rfl fun w' hw => ⟨hw.org, chks L i, ?_, by rw [chks_flat, List.take_of_length_le (by omega)], hNe⟩
    exact (Kn.ow (kn_mk hw.kp) hO).mono (fun k hk _ => hk.1) fun _ h _ => h
  obtain ⟨n, hn⟩ : ∃ n, n = (chk L i).length := ⟨_, rfl⟩
  have hn2 : n = min 64 (L.length - 64 * i) := by rw [hn]; unfold chk; rw [List.length_take, hdl]
  repeat(first|refine lrun_ ?_|(refine lo_boxA rfl rfl ?_;intro _ _ _)|(refine lo_box1 rfl rfl rfl ?_;intro _ _ _)|(refine lo_alloc rfl ?_;intro _ _ _))
  refine l_yes rfl (by omega) ?_
  repeat(first|refine lrun_ ?_|(refine lo_boxA rfl rfl ?_;intro _ _ _)|(refine lo_box1 rfl rfl rfl ?_;intro _ _ _)|(refine lo_alloc rfl ?_;intro _ _ _))
  have hm : (if ((L.drop (64 * i)).length : Int) < 64 then ((L.drop (64 * i)).length : Int) else 64) = (n : Int) := by split <;> omega
  have hck : chk L i = (L.drop (64 * i)).take n := by
    unfold chk
    by_cases h64 : 64 ≤ (L.drop (64 * i)).length
    · rw [show n = 64 by omega]
    · rw [List.take_of_length_le (by omega), List.take_of_length_le (by omega)]
  have hcap : (L.drop (64 * i)).length ≤ cl := by
    obtain ⟨A', c', e, hc, _⟩ := hS.form
    rw [lenZ_len] at hc
    simp only [Value.slice.injEq] at e
    obtain ⟨_, _, rfl⟩ := e
    exact hc
  have hS1 : Sl kI64 F w (.slice Al n cl) (lenZ (chk L i)) := by
    have := hS.cutV (l := 0) (hi := n) (m := cl) (by omega) (by omega) (by omega) (by omega)
    rwa [cutV_pre, List.drop_zero, lenZ_take, ← hck] at this
  have hS2 : Sl kI64 F w (cutV Al n (L.drop (64 * i)).length cl 1) (lenZ (L.drop (64 * (i + 1)))) := by
    have := hS.cutV (l := n) (hi := (L.drop (64 * i)).length) (m := cl) (by omega) (by omega) (by omega) (by omega)
    rw [List.take_of_length_le (by rw [lenZ_len]; omega), lenZ_drop, List.drop_drop] at this
    by_cases h64 : 64 ≤ (L.drop (64 * i)).length
    · rwa [show 64 * i + n = 64 * (i + 1) by omega] at this
    · rw [show L.drop (64 * i + n) = L.drop (64 * (i + 1)) by rw [List.drop_of_length_le (show L.length ≤ 64 * i + n by omega), List.drop_of_length_le (show L.length ≤ 64 * (i + 1) by omega)]] at this
      exact this
  have e3 : (lenZ (chk L i)).length = n := by rw [lenZ_len, hn]
  rw [hm]
  have hob := hO.block
  repeat(first|refine lops_ ?_|(refine lo_boxA rfl rfl ?_;intro _ _ _)|(refine lo_box1 rfl rfl rfl ?_;intro _ _ _)|(refine lo_alloc rfl ?_;intro _ _ _))
  refine lo_appendS (d := kI64) (ys := lenZ (chk L i)) (F2 := F) rfl rfl (Ow.nil _ _ _ _) (fun w' hw => Kn.sl hw.org hS1) (fun k _ e => by cases e) (by rw [e3]; show (0 + n) * 8 ≤ 140737488355328; omega) rfl rfl rfl rfl ?_
  intro w3 A3 n3 w4 hw3 ko3 kp3 hown hog
  rw [List.nil_append, e3] at hog hown ⊢
  have hks4 := kp3.size
  have hO4 : Og kBlk w w4 (MK []) (noB w) (.slice A1 i c1) ((chks L i).map blkOf) := Kp.ow kp3 hO (fun k hk e => e.elim hk.2 fun e => by cases e) fun k hk e => e.elim mk_nil fun e => by cases e
  obtain ⟨A3', c3', ad3, e4, hX3⟩ := Sl.gis hog.sl
  rw [← hn] at e4
  simp only [Value.slice.injEq] at e4
  obtain ⟨rfl, _, rfl⟩ := e4
  repeat(first|refine lrun_ ?_|(refine lo_boxA rfl rfl ?_;intro _ _ _)|(refine lo_box1 rfl rfl rfl ?_;intro _ _ _)|(refine lo_alloc rfl ?_;intro _ _ _))
  rename_i g5 hg5 hg5'
  have hsum : sumN (chk L i) ≤ sumN L := by
    have h1 := sumN_app (L.take (64 * i)) (L.drop (64 * i))
    have h2 := sumN_app (chk L i) ((L.drop (64 * i)).drop 64)
    rw [List.take_append_drop] at h1
    unfold chk at h2 ⊢
    rw [List.take_append_drop] at h2
    omega
  have hob4 := hog.block
  refine l_while (fun j : Nat => n - j) (fun j => [(0, .slice Al (L.drop (64 * i)).length cl), (3, .slice A1 i c1), (4, .int .i64 (n : Int)), (5, .pointer (some ⟨g5, 0, none⟩)), (20, .slice A3 n n3), (21, .int .i64 (n : Int)), (22, .int .i64 (j : Int))]) (fun j => [(g5, cb [.slice A3 n n3, .int .i64 ((ofs (chk L i) j : Nat) : Int)] 93)]) (fun j => j ≤ n) 0 (by repeat (first | exact SubB.nil | refine SubB.cons rfl ?_)) (by simp only [ofs_zero, Int.natCast_zero]; exact (by repeat(first|exact MSub.refl|refine MSub.keep rfl ?_|exact MSub.nil|apply MSub.drop))) (Nat.zero_le _) ?_
  intro j hj ihj
  by_cases hlt2 : j < n
  · have ih2 := ihj (j + 1) hlt2 (by omega)
    have hol := ofs_lt (L := chk L i) (i := j) (by omega)
    rw [show ((ofs (chk L i) (j + 1) : Nat) : Int) = ((ofs (chk L i) j : Nat) : Int) + ((((chk L i).getD j []).length : Int) + 1) by rw [ofs_succ (by omega)]; omega] at ih2
    repeat(first|refine lrun_ ?_|(refine lo_boxA rfl rfl ?_;intro _ _ _)|(refine lo_box1 rfl rfl rfl ?_;intro _ _ _)|(refine lo_alloc rfl ?_;intro _ _ _))
    refine l_yes rfl (by omega) ?_
    repeat(first|refine lrun_ ?_|(refine lo_boxA rfl rfl ?_;intro _ _ _)|(refine lo_box1 rfl rfl rfl ?_;intro _ _ _)|(refine lo_alloc rfl ?_;intro _ _ _))
    refine lo_index rfl rfl rfl (by omega) (hX3.a (by omega)) rfl ?_
    refine lo_loadB rfl (hX3.run j (by omega)) mk_nil rfl ?_
    repeat(first|refine lrun_ ?_|(refine lo_boxA rfl rfl ?_;intro _ _ _)|(refine lo_box1 rfl rfl rfl ?_;intro _ _ _)|(refine lo_alloc rfl ?_;intro _ _ _))
    exact ih2 _ _ (by repeat (first | exact SubB.nil | refine SubB.cons rfl ?_)) (by repeat(first|exact MSub.refl|refine MSub.keep rfl ?_|exact MSub.nil|apply MSub.drop))
  obtain rfl : j = n := by omega
  clear ihj
  rw [show ofs (chk L i) j = sumN (chk L i) by rw [hn, ofs_all]]
  repeat(first|refine lrun_ ?_|(refine lo_boxA rfl rfl ?_;intro _ _ _)|(refine lo_box1 rfl rfl rfl ?_;intro _ _ _)|(refine lo_alloc rfl ?_;intro _ _ _))
  refine l_no rfl (by omega) ?_
  refine l_go (.exit rfl) ?_
  repeat(first|refine lrun_ ?_|(refine lo_boxA rfl rfl ?_;intro _ _ _)|(refine lo_box1 rfl rfl rfl ?_;intro _ _ _)|(refine lo_alloc rfl ?_;intro _ _ _))
  refine lo_lit (cs := [.slice A3 j n3, .int .i64 ((sumN (chk L i) : Nat) : Int)]) rfl (by decide) (by kernel_rfl) rfl ?_
  intro g35 hg35 hg35'
  refine lo_append1 (d := kBlk) (q := blkOf (chk L i)) (F := fun k => noB w k ∧ k < w4.heap.size) (xs := (chks L i).map blkOf) rfl rfl ((hO4.mono (G' := fre w (MK [])) (F' := fun k => noB w k ∧ k < w4.heap.size) (fun k hk _ => hk) fun k hk hl => ⟨hk, hl⟩)) (fun _ _ => mk_nil) (by(repeat(first|exact MIn.hd|refine MIn.tl ?_));done) (fun w' hw => ⟨[_], [_], rfl, ⟨_, rfl, ?_⟩, ⟨rfl, ?_, ?_⟩⟩) (by rw [List.length_map, chks_len]; show (i + 1) * 32 ≤ 140737488355328; omega) rfl rfl rfl rfl ?_
  · refine ((hog.now (fun _ h => h.elim) hw).nG).slF (fun k hk => ⟨⟨hk.1.1, (hob4 k hk.2).2⟩, fun e => ?_⟩) fun _ h => h.elim
    have h1 := (hob k e).2
    rcases hown k hk.2 with h2 | h2
    · cases h2
    · omega
  · show (-9223372036854775808 : Int) ≤ ((sumN (chk L i) : Nat) : Int); omega
  · show ((sumN (chk L i) : Nat) : Int) ≤ 9223372036854775807; omega
  intro w5 A5 n5 w6 hw5 ko5 kp5 hown5 hog5
  have e6 : (chks L i).map blkOf ++ [blkOf (chk L i)] = (chks L (i + 1)).map blkOf := by rw [chks_succ, List.map_append]; rfl
  have e7 : ((chks L (i + 1)).map blkOf).length = i + 1 := by rw [List.length_map, chks_len]
  rw [e6, e7] at hog5 ⊢
  obtain ⟨A9, c9, e9, _⟩ := hS2.form
  rw [lenZ_len] at e9
  repeat(first|refine lops_ ?_|(refine lo_boxA rfl rfl ?_;intro _ _ _)|(refine lo_box1 rfl rfl rfl ?_;intro _ _ _)|(refine lo_alloc rfl ?_;intro _ _ _))
  refine lo_nil ?_
  refine l_baseM (M3 := []) .nil fun w7 hw7 => ?_
  have hO7 : Og kBlk w w7 (MK []) (noB w) (.slice A5 (i + 1) n5) ((chks L (i + 1)).map blkOf) := (Kp.ow hw7.kp hog5 (fun k h => h.2) fun k hk hm => by
    rw [MK_iff] at hm
    simp only [List.map_cons, List.map_nil, List.mem_cons, List.not_mem_nil, or_false] at hm
    omega).mono (fun k hk _ => ⟨hk.1, mk_nil⟩) fun _ h _ => h.1
  repeat(first|refine lrun_ ?_|(refine lo_boxA rfl rfl ?_;intro _ _ _)|(refine lo_box1 rfl rfl rfl ?_;intro _ _ _)|(refine lo_alloc rfl ?_;intro _ _ _))
  refine lo_suf (j := j) rfl rfl rfl (by omega) (by omega) rfl ?_
  rw [e9] at hS2 ⊢
  repeat(first|refine lrun_ ?_|(refine lo_boxA rfl rfl ?_;intro _ _ _)|(refine lo_box1 rfl rfl rfl ?_;intro _ _ _)|(refine lo_alloc rfl ?_;intro _ _ _))
  have hNe2 : NeB (chks L (i + 1)) := by
    rw [chks_succ]
    refine hNe.app fun x hx => ?_
    rw [List.mem_singleton.1 hx]
    exact List.ne_nil_of_length_pos (by omega)
  exact ih (i + 1, A9, c9, A5, n5) w7 _ ⟨hS2, hO7, hNe2⟩ (by simp only; omega) _ _ (by repeat (first | exact SubB.nil | refine SubB.cons rfl ?_)) (by repeat(first|exact MSub.refl|refine MSub.keep rfl ?_|exact MSub.nil|apply MSub.drop)) fun w' hw' => ⟨hS2, Kn.ow (kn_mk hw'.kp) hO7, hNe2⟩
end
end Go.Ink
