/-
  The index of a text: indexed, set.
-/
import Derived.Test.YtfgajbilegjbpaaX3
set_option linter.unusedVariables false
set_option linter.unusedSimpArgs false
namespace Go.Ink
open Go Go.Proofs Go.RowKit

section
variable {P : Program} {fn : Func} {O : World}
/-- A block that stood is one of the function's own. -/
theorem l_enterM {f : FuncId} {c : Code} {args : List Value} {S : Nat → Prop} {g : Nat} {cs : List Value} {e : TypeId} (hg : O.heap[g]? = some (cb cs e)) (hS : S g) (hf : P.funcs[f]? = some fn) (hb : fn.body = some c) (hn : Nat.ble args.length fn.ntmps = true)
    {R : Value → World → Prop} (h : WL P fn [.code c] (sigOf 0 args) O S O (MK [(g, cb cs e)]) [(g, cb cs e)] R) : CallsR P f args.toArray O R :=
by
  unfold WL WLG at h
  exact calls_enter hf hb hn (h O ((Lw.init O S (MK [(g, cb cs e)])).own hg (by simp) hS ⟨_, .hd⟩))
end
section
variable {F : Nat → Prop} {w : World} {v : Value} {x : List Int}
set_option maxHeartbeats 4000000 in
theorem indexed_calls (h : Sl kRune F w v x) (hx : x.length ≤ 4194304) : CallsR Try.prog 34 #[v] w fun u w' => Kn w w' ∧ ∃ (vb : Value) (gs : List (List (List Int))), u = .agg #[vb, .int .i64 ((splitM x).length : Int)] ∧ Ow kBlk (noB w) (noB w) w' vb (gs.map blkOf) ∧ gs.flatten = splitM x ∧ NeB gs := by
  have hsl := split_len x
  have hsn : sumN (splitM x) ≤ 1099511627776 := by
    have h1 := jnd_len (splitM x)
    rw [jnd_split] at h1
    unfold sumN; omega
  refine l_enter (fun _ => False) Try.func34 rfl rfl ?_
  repeat(first|refine lrun_ ?_|(refine lo_boxA rfl rfl ?_;intro _ _ _)|(refine lo_box1 rfl rfl rfl ?_;intro _ _ _)|(refine lo_alloc rfl ?_;intro _ _ _))
  rename_i g2 hg2 hg2'
  refine lo_callM (n_call rfl) rfl (fun w' hw => sizes_calls (Kn.sl hw.org h) hx) ?_
  rintro w1 u w2 hw1 kn1 ko1 hu
  have hs1 := hw1.org.size
  obtain ⟨A, c, rfl, _⟩ := hu.form
  rw [lenZ_len] at hu ⊢
  repeat(first|refine lrun_ ?_|(refine lo_boxA rfl rfl ?_;intro _ _ _)|(refine lo_box1 rfl rfl rfl ?_;intro _ _ _)|(refine lo_alloc rfl ?_;intro _ _ _))
  refine lo_callM (n_call rfl) rfl (fun w' hw => blocked_calls ((hw.owN hu fun k hm => hw1.lt hm).slF (fun _ h => h) fun _ h => h.elim) hsn) ?_
  rintro w3 vb w4 hw3 kn3 ko3 ⟨gs, hvb, hfl, hNe⟩
  have hs3 := hw3.org.size
  obtain ⟨Ab, cb0, rfl, _⟩ := hvb.form
  repeat(first|refine lrun_ ?_|(refine lo_boxA rfl rfl ?_;intro _ _ _)|(refine lo_box1 rfl rfl rfl ?_;intro _ _ _)|(refine lo_alloc rfl ?_;intro _ _ _))
  refine l_retR1 rfl (by repeat(first|exact LRes.nil|refine LRes.tmp rfl ?_|refine LRes.agg rfl (by(repeat(first|exact MIn.hd|refine MIn.tl ?_));done) (by rfl) (by rfl) ?_|refine LRes.one rfl (by(repeat(first|exact MIn.hd|refine MIn.tl ?_));done) (by rfl) ?_)) fun w' hw => ⟨hw.org, _, gs, rfl, ?_, hfl, hNe⟩
  exact (hw.owN hvb fun k hm => hw3.lt hm).mono (fun k hk _ => by unfold noB at *; omega) fun k hk _ => by unfold noB at *; omega
end
section
variable {F Fr : Nat → Prop} {w : World} {vb : Value} {gs : List (List (List Int))} {g : Nat} {pt vr : Value} {row : List Int} {ln : Int}
set_option maxHeartbeats 8000000 in
theorem set_calls {a b : Nat} (hg : w.heap[g]? = some (cb [pt, vb, .int .i64 ln] 73)) (hpt : pt.oneCell' = true) (h : Sl kBlk F w vb (gs.map blkOf)) (hFg : ¬ F g) (hr : Sl kRune Fr w vr row) (hFr : ¬ Fr g) (hs : sumN gs.flatten ≤ 4194304) (hrl : row.length ≤ 4194304) (hab : a ≤ b) (hb : b < gs.flatten.length) (hln : ln = gs.flatten.length) (hNe : NeB gs) :
    CallsR Try.prog 56 #[.pointer (some ⟨g, 1, none⟩), .int .i64 (a : Int), .int .i64 ((b + 1 : Nat) : Int), vr] w fun u w' => Kp (fun k => k = g) w w' ∧ u = .tuple #[] ∧ ∃ (vb' : Value) (gs' : List (List (List Int))), w'.heap[g]? = some (cb [pt, vb', .int .i64 (gs'.flatten.length : Int)] 73) ∧ Sl kBlk (fun k => F k ∨ noB w k) w' vb' (gs'.map blkOf) ∧ gs'.flatten = gs.flatten.take a ++ splitM row ++ gs.flatten.drop (b + 1) ∧ NeB gs' := by
  obtain ⟨F0, hF0, hF1, h⟩ : ∃ F0 : Nat → Prop, (∀ k, F0 k → F k) ∧ (∀ k, F0 k → k < w.heap.size) ∧ Sl kBlk F0 w vb (gs.map blkOf) := ⟨fun k => F k ∧ k < w.heap.size, fun _ h => h.1, fun _ h => h.2, h.mono fun k hk hl => ⟨hk, hl⟩⟩
  replace hFg : ¬ F0 g := fun e => hFg (hF0 g e)
  obtain ⟨A, c, ad, sA, sc, sa, rfl, hB⟩ := h.bks
  have hlen := hB.len
  have hgl : g < w.heap.size := blk_lt hg
  have hsl := split_len row
  have hbl : gs.flatten.length ≤ sumN gs.flatten := by unfold sumN; omega
  have hrw : ∀ {w' : World}, Kp (fun k => k = g) w w' → Sl kRune Fr w' vr row := fun hk => Kp.sl hk hr fun k hk e => hFr (e ▸ hk)
  have hbw : ∀ {w' : World}, Kp (fun k => k = g) w w' → Sl kBlk F0 w' (.slice A gs.length c) (gs.map blkOf) := fun hk => Kp.sl hk h fun k hk e => hFg (e ▸ hk)
  refine l_enterM (S := fun k => k = g) hg rfl Try.func56 rfl rfl ?_
  repeat(first|refine lrun_ ?_|(refine lo_boxA rfl rfl ?_;intro _ _ _)|(refine lo_box1 rfl rfl rfl ?_;intro _ _ _)|(refine lo_alloc rfl ?_;intro _ _ _))
  refine lo_callM (n_call rfl) rfl (fun w' hw => sizes_calls (hrw hw.org) hrl) ?_
  rintro w1 u8 w2 hw1 kn1 ko1 hu8
  have hs1 := hw1.org.size
  have hs2 := kn1.size
  obtain ⟨A8, c8, rfl, _⟩ := hu8.form
  rw [lenZ_len] at hu8 ⊢
  have hb8 := hu8.block
  repeat(first|refine lrun_ ?_|(refine lo_boxA rfl rfl ?_;intro _ _ _)|(refine lo_box1 rfl rfl rfl ?_;intro _ _ _)|(refine lo_alloc rfl ?_;intro _ _ _))
  refine lo_callV (n_call rfl) rfl (fun w' hw => block_calls (hw.cell .hd rfl) (hbw hw.org) (by omega) (n := a) (by omega)) ?_
  rintro _ ⟨i, fi, hi, hfi, hai, rfl⟩
  repeat(first|refine lrun_ ?_|(refine lo_boxA rfl rfl ?_;intro _ _ _)|(refine lo_box1 rfl rfl rfl ?_;intro _ _ _)|(refine lo_alloc rfl ?_;intro _ _ _))
  rw [show ((b + 1 : Nat) : Int) - 1 = (b : Int) by omega]
  refine lo_callV (n_call rfl) rfl (fun w' hw => block_calls (hw.cell .hd rfl) (hbw hw.org) (by omega) (n := b) (by omega)) ?_
  rintro _ ⟨k, la, hk, hla, hbk, rfl⟩
  repeat(first|refine lrun_ ?_|(refine lo_boxA rfl rfl ?_;intro _ _ _)|(refine lo_box1 rfl rfl rfl ?_;intro _ _ _)|(refine lo_alloc rfl ?_;intro _ _ _))
  have hpi : gs.flatten.length = (preB gs i).length + (gs.getD i []).length + ((gs.drop (i + 1)).flatten).length := by rw [preB_parts hi, List.length_append, List.length_append]
  have hpk : gs.flatten.length = (preB gs k).length + (gs.getD k []).length + ((gs.drop (k + 1)).flatten).length := by rw [preB_parts hk, List.length_append, List.length_append]
  have hnl := hNe.len
  have hGi := hB.rs i hi
  have hGk := hB.rs k hk
  have hci := hGi.cap
  have hck := hGk.cap
  have hcl := hB.cap
  have hli := hGi.len
  have hlk := hGk.len
  have hnb : ∀ j u, ((ad.add j).add u).block ≠ g := fun j u e => hFg (by rw [add_block, add_block] at e; exact e ▸ hB.fa (by omega))
  have hmg : ∀ {cs : List Value} {k : Nat}, MK [(g, cb cs 73)] k → k = g := fun hm => by
    rw [MK_iff] at hm
    simpa using hm
  obtain ⟨L1, hL1⟩ : ∃ L1, L1 = (gs.getD i []).take fi := ⟨_, rfl⟩
  obtain ⟨L3, hL3⟩ : ∃ L3, L3 = (gs.getD k []).drop (la + 1) := ⟨_, rfl⟩
  have hl1 : L1.length = fi := by rw [hL1, List.length_take]; omega
  have hl3 : L3.length = (gs.getD k []).length - (la + 1) := by rw [hL3, List.length_drop]
  have hS1 : ∀ {w' : World}, Kp (fun k => k = g) w w' → Sl kI64 F0 w' (.slice (sA i) fi (sc i)) (lenZ L1) := fun hk => Kp.sl hk (by
    have := hGi.sl.cutV (l := 0) (hi := fi) (m := sc i) (by omega) (by omega) (by omega) (by omega)
    rwa [cutV_pre, List.drop_zero, lenZ_take, ← hL1] at this) fun k hk e => hFg (e ▸ hk)
  have hS3 : ∀ {w' : World}, Kp (fun k => k = g) w w' → Sl kI64 F0 w' (cutV (sA k) (la + 1) (gs.getD k []).length (sc k) 1) (lenZ L3) := fun hk' => Kp.sl hk' (by
    have := hGk.sl.cutV (l := la + 1) (hi := (gs.getD k []).length) (m := sc k) (by omega) (by omega) (by omega) (by omega)
    rwa [List.take_of_length_le (by rw [lenZ_len]; omega), lenZ_drop, ← hL3] at this) fun k hk e => hFg (e ▸ hk)
  refine lo_index rfl rfl rfl (by omega) (hB.a (by omega)) rfl ?_
  repeat(first|refine lops_ ?_|(refine lo_boxA rfl rfl ?_;intro _ _ _)|(refine lo_box1 rfl rfl rfl ?_;intro _ _ _)|(refine lo_alloc rfl ?_;intro _ _ _))
  refine lo_loadO rfl (hB.s i hi 0 _ rfl) (hnb _ _) rfl ?_
  repeat(first|refine lops_ ?_|(refine lo_boxA rfl rfl ?_;intro _ _ _)|(refine lo_box1 rfl rfl rfl ?_;intro _ _ _)|(refine lo_alloc rfl ?_;intro _ _ _))
  refine lo_appendS (d := kI64) (ys := lenZ L1) (F2 := F0) rfl rfl (Ow.nil _ _ _ _) (fun w' hw => hS1 hw.org) (fun k _ e => by cases e) (by rw [lenZ_len]; show (0 + L1.length) * 8 ≤ 140737488355328; omega) rfl rfl rfl rfl ?_
  intro w3 A3 n3 w4 hw3 ko3 kp3 hown3 hog3
  rw [List.nil_append] at hog3 hown3 ⊢
  have hs4 := kp3.size
  have hu84 : Ow kI64 (noB w1) (fun _ => False) w4 (.slice A8 (splitM row).length c8) (lenZ (splitM row)) := Kp.ow kp3 hu8 (fun k hk e => e.elim (fun e => by have := hmg e; unfold noB at hk; omega) fun e => by cases e) fun _ h => h.elim
  repeat(first|refine lrun_ ?_|(refine lo_boxA rfl rfl ?_;intro _ _ _)|(refine lo_box1 rfl rfl rfl ?_;intro _ _ _)|(refine lo_alloc rfl ?_;intro _ _ _))
  refine lo_appendS (d := kI64) (ys := lenZ (splitM row)) (F2 := fun k => noB w1 k ∧ k < w2.heap.size) rfl rfl hog3 (fun w' hw => ?_) (fun k hk e => ?_) (by rw [lenZ_len, lenZ_len]; show (L1.length + (splitM row).length) * 8 ≤ 140737488355328; omega) rfl rfl rfl rfl ?_
  · exact ((hw.owN hu84 fun k hm => by have := hmg hm; omega).nG).slF (fun k hk => ⟨hk.1, (hb8 k hk.2).2⟩) fun _ h => h.elim
  · rcases hown3 k e with h2 | h2
    · cases h2
    · omega
  intro w5 A5 n5 w6 hw5 ko5 kp5 hown5 hog5
  rw [← lenZ_app] at hog5 hown5 ⊢
  repeat(first|refine lrun_ ?_|(refine lo_boxA rfl rfl ?_;intro _ _ _)|(refine lo_box1 rfl rfl rfl ?_;intro _ _ _)|(refine lo_alloc rfl ?_;intro _ _ _))
  refine lo_index rfl rfl rfl (by omega) (hB.a (by omega)) rfl ?_
  repeat(first|refine lops_ ?_|(refine lo_boxA rfl rfl ?_;intro _ _ _)|(refine lo_box1 rfl rfl rfl ?_;intro _ _ _)|(refine lo_alloc rfl ?_;intro _ _ _))
  refine lo_loadO rfl (hB.s k hk 0 _ rfl) (hnb _ _) rfl ?_
  repeat(first|refine lops_ ?_|(refine lo_boxA rfl rfl ?_;intro _ _ _)|(refine lo_box1 rfl rfl rfl ?_;intro _ _ _)|(refine lo_alloc rfl ?_;intro _ _ _))
  refine lo_suf (j := la + 1) rfl rfl (by omega) (by omega) (by omega) rfl ?_
  have hn5 : ∀ k, (Value.slice A5 (lenZ (L1 ++ splitM row)).length n5).ownBlock = some k → w2.heap.size ≤ k := fun k e => by
    rcases hown5 k e with h2 | h2
    · rcases hown3 k h2 with h3 | h3
      · cases h3
      · omega
    · omega
  refine lo_appendS (d := kI64) (ys := lenZ L3) (F2 := F0) rfl rfl hog5 (fun w' hw => hS3 hw.org) (fun k hk e => by have := hF1 k hk; have := hn5 k e; omega) (by rw [lenZ_len, lenZ_len, List.length_append]; show (L1.length + (splitM row).length + L3.length) * 8 ≤ 140737488355328; omega) rfl rfl rfl rfl ?_
  intro w7 A7 n7 w8 hw7 ko7 kp7 hown7 hog7
  rw [← lenZ_app] at hog7 hown7 ⊢
  have hz7 : sumN (L1 ++ splitM row ++ L3) ≤ 1099511627776 := by
    have h1 := jnd_len (splitM row)
    rw [jnd_split] at h1
    have h2 : sumN gs.flatten = sumN (preB gs i) + sumN (gs.getD i []) + sumN (gs.drop (i + 1)).flatten := by rw [preB_parts hi, sumN_app, sumN_app]
    have h3 : sumN gs.flatten = sumN (preB gs k) + sumN (gs.getD k []) + sumN (gs.drop (k + 1)).flatten := by rw [preB_parts hk, sumN_app, sumN_app]
    have h4 : sumN (gs.getD i []) = sumN L1 + sumN ((gs.getD i []).drop fi) := by rw [hL1, ← sumN_app, List.take_append_drop]
    have h5 : sumN (gs.getD k []) = sumN ((gs.getD k []).take (la + 1)) + sumN L3 := by rw [hL3, ← sumN_app, List.take_append_drop]
    have h6 : sumN (splitM row) = runesM (splitM row) + (splitM row).length := rfl
    rw [sumN_app, sumN_app]; omega
  repeat(first|refine lrun_ ?_|(refine lo_boxA rfl rfl ?_;intro _ _ _)|(refine lo_box1 rfl rfl rfl ?_;intro _ _ _)|(refine lo_alloc rfl ?_;intro _ _ _))
  refine lo_append (d := kBlk) (xs := []) (ys := (gs.take i).map blkOf) (F := fun _ => False) (F2 := F0) rfl rfl (Ow.nil _ _ _ _) (fun _ h => h.elim) (fun w' hw => ?_) (fun k _ e => by cases e) (by rw [List.length_map, List.length_take]; show (0 + min i gs.length) * 32 ≤ 140737488355328; omega) rfl rfl rfl rfl ?_
  · have := (hbw hw.org).cutV (l := 0) (hi := i) (m := c) (by omega) (by omega) (by omega) (by omega)
    rwa [cutV_pre, List.drop_zero, ← List.map_take] at this
  intro w9 v9 w10 hw9 ko9 kp9 hown9 hog9
  rw [List.nil_append] at hog9
  obtain ⟨A9, n9, rfl, _⟩ := hog9.form
  have hs8 := kp7.size
  have hs6 := kp5.size
  have hs10 := kp9.size
  have hn7 : ∀ k, (Value.slice A7 (lenZ (L1 ++ splitM row ++ L3)).length n7).ownBlock = some k → w2.heap.size ≤ k := fun k e => by
    rcases hown7 k e with h2 | h2
    · exact hn5 k h2
    · omega
  have hog7' : Og kI64 w w10 (MK [(g, cb [pt, .slice A gs.length c, .int .i64 ln] 73)]) (fun _ => False) (.slice A7 (lenZ (L1 ++ splitM row ++ L3)).length n7) (lenZ (L1 ++ splitM row ++ L3)) :=
    Kp.ow kp9 hog7 (fun k hk e => e.elim hk.2 fun e => by cases e) fun _ h => h.elim
  have hm9 : ((gs.take i).map blkOf).length = i := by rw [List.length_map, List.length_take]; omega
  rw [hm9] at hog9 hown9 ⊢
  have hb9 := hog9.block
  repeat(first|refine lrun_ ?_|(refine lo_boxA rfl rfl ?_;intro _ _ _)|(refine lo_box1 rfl rfl rfl ?_;intro _ _ _)|(refine lo_alloc rfl ?_;intro _ _ _))
  refine lo_callM (n_call rfl) rfl (fun w' hw => blocked_calls ((hog7'.now (fun _ h => h.elim) hw).slF (F' := fun _ => True) (fun _ _ => trivial) fun _ h => h.elim) hz7) ?_
  rintro w11 u66 w12 hw11 kn11 ko11 ⟨gs2, hu66, hfl2, hNe2⟩
  have hs11 := hw11.kp.size
  have hs12 := kn11.size
  obtain ⟨A66, c66, rfl, _⟩ := hu66.form
  have hl2 := hNe2.len
  rw [hfl2] at hl2
  have hl2' : gs2.length ≤ L1.length + (splitM row).length + L3.length := by rw [List.length_append, List.length_append] at hl2; exact hl2
  rw [List.length_map] at hu66 ⊢
  have hog9' : Og kBlk w w12 (MK [(g, cb [pt, .slice A gs.length c, .int .i64 ln] 73)]) (fun k => False ∨ F0 k) (.slice A9 i n9) ((gs.take i).map blkOf) :=
    Kn.ow kn11 (hog9.now (fun k hk hm => hk.elim id fun hk => hFg (hmg hm ▸ hk)) hw11)
  repeat(first|refine lops_ ?_|(refine lo_boxA rfl rfl ?_;intro _ _ _)|(refine lo_box1 rfl rfl rfl ?_;intro _ _ _)|(refine lo_alloc rfl ?_;intro _ _ _))
  refine lo_append (d := kBlk) (xs := (gs.take i).map blkOf) (ys := gs2.map blkOf) (F := fun k => False ∨ F0 k) (F2 := fun k => noB w11 k ∧ k < w12.heap.size) rfl rfl hog9' (fun k hk hm => hk.elim id fun hk => hFg (hmg hm ▸ hk)) (fun w' hw => ?_) (fun k hk e => by have := (hb9 k e).2; have := hk.1; unfold noB at this; omega) (by rw [hm9, List.length_map]; show (i + gs2.length) * 32 ≤ 140737488355328; omega) rfl rfl rfl rfl ?_
  · exact (Kp.sl hw.kp (hu66.mono (G' := fun k => noB w11 k ∧ k < w12.heap.size) (F' := fun k => noB w11 k ∧ k < w12.heap.size) (fun k hk hl => ⟨hk, hl⟩) fun k hk hl => ⟨hk, hl⟩).sl fun k hk hK => by
      have h1 := hmg hK
      have h2 : noB w11 k := hk.elim (·.1) (·.1)
      unfold noB at h2
      omega).mono fun k hk _ => hk.elim id id
  intro w13 v13 w14 hw13 ko13 kp13 hown13 hog13
  rw [← List.map_append] at hog13
  obtain ⟨A13, n13, rfl, _⟩ := hog13.form
  have hm13 : ((gs.take i ++ gs2).map blkOf).length = i + gs2.length := by rw [List.length_map, List.length_append, List.length_take]; omega
  rw [hm13] at hog13 hown13 ⊢
  have hb13 := hog13.block
  have hs14 := kp13.size
  repeat(first|refine lrun_ ?_|(refine lo_boxA rfl rfl ?_;intro _ _ _)|(refine lo_box1 rfl rfl rfl ?_;intro _ _ _)|(refine lo_alloc rfl ?_;intro _ _ _))
  refine lo_suf (j := k + 1) rfl rfl (by omega) (by omega) (by omega) rfl ?_
  refine lo_append (d := kBlk) (xs := (gs.take i ++ gs2).map blkOf) (ys := (gs.drop (k + 1)).map blkOf) (F := fun k => (False ∨ F0 k) ∨ (noB w11 k ∧ k < w12.heap.size)) (F2 := F0) rfl rfl hog13 (fun k hk hm => ?_) (fun w' hw => ?_) (fun k hk e => by have := (hb13 k e).1.1; have := hF1 k hk; omega) (by rw [hm13, List.length_map, List.length_drop]; show (i + gs2.length + (gs.length - (k + 1))) * 32 ≤ 140737488355328; omega) rfl rfl rfl rfl ?_
  · have h1 := hmg hm
    rcases hk with (hk | hk) | hk
    · exact hk
    · exact hFg (h1 ▸ hk)
    · have := hk.1; unfold noB at this; omega
  · have := (hbw hw.org).cutV (l := k + 1) (hi := gs.length) (m := c) (by omega) (by omega) (by omega) (by omega)
    rwa [List.take_of_length_le (by rw [List.length_map]; omega), ← List.map_drop] at this
  intro w15 v15 w16 hw15 ko15 kp15 hown15 hog15
  rw [← List.map_append] at hog15
  obtain ⟨A15, n15, rfl, _⟩ := hog15.form
  have hs16 := kp15.size
  have hb15 := hog15.block
  repeat(first|refine lrun_ ?_|(refine lo_boxA rfl rfl ?_;intro _ _ _)|(refine lo_box1 rfl rfl rfl ?_;intro _ _ _)|(refine lo_alloc rfl ?_;intro _ _ _))
  have hfl : (gs.take i ++ gs2 ++ gs.drop (k + 1)).flatten = gs.flatten.take a ++ splitM row ++ gs.flatten.drop (b + 1) := by
    rw [List.flatten_append, List.flatten_append, hfl2, hL1, hL3, hai, show b + 1 = (preB gs k).length + (la + 1) by omega, take_pre hi (by omega), drop_pre hk (by omega)]
    show preB gs i ++ _ ++ _ = _
    simp only [List.append_assoc]
  have hfn : ln + (((splitM row).length : Int) - (((b + 1 : Nat) : Int) - (a : Int))) = (((gs.take i ++ gs2 ++ gs.drop (k + 1)).flatten).length : Int) := by
    rw [hfl, List.length_append, List.length_append, List.length_take, List.length_drop, hln]; omega
  refine l_end0 rfl fun w' hw => ⟨hw.org, rfl, _, gs.take i ++ gs2 ++ gs.drop (k + 1), hfn ▸ hw.mem g _ .hd, ?_, hfl, (hNe.take i).app hNe2 |>.app (hNe.drop (k + 1))⟩
  refine ((hog15.now (fun k hk hm => ?_) hw).slF (fun k hk => .inr hk.1) fun k hk => ?_)
  · have h1 := hmg hm
    rcases hk with ((hk | hk) | hk) | hk
    · exact hk
    · exact hFg (h1 ▸ hk)
    · have := hk.1; unfold noB at this; omega
    · exact hFg (h1 ▸ hk)
  · rcases hk with ((hk | hk) | hk) | hk
    · exact hk.elim
    · exact .inl (hF0 k hk)
    · have := hk.1; unfold noB at this ⊢; exact .inr (by omega)
    · exact .inl (hF0 k hk)
end
end Go.Ink
