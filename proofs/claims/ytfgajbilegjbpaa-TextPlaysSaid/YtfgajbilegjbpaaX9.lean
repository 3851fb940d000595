/-
  A part of a text's runes is put in another's place: change.
-/
import Derived.Test.YtfgajbilegjbpaaX8
set_option linter.unusedVariables false
set_option linter.unusedSimpArgs false
namespace Go.Ink
open Go Go.Proofs Go.RowKit

section
variable {P : Program} {fn : Func} {k : List Item} {σ : Sig} {O B : World} {S K : Nat → Prop} {M M3 : Mm} {R : Pt} {ops : Array Oper} {rest : List Oper}
variable {dd : Option Nat} {op : Op} {oty : TypeId} {opos : String} {oaf : Array Edge}
/-- A call that turns blocks of those that may turn; of the own blocks those that it leaves are told of on. -/
theorem lo_callT {f : FuncId} {args : Array Value} {T : Nat → Prop} {Φ : World → Value → World → Prop} (hs : MSub M3 M) (hrun : En P fn.ntmps σ ⟨dd, op, oty, opos, oaf, none⟩ f args) (hd : okD dd fn.ntmps = true) (hT : ∀ k, T k → (O.heap.size ≤ k ∨ S k) ∧ ¬ MK M3 k) (hc : ∀ w, Lw O S B K M w → CallsR P f args w fun u w' => Kp T w w' ∧ Φ w u w')
    (h : ∀ w u w', Lw O S B K M w → Kp T w w' → Kp S O w' → Φ w u w' → WLo P fn ops rest k (putS dd u σ) O S w' (MK M3) M3 R) : WLo P fn ops ((⟨dd, op, oty, opos, oaf, none⟩ : Oper) :: rest) k σ O S B K M R := by
  unfold WLo at *
  refine fun w hw => o_enter hrun (wants_none rfl) hd ((hc w hw).mono fun u w' ⟨k1, k2⟩ => ?_)
  have hw3 := hw.sub hs
  have ko : Kp S O w' := Kp.then hw.org k1 (fun _ h => h) fun i hi ht => ((hT i ht).1).elim (fun h => by omega) id
  exact h w u w' hw k1 ko k2 w' ⟨ko, Kp.refl _ _, fun q o hm => k1.blk (hw3.mem q o hm) fun ht => (hT q ht).2 ⟨o, hm⟩, hw3.nd, fun q hm => ⟨(hw3.ge q hm).1, .inr hm⟩⟩
end
/-! ### Plain -/
/-- The row behind a change. -/
def chgY (L : List (List Int)) (a n : Nat) (l : List Int) : List Int := (jndM L).take a ++ l ++ (jndM L).drop (a + n)
/-- The lines behind a change, and what it tells. -/
def chgM (L : List (List Int)) (a n : Nat) (l : List Int) : List (List Int) × Int := if (65536 : Int) - (jndM L).length < (l.length : Int) - n then (L, 3) else (splitM (chgY L a n l), 0)
theorem ofs_le' {L : List (List Int)} {i j : Nat} (hij : i ≤ j) (hj : j ≤ L.length) : ofs L i ≤ ofs L j := by
  rw [ofs_sum (by omega), ofs_sum hj]
  have e : L.take j = L.take i ++ (L.take j).drop i := by
    conv => lhs; rw [← List.take_append_drop i (L.take j)]
    rw [List.take_take, Nat.min_eq_left hij]
  rw [e, sumN_app]; omega
theorem jnd_take {L : List (List Int)} {i c : Nat} (hi : i < L.length) (hc : c ≤ (L.getD i []).length) : (jndM L).take (ofs L i + c) = preJ (L.take i) ++ (L.getD i []).take c := by
  rw [jnd_mid' hi, ← pre_ofs L i (by omega), List.append_assoc, List.take_length_add_append, List.take_append_of_le_length hc]
theorem jnd_drop {L : List (List Int)} {i c : Nat} (hi : i < L.length) (hc : c ≤ (L.getD i []).length) : (jndM L).drop (ofs L i + c) = (L.getD i []).drop c ++ postJ (L.drop (i + 1)) := by
  rw [jnd_mid' hi, ← pre_ofs L i (by omega), List.append_assoc, ← List.drop_drop, List.drop_left, List.drop_append_of_le_length hc]
section
variable {L : List (List Int)} {a n fi fc la lc : Nat} {l : List Int}
theorem chg_row (hf : fi < L.length) (hc : fc ≤ (L.getD fi []).length) (ha : a = ofs L fi + fc) (hl : la < L.length) (hd : lc ≤ (L.getD la []).length) (hb : a + n = ofs L la + lc) :
    chgY L a n l = preJ (L.take fi) ++ ((L.getD fi []).take fc ++ l ++ (L.getD la []).drop lc) ++ postJ (L.drop (la + 1)) := by
  unfold chgY
  rw [hb, ha, jnd_take hf hc, jnd_drop hl hd]
  simp only [List.append_assoc]
theorem chg_lines (hL : ∀ x ∈ L, 10 ∉ x) (hf : fi < L.length) (hc : fc ≤ (L.getD fi []).length) (ha : a = ofs L fi + fc) (hl : la < L.length) (hd : lc ≤ (L.getD la []).length) (hb : a + n = ofs L la + lc) :
    L.take fi ++ splitM ((L.getD fi []).take fc ++ l ++ (L.getD la []).drop lc) ++ L.drop (la + 1) = splitM (chgY L a n l) := by
  have e : jndM (L.take fi ++ splitM ((L.getD fi []).take fc ++ l ++ (L.getD la []).drop lc) ++ L.drop (la + 1)) = chgY L a n l := by
    rw [jnd_app3 _ (split_ne _), jnd_split, chg_row hf hc ha hl hd hb]
  rw [← e, split_jnd]
  · intro x hx
    rcases List.mem_append.1 hx with hx | hx
    · rcases List.mem_append.1 hx with hx | hx
      · exact hL x (List.mem_of_mem_take hx)
      · exact split_plain _ x hx
    · exact hL x (List.mem_of_mem_drop hx)
  · intro h
    have := split_ne ((L.getD fi []).take fc ++ l ++ (L.getD la []).drop lc)
    rw [List.append_assoc] at h
    exact this (List.append_eq_nil_iff.1 (List.append_eq_nil_iff.1 h).2).1
theorem chg_le (hf : fi < L.length) (hl : la < L.length) (hd : lc ≤ (L.getD la []).length) (h : ofs L fi + fc ≤ ofs L la + lc) : fi ≤ la := by
  rcases Nat.lt_or_ge la fi with h1 | h1
  · have h2 := ofs_le' (L := L) (i := la + 1) (j := fi) (by omega) (by omega)
    have h3 := ofs_succ hl
    omega
  · exact h1
end
/-- What a change leaves. -/
def TxtQ (D : Nat → Prop) (g : Nat) (w : World) (L' : List (List Int)) (b' : Nat) (x : Int) (u : Value) (w' : World) : Prop := Kp D w w' ∧ u = .int .i64 x ∧ IsTxt (grownD D w) g w' L' b'
section
variable {D F : Nat → Prop} {g : Nat} {w w' : World} {L : List (List Int)} {b : Nat} {v : Value} {l : List Int}
set_option maxHeartbeats 16000000 in
theorem change_calls {a n : Nat} (h : IsTxt D g w L b) (hv : Sl kRune F w v l) (hF : ∀ k, F k → k < w.heap.size → ¬ D k) (han : a + n ≤ (jndM L).length) (hb : b + l.length ≤ 1099511627776) :
    CallsR Try.prog 45 #[.pointer (some ⟨g, 0, none⟩), .int .i64 (a : Int), .int .i64 (n : Int), v] w (TxtQ D g w (chgM L a n l).1 (b + l.length) (chgM L a n l).2) := by
  obtain ⟨gt, T, vb, gs, Dt, Db, h1, h2⟩ := h
  obtain ⟨hl1, hl2, hl3⟩ := h1.len
  obtain ⟨A, c, rfl, hc, hfl⟩ := hv.form
  have hvl := hfl.len
  have hgl := h1.gl
  have hgw : g < w.heap.size := blk_lt h1.hb
  have hgt : ¬ Dt g := fun e => (h1.dt g e).2 rfl
  refine l_enterM (S := D) h1.hb h1.ge Try.func45 rfl rfl ?_
  have hmg : ∀ {cs : List Value} {k : Nat}, MK [(g, cb cs 73)] k → k = g := fun hm => by
    rw [MK_iff] at hm
    simpa using hm
  repeat(first|refine lrun_ ?_|(refine lo_boxA rfl rfl ?_;intro _ _ _)|(refine lo_box1 rfl rfl rfl ?_;intro _ _ _)|(refine lo_alloc rfl ?_;intro _ _ _))
  refine lo_callP (n_call rfl) rfl (fun w' hw => len_calls (h1.tab.kp hw.kp fun k hk hm => hgt (hmg hm ▸ hk))) ?_
  rw [← hl1]
  repeat(first|refine lrun_ ?_|(refine lo_boxA rfl rfl ?_;intro _ _ _)|(refine lo_box1 rfl rfl rfl ?_;intro _ _ _)|(refine lo_alloc rfl ?_;intro _ _ _))
  unfold chgM
  by_cases hful : (65536 : Int) - (jndM L).length < (l.length : Int) - n
  · rw [if_pos hful]
    refine l_yes rfl (by omega) ?_
    repeat(first|refine lrun_ ?_|(refine lo_boxA rfl rfl ?_;intro _ _ _)|(refine lo_box1 rfl rfl rfl ?_;intro _ _ _)|(refine lo_alloc rfl ?_;intro _ _ _))
    refine l_ret1 rfl rfl fun w' hw => ⟨hw.org, rfl, gt, T, vb, gs, fun k => Dt k ∧ k < w.heap.size, fun k => Db k ∧ k < w.heap.size, ⟨.inl h1.ge, hw.mem g _ .hd, ?_, fun k hk => ⟨.inl (h1.dt k hk.1).1, (h1.dt k hk.1).2⟩, ?_, fun k hk => ⟨.inl (h1.db k hk.1).1, (h1.db k hk.1).2.1, fun h => (h1.db k hk.1).2.2 h.1⟩, h1.fl, h1.gl, h1.ne, h1.pl, h1.ln⟩, by omega⟩
    · exact (h1.tab.mono (D' := fun k => Dt k ∧ k < w.heap.size) fun k hk hl => ⟨hk, hl⟩).kp hw.kp fun k hk hm => hgt (hmg hm ▸ hk.1)
    · exact Kp.sl hw.kp (h1.ix.mono (F' := fun k => Db k ∧ k < w.heap.size) fun k hk hl => ⟨hk, hl⟩) fun k hk hm => (h1.db k hk.1).2.1 (hmg hm)
  rw [if_neg hful]
  refine l_no rfl (by omega) ?_
  refine l_go .skip ?_
  obtain ⟨vs, vr, vv, hTp⟩ := h1.tab
  obtain ⟨hd1, hd2, hd3, hd4, hd5, hd6⟩ := del_flat (a := (a : Int)) (n := (n : Int)) hTp.ok (by omega) (by omega) (by omega)
  repeat(first|refine lrun_ ?_|(refine lo_boxA rfl rfl ?_;intro _ _ _)|(refine lo_box1 rfl rfl rfl ?_;intro _ _ _)|(refine lo_alloc rfl ?_;intro _ _ _))
  refine lo_callT (M3 := [(g, cb [.pointer (some ⟨gt, 0, none⟩), vb, .int .i64 (L.length : Int)] 73)]) (by repeat(first|exact MSub.refl|refine MSub.keep rfl ?_|exact MSub.nil|apply MSub.drop)) (n_call rfl) rfl (T := Dt) (fun k hk => ⟨.inr (h1.dt k hk).1, fun hm => hgt (hmg hm ▸ hk)⟩) (fun w' hw => (del_calls (a := (a : Int)) (n := (n : Int)) (h1.tab.kp hw.kp fun k hk hm => hgt (hmg hm ▸ hk)) (by omega) (by omega)).mono fun u w' h => h) ?_
  rintro w1 _ w2 hw1 kp1 ko1 ⟨hT1, rfl⟩
  have hs1 := hw1.org.size
  have hs2 := kp1.size
  repeat(first|refine lrun_ ?_|(refine lo_boxA rfl rfl ?_;intro _ _ _)|(refine lo_box1 rfl rfl rfl ?_;intro _ _ _)|(refine lo_alloc rfl ?_;intro _ _ _))
  obtain ⟨vs1, vr1, vv1, hTp1⟩ := hT1
  have hT1 : IsTab (grownD Dt w1) gt w2 (delM T a n).1 := ⟨vs1, vr1, vv1, hTp1⟩
  obtain ⟨hi1, hi2, hi3, hi4, hi5, hi6, hi7⟩ := ins_flat (a := (a : Int)) (xs := l) hTp1.ok (by omega) (by omega) (by omega)
  have hg1 : ¬ grownD Dt w1 g := fun e => e.elim hgt fun e => by omega
  have hv2 : Sl kRune (fun k => F k ∧ k < w.heap.size) w2 (.slice A l.length c) l := Kp.sl kp1 (Kp.sl hw1.kp (hv.mono (F' := fun k => F k ∧ k < w.heap.size) fun k hk hl => ⟨hk, hl⟩) fun k hk hm => hF k hk.1 hk.2 (hmg hm ▸ h1.ge)) fun k hk ht => hF k hk.1 hk.2 (h1.dt k ht).1
  have hix2 : Sl kBlk (fun k => Db k ∧ k < w.heap.size) w2 vb (gs.map blkOf) := Kp.sl kp1 (Kp.sl hw1.kp (h1.ix.mono (F' := fun k => Db k ∧ k < w.heap.size) fun k hk hl => ⟨hk, hl⟩) fun k hk hm => (h1.db k hk.1).2.1 (hmg hm)) fun k hk ht => (h1.db k hk.1).2.2 ht
  refine lo_callT (M3 := [(g, cb [.pointer (some ⟨gt, 0, none⟩), vb, .int .i64 (L.length : Int)] 73)]) (by repeat(first|exact MSub.refl|refine MSub.keep rfl ?_|exact MSub.nil|apply MSub.drop)) (n_call rfl) rfl (T := grownD Dt w1) (fun k hk => ⟨hk.elim (fun hk => .inr (h1.dt k hk).1) fun hk => .inl (by omega), fun hm => hg1 (hmg hm ▸ hk)⟩) (fun w' hw => (ins_calls (a := (a : Int)) (hT1.kp hw.kp fun k hk hm => hg1 (hmg hm ▸ hk)) (by omega) (Kp.sl hw.kp hv2 fun k hk hm => hF k hk.1 hk.2 (hmg hm ▸ h1.ge)) (fun k hk _ e => e.elim (fun e => hF k hk.1 hk.2 (h1.dt k e).1) fun e => by have := hk.2; omega) (by rw [hd3]; omega)).mono fun u w' h => h) ?_
  rintro w3 _ w4 hw3 kp3 ko3 ⟨hT2, rfl⟩
  have hs3 := hw3.kp.size
  have hs4 := kp3.size
  have hg3 : ¬ grownD (grownD Dt w1) w3 g := fun e => e.elim hg1 fun e => by omega
  have hix4 : Sl kBlk (fun k => Db k ∧ k < w.heap.size) w4 vb (gs.map blkOf) := Kp.sl kp3 (Kp.sl hw3.kp hix2 fun k hk hm => (h1.db k hk.1).2.1 (hmg hm)) fun k hk ht => ht.elim (fun ht => (h1.db k hk.1).2.2 ht) fun ht => by have := hk.2; omega
  have hix : ∀ {K' : Nat → Prop} {w' : World}, Kp K' w4 w' → (∀ k, K' k → k = g) → Sl kBlk (fun k => Db k ∧ k < w.heap.size) w' vb (gs.map blkOf) := fun hk he => Kp.sl hk hix4 fun k hk hm => (h1.db k hk.1).2.1 (he k hm)
  have hflat : flat (insM (delM T a n).1 a l).1.store (insM (delM T a n).1 a l).1.row = chgY L a n l := by
    rw [hi4, hd3, hd4, h1.fl]
    unfold chgY
    rw [Int.toNat_natCast, show ((a : Int) + (n : Int)).toNat = a + n by omega]
    have hta : ((jndM L).take a).length = a := by rw [List.length_take]; omega
    have e1 := List.take_left (l₁ := (jndM L).take a) (l₂ := (jndM L).drop (a + n))
    have e2 := List.drop_left (l₁ := (jndM L).take a) (l₂ := (jndM L).drop (a + n))
    rw [hta] at e1 e2
    rw [e1, e2]
  have htot : tot (insM (delM T a n).1 a l).1.row = (jndM L).length - n + l.length := by rw [hi6, hd6, hl1]
  have hsto : (insM (delM T a n).1 a l).1.store.length ≤ b + l.length := by rw [hi7, hd3]; omega
  generalize (insM (delM T a n).1 a l).1 = T2 at *
  clear hd1 hd2 hd3 hd4 hd5 hd6 hi1 hi2 hi3 hi4 hi5 hi6 hi7 hT1 hTp1 hTp hix2 hv2
  subst hgl
  repeat(first|refine lrun_ ?_|(refine lo_boxA rfl rfl ?_;intro _ _ _)|(refine lo_box1 rfl rfl rfl ?_;intro _ _ _)|(refine lo_alloc rfl ?_;intro _ _ _))
  refine lo_callV (n_call rfl) rfl (fun w' hw => find_calls (hw.cell .hd rfl) (hix hw.kp fun k hm => hmg hm) (by omega) (n := a) (by omega)) ?_
  rintro _ ⟨fi, fc, hfi, hfc, hfa, rfl⟩
  repeat(first|refine lrun_ ?_|(refine lo_boxA rfl rfl ?_;intro _ _ _)|(refine lo_box1 rfl rfl rfl ?_;intro _ _ _)|(refine lo_alloc rfl ?_;intro _ _ _))
  rw [show (a : Int) + (n : Int) = ((a + n : Nat) : Int) by omega]
  refine lo_callV (n_call rfl) rfl (fun w' hw => find_calls (hw.cell .hd rfl) (hix hw.kp fun k hm => hmg hm) (by omega) (n := a + n) (by omega)) ?_
  rintro _ ⟨la, lc, hla, hlc, hlb, rfl⟩
  have hfl2 : fi ≤ la := chg_le (fc := fc) (lc := lc) hfi hla hlc (by omega)
  have hll : gs.flatten.length ≤ 65537 := by
    have : sumN gs.flatten = runesM gs.flatten + gs.flatten.length := rfl
    omega
  have hof := ofs_lt hfi
  have hol := ofs_lt hla
  repeat(first|refine lrun_ ?_|(refine lo_boxA rfl rfl ?_;intro _ _ _)|(refine lo_box1 rfl rfl rfl ?_;intro _ _ _)|(refine lo_alloc rfl ?_;intro _ _ _))
  refine lo_call (n_call rfl) rfl (fun w' hw => start_calls (hw.cell .hd rfl) (hix hw.kp fun k hm => hmg hm) (by omega) hfi) ?_
  repeat(first|refine lrun_ ?_|(refine lo_boxA rfl rfl ?_;intro _ _ _)|(refine lo_box1 rfl rfl rfl ?_;intro _ _ _)|(refine lo_alloc rfl ?_;intro _ _ _))
  refine lo_call (n_call rfl) rfl (fun w' hw => start_calls (hw.cell .hd rfl) (hix hw.kp fun k hm => hmg hm) (by omega) hla) ?_
  repeat(first|refine lrun_ ?_|(refine lo_boxA rfl rfl ?_;intro _ _ _)|(refine lo_box1 rfl rfl rfl ?_;intro _ _ _)|(refine lo_alloc rfl ?_;intro _ _ _))
  obtain ⟨row, hrow⟩ : ∃ row, row = (gs.flatten.getD fi []).take fc ++ l ++ (gs.flatten.getD la []).drop lc := ⟨_, rfl⟩
  have hrl : row.length = fc + l.length + ((gs.flatten.getD la []).length - lc) := by rw [hrow, List.length_append, List.length_append, List.length_take, List.length_drop]; omega
  have hcr := chg_row (l := l) hfi hfc hfa hla hlc hlb
  have hcl := chg_lines (l := l) h1.pl hfi hfc hfa hla hlc hlb
  rw [← hrow] at hcr hcl
  have hpl : (preJ (gs.flatten.take fi)).length = ofs gs.flatten fi := pre_ofs _ _ (by omega)
  have hle := ofs_le' (L := gs.flatten) hfl2 (by omega)
  have hsl : sliceM T2 (ofs gs.flatten fi : Nat) (((ofs gs.flatten la : Nat) : Int) + (((gs.flatten.getD la []).length : Nat) : Int) - ((ofs gs.flatten fi : Nat) : Int) + (l.length : Int) - (n : Int)) = (row, 0) := by
    unfold sliceM
    rw [if_pos (fit_zero.2 ⟨by omega, by omega, by omega⟩), hflat, hcr, Int.toNat_natCast, List.append_assoc, ← hpl, List.drop_left, hpl, show (((ofs gs.flatten la : Nat) : Int) + (((gs.flatten.getD la []).length : Nat) : Int) - ((ofs gs.flatten fi : Nat) : Int) + (l.length : Int) - (n : Int)).toNat = row.length by omega, List.take_left]
  refine lo_callM (n_call rfl) rfl (fun w' hw => slice_calls (hT2.kp hw.kp fun k hk hm => hg3 (hmg hm ▸ hk)) (by omega) (by omega)) ?_
  rintro w5 _ w6 hw5 kn5 ko5 ⟨v2, rfl, hv2⟩
  rw [hsl] at hv2 ⊢
  have hs5 := hw5.kp.size
  have hs6 := kn5.size
  have hix6 : Sl kBlk (fun k => Db k ∧ k < w.heap.size) w6 vb (gs.map blkOf) := Kn.sl kn5 (hix hw5.kp fun k hm => hmg hm)
  have hT6 : IsTab (fun k => grownD (grownD Dt w1) w3 k ∧ k < w4.heap.size) gt w6 T2 := ((hT2.mono (D' := fun k => grownD (grownD Dt w1) w3 k ∧ k < w4.heap.size) fun k hk hl => ⟨hk, hl⟩).kp hw5.kp fun k hk hm => hg3 (hmg hm ▸ hk.1)).kn kn5
  obtain ⟨A2, c2, rfl, _⟩ := hv2.form
  repeat(first|refine lrun_ ?_|(refine lo_boxA rfl rfl ?_;intro _ _ _)|(refine lo_box1 rfl rfl rfl ?_;intro _ _ _)|(refine lo_alloc rfl ?_;intro _ _ _))
  rw [show (la : Int) + 1 = ((la + 1 : Nat) : Int) by omega]
  have hq1 : sumN gs.flatten ≤ 4194304 := by omega
  have hq2 : row.length ≤ 4194304 := by omega
  have hq3 : ¬ noB w5 g := fun e => by unfold noB at e; omega
  have hv2' : Ow kRune (noB w5) (fun _ => False) w6 (.slice A2 row.length c2) row := hv2
  refine lo_callT (M3 := []) .nil (n_call rfl) rfl (T := fun k => k = g) (fun k hk => ⟨.inr (hk ▸ h1.ge), mk_nil⟩) (fun w' hw => set_calls (Fr := noB w5) (hw.mem g _ .hd) rfl (Kp.sl hw.kp hix6 fun k hk hm => (h1.db k hk.1).2.1 (hmg hm)) (fun e => (h1.db g e.1).2.1 rfl) ((hw.owN hv2' fun k hm => by have := hmg hm; omega).slF (fun _ h => h) fun _ h => h.elim) hq3 hq1 hq2 hfl2 hla rfl h1.ne) ?_
  rintro w7 _ w8 hw7 kp7 ko7 ⟨rfl, vb', gs', hg8, hix8, hgl8, hne8⟩
  have hs7 := hw7.kp.size
  have hs8 := kp7.size
  rw [hcl] at hgl8
  repeat(first|refine lrun_ ?_|(refine lo_boxA rfl rfl ?_;intro _ _ _)|(refine lo_box1 rfl rfl rfl ?_;intro _ _ _)|(refine lo_alloc rfl ?_;intro _ _ _))
  refine l_ret1 rfl rfl fun w' hw => ⟨hw.org, rfl, gt, T2, vb', gs', fun k => grownD (grownD Dt w1) w3 k ∧ k < w4.heap.size, fun k => (Db k ∧ k < w.heap.size) ∨ w7.heap.size ≤ k, ⟨.inl h1.ge, ?_, ?_, ?_, ?_, ?_, ?_, hgl8, hne8, split_plain _, split_ne _⟩, hsto⟩
  · have := (kn_mk hw.kp).blk hg8 id
    rw [hgl8] at this
    exact this
  · exact ((hT6.kp hw7.kp fun k hk hm => hg3 (hmg hm ▸ hk.1)).kp kp7 fun k hk e => hg3 (e ▸ hk.1)).kn (kn_mk hw.kp)
  · intro k hk
    refine ⟨?_, fun e => hg3 (e ▸ hk.1)⟩
    rcases hk.1 with (hk | hk) | hk
    · exact .inl (h1.dt k hk).1
    · exact .inr (by omega)
    · exact .inr (by omega)
  · exact Kn.sl (kn_mk hw.kp) (hix8.mono fun k hk _ => hk.elim .inl .inr)
  · intro k hk
    rcases hk with hk | hk
    · refine ⟨.inl (h1.db k hk.1).1, (h1.db k hk.1).2.1, fun e => ?_⟩
      rcases e.1 with (e | e) | e
      · exact (h1.db k hk.1).2.2 e
      · have := hk.2; omega
      · have := hk.2; omega
    · exact ⟨.inr (by omega), by omega, fun e => by have := e.2; omega⟩
  · rw [hflat, jnd_split]
end
end Go.Ink
