/-
  What a text's lines are told as: All.
-/
import Derived.Test.YtfgajbilegjbpaaX7
set_option linter.unusedVariables false
set_option linter.unusedSimpArgs false
namespace Go.Ink
open Go Go.Proofs Go.RowKit

theorem jnd_mid' {L : List (List Int)} {j : Nat} (hj : j < L.length) : jndM L = preJ (L.take j) ++ L.getD j [] ++ postJ (L.drop (j + 1)) := by
  rw [← jnd_mid, ← split1 hj]
theorem jnd_at {L : List (List Int)} {j k : Nat} (hj : j < L.length) (hk : k < (L.getD j []).length) : (jndM L).getD (ofs L j + k) 0 = (L.getD j []).getD k 0 := by
  rw [jnd_mid' hj, ← pre_ofs L j (by omega), List.append_assoc, List.getD_eq_getElem?_getD, List.getElem?_append_right (by omega), Nat.add_sub_cancel_left, List.getElem?_append_left hk]
  simp only [List.getD_eq_getElem?_getD]
theorem jnd_nl {L : List (List Int)} {j : Nat} (hj : j + 1 < L.length) : (jndM L).getD (ofs L j + (L.getD j []).length) 0 = 10 := by
  have h0 : j < L.length := by omega
  rw [jnd_mid' h0, ← pre_ofs L j (by omega), List.append_assoc, List.getD_eq_getElem?_getD, List.getElem?_append_right (by omega), Nat.add_sub_cancel_left, List.getElem?_append_right (by omega), Nat.sub_self]
  unfold postJ
  rw [if_neg (List.ne_nil_of_length_pos (by rw [List.length_drop]; omega))]
  rfl
theorem jnd_part {L : List (List Int)} {j : Nat} (hj : j < L.length) : ((jndM L).take (ofs L j + (L.getD j []).length)).drop (ofs L j) = L.getD j [] := by
  rw [List.drop_take, Nat.add_sub_cancel_left, jnd_line hj]
theorem ofs_last {L : List (List Int)} (h : L ≠ []) : ofs L (L.length - 1) + (L.getD (L.length - 1) []).length = (jndM L).length := by
  have h0 := List.length_pos_iff.2 h
  have h1 := ofs_succ (l := L) (i := L.length - 1) (by omega)
  rw [show L.length - 1 + 1 = L.length by omega, ofs_all] at h1
  have h2 := jnd_len L
  unfold sumN at h1
  omega
theorem els_row {F : Nat → Prop} {w : World} : ∀ {L : List (List Int)} {cells : List Value}, cells.length = L.length → (∀ j, j < L.length → ∃ u, cells[j]? = some u ∧ Sl kRune F w u (L.getD j [])) → Els kRow F w L cells
  | [], [], _, _ => rfl
  | [], _ :: _, h, _ => by simp at h
  | x :: L, [], h, _ => by simp at h
  | x :: L, c :: cells, h, hs => by
    obtain ⟨u, h1, h2⟩ := hs 0 (by simp)
    simp only [List.getElem?_cons_zero, Option.some.injEq] at h1
    subst h1
    exact ⟨[c], cells, rfl, ⟨c, rfl, h2⟩, els_row (by simpa using h) fun j hj => hs (j + 1) (by simpa using hj)⟩
/-- All lines: parts of one row of runes. -/
def AllQ (w w' : World) (L : List (List Int)) (u : Value) : Prop := ∃ A c cells, Ow kRune (noB w) (fun _ => False) w' (.slice A (jndM L).length c) (jndM L) ∧ Ow kRaw (noB w) (fun _ => False) w' u cells ∧ (∀ k, u.ownBlock = some k → (Value.slice A (jndM L).length c).ownBlock ≠ some k) ∧ cells.length = L.length ∧ ∀ j, j < L.length → cells[j]? = some (cutV A (ofs L j) (ofs L j + (L.getD j []).length) (if j + 1 < L.length then ofs L j + (L.getD j []).length else c) 1)
/-- Row j of all. -/
def rowV (L : List (List Int)) (A : Option Addr) (j : Nat) : Value := cutV A (ofs L j) (ofs L j + (L.getD j []).length) (ofs L j + (L.getD j []).length) 1
/-- The first j rows. -/
def rowsV (L : List (List Int)) (A : Option Addr) (j : Nat) : List Value := (List.range j).map (rowV L A)
theorem rowsV_len (L : List (List Int)) (A : Option Addr) (j : Nat) : (rowsV L A j).length = j := by unfold rowsV; rw [List.length_map, List.length_range]
theorem rowsV_succ (L : List (List Int)) (A : Option Addr) (j : Nat) : rowsV L A (j + 1) = rowsV L A j ++ [rowV L A j] := by unfold rowsV; rw [List.range_succ, List.map_append]; rfl
theorem rowsV_at {L : List (List Int)} {A : Option Addr} {j i : Nat} (h : i < j) : (rowsV L A j)[i]? = some (rowV L A i) := by unfold rowsV; rw [List.getElem?_map, List.getElem?_range h]; rfl
theorem lo_makeZ {P : Program} {fn : Func} {k : List Item} {σ : Sig} {O B : World} {S K : Nat → Prop} {M : Mm} {R : Pt} {ops : Array Oper} {rest : List Oper} {dd : Option Nat} {oty : TypeId} {opos : String} {oaf : Array Edge} {x y : Operand} {t e : TypeId} {sz bytes : Nat} {z : Value} [hT : SlT P t e] [hE : ElT P e sz bytes z] {kl kc : IntKind} {n : Nat} {iv jv : Int} (hx : ev σ x = some (.int kl iv)) (hy : ev σ y = some (.int kc jv)) (hi : iv = ((0 : Nat) : Int)) (hj : jv = (n : Int)) (hn : bytes * n ≤ 140737488355328) (hn2 : n ≤ 140737488355328) (hsz : 1 = sz) (hz : ∀ w : World, kRaw.R (fun _ => False) w z z.cells.toList) (hd : okD dd fn.ntmps = true)
    (h : ∀ w g w', Lw O S B K M w → Kn w w' → Kp S O w' → Ow kRaw (noB w) (fun _ => False) w' (.slice (some ⟨g, 0, none⟩) 0 n) [] → WLo P fn ops rest k (putS dd (.slice (some ⟨g, 0, none⟩) 0 n) σ) O S w' (MK M) M R) : WLo P fn ops ((⟨dd, .makeSlice t x y, oty, opos, oaf, none⟩ : Oper) :: rest) k σ O S B K M R := by
  subst hi hj hsz
  refine lo_anyM (Φ := fun w u w' => Kn w w' ∧ ∃ g, u = .slice (some ⟨g, 0, none⟩) 0 n ∧ Ow kRaw (noB w) (fun _ => False) w' u []) (fun w hw => ⟨fun a w0 ha h0 => ?_⟩) (fun w u w' h => h.1) hd ?_
  · obtain ⟨u, w', h2, g, h3, h4⟩ := (e_make (hT := hT) (hE := hE) hx hy (Nat.zero_le _) (by omega) (by unfold maxLen; omega)).run a w0 ha h0
    exact ⟨u, w', h2, h4.kn, g, h3, h3 ▸ ow_made (d := kRaw) (n := 0) (hz w) h4 (Nat.zero_le _) (by unfold maxLen; omega) (Fits.zero _) h4.ge⟩
  · rintro w u w' hw ⟨h2, g, rfl, h3⟩ hk
    exact h w g w' hw h2 hk h3
theorem AllQ.ow {w w' : World} {L : List (List Int)} {u : Value} (h : AllQ w w' L u) (hs : L.length ≤ 1099511627776) : Ow kRow (noB w) (noB w) w' u L := by
  obtain ⟨A, c, cells, h1, h2, h3, h4, h5⟩ := h
  have hE : Els kRow (fun k => noB w k ∧ u.ownBlock ≠ some k) w' L cells := els_row h4 fun j hj => by
    refine ⟨_, h5 j hj, ?_⟩
    obtain ⟨A', c', e, hc, _⟩ := h1.form
    simp only [Value.slice.injEq] at e
    obtain ⟨_, _, rfl⟩ := e
    have hol := ofs_lt hj
    have hjl := jnd_len L
    have hle : ofs L j + (L.getD j []).length ≤ (jndM L).length := by unfold sumN at hol; omega
    have := (h1.nG.slF (F' := fun k => noB w k ∧ u.ownBlock ≠ some k) (fun k hk => ⟨hk.1, fun e => h3 k e hk.2⟩) fun _ h => h.elim).cutV (l := ofs L j) (hi := ofs L j + (L.getD j []).length) (m := if j + 1 < L.length then ofs L j + (L.getD j []).length else c) (by omega) hle (by split <;> omega) (by split <;> omega)
    rwa [jnd_part hj] at this
  obtain ⟨cells', k1, k2, k3⟩ := h2
  have hcc : cells' = cells := els_raw k1
  subst hcc
  refine ⟨_, hE, by unfold Fits; show L.length * 24 ≤ 140737488355328; omega, ?_⟩
  rcases k3 with ⟨e1, e2⟩ | ⟨g, o, cap, cur, e, e1, k4⟩
  · exact .inl ⟨e1, List.length_eq_zero_iff.1 (by rw [← h4, e2]; rfl)⟩
  · rw [h4] at e1 k4
    exact .inr ⟨g, o, cap, cur, e, e1, k4⟩
section
variable {D : Nat → Prop} {g : Nat} {w w' : World} {L : List (List Int)} {b : Nat}
set_option maxHeartbeats 8000000 in
theorem all_calls (h : IsTxt D g w L b) : CallsR Try.prog 21 #[.pointer (some ⟨g, 0, none⟩)] w fun u w' => Kn w w' ∧ AllQ w w' L u := by
  obtain ⟨gt, T, vb, gs, Dt, Db, h1, h2⟩ := h
  have c0 : w.cell? ⟨g, 0, none⟩ = some (.pointer (some ⟨gt, 0, none⟩)) := blk_cell h1.hb
  have c2 : w.cell? ⟨g, 2, none⟩ = some (.int .i64 (L.length : Int)) := blk_cell h1.hb
  obtain ⟨hl1, hl2, hl3⟩ := h1.len
  have hLn := List.length_pos_iff.2 h1.ln
  have hll : L.length ≤ 65537 := by unfold sumN at hl2; omega
  refine l_enter (fun _ => False) Try.func21 rfl rfl ?_
  repeat(first|refine lrun_ ?_|(refine lo_boxA rfl rfl ?_;intro _ _ _)|(refine lo_box1 rfl rfl rfl ?_;intro _ _ _)|(refine lo_alloc rfl ?_;intro _ _ _))
  refine l_false rfl ?_
  refine l_go .skip ?_
  repeat(first|refine lrun_ ?_|(refine lo_boxA rfl rfl ?_;intro _ _ _)|(refine lo_box1 rfl rfl rfl ?_;intro _ _ _)|(refine lo_alloc rfl ?_;intro _ _ _))
  refine l_draw [(0, 0), (1, 0), (2, 0), (3, 0), (4, 0), (5, 0), (6, 0), (7, 0), (8, 1), (9, 1), (10, 0), (11, 0), (12, 0), (13, 0), (14, 0)] (by kernel_rfl) (by kernel_rfl) rfl (by kernel_rfl) ?_
  repeat(first|refine lrund_ ?_|(refine ld_open rfl ?_;first|(refine ld_boxA rfl wy_ rfl ?_;intro _ _ _)|(refine ld_box1 rfl rfl wy_ rfl ?_;intro _ _ _)|(refine ld_alloc wy_ rfl ?_;intro _ _ _)))
  refine ld_open rfl ?_; refine ld_call (n_call rfl) wy_ rfl (fun w' hw => (len_calls (h1.tab.kn hw.org)).mono fun u w' ⟨e1, e2⟩ => ⟨e1 ▸ Kp.refl _ _, e2⟩) ?_
  repeat(first|refine lrund_ ?_|(refine ld_open rfl ?_;first|(refine ld_boxA rfl wy_ rfl ?_;intro _ _ _)|(refine ld_box1 rfl rfl wy_ rfl ?_;intro _ _ _)|(refine ld_alloc wy_ rfl ?_;intro _ _ _)))
  rw [← hl1]
  refine ld_open rfl ?_; refine ld_callM (by repeat constructor) (by kernel_rfl) (n_call rfl) wy_ rfl (fun w' hw => slice_calls (h1.tab.kn hw.org) (by omega) (by omega)) ?_
  rintro w1 u w2 hw1 kn1 ko1 ⟨v, rfl, hv⟩
  have hs1 := hw1.org.size
  have hs2 := kn1.size
  have hsl : sliceM T 0 ((jndM L).length : Int) = (jndM L, 0) := by
    unfold sliceM
    rw [if_pos (fit_zero.2 ⟨by omega, by omega, by omega⟩), h1.fl, Int.toNat_natCast]
    simp
  rw [hsl] at hv ⊢
  obtain ⟨A, c, rfl, hc⟩ := hv.form
  have hcap : (jndM L).length ≤ c := hc.1
  repeat(first|refine lrund_ ?_|(refine ld_open rfl ?_;first|(refine ld_boxA rfl wy_ rfl ?_;intro _ _ _)|(refine ld_box1 rfl rfl wy_ rfl ?_;intro _ _ _)|(refine ld_alloc wy_ rfl ?_;intro _ _ _)))
  repeat(first|refine lrun_ ?_|(refine lo_boxA rfl rfl ?_;intro _ _ _)|(refine lo_box1 rfl rfl rfl ?_;intro _ _ _)|(refine lo_alloc rfl ?_;intro _ _ _))
  refine lo_makeZ (n := L.length) rfl rfl rfl rfl (by show 24 * L.length ≤ 140737488355328; omega) (by omega) rfl (fun _ => ⟨rfl, rfl⟩) rfl ?_
  intro w3 g29 w4 hw3 kn3 ko3 hO
  have hs3 := hw3.kp.size
  have hs4 := kn3.size
  have hx4 : Ow kRune (noB w1) (fun _ => False) w4 (.slice A (jndM L).length c) (jndM L) := Kn.ow kn3 (hw3.owN hv fun k hm => (mk_nil hm).elim)
  have hxb := (hw3.owN hv fun k hm => (mk_nil hm).elim).block
  have hgb := hO.block g29 rfl
  repeat(first|refine lrun_ ?_|(refine lo_boxA rfl rfl ?_;intro _ _ _)|(refine lo_box1 rfl rfl rfl ?_;intro _ _ _)|(refine lo_alloc rfl ?_;intro _ _ _))
  refine l_whileB (fun s : Nat × Nat × Option Addr × Nat => (jndM L).length - s.1) (fun s => [(3, .slice A (jndM L).length c), (5, .slice s.2.2.1 s.2.1 s.2.2.2), (6, .int .i64 ((ofs L s.2.1 : Nat) : Int)), (30, .slice A (jndM L).length c), (31, .int .i64 ((jndM L).length : Int)), (32, .int .i64 (s.1 : Int))]) (fun _ => [])
    (fun s bb => ((s.1 ≤ (jndM L).length ∧ s.2.1 < L.length) ∧ ofs L s.2.1 ≤ s.1 ∧ s.1 ≤ ofs L s.2.1 + (L.getD s.2.1 []).length) ∧ Og kRune w bb (MK []) (fun _ => False) (.slice A (jndM L).length c) (jndM L) ∧ Og kRaw w bb (MK []) (fun _ => False) (.slice s.2.2.1 s.2.1 s.2.2.2) (rowsV L A s.2.1) ∧ ∀ k, (Value.slice s.2.2.1 s.2.1 s.2.2.2).ownBlock = some k → (Value.slice A (jndM L).length c).ownBlock ≠ some k) (0, 0, some ⟨g29, 0, none⟩, L.length) (by repeat (first | exact SubB.nil | refine SubB.cons rfl ?_)) (by repeat(first|exact MSub.refl|refine MSub.keep rfl ?_|exact MSub.nil|apply MSub.drop)) (fun w' hw => ⟨⟨⟨Nat.zero_le _, hLn⟩, Nat.le_refl _, Nat.zero_le _⟩, ?_, ?_, ?_⟩) ?_
  · exact (Kn.ow (kn_mk hw.kp) hx4).mono (fun k hk _ => ⟨by unfold noB at hk; omega, mk_nil⟩) fun _ h _ => h
  · exact (Kn.ow (kn_mk hw.kp) hO).mono (fun k hk _ => ⟨by unfold noB at hk; omega, mk_nil⟩) fun _ h _ => h
  · intro k hk e
    have e1 : g29 = k := Option.some.inj hk
    have h3 := (hxb k e).2
    have h4 := hgb.1
    unfold noB at h4
    omega
  rintro ⟨i, j, A5, c5⟩ bb ⟨⟨⟨hi, hj⟩, hof, hof2⟩, hX, hO, hne⟩ hkb ih
  simp only at hi hj hof hof2 hX hO hne
  dsimp only
  have hlast := ofs_last h1.ln
  have hos := ofs_succ hj
  have hol := ofs_lt hj
  obtain ⟨A', c', ad', e', hXb⟩ := hX.sl.rns
  simp only [Value.slice.injEq] at e'
  obtain ⟨rfl, _, rfl⟩ := e'
  have hob := hO.block
  have hxb2 := hX.block
  by_cases hlt : i < (jndM L).length
  case neg =>
    obtain rfl : i = (jndM L).length := by omega
    have hjl : j + 1 = L.length := by
      rcases Nat.lt_or_ge (j + 1) L.length with h | h
      · have := ofs_lt h; omega
      · omega
    repeat(first|refine lrun_ ?_|(refine lo_boxA rfl rfl ?_;intro _ _ _)|(refine lo_box1 rfl rfl rfl ?_;intro _ _ _)|(refine lo_alloc rfl ?_;intro _ _ _))
    refine l_no rfl (by omega) ?_
    refine l_go (.exit rfl) ?_
    repeat(first|refine lrun_ ?_|(refine lo_boxA rfl rfl ?_;intro _ _ _)|(refine lo_box1 rfl rfl rfl ?_;intro _ _ _)|(refine lo_alloc rfl ?_;intro _ _ _))
    refine lo_suf (j := ofs L j) rfl rfl rfl (by omega) (by omega) rfl ?_
    obtain ⟨z, hz⟩ : ∃ z, z = cutV A (ofs L j) (jndM L).length c 1 := ⟨_, rfl⟩
    obtain ⟨zA, hzA⟩ : ∃ zA, cutV A (ofs L j) (jndM L).length c 1 = .slice zA ((jndM L).length - ofs L j) (c - ofs L j) := ⟨_, rfl⟩
    rw [hzA] at hz ⊢
    refine lo_lit (cs := [.slice zA ((jndM L).length - ofs L j) (c - ofs L j)]) rfl (by decide) (by kernel_rfl) rfl ?_
    intro g54 hg54 hg54'
    refine lo_append1 (d := kRaw) (q := .slice zA ((jndM L).length - ofs L j) (c - ofs L j)) rfl rfl (hO.mono (G' := fre w (MK [])) (F' := fun _ => False) (fun k hk _ => hk) fun _ h _ => h) (fun _ h => h.elim) (by(repeat(first|exact MIn.hd|refine MIn.tl ?_));done) (fun w' hw => ⟨rfl, rfl⟩) (by rw [rowsV_len]; show (j + 1) * 24 ≤ 140737488355328; omega) rfl rfl rfl rfl ?_
    intro w5 A6 n6 w6 hw5 ko5 kp5 hown5 hog5
    have hm54 : ∀ {cs : List Value} {e : TypeId} {k : Nat}, MK [(g54, cb cs e)] k → k = g54 := fun hm => by
      rw [MK_iff] at hm
      simpa using hm
    repeat(first|refine lrun_ ?_|(refine lo_boxA rfl rfl ?_;intro _ _ _)|(refine lo_box1 rfl rfl rfl ?_;intro _ _ _)|(refine lo_alloc rfl ?_;intro _ _ _))
    refine l_ret1 rfl rfl fun w' hw => ⟨hw.org, A, c, _, ?_, (hog5.now (fun _ h => h.elim) hw).mono (fun k hk _ => hk.1) fun _ h _ => h, ?_, by rw [List.length_append, rowsV_len]; exact hjl, ?_⟩
    · exact (Kp.ow hw.kp (Kp.ow kp5 hX.nG (fun k hk e => e.elim mk_nil fun e => hne k e hk.2) fun _ h => h.elim) (fun k hk hm => by have := (hxb2 k hk.2).2; have := hm54 hm; omega) fun _ h => h.elim).mono (fun k hk _ => hk.1.1) fun _ h _ => h
    · intro k hk e
      rcases hown5 k hk with h3 | h3
      · exact hne k h3 e
      · have := (hxb2 k e).2; omega
    · intro q hq
      by_cases hqj : q < j
      · rw [List.getElem?_append_left (by rw [rowsV_len]; exact hqj), rowsV_at hqj, if_pos (by omega)]; rfl
      · obtain rfl : q = j := by omega
        rw [List.getElem?_append_right (by rw [rowsV_len]; omega), rowsV_len, Nat.sub_self, if_neg (by omega), show ofs L q + (L.getD q []).length = (jndM L).length by omega, hzA]; rfl
  repeat(first|refine lrun_ ?_|(refine lo_boxA rfl rfl ?_;intro _ _ _)|(refine lo_box1 rfl rfl rfl ?_;intro _ _ _)|(refine lo_alloc rfl ?_;intro _ _ _))
  refine l_yes rfl (by omega) ?_
  repeat(first|refine lrun_ ?_|(refine lo_boxA rfl rfl ?_;intro _ _ _)|(refine lo_box1 rfl rfl rfl ?_;intro _ _ _)|(refine lo_alloc rfl ?_;intro _ _ _))
  refine lo_index rfl rfl rfl (by omega) (hXb.a (by omega)) rfl ?_
  refine lo_loadB rfl (hXb.run i hlt) mk_nil rfl ?_
  repeat(first|refine lrun_ ?_|(refine lo_boxA rfl rfl ?_;intro _ _ _)|(refine lo_box1 rfl rfl rfl ?_;intro _ _ _)|(refine lo_alloc rfl ?_;intro _ _ _))
  by_cases h10 : (jndM L).getD i 0 = 10
  · have hie : i = ofs L j + (L.getD j []).length := by
      rcases Nat.lt_or_ge i (ofs L j + (L.getD j []).length) with h | h
      · obtain ⟨k, rfl⟩ : ∃ k, i = ofs L j + k := ⟨i - ofs L j, by omega⟩
        rw [jnd_at hj (by omega)] at h10
        refine absurd (mem_getD (by omega) h10) (h1.pl _ ?_)
        rw [List.getD_eq_getElem?_getD, List.getElem?_eq_getElem hj]
        exact List.getElem_mem hj
      · omega
    have hj1 : j + 1 < L.length := by
      rcases Nat.lt_or_ge (j + 1) L.length with h | h
      · exact h
      · rw [show L.length - 1 = j by omega] at hlast; omega
    refine l_yes rfl h10 ?_
    repeat(first|refine lrun_ ?_|(refine lo_boxA rfl rfl ?_;intro _ _ _)|(refine lo_box1 rfl rfl rfl ?_;intro _ _ _)|(refine lo_alloc rfl ?_;intro _ _ _))
    refine lo_rn (fun _ => r_slice rfl (ofs L j) i i ⟨_, rfl⟩ ⟨_, rfl⟩ ⟨_, rfl⟩ (by omega) (Nat.le_refl _) (by omega)) rfl ?_
    rw [show cutV A (ofs L j) i i 1 = rowV L A j by rw [hie]; rfl]
    refine lo_lit (cs := [rowV L A j]) rfl (by decide) (by kernel_rfl) rfl ?_
    intro g45 hg45 hg45'
    refine lo_append1 (d := kRaw) (q := rowV L A j) rfl rfl (hO.mono (G' := fre w (MK [])) (F' := fun _ => False) (fun k hk _ => hk) fun _ h _ => h) (fun _ h => h.elim) (by(repeat(first|exact MIn.hd|refine MIn.tl ?_));done) (fun w' hw => ⟨rfl, rfl⟩) (by rw [rowsV_len]; show (j + 1) * 24 ≤ 140737488355328; omega) rfl rfl rfl rfl ?_
    intro w5 A6 n6 w6 hw5 ko5 kp5 hown5 hog5
    rw [← rowsV_succ, rowsV_len] at hog5 hown5 ⊢
    have hm45 : ∀ {cs : List Value} {e : TypeId} {k : Nat}, MK [(g45, cb cs e)] k → k = g45 := fun hm => by
      rw [MK_iff] at hm
      simpa using hm
    repeat(first|refine lops_ ?_|(refine lo_boxA rfl rfl ?_;intro _ _ _)|(refine lo_box1 rfl rfl rfl ?_;intro _ _ _)|(refine lo_alloc rfl ?_;intro _ _ _))
    refine lo_nil ?_
    refine l_baseM (M3 := []) .nil fun w7 hw7 => ?_
    have hX7 : Og kRune w w7 (MK []) (fun _ => False) (.slice A (jndM L).length c) (jndM L) :=
      (Kp.ow hw7.kp (Kp.ow kp5 hX.nG (fun k hk e => e.elim mk_nil fun e => hne k e hk.2) fun _ h => h.elim) (fun k hk hm => by have := (hxb2 k hk.2).2; have := hm45 hm; omega) fun _ h => h.elim).mono (fun k hk _ => hk.1) fun _ h _ => h
    have hO7 : Og kRaw w w7 (MK []) (fun _ => False) (.slice A6 (j + 1) n6) (rowsV L A (j + 1)) := (Kp.ow hw7.kp hog5 (fun _ h => h.2) fun _ h => h.elim).mono (fun k hk _ => ⟨hk.1, mk_nil⟩) fun _ h _ => h
    have hne7 : ∀ k, (Value.slice A6 (j + 1) n6).ownBlock = some k → (Value.slice A (jndM L).length c).ownBlock ≠ some k := fun k hk e => by
      rcases hown5 k hk with h3 | h3
      · exact hne k h3 e
      · have := (hxb2 k e).2; omega
    have ih2 := ih (i + 1, j + 1, A6, n6) w7 (MK []) ⟨⟨⟨hlt, hj1⟩, by simp only; omega, by simp only; omega⟩, hX7, hO7, hne7⟩ (by simp only; omega)
    simp only at ih2
    rw [show ((ofs L (j + 1) : Nat) : Int) = (i : Int) + 1 by omega] at ih2
    repeat(first|refine lrun_ ?_|(refine lo_boxA rfl rfl ?_;intro _ _ _)|(refine lo_box1 rfl rfl rfl ?_;intro _ _ _)|(refine lo_alloc rfl ?_;intro _ _ _))
    exact ih2 _ _ (by repeat (first | exact SubB.nil | refine SubB.cons rfl ?_)) (by repeat(first|exact MSub.refl|refine MSub.keep rfl ?_|exact MSub.nil|apply MSub.drop)) fun w' hw' => ⟨⟨⟨hlt, hj1⟩, by omega, by omega⟩, Kn.ow (kn_mk hw'.kp) hX7, Kn.ow (kn_mk hw'.kp) hO7, hne7⟩
  · have hlt2 : i < ofs L j + (L.getD j []).length := by
      rcases Nat.lt_or_ge i (ofs L j + (L.getD j []).length) with h | h
      · exact h
      · exfalso
        have hie : i = ofs L j + (L.getD j []).length := by omega
        rcases Nat.lt_or_ge (j + 1) L.length with h3 | h3
        · exact h10 (hie ▸ jnd_nl h3)
        · rw [show L.length - 1 = j by omega] at hlast; omega
    refine l_no rfl h10 ?_
    refine l_go .skip ?_
    repeat(first|refine lrun_ ?_|(refine lo_boxA rfl rfl ?_;intro _ _ _)|(refine lo_box1 rfl rfl rfl ?_;intro _ _ _)|(refine lo_alloc rfl ?_;intro _ _ _))
    exact ih (i + 1, j, A5, c5) bb _ ⟨⟨⟨hlt, hj⟩, by simp only; omega, by simp only; omega⟩, hX, hO, hne⟩ (by simp only; omega) _ _ (by repeat (first | exact SubB.nil | refine SubB.cons rfl ?_)) (by repeat(first|exact MSub.refl|refine MSub.keep rfl ?_|exact MSub.nil|apply MSub.drop)) fun w' hw' => ⟨⟨⟨hlt, hj⟩, by simp only; omega, by simp only; omega⟩, Kn.ow (kn_mk hw'.kp) hX, Kn.ow (kn_mk hw'.kp) hO, hne⟩
end
end Go.Ink
