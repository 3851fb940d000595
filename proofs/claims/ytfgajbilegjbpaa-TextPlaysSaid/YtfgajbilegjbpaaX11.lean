/-
  Slice, Replace.
-/
import Derived.Test.YtfgajbilegjbpaaX10
set_option linter.unusedVariables false
set_option linter.unusedSimpArgs false
namespace Go.Ink
open Go Go.Proofs Go.RowKit

section
variable {L : List (List Int)} {p q : Ps}
theorem bet_zero (hz : (betM L p q).2.2 = 0) : thereP L p ∧ thereP L q ∧ ofP L p ≤ ofP L q ∧ betM L p q = ((ofP L p : Int), (ofP L q : Int) - (ofP L p : Int), 0) := by
  unfold betM at hz ⊢
  by_cases h1 : ¬ thereP L p ∨ ¬ thereP L q
  · rw [if_pos h1] at hz; cases hz
  · rw [if_neg h1] at hz ⊢
    by_cases h2 : ofP L q < ofP L p
    · rw [if_pos h2] at hz; cases hz
    · rw [if_neg h2]
      refine ⟨?_, ?_, by omega, rfl⟩
      · exact Classical.byContradiction fun h => h1 (.inl h)
      · exact Classical.byContradiction fun h => h1 (.inr h)
end
def sliT (L : List (List Int)) (p q : Ps) : List Int × Int := if (betM L p q).2.2 = 0 then (((jndM L).drop (ofP L p)).take (ofP L q - ofP L p), 0) else ([], (betM L p q).2.2)
section
variable {D F : Nat → Prop} {g : Nat} {w w' : World} {L : List (List Int)} {b : Nat} {v : Value} {l : List (List Int)}
set_option maxHeartbeats 4000000 in
theorem sliceT_calls {p q : Ps} (h : IsTxt D g w L b) (hp : P64 p) (hq : P64 q) :
    CallsR Try.prog 23 #[.pointer (some ⟨g, 0, none⟩), posV p, posV q] w fun u w' => Kn w w' ∧ ∃ v, u = .tuple #[v, .int .i64 (sliT L p q).2] ∧ Ow kRune (noB w) (fun _ => False) w' v (sliT L p q).1 := by
  have hbd := h.bound
  obtain ⟨gt, T, vb, gs, Dt, Db, h1, h2⟩ := id h
  have c0 : w.cell? ⟨g, 0, none⟩ = some (.pointer (some ⟨gt, 0, none⟩)) := blk_cell h1.hb
  obtain ⟨hl1, hl2, hl3⟩ := h1.len
  refine l_enter (fun _ => False) Try.func23 rfl rfl ?_
  repeat(first|refine lrun_ ?_|(refine lo_boxA rfl rfl ?_;intro _ _ _)|(refine lo_box1 rfl rfl rfl ?_;intro _ _ _)|(refine lo_alloc rfl ?_;intro _ _ _))
  refine lo_call (n_call rfl) rfl (fun w' hw => betweenT_calls (h.kn hw.org) hp hq) ?_
  unfold sliT
  by_cases hz : (betM L p q).2.2 = 0
  case neg =>
    rw [if_neg hz]
    repeat(first|refine lrun_ ?_|(refine lo_boxA rfl rfl ?_;intro _ _ _)|(refine lo_box1 rfl rfl rfl ?_;intro _ _ _)|(refine lo_alloc rfl ?_;intro _ _ _))
    refine l_yes rfl hz ?_
    repeat(first|refine lrun_ ?_|(refine lo_boxA rfl rfl ?_;intro _ _ _)|(refine lo_box1 rfl rfl rfl ?_;intro _ _ _)|(refine lo_alloc rfl ?_;intro _ _ _))
    exact l_retR2 rfl (by repeat(first|exact LRes.nil|refine LRes.tmp rfl ?_|refine LRes.agg rfl (by(repeat(first|exact MIn.hd|refine MIn.tl ?_));done) (by rfl) (by rfl) ?_|refine LRes.one rfl (by(repeat(first|exact MIn.hd|refine MIn.tl ?_));done) (by rfl) ?_)) fun w' hw => ⟨hw.org, _, rfl, Ow.nil _ _ _ _⟩
  rw [if_pos hz]
  obtain ⟨ht1, ht2, hle, hbe⟩ := bet_zero hz
  have hl4 := ofP_le ht2
  rw [hbe]
  repeat(first|refine lrun_ ?_|(refine lo_boxA rfl rfl ?_;intro _ _ _)|(refine lo_box1 rfl rfl rfl ?_;intro _ _ _)|(refine lo_alloc rfl ?_;intro _ _ _))
  refine l_false rfl ?_
  refine l_go .skip ?_
  repeat(first|refine lrun_ ?_|(refine lo_boxA rfl rfl ?_;intro _ _ _)|(refine lo_box1 rfl rfl rfl ?_;intro _ _ _)|(refine lo_alloc rfl ?_;intro _ _ _))
  refine lo_callM (n_call rfl) rfl (fun w' hw => slice_calls (a := (ofP L p : Int)) (n := (ofP L q : Int) - (ofP L p : Int)) (h1.tab.kn hw.org) (by omega) (by omega)) ?_
  rintro w1 _ w2 hw1 kn1 ko1 ⟨v, rfl, hv⟩
  have hs1 := hw1.org.size
  have hsl : sliceM T (ofP L p : Nat) ((ofP L q : Int) - (ofP L p : Int)) = (((jndM L).drop (ofP L p)).take (ofP L q - ofP L p), 0) := by
    unfold sliceM
    rw [if_pos (fit_zero.2 ⟨by omega, by omega, by omega⟩), h1.fl, Int.toNat_natCast, show ((ofP L q : Int) - (ofP L p : Int)).toNat = ofP L q - ofP L p by omega]
  rw [hsl] at hv ⊢
  repeat(first|refine lrun_ ?_|(refine lo_boxA rfl rfl ?_;intro _ _ _)|(refine lo_box1 rfl rfl rfl ?_;intro _ _ _)|(refine lo_alloc rfl ?_;intro _ _ _))
  refine l_retR2 rfl (by repeat(first|exact LRes.nil|refine LRes.tmp rfl ?_|refine LRes.agg rfl (by(repeat(first|exact MIn.hd|refine MIn.tl ?_));done) (by rfl) (by rfl) ?_|refine LRes.one rfl (by(repeat(first|exact MIn.hd|refine MIn.tl ?_));done) (by rfl) ?_)) fun w' hw => ⟨hw.org, _, rfl, ?_⟩
  exact (hw.owN hv fun k hm => hw1.lt hm).mono (fun k hk _ => by unfold noB at *; omega) fun k hk _ => hk
theorem TxP.kpg {K : Nat → Prop} {gt : Nat} {T : PTab} {vb : Value} {gs : List (List (List Int))} {Dt Db : Nat → Prop} (h : TxP D g w L gt T vb gs Dt Db) (hk : Kp K w w') (hg : w'.heap[g]? = some (cb [.pointer (some ⟨gt, 0, none⟩), vb, .int .i64 (L.length : Int)] 73)) (hs : ∀ k, D k → k ≠ g → ¬ K k) : TxP D g w' L gt T vb gs Dt Db :=
  ⟨h.ge, hg, h.tab.kp hk fun k hk => hs k (h.dt k hk).1 (h.dt k hk).2, h.dt, Kp.sl hk h.ix fun k hk => hs k (h.db k hk).1 (h.db k hk).2.1, h.db, h.fl, h.gl, h.ne, h.pl, h.ln⟩
/-- What the code does for lines in the place of lines. -/
def repC (L : List (List Int)) (i n : Nat) (l : List (List Int)) : List (List Int) × Int :=
  if n = 0 ∧ l = [] then (L, 0) else if i = L.length then chgM L (jndM L).length 0 (10 :: jndM l) else if n = 0 then chgM L (ofs L i) 0 (jndM l ++ [10]) else
  if l = [] then (if i + n < L.length then chgM L (ofs L i) (ofs L (i + n - 1) + (L.getD (i + n - 1) []).length - ofs L i + 1) [] else if 0 < i then chgM L (ofs L i - 1) (ofs L (i + n - 1) + (L.getD (i + n - 1) []).length - ofs L i + 1) [] else chgM L (ofs L i) (ofs L (i + n - 1) + (L.getD (i + n - 1) []).length - ofs L i) [])
  else chgM L (ofs L i) (ofs L (i + n - 1) + (L.getD (i + n - 1) []).length - ofs L i) (jndM l)
def badR (L : List (List Int)) (i n : Int) : Prop := i < 0 ∨ (L.length : Int) < i ∨ n < 0 ∨ (L.length : Int) - i < n
instance (L : List (List Int)) (i n : Int) : Decidable (badR L i n) := by unfold badR; infer_instance
def repT (L : List (List Int)) (i n : Int) (l : List (List Int)) : List (List Int) × Int := if badR L i n then (L, 2) else if plainB l then repC L i.toNat n.toNat l else (L, 1)
set_option maxHeartbeats 8000000 in
theorem replaceT_calls {i n : Int} (h : IsTxt D g w L b) (hi : -9223372036854775808 ≤ i ∧ i ≤ 9223372036854775807) (hn : -9223372036854775808 ≤ n ∧ n ≤ 9223372036854775807) (hl : Sl kRow F w v l) (hF : ∀ k, F k → k < w.heap.size → ¬ D k) (hb : runesM l + l.length ≤ 65536) (hb2 : b + 65537 + 1 ≤ 1099511627776) :
    CallsR Try.prog 30 #[.pointer (some ⟨g, 0, none⟩), .int .i64 i, .int .i64 n, v] w (TxtQ D g w (repT L i n l).1 (b + (jndM l).length + 1) (repT L i n l).2) := by
  obtain ⟨D0, hD0, hD1, h⟩ : ∃ D0 : Nat → Prop, (∀ k, D0 k → D k) ∧ (∀ k, D0 k → k < w.heap.size) ∧ IsTxt D0 g w L b := ⟨fun k => D k ∧ k < w.heap.size, fun _ h => h.1, fun _ h => h.2, h.mono fun k hk hl => ⟨hk, hl⟩⟩
  have hbd := h.bound
  have hll : L.length ≤ 65537 := by
    have : sumN L = runesM L + L.length := rfl
    omega
  obtain ⟨gt, T, vb, gs, Dt, Db, h1, h2⟩ := id h
  obtain ⟨A, c, rfl, hc, hfl⟩ := hl.form
  have hgw : g < w.heap.size := blk_lt h1.hb
  have hmg : ∀ {cs : List Value} {k : Nat}, MK [(g, cb cs 73)] k → k = g := fun hm => by
    rw [MK_iff] at hm
    simpa using hm
  have hres : ∀ {w' : World} {x : Int} {b' : Nat}, Kp D w w' → TxP D0 g w' L gt T vb gs Dt Db → b ≤ b' → TxtQ D g w L b' x (.int .i64 x) w' := fun hk ht hb => ⟨hk, rfl, IsTxt.more (IsTxt.mono ⟨gt, T, vb, gs, Dt, Db, ht, h2⟩ fun k hk _ => .inl (hD0 k hk)) hb⟩
  have hlw : ∀ {w' : World}, Kp (fun k => k = g) w w' → Sl kRow (fun k => F k ∧ k < w.heap.size) w' (.slice A l.length c) l := fun hk => Kp.sl hk (hl.mono (F' := fun k => F k ∧ k < w.heap.size) fun k hk hl => ⟨hk, hl⟩) fun k hk e => hF k hk.1 hk.2 (hD0 k (e ▸ h1.ge))
  refine l_enterM (S := D) h1.hb (hD0 g h1.ge) Try.func30 rfl rfl ?_
  repeat(first|refine lrun_ ?_|(refine lo_boxA rfl rfl ?_;intro _ _ _)|(refine lo_box1 rfl rfl rfl ?_;intro _ _ _)|(refine lo_alloc rfl ?_;intro _ _ _))
  refine l_false rfl ?_
  refine l_go .skip ?_
  by_cases hbad : badR L i n
  · rw [show repT L i n l = (L, 2) by unfold repT; rw [if_pos hbad]]
    by_cases h3 : i < 0
    · repeat(first|refine lrun_ ?_|(refine lo_boxA rfl rfl ?_;intro _ _ _)|(refine lo_box1 rfl rfl rfl ?_;intro _ _ _)|(refine lo_alloc rfl ?_;intro _ _ _))
      refine l_true rfl ?_
      repeat(first|refine lrun_ ?_|(refine lo_boxA rfl rfl ?_;intro _ _ _)|(refine lo_box1 rfl rfl rfl ?_;intro _ _ _)|(refine lo_alloc rfl ?_;intro _ _ _))
      exact l_ret1 rfl rfl fun w' hw => hres hw.org (h1.kpg hw.kp (hw.mem g _ .hd) fun k _ hk hm => hk (hmg hm)) (by omega)
    by_cases h4 : (L.length : Int) < i
    · repeat(first|refine lrun_ ?_|(refine lo_boxA rfl rfl ?_;intro _ _ _)|(refine lo_box1 rfl rfl rfl ?_;intro _ _ _)|(refine lo_alloc rfl ?_;intro _ _ _))
      refine l_true rfl ?_
      repeat(first|refine lrun_ ?_|(refine lo_boxA rfl rfl ?_;intro _ _ _)|(refine lo_box1 rfl rfl rfl ?_;intro _ _ _)|(refine lo_alloc rfl ?_;intro _ _ _))
      exact l_ret1 rfl rfl fun w' hw => hres hw.org (h1.kpg hw.kp (hw.mem g _ .hd) fun k _ hk hm => hk (hmg hm)) (by omega)
    by_cases h5 : n < 0
    · repeat(first|refine lrun_ ?_|(refine lo_boxA rfl rfl ?_;intro _ _ _)|(refine lo_box1 rfl rfl rfl ?_;intro _ _ _)|(refine lo_alloc rfl ?_;intro _ _ _))
      refine l_true rfl ?_
      repeat(first|refine lrun_ ?_|(refine lo_boxA rfl rfl ?_;intro _ _ _)|(refine lo_box1 rfl rfl rfl ?_;intro _ _ _)|(refine lo_alloc rfl ?_;intro _ _ _))
      exact l_ret1 rfl rfl fun w' hw => hres hw.org (h1.kpg hw.kp (hw.mem g _ .hd) fun k _ hk hm => hk (hmg hm)) (by omega)
    · have h6 : (L.length : Int) - i < n := hbad.elim (fun h => absurd h h3) fun h => h.elim (fun h => absurd h h4) fun h => h.elim (fun h => absurd h h5) id
      repeat(first|refine lrun_ ?_|(refine lo_boxA rfl rfl ?_;intro _ _ _)|(refine lo_box1 rfl rfl rfl ?_;intro _ _ _)|(refine lo_alloc rfl ?_;intro _ _ _))
      refine l_yes rfl (by omega) ?_
      repeat(first|refine lrun_ ?_|(refine lo_boxA rfl rfl ?_;intro _ _ _)|(refine lo_box1 rfl rfl rfl ?_;intro _ _ _)|(refine lo_alloc rfl ?_;intro _ _ _))
      exact l_ret1 rfl rfl fun w' hw => hres hw.org (h1.kpg hw.kp (hw.mem g _ .hd) fun k _ hk hm => hk (hmg hm)) (by omega)
  have h3 : ¬ i < 0 := fun h => hbad (.inl h)
  have h4 : ¬ (L.length : Int) < i := fun h => hbad (.inr (.inl h))
  have h5 : ¬ n < 0 := fun h => hbad (.inr (.inr (.inl h)))
  have h6 : ¬ (L.length : Int) - i < n := fun h => hbad (.inr (.inr (.inr h)))
  obtain ⟨i, rfl⟩ : ∃ m : Nat, i = (m : Int) := ⟨i.toNat, by omega⟩
  obtain ⟨n, rfl⟩ : ∃ m : Nat, n = (m : Int) := ⟨n.toNat, by omega⟩
  repeat(first|refine lrun_ ?_|(refine lo_boxA rfl rfl ?_;intro _ _ _)|(refine lo_box1 rfl rfl rfl ?_;intro _ _ _)|(refine lo_alloc rfl ?_;intro _ _ _))
  refine l_no rfl (by omega) ?_
  refine l_go .skip ?_
  repeat(first|refine lrun_ ?_|(refine lo_boxA rfl rfl ?_;intro _ _ _)|(refine lo_box1 rfl rfl rfl ?_;intro _ _ _)|(refine lo_alloc rfl ?_;intro _ _ _))
  refine lo_callM (n_call rfl) rfl (fun w' hw => joinedC_calls (hlw (hw.kp.mono fun k _ hm => hmg hm)) (by omega)) ?_
  rintro w1 u w2 hw1 kn1 ko1 ⟨x, rfl, hx⟩
  have hs1 := hw1.org.size
  have hs2 := kn1.size
  obtain ⟨A2, c3, rfl, hcx, hfx⟩ := hx.form
  have hT2 : TxP D0 g w2 L gt T vb gs Dt Db := (h1.kpg hw1.kp (hw1.mem g _ .hd) fun k _ hk hm => hk (hmg hm)).kp kn1 fun _ _ h => h
  repeat(first|refine lrun_ ?_|(refine lo_boxA rfl rfl ?_;intro _ _ _)|(refine lo_box1 rfl rfl rfl ?_;intro _ _ _)|(refine lo_alloc rfl ?_;intro _ _ _))
  by_cases hP : plainB l = true
  case neg =>
    have hP2 : plainB l = false := by simpa using hP
    rw [show repT L (i : Int) (n : Int) l = (L, 1) by unfold repT; rw [if_neg hbad, if_neg hP], hP2]
    refine l_true rfl ?_
    repeat(first|refine lrun_ ?_|(refine lo_boxA rfl rfl ?_;intro _ _ _)|(refine lo_box1 rfl rfl rfl ?_;intro _ _ _)|(refine lo_alloc rfl ?_;intro _ _ _))
    exact l_ret1 rfl rfl fun w' hw => hres hw.org (hT2.kpg hw.kp (hw.mem g _ .hd) fun k _ hk hm => hk (hmg hm)) (by omega)
  rw [show repT L (i : Int) (n : Int) l = repC L i n l by unfold repT; rw [if_neg hbad, if_pos hP, Int.toNat_natCast, Int.toNat_natCast]]
  rw [hP] at hx ⊢
  rw [if_pos rfl] at hx
  rw [show (if true = true then jndM l else []) = jndM l from if_pos rfl]
  have hjl := jnd_len l
  have hxb := hx.block
  refine l_false rfl ?_
  refine l_go .skip ?_
  have hgo : ∀ {w3 w4 w' : World} {L' : List (List Int)} {x : Int} {b' : Nat}, IsTxt (grownD D0 w3) g w4 L' b' → w.heap.size ≤ w3.heap.size → b' ≤ b + (jndM l).length + 1 → Kp D w w' → Kn w4 w' → TxtQ D g w L' (b + (jndM l).length + 1) x (.int .i64 x) w' := fun ht hs hb hk kn => ⟨hk, rfl, ((ht.mono (D' := grownD D w) fun k hk _ => hk.elim (fun hk => .inl (hD0 k hk)) fun hk => .inr (by omega)).kn kn).more hb⟩
  have hstart : ∀ {w' : World} {m : Nat}, m < L.length → Lw w D w2 (MK [(g, cb [.pointer (some ⟨gt, 0, none⟩), vb, .int .i64 (L.length : Int)] 73)]) [(g, cb [.pointer (some ⟨gt, 0, none⟩), vb, .int .i64 (L.length : Int)] 73)] w' → CallsR Try.prog 39 #[.pointer (some ⟨g, 1, none⟩), .int .i64 (m : Int)] w' fun u w'' => Kn w' w'' ∧ u = .tuple #[.int .i64 ((ofs L m : Nat) : Int), .int .i64 ((L.getD m []).length : Int)] := fun {w' m} hm hw => by
    have := start_calls (w := w') (g := g) (n := m) (hw.cell .hd rfl) (hT2.kpg hw.kp (hw.mem g _ .hd) fun k _ hk hm => hk (hmg hm)).ix (by rw [h1.gl]; omega) (by rw [h1.gl]; exact hm)
    rw [h1.gl] at this
    exact this
  have hll0 : l = [] ↔ l.length = 0 := List.length_eq_zero_iff.symm
  by_cases hn0 : n = 0
  · subst hn0
    by_cases hl0 : l = []
    · rw [show repC L i 0 l = (L, 0) by unfold repC; rw [if_pos ⟨rfl, hl0⟩]]
      have hl1 := hll0.1 hl0
      repeat(first|refine lrun_ ?_|(refine lo_boxA rfl rfl ?_;intro _ _ _)|(refine lo_box1 rfl rfl rfl ?_;intro _ _ _)|(refine lo_alloc rfl ?_;intro _ _ _))
      refine l_yes rfl (by omega) ?_
      repeat(first|refine lrun_ ?_|(refine lo_boxA rfl rfl ?_;intro _ _ _)|(refine lo_box1 rfl rfl rfl ?_;intro _ _ _)|(refine lo_alloc rfl ?_;intro _ _ _))
      exact l_ret1 rfl rfl fun w' hw => hres hw.org (hT2.kpg hw.kp (hw.mem g _ .hd) fun k _ hk hm => hk (hmg hm)) (by omega)
    have hl1 : l.length ≠ 0 := fun h => hl0 (hll0.2 h)
    repeat(first|refine lrun_ ?_|(refine lo_boxA rfl rfl ?_;intro _ _ _)|(refine lo_box1 rfl rfl rfl ?_;intro _ _ _)|(refine lo_alloc rfl ?_;intro _ _ _))
    refine l_no rfl (by omega) ?_
    refine l_go .skip ?_
    by_cases hie : i = L.length
    · rw [show repC L i 0 l = chgM L (jndM L).length 0 (10 :: jndM l) by unfold repC; rw [if_neg (fun h => hl0 h.2), if_pos hie]]
      have hlT : ((jndM L).length : Int) = tot T.row := hT2.len.1
      repeat(first|refine lrun_ ?_|(refine lo_boxA rfl rfl ?_;intro _ _ _)|(refine lo_box1 rfl rfl rfl ?_;intro _ _ _)|(refine lo_alloc rfl ?_;intro _ _ _))
      refine l_yes rfl (by omega) ?_
      repeat(first|refine lrun_ ?_|(refine lo_boxA rfl rfl ?_;intro _ _ _)|(refine lo_box1 rfl rfl rfl ?_;intro _ _ _)|(refine lo_alloc rfl ?_;intro _ _ _))
      refine lo_callP (n_call rfl) rfl (fun w' hw => len_calls (hT2.kpg hw.kp (hw.mem g _ .hd) fun k _ hk hm => hk (hmg hm)).tab) ?_
      rw [← hlT]
      repeat(first|refine lrun_ ?_|(refine lo_boxA rfl rfl ?_;intro _ _ _)|(refine lo_box1 rfl rfl rfl ?_;intro _ _ _)|(refine lo_alloc rfl ?_;intro _ _ _))
      refine lo_lit (cs := [.int .i32 10]) rfl (by decide) (by kernel_rfl) rfl ?_
      intro g70 hg70 hg70'
      refine lo_take (M' := [(g, cb [.pointer (some ⟨gt, 0, none⟩), vb, .int .i64 (L.length : Int)] 73)]) (by repeat(first|exact MSub.refl|refine MSub.keep rfl ?_|exact MSub.nil|apply MSub.drop)) fun wa hwa => ?_
      have hsa := hwa.kp.size
      have hO0 : Og kRune w wa (MK [(g, cb [.pointer (some ⟨gt, 0, none⟩), vb, .int .i64 (L.length : Int)] 73)]) (fun _ => False) (.slice (some ⟨g70, 0, none⟩) [(10 : Int)].length 1) [10] := by
        refine ⟨[.int .i32 10], ⟨[_], [], rfl, ⟨rfl, by decide, by decide⟩, rfl⟩, show 1 * 4 ≤ 140737488355328 by decide, .inr ⟨g70, 0, 1, _, _, rfl, ⟨hg70, fun hm => by have := hmg hm; omega⟩, hwa.mem g70 _ .hd, by simp, by decide, by simp [kRune, kInt], fun j u hu => ?_⟩⟩
        rw [Nat.zero_add]
        simpa using hu
      have hxa : Ow kRune (noB w1) (fun _ => False) wa (.slice A2 (jndM l).length c3) (jndM l) := hwa.owN hx fun k hm => by have := hmg hm; omega
      have hTa : TxP D0 g wa L gt T vb gs Dt Db := hT2.kpg hwa.kp (hwa.mem g _ (.tl .hd)) fun k _ hk hm => hk (hmg hm)
      repeat(first|refine lops_ ?_|(refine lo_boxA rfl rfl ?_;intro _ _ _)|(refine lo_box1 rfl rfl rfl ?_;intro _ _ _)|(refine lo_alloc rfl ?_;intro _ _ _))
      refine lo_appendS (d := kRune) (ys := jndM l) (F2 := fun k => noB w1 k ∧ k < w2.heap.size) rfl rfl hO0 (fun w' hw => ?_) (fun k hk e => by have h8 : g70 = k := Option.some.inj e; omega) (by show (1 + (jndM l).length) * 4 ≤ 140737488355328; omega) rfl rfl rfl rfl ?_
      · exact ((hw.owN hxa fun k hm => by have := hmg hm; omega).nG).slF (fun k hk => ⟨hk.1, (hxb k hk.2).2⟩) fun _ h => h.elim
      intro w3 A3 n3 w4 hw3 ko3 kp3 hown hog
      have hs3 := kp3.size
      have hog' := hog.block
      have hTb : ∀ {w' : World}, Lw w D w4 (MK [(g, cb [.pointer (some ⟨gt, 0, none⟩), vb, .int .i64 (L.length : Int)] 73)]) [(g, cb [.pointer (some ⟨gt, 0, none⟩), vb, .int .i64 (L.length : Int)] 73)] w' → IsTxt D0 g w' L b := fun hw => ⟨gt, T, vb, gs, Dt, Db, hTa.kpg (Kp.then kp3 hw.kp (T := fun k => k = g ∨ k = g70) (fun k e => e.elim (fun hm => .inl (hmg hm)) fun e => .inr (Option.some.inj e).symm) fun k _ hm => .inl (hmg hm)) (hw.mem g _ .hd) fun k hk hk' e => e.elim hk' fun e => by have := hD1 k hk; omega, h2⟩
      repeat(first|refine lrun_ ?_|(refine lo_boxA rfl rfl ?_;intro _ _ _)|(refine lo_box1 rfl rfl rfl ?_;intro _ _ _)|(refine lo_alloc rfl ?_;intro _ _ _))
      refine lo_callT (M3 := []) .nil (n_call rfl) rfl (T := D0) (fun k hk => ⟨.inr (hD0 k hk), mk_nil⟩) (fun w' hw => (change_calls (a := (jndM L).length) (n := 0) (l := 10 :: jndM l) (hTb hw) ((hog.now (fun _ h => h.elim) hw).slF (F' := fun k => w.heap.size ≤ k) (fun k hk => hk.1) fun _ h => h.elim) (fun k hk _ e => by have := hD1 k e; omega) (by omega) (by rw [List.length_cons]; omega)).mono fun u w' h => h) ?_
      rintro w5 _ w6 hw5 kp5 ko5 ⟨rfl, hT⟩
      have hs5 := hw5.org.size
      repeat(first|refine lrun_ ?_|(refine lo_boxA rfl rfl ?_;intro _ _ _)|(refine lo_box1 rfl rfl rfl ?_;intro _ _ _)|(refine lo_alloc rfl ?_;intro _ _ _))
      exact l_ret1 rfl rfl fun w' hw => hgo hT hs5 (by rw [List.length_cons]; omega) hw.org (kn_mk hw.kp)
    rw [show repC L i 0 l = chgM L (ofs L i) 0 (jndM l ++ [10]) by unfold repC; rw [if_neg (fun h => hl0 h.2), if_neg hie, if_pos rfl]]
    repeat(first|refine lrun_ ?_|(refine lo_boxA rfl rfl ?_;intro _ _ _)|(refine lo_box1 rfl rfl rfl ?_;intro _ _ _)|(refine lo_alloc rfl ?_;intro _ _ _))
    refine l_no rfl (by omega) ?_
    refine l_go .skip ?_
    have hol := ofs_lt (L := L) (i := i) (by omega)
    have hlT : ((jndM L).length : Int) = tot T.row := hT2.len.1
    repeat(first|refine lrun_ ?_|(refine lo_boxA rfl rfl ?_;intro _ _ _)|(refine lo_box1 rfl rfl rfl ?_;intro _ _ _)|(refine lo_alloc rfl ?_;intro _ _ _))
    refine lo_call (n_call rfl) rfl (fun w' hw => hstart (m := i) (by omega) hw) ?_
    repeat(first|refine lrun_ ?_|(refine lo_boxA rfl rfl ?_;intro _ _ _)|(refine lo_box1 rfl rfl rfl ?_;intro _ _ _)|(refine lo_alloc rfl ?_;intro _ _ _))
    refine l_yes rfl (by omega) ?_
    repeat(first|refine lrun_ ?_|(refine lo_boxA rfl rfl ?_;intro _ _ _)|(refine lo_box1 rfl rfl rfl ?_;intro _ _ _)|(refine lo_alloc rfl ?_;intro _ _ _))
    refine lo_lit (cs := [.int .i32 10]) rfl (by decide) (by kernel_rfl) rfl ?_
    intro g87 hg87 hg87'
    have hxo : Og kRune w w2 (MK [(g, cb [.pointer (some ⟨gt, 0, none⟩), vb, .int .i64 (L.length : Int)] 73)]) (fun _ => False) (.slice A2 (jndM l).length c3) (jndM l) := hx.mono (fun k hk _ => ⟨by unfold noB at hk; omega, fun hm => by have := hmg hm; unfold noB at hk; omega⟩) fun _ h _ => h
    refine lo_append1 (d := kRune) (q := 10) rfl rfl hxo (fun _ h => h.elim) (by(repeat(first|exact MIn.hd|refine MIn.tl ?_));done) (fun w' hw => ⟨rfl, by decide, by decide⟩) (by show (_ + 1) * 4 ≤ 140737488355328; omega) rfl rfl rfl rfl ?_
    intro w3 A3 n3 w4 hw3 ko3 kp3 hown hog
    have hs4 := kp3.size
    have hTb : ∀ {w' : World}, Lw w D w4 (MK [(g87, cb [.int .i32 10] 21), (g, cb [.pointer (some ⟨gt, 0, none⟩), vb, .int .i64 (L.length : Int)] 73)]) [(g87, cb [.int .i32 10] 21), (g, cb [.pointer (some ⟨gt, 0, none⟩), vb, .int .i64 (L.length : Int)] 73)] w' → IsTxt D0 g w' L b := fun hw => ⟨gt, T, vb, gs, Dt, Db, hT2.kpg (Kp.then kp3 hw.kp (T := fun k => k = g ∨ w1.heap.size ≤ k) (fun k e => e.elim (fun hm => .inl (hmg hm)) fun e => .inr (hxb k e).1) fun k _ hm => by
      rw [MK_iff] at hm
      simp only [List.map_cons, List.map_nil, List.mem_cons, List.not_mem_nil, or_false] at hm
      exact hm.elim (fun e => .inr (by omega)) .inl) (hw.mem g _ (.tl .hd)) fun k hk hk' e => e.elim hk' fun e => by have := hD1 k hk; omega, h2⟩
    repeat(first|refine lrun_ ?_|(refine lo_boxA rfl rfl ?_;intro _ _ _)|(refine lo_box1 rfl rfl rfl ?_;intro _ _ _)|(refine lo_alloc rfl ?_;intro _ _ _))
    refine lo_callT (M3 := []) .nil (n_call rfl) rfl (T := D0) (fun k hk => ⟨.inr (hD0 k hk), mk_nil⟩) (fun w' hw => (change_calls (a := ofs L i) (n := 0) (l := jndM l ++ [10]) (hTb hw) ((hog.now (fun _ h => h.elim) hw).slF (F' := fun k => w.heap.size ≤ k) (fun k hk => hk.1) fun _ h => h.elim) (fun k hk _ e => by have := hD1 k e; omega) (by omega) (by rw [List.length_append, List.length_singleton]; omega)).mono fun u w' h => h) ?_
    rintro w5 _ w6 hw5 kp5 ko5 ⟨rfl, hT⟩
    have hs5 := hw5.org.size
    repeat(first|refine lrun_ ?_|(refine lo_boxA rfl rfl ?_;intro _ _ _)|(refine lo_box1 rfl rfl rfl ?_;intro _ _ _)|(refine lo_alloc rfl ?_;intro _ _ _))
    exact l_ret1 rfl rfl fun w' hw => hgo hT hs5 (by rw [List.length_append, List.length_singleton]; omega) hw.org (kn_mk hw.kp)
  have hlT : ((jndM L).length : Int) = tot T.row := hT2.len.1
  have hlast : i + n - 1 < L.length := by omega
  have hol := ofs_lt (L := L) (i := i) (by omega)
  have hol2 := ofs_lt hlast
  have hle := ofs_le' (L := L) (i := i) (j := i + n - 1) (by omega) (by omega)
  repeat(first|refine lrun_ ?_|(refine lo_boxA rfl rfl ?_;intro _ _ _)|(refine lo_box1 rfl rfl rfl ?_;intro _ _ _)|(refine lo_alloc rfl ?_;intro _ _ _))
  first | refine l_false rfl ?_ | refine l_no rfl (by omega) ?_
  refine l_go .skip ?_
  repeat(first|refine lrun_ ?_|(refine lo_boxA rfl rfl ?_;intro _ _ _)|(refine lo_box1 rfl rfl rfl ?_;intro _ _ _)|(refine lo_alloc rfl ?_;intro _ _ _))
  refine l_no rfl (by omega) ?_
  refine l_go .skip ?_
  repeat(first|refine lrun_ ?_|(refine lo_boxA rfl rfl ?_;intro _ _ _)|(refine lo_box1 rfl rfl rfl ?_;intro _ _ _)|(refine lo_alloc rfl ?_;intro _ _ _))
  refine lo_call (n_call rfl) rfl (fun w' hw => hstart (m := i) (by omega) hw) ?_
  repeat(first|refine lrun_ ?_|(refine lo_boxA rfl rfl ?_;intro _ _ _)|(refine lo_box1 rfl rfl rfl ?_;intro _ _ _)|(refine lo_alloc rfl ?_;intro _ _ _))
  refine l_no rfl (by omega) ?_
  refine l_go .skip ?_
  repeat(first|refine lrun_ ?_|(refine lo_boxA rfl rfl ?_;intro _ _ _)|(refine lo_box1 rfl rfl rfl ?_;intro _ _ _)|(refine lo_alloc rfl ?_;intro _ _ _))
  rw [show (i : Int) + (n : Int) - 1 = ((i + n - 1 : Nat) : Int) by omega]
  refine lo_call (n_call rfl) rfl (fun w' hw => hstart (m := i + n - 1) hlast hw) ?_
  repeat(first|refine lrun_ ?_|(refine lo_boxA rfl rfl ?_;intro _ _ _)|(refine lo_box1 rfl rfl rfl ?_;intro _ _ _)|(refine lo_alloc rfl ?_;intro _ _ _))
  have hsz : (((L.getD (i + n - 1) []).length : Nat) : Int) + (((ofs L (i + n - 1) : Nat) : Int) - ((ofs L i : Nat) : Int)) = (((ofs L (i + n - 1) + (L.getD (i + n - 1) []).length - ofs L i) : Nat) : Int) := by omega
  have hjn := jnd_len L
  have hsn : sumN L = runesM L + L.length := rfl
  rw [hsz]
  have hif : ¬ (n = 0 ∧ l = []) := fun h => hn0 h.1
  by_cases hl0 : l = []
  · have hl1 := hll0.1 hl0
    refine l_yes rfl (by omega) ?_
    by_cases hx1 : i + n < L.length
    · rw [show repC L i n l = chgM L (ofs L i) ((ofs L (i + n - 1) + (L.getD (i + n - 1) []).length - ofs L i) + 1) (jndM l) by rw [hl0]; unfold repC; rw [if_neg (fun h => hn0 h.1), if_neg (by omega), if_neg hn0, if_pos rfl, if_pos hx1]; rfl]
      have hnx := ofs_lt hx1
      have hox := ofs_succ hlast
      rw [show i + n - 1 + 1 = i + n by omega] at hox
      repeat(first|refine lrun_ ?_|(refine lo_boxA rfl rfl ?_;intro _ _ _)|(refine lo_box1 rfl rfl rfl ?_;intro _ _ _)|(refine lo_alloc rfl ?_;intro _ _ _))
      refine l_yes rfl (by omega) ?_
      repeat(first|refine lrun_ ?_|(refine lo_boxA rfl rfl ?_;intro _ _ _)|(refine lo_box1 rfl rfl rfl ?_;intro _ _ _)|(refine lo_alloc rfl ?_;intro _ _ _))
      rw [show (((ofs L (i + n - 1) + (L.getD (i + n - 1) []).length - ofs L i) : Nat) : Int) + 1 = (((ofs L (i + n - 1) + (L.getD (i + n - 1) []).length - ofs L i) + 1 : Nat) : Int) by omega]
      refine lo_callT (M3 := []) .nil (n_call rfl) rfl (T := D0) (fun k hk => ⟨.inr (hD0 k hk), mk_nil⟩) (fun w' hw => (change_calls (a := ofs L i) (n := (ofs L (i + n - 1) + (L.getD (i + n - 1) []).length - ofs L i) + 1) (l := jndM l) ⟨gt, T, vb, gs, Dt, Db, hT2.kpg hw.kp (hw.mem g _ .hd) fun k _ hk hm => hk (hmg hm), h2⟩ ((hw.owN hx fun k hm => by have := hmg hm; omega).slF (F' := fun k => w.heap.size ≤ k) (fun k hk => by unfold noB at hk; omega) fun _ h => h.elim) (fun k hk _ e => by have := hD1 k e; omega) (by omega) (by omega)).mono fun u w' h => h) ?_
      rintro w5 _ w6 hw5 kp5 ko5 ⟨rfl, hT⟩
      have hs5 := hw5.org.size
      repeat(first|refine lrun_ ?_|(refine lo_boxA rfl rfl ?_;intro _ _ _)|(refine lo_box1 rfl rfl rfl ?_;intro _ _ _)|(refine lo_alloc rfl ?_;intro _ _ _))
      exact l_ret1 rfl rfl fun w' hw => hgo hT hs5 (by omega) hw.org (kn_mk hw.kp)
    by_cases hi0 : 0 < i
    · rw [show repC L i n l = chgM L (ofs L i - 1) ((ofs L (i + n - 1) + (L.getD (i + n - 1) []).length - ofs L i) + 1) (jndM l) by rw [hl0]; unfold repC; rw [if_neg (fun h => hn0 h.1), if_neg (by omega), if_neg hn0, if_pos rfl, if_neg hx1, if_pos hi0]; rfl]
      have hop : 1 ≤ ofs L i := by unfold ofs; omega
      repeat(first|refine lrun_ ?_|(refine lo_boxA rfl rfl ?_;intro _ _ _)|(refine lo_box1 rfl rfl rfl ?_;intro _ _ _)|(refine lo_alloc rfl ?_;intro _ _ _))
      refine l_no rfl (by omega) ?_
      repeat(first|refine lrun_ ?_|(refine lo_boxA rfl rfl ?_;intro _ _ _)|(refine lo_box1 rfl rfl rfl ?_;intro _ _ _)|(refine lo_alloc rfl ?_;intro _ _ _))
      refine l_yes rfl (by omega) ?_
      repeat(first|refine lrun_ ?_|(refine lo_boxA rfl rfl ?_;intro _ _ _)|(refine lo_box1 rfl rfl rfl ?_;intro _ _ _)|(refine lo_alloc rfl ?_;intro _ _ _))
      rw [show (((ofs L (i + n - 1) + (L.getD (i + n - 1) []).length - ofs L i) : Nat) : Int) + 1 = (((ofs L (i + n - 1) + (L.getD (i + n - 1) []).length - ofs L i) + 1 : Nat) : Int) by omega, show ((ofs L i : Nat) : Int) - 1 = ((ofs L i - 1 : Nat) : Int) by omega]
      refine lo_callT (M3 := []) .nil (n_call rfl) rfl (T := D0) (fun k hk => ⟨.inr (hD0 k hk), mk_nil⟩) (fun w' hw => (change_calls (a := ofs L i - 1) (n := (ofs L (i + n - 1) + (L.getD (i + n - 1) []).length - ofs L i) + 1) (l := jndM l) ⟨gt, T, vb, gs, Dt, Db, hT2.kpg hw.kp (hw.mem g _ .hd) fun k _ hk hm => hk (hmg hm), h2⟩ ((hw.owN hx fun k hm => by have := hmg hm; omega).slF (F' := fun k => w.heap.size ≤ k) (fun k hk => by unfold noB at hk; omega) fun _ h => h.elim) (fun k hk _ e => by have := hD1 k e; omega) (by omega) (by omega)).mono fun u w' h => h) ?_
      rintro w5 _ w6 hw5 kp5 ko5 ⟨rfl, hT⟩
      have hs5 := hw5.org.size
      repeat(first|refine lrun_ ?_|(refine lo_boxA rfl rfl ?_;intro _ _ _)|(refine lo_box1 rfl rfl rfl ?_;intro _ _ _)|(refine lo_alloc rfl ?_;intro _ _ _))
      exact l_ret1 rfl rfl fun w' hw => hgo hT hs5 (by omega) hw.org (kn_mk hw.kp)
    · rw [show repC L i n l = chgM L (ofs L i) (ofs L (i + n - 1) + (L.getD (i + n - 1) []).length - ofs L i) (jndM l) by rw [hl0]; unfold repC; rw [if_neg (fun h => hn0 h.1), if_neg (by omega), if_neg hn0, if_pos rfl, if_neg hx1, if_neg hi0]; rfl]
      repeat(first|refine lrun_ ?_|(refine lo_boxA rfl rfl ?_;intro _ _ _)|(refine lo_box1 rfl rfl rfl ?_;intro _ _ _)|(refine lo_alloc rfl ?_;intro _ _ _))
      refine l_no rfl (by omega) ?_
      repeat(first|refine lrun_ ?_|(refine lo_boxA rfl rfl ?_;intro _ _ _)|(refine lo_box1 rfl rfl rfl ?_;intro _ _ _)|(refine lo_alloc rfl ?_;intro _ _ _))
      refine l_no rfl (by omega) ?_
      repeat(first|refine lrun_ ?_|(refine lo_boxA rfl rfl ?_;intro _ _ _)|(refine lo_box1 rfl rfl rfl ?_;intro _ _ _)|(refine lo_alloc rfl ?_;intro _ _ _))
      refine lo_callT (M3 := []) .nil (n_call rfl) rfl (T := D0) (fun k hk => ⟨.inr (hD0 k hk), mk_nil⟩) (fun w' hw => (change_calls (a := ofs L i) (n := (ofs L (i + n - 1) + (L.getD (i + n - 1) []).length - ofs L i)) (l := jndM l) ⟨gt, T, vb, gs, Dt, Db, hT2.kpg hw.kp (hw.mem g _ .hd) fun k _ hk hm => hk (hmg hm), h2⟩ ((hw.owN hx fun k hm => by have := hmg hm; omega).slF (F' := fun k => w.heap.size ≤ k) (fun k hk => by unfold noB at hk; omega) fun _ h => h.elim) (fun k hk _ e => by have := hD1 k e; omega) (by omega) (by omega)).mono fun u w' h => h) ?_
      rintro w5 _ w6 hw5 kp5 ko5 ⟨rfl, hT⟩
      have hs5 := hw5.org.size
      repeat(first|refine lrun_ ?_|(refine lo_boxA rfl rfl ?_;intro _ _ _)|(refine lo_box1 rfl rfl rfl ?_;intro _ _ _)|(refine lo_alloc rfl ?_;intro _ _ _))
      exact l_ret1 rfl rfl fun w' hw => hgo hT hs5 (by omega) hw.org (kn_mk hw.kp)
  · have hl1 : l.length ≠ 0 := fun h => hl0 (hll0.2 h)
    rw [show repC L i n l = chgM L (ofs L i) (ofs L (i + n - 1) + (L.getD (i + n - 1) []).length - ofs L i) (jndM l) by unfold repC; rw [if_neg hif, if_neg (by omega), if_neg hn0, if_neg hl0]]
    repeat(first|refine lrun_ ?_|(refine lo_boxA rfl rfl ?_;intro _ _ _)|(refine lo_box1 rfl rfl rfl ?_;intro _ _ _)|(refine lo_alloc rfl ?_;intro _ _ _))
    refine l_no rfl (by omega) ?_
    refine l_go .skip ?_
    repeat(first|refine lrun_ ?_|(refine lo_boxA rfl rfl ?_;intro _ _ _)|(refine lo_box1 rfl rfl rfl ?_;intro _ _ _)|(refine lo_alloc rfl ?_;intro _ _ _))
    refine lo_callT (M3 := []) .nil (n_call rfl) rfl (T := D0) (fun k hk => ⟨.inr (hD0 k hk), mk_nil⟩) (fun w' hw => (change_calls (a := ofs L i) (n := (ofs L (i + n - 1) + (L.getD (i + n - 1) []).length - ofs L i)) (l := jndM l) ⟨gt, T, vb, gs, Dt, Db, hT2.kpg hw.kp (hw.mem g _ .hd) fun k _ hk hm => hk (hmg hm), h2⟩ ((hw.owN hx fun k hm => by have := hmg hm; omega).slF (F' := fun k => w.heap.size ≤ k) (fun k hk => by unfold noB at hk; omega) fun _ h => h.elim) (fun k hk _ e => by have := hD1 k e; omega) (by omega) (by omega)).mono fun u w' h => h) ?_
    rintro w5 _ w6 hw5 kp5 ko5 ⟨rfl, hT⟩
    have hs5 := hw5.org.size
    repeat(first|refine lrun_ ?_|(refine lo_boxA rfl rfl ?_;intro _ _ _)|(refine lo_box1 rfl rfl rfl ?_;intro _ _ _)|(refine lo_alloc rfl ?_;intro _ _ _))
    exact l_ret1 rfl rfl fun w' hw => hgo hT hs5 (by omega) hw.org (kn_mk hw.kp)
end
end Go.Ink
