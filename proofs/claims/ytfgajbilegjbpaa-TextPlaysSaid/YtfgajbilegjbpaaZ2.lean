/-
  Lines of one's own that are written over; inkhornlaw04.open.
-/
import Derived.Test.YtfgajbilegjbpaaZ1
import Derived.Test.YtfgajbilegjbpaaSp
set_option linter.unusedVariables false
set_option linter.unusedSimpArgs false
namespace Go.Ink
open Go Go.Proofs Go.RowKit

section
variable {P : Program} {fn : Func} {k : List Item} {σ : Sig} {O B : World} {S K : Nat → Prop} {M : Mm} {R : Pt} {ops : Array Oper} {rest : List Oper} {dd : Option Nat} {oty : TypeId} {opos : String} {oaf : Array Edge}
/-- A rune of an own row of an own table is stored. -/
theorem lo_tabCell {x y : Operand} {t : TypeId} [hCT : CellT P t] {G : Nat → Prop} {v : Value} {us : List Value} {rows : List (List Int)} {ad : Addr} {n c i j : Nat} {q : Int} (hx : ev σ x = some (.pointer (some (ad.add (j * 1))))) (hy : ev σ y = some (.int .i32 q))
    (hT : Tab G (fun _ => True) B v us rows) (hG : ∀ k, G k → O.heap.size ≤ k ∧ ¬ K k) (hu : us[i]? = some (.slice (some ad) n c)) (hi : i < rows.length) (hj : j < (rows.getD i []).length) (hq : -2147483648 ≤ q ∧ q ≤ 2147483647) (hd : okD dd fn.ntmps = true)
    (h : ∀ w w', Lw O S B K M w → Kp S O w' → Kp G w w' → Tab G (fun _ => True) w' v us (rows.set i ((rows.getD i []).set j q)) → WLo P fn ops rest k (putS dd undef σ) O S w' (MK M) M R) :
    WLo P fn ops ((⟨dd, .store t x y, oty, opos, oaf, none⟩ : Oper) :: rest) k σ O S B K M R := by
  obtain ⟨u, hu2, hO⟩ := hT.at_ (j := i) trivial hi
  rw [hu] at hu2
  obtain rfl := Option.some.inj hu2
  obtain ⟨A, c', e, hlc, _⟩ := hO.form
  simp only [Value.slice.injEq] at e
  obtain ⟨rfl, rfl, rfl⟩ := e
  have hb := hO.block ad.block rfl
  refine lo_setM (d := kRune) (F := fun _ => False) (xs := rows.getD i []) (q := q) (n := (rows.getD i []).length) (c := c) hx hy (hO.mono (fun k hk _ => ⟨(hG k hk.1).1, (hG k hk.1).2⟩) fun _ h _ => h) (fun _ h => h.elim) hj (fun w hw => ⟨rfl, hq.1, hq.2⟩) rfl hd ?_
  intro w w' hw ko kp hn
  refine h w w' hw ko (kp.mono fun k hl hk => by rw [hk]; exact hb.1.1) ?_
  have hT1 := (((hT.take (j := i) trivial hu).kp hw.kp fun k hk hm => (hG k hk.1).2 hm).kp kp fun k hk e => hk.2 (e ▸ rfl))
  have hn2 := hn.nE.mono (G' := fun k => G k ∧ v.ownBlock ≠ some k) (F' := fun _ => False) (fun k hk _ => by
    have e : ad.block = k := Option.some.inj hk.2
    exact e ▸ hb.1) fun _ h _ => h
  exact ((hT1.back (G' := G) (x' := (rows.getD i []).set j q) hu (fun k hk _ => hk.1) (fun h => h.2 rfl) hn2 (fun i' u2 k' hL hu3 h1 h2 => (hT1.blk hL hu3 h1).1.2 h2)).less fun i' _ => by
    by_cases e : i' = i
    · exact .inr e
    · exact .inl ⟨trivial, e⟩)
end
set_option maxHeartbeats 4000000 in
/-- The loops that write over own lines: what is behind them goes on. -/
theorem sevens {W B : World} {K G : Nat → Prop} {v pt px : Value} {us : List Value} {rows : List (List Int)} {R : Value → World → Prop} {I : World → Prop} (hT : Tab G (fun _ => True) B v us rows) (hG : ∀ k, G k → W.heap.size ≤ k ∧ ¬ K k) (h0 : I B) (hI : ∀ b b', I b → Kp G b b' → I b') (hIK : ∀ w, Kp K B w → I w)
    (hk : ∀ b, I b → Kn W b → ∀ σ' M', SubB σ' [(6, pt), (7, px)] → MSub [] M' → WL Try.prog Try.f18 (.code (bodyC Try.f18 [1, 1, 1, 1]) :: []) σ' W (fun _ => False) b (MK []) M' R) :
    ∀ σ', SubB σ' [(5, v), (6, pt), (7, px)] → ∀ M', MSub [] M' →
      WL Try.prog Try.f18 (.code (bodyC Try.f18 [1, 1, 1, 0]) :: .code (bodyC Try.f18 [1, 1, 1, 1]) :: []) σ' W (fun _ => False) B K M' R := by
  intro σ' hs M' hM
  refine WL.sub hs hM ?_
  obtain ⟨A, c, rfl, hlc, hl24⟩ := hT.form
  have hul := hT.len
  have re : ∀ {b w : World} {K' : Nat → Prop}, I b → Kp K' b w → (∀ k, G k → ¬ K' k) → Kn b w → I w := fun h _ _ hk => hI _ _ h (hk.mono fun _ _ h => h.elim)
  repeat(first|refine lrun_ ?_|(refine lo_boxA rfl rfl ?_;intro _ _ _)|(refine lo_box1 rfl rfl rfl ?_;intro _ _ _)|(refine lo_alloc rfl ?_;intro _ _ _))
  refine l_whileB (fun s : Nat × List (List Int) => rows.length - s.1) (fun s => [(5, .slice A rows.length c), (6, pt), (7, px), (8, .int .i64 (s.1 : Int))]) (fun _ => [])
    (fun s b => (s.1 ≤ rows.length ∧ s.2.length = rows.length) ∧ Tab G (fun _ => True) b (.slice A rows.length c) us s.2 ∧ I b) (0, rows) (by repeat (first | exact SubB.nil | refine SubB.cons rfl ?_)) (by repeat(first|exact MSub.refl|refine MSub.keep rfl ?_|exact MSub.nil|apply MSub.drop)) (fun w' hw => ⟨⟨Nat.zero_le _, rfl⟩, hT.kp hw.kp fun k hk => (hG k hk).2, hIK _ hw.kp⟩) ?_
  rintro ⟨i, rs⟩ b ⟨⟨hi, hrl⟩, hTb, hIb⟩ hkb ih
  simp only at hi hrl hTb hIb ih
  dsimp only
  by_cases hlt : i < rows.length
  case neg =>
    repeat(first|refine lrun_ ?_|(refine lo_boxA rfl rfl ?_;intro _ _ _)|(refine lo_box1 rfl rfl rfl ?_;intro _ _ _)|(refine lo_alloc rfl ?_;intro _ _ _))
    refine l_no rfl (by omega) ?_
    refine l_go (.exit rfl) ?_
    exact hk b hIb hkb _ _ (by repeat (first | exact SubB.nil | refine SubB.cons rfl ?_)) .nil
  obtain ⟨ad, rfl⟩ := hTb.ad (by omega)
  obtain ⟨u, hu, hO⟩ := hTb.at_ (j := i) trivial (by omega)
  obtain ⟨Ai, ci, rfl, hlci, hli⟩ := hO.form
  have hli := hli.len
  repeat(first|refine lrun_ ?_|(refine lo_boxA rfl rfl ?_;intro _ _ _)|(refine lo_box1 rfl rfl rfl ?_;intro _ _ _)|(refine lo_alloc rfl ?_;intro _ _ _))
  refine l_yes rfl (by omega) ?_
  repeat(first|refine lrun_ ?_|(refine lo_boxA rfl rfl ?_;intro _ _ _)|(refine lo_box1 rfl rfl rfl ?_;intro _ _ _)|(refine lo_alloc rfl ?_;intro _ _ _))
  refine l_whileB (fun s : Nat × List (List Int) => (rs.getD i []).length - s.1) (fun s => [(5, .slice (some ad) rows.length c), (6, pt), (7, px), (8, .int .i64 (i : Int)), (9, .int .i64 (s.1 : Int))]) (fun _ => [])
    (fun s b => (s.1 ≤ (rs.getD i []).length ∧ s.2.length = rows.length ∧ (s.2.getD i []).length = (rs.getD i []).length) ∧ Tab G (fun _ => True) b (.slice (some ad) rows.length c) us s.2 ∧ I b) (0, rs) (by repeat (first | exact SubB.nil | refine SubB.cons rfl ?_)) (by repeat(first|exact MSub.refl|refine MSub.keep rfl ?_|exact MSub.nil|apply MSub.drop)) (fun w' hw => ⟨⟨Nat.zero_le _, hrl, rfl⟩, hTb.kp hw.kp fun k _ => mk_nil, hI _ _ hIb (hw.kp.mono fun k _ hk => (mk_nil hk).elim)⟩) ?_
  rintro ⟨k, rk⟩ b2 ⟨⟨hk1, hk2, hk3⟩, hTb2, hIb2⟩ hkb2 ih2
  simp only at hk1 hk2 hk3 hTb2 hIb2 ih2
  dsimp only
  have hcell := hTb2.cell hu
  by_cases hlk : k < (rs.getD i []).length
  · obtain ⟨ai, rfl⟩ := ow_someA hO (List.length_pos_iff.1 (by omega))
    have hrk : ((rk.getD i []).length : Int) = ((rs.getD i []).length : Int) := by omega
    repeat(first|refine lrun_ ?_|(refine lo_boxA rfl rfl ?_;intro _ _ _)|(refine lo_box1 rfl rfl rfl ?_;intro _ _ _)|(refine lo_alloc rfl ?_;intro _ _ _))
    refine lo_index rfl rfl rfl (by omega) rfl rfl ?_
    refine lo_loadB rfl hcell mk_nil rfl ?_
    repeat(first|refine lrun_ ?_|(refine lo_boxA rfl rfl ?_;intro _ _ _)|(refine lo_box1 rfl rfl rfl ?_;intro _ _ _)|(refine lo_alloc rfl ?_;intro _ _ _))
    refine l_yes rfl (by omega) ?_
    repeat(first|refine lrun_ ?_|(refine lo_boxA rfl rfl ?_;intro _ _ _)|(refine lo_box1 rfl rfl rfl ?_;intro _ _ _)|(refine lo_alloc rfl ?_;intro _ _ _))
    refine lo_index rfl rfl rfl (by omega) rfl rfl ?_
    refine lo_loadB rfl hcell mk_nil rfl ?_
    repeat(first|refine lrun_ ?_|(refine lo_boxA rfl rfl ?_;intro _ _ _)|(refine lo_box1 rfl rfl rfl ?_;intro _ _ _)|(refine lo_alloc rfl ?_;intro _ _ _))
    refine lo_index rfl rfl rfl (by omega) rfl rfl ?_
    refine lo_tabCell rfl rfl hTb2 (fun k hk => ⟨(hG k hk).1, mk_nil⟩) hu (by omega) (by omega) (by decide) rfl ?_
    intro w3 w4 hw3 ko3 kp3 hTb4
    have hI4 := hI _ _ (hI _ _ hIb2 (hw3.kp.mono fun k _ hk => (mk_nil hk).elim)) kp3
    repeat(first|refine lrun_ ?_|(refine lo_boxA rfl rfl ?_;intro _ _ _)|(refine lo_box1 rfl rfl rfl ?_;intro _ _ _)|(refine lo_alloc rfl ?_;intro _ _ _))
    refine ih2 (k + 1, rk.set i ((rk.getD i []).set k 7)) w4 _ ⟨⟨hlk, by rw [List.length_set]; exact hk2, ?_⟩, hTb4, hI4⟩ (by simp only; omega) _ _ (by repeat (first | exact SubB.nil | refine SubB.cons rfl ?_)) (by repeat(first|exact MSub.refl|refine MSub.keep rfl ?_|exact MSub.nil|apply MSub.drop)) fun w' hw' => ⟨⟨hlk, by rw [List.length_set]; exact hk2, ?_⟩, hTb4.kp hw'.kp fun k _ => mk_nil, hI _ _ hI4 (hw'.kp.mono fun k _ hk => (mk_nil hk).elim)⟩
    all_goals
      simp only
      rw [List.getD_eq_getElem?_getD, List.getElem?_set_self (by omega), Option.getD_some, List.length_set]
      exact hk3
  · repeat(first|refine lrun_ ?_|(refine lo_boxA rfl rfl ?_;intro _ _ _)|(refine lo_box1 rfl rfl rfl ?_;intro _ _ _)|(refine lo_alloc rfl ?_;intro _ _ _))
    refine lo_index rfl rfl rfl (by omega) rfl rfl ?_
    refine lo_loadB rfl hcell mk_nil rfl ?_
    repeat(first|refine lrun_ ?_|(refine lo_boxA rfl rfl ?_;intro _ _ _)|(refine lo_box1 rfl rfl rfl ?_;intro _ _ _)|(refine lo_alloc rfl ?_;intro _ _ _))
    refine l_no rfl (by omega) ?_
    refine l_go (.exit rfl) ?_
    repeat(first|refine lrun_ ?_|(refine lo_boxA rfl rfl ?_;intro _ _ _)|(refine lo_box1 rfl rfl rfl ?_;intro _ _ _)|(refine lo_alloc rfl ?_;intro _ _ _))
    exact ih (i + 1, rk) b2 _ ⟨⟨hlt, hk2⟩, hTb2, hIb2⟩ (by simp only; omega) _ _ (by repeat (first | exact SubB.nil | refine SubB.cons rfl ?_)) (by repeat(first|exact MSub.refl|refine MSub.keep rfl ?_|exact MSub.nil|apply MSub.drop)) fun w' hw' => ⟨⟨hlt, hk2⟩, hTb2.kp hw'.kp fun k _ => mk_nil, hI _ _ hIb2 (hw'.kp.mono fun k _ hk => (mk_nil hk).elim)⟩
/-- What open tells: two texts of the same lines, apart. -/
def OpenQ (w : World) (l : List (List Int)) (u : Value) (w' : World) : Prop := (plainB l = false ∧ u = .tuple #[.pointer none, .pointer none, .bool true]) ∨ (plainB l = true ∧ ∃ gt gx m, u = .tuple #[.pointer (some ⟨gt, 0, none⟩), .pointer (some ⟨gx, 0, none⟩), .bool true] ∧ IsTxt (fun k => w.heap.size ≤ k ∧ k < m) gt w' (newL l) (jndM l).length ∧ IsRef (fun k => w.heap.size ≤ k ∧ m ≤ k) gx w' (newL l))
set_option maxHeartbeats 4000000 in
theorem open_calls {F : Nat → Prop} {w : World} {v : Value} {l : List (List Int)} (h : Sl kRow F w v l) (hb : runesM l + l.length ≤ 65536) : CallsR Try.prog 18 #[v] w fun u w' => Kn w w' ∧ OpenQ w l u w' := by
  refine l_enter (args := [v]) (fun _ => False) Try.func18 rfl rfl ?_
  repeat(first|refine lrun_ ?_|(refine lo_boxA rfl rfl ?_;intro _ _ _)|(refine lo_box1 rfl rfl rfl ?_;intro _ _ _)|(refine lo_alloc rfl ?_;intro _ _ _))
  refine lo_callM (n_call rfl) rfl (fun w' hw => twinT_calls (Kn.sl hw.org h)) ?_
  rintro w1 u w2 hw1 kn1 ko1 ⟨us, hT⟩
  have hs1 := hw1.org.size
  have hs2 := kn1.size
  have hT2 := hT.mono (G' := fun k => noB w1 k ∧ k < w2.heap.size) fun k hk hl => ⟨hk, hl⟩
  repeat(first|refine lrun_ ?_|(refine lo_boxA rfl rfl ?_;intro _ _ _)|(refine lo_box1 rfl rfl rfl ?_;intro _ _ _)|(refine lo_alloc rfl ?_;intro _ _ _))
  refine lo_callM (n_call rfl) rfl (fun w' hw => newT_calls ((hT2.kp hw.kp fun k _ => mk_nil).sl fun _ _ => trivial) hb) ?_
  rintro w3 u4 w4 hw3 kn3 ko3 hu
  have hs3 := hw3.kp.size
  have hs4 := kn3.size
  have hT4 := (hT2.kp hw3.kp fun k _ => mk_nil).kn kn3
  repeat(first|refine lrun_ ?_|(refine lo_boxA rfl rfl ?_;intro _ _ _)|(refine lo_box1 rfl rfl rfl ?_;intro _ _ _)|(refine lo_alloc rfl ?_;intro _ _ _))
  refine lo_callM (n_call rfl) rfl (fun w' hw => new04_calls (Kn.sl hw.org h) hb) ?_
  rintro w5 u6 w6 hw5 kn5 ko5 hx
  have hs5 := hw5.kp.size
  have hs6 := kn5.size
  have hT6 := (hT4.kp hw5.kp fun k _ => mk_nil).kn kn5
  have hG : ∀ k, noB w1 k ∧ k < w2.heap.size → w.heap.size ≤ k ∧ ¬ MK [] k := fun k hk => ⟨by have := hk.1; unfold noB at this; omega, mk_nil⟩
  repeat(first|refine lops_ ?_|(refine lo_boxA rfl rfl ?_;intro _ _ _)|(refine lo_box1 rfl rfl rfl ?_;intro _ _ _)|(refine lo_alloc rfl ?_;intro _ _ _))
  refine lo_nil ?_
  refine l_seq ?_
  rcases hu with ⟨hp, rfl⟩ | ⟨hp, gt, rfl, hX⟩
  · rcases hx with ⟨_, rfl⟩ | ⟨hp2, _⟩
    · refine sevens (pt := .pointer none) (px := .pointer none) (I := fun _ => True) hT6 hG trivial (fun _ _ _ _ => trivial) (fun _ _ => trivial) ?_ _ (by repeat (first | exact SubB.nil | refine SubB.cons rfl ?_)) _ (by repeat(first|exact MSub.refl|refine MSub.keep rfl ?_|exact MSub.nil|apply MSub.drop))
      intro b _ hkb σ' M' hs hM
      refine WL.sub hs hM ?_
      repeat(first|refine lrun_ ?_|(refine lo_boxA rfl rfl ?_;intro _ _ _)|(refine lo_box1 rfl rfl rfl ?_;intro _ _ _)|(refine lo_alloc rfl ?_;intro _ _ _))
      exact l_retR3 rfl (by repeat(first|exact LRes.nil|refine LRes.tmp rfl ?_|refine LRes.agg rfl (by(repeat(first|exact MIn.hd|refine MIn.tl ?_));done) (by rfl) (by rfl) ?_|refine LRes.one rfl (by(repeat(first|exact MIn.hd|refine MIn.tl ?_));done) (by rfl) ?_)) fun w' hw => ⟨hw.org, .inl ⟨hp, rfl⟩⟩
    · rw [hp] at hp2; cases hp2
  · rcases hx with ⟨hp2, _⟩ | ⟨hp2, gx, rfl, hY⟩
    · rw [hp] at hp2; cases hp2
    rw [new_split hp] at hX
    have hX6 := ((hX.mono (D' := fun k => w3.heap.size ≤ k ∧ k < w4.heap.size) fun k hk hl => ⟨by unfold noB at hk; omega, hl⟩).kp hw5.kp fun k _ => mk_nil).kn kn5
    have hY6 := hY.mono (D' := fun k => w5.heap.size ≤ k) fun k hk hl => by unfold noB at hk; omega
    refine sevens (pt := .pointer (some ⟨gt, 0, none⟩)) (px := .pointer (some ⟨gx, 0, none⟩)) (I := fun b => IsTxt (fun k => w3.heap.size ≤ k ∧ k < w4.heap.size) gt b (newL l) (jndM l).length ∧ IsRef (fun k => w5.heap.size ≤ k) gx b (newL l)) hT6 hG ⟨hX6, hY6⟩ (fun b b' hi hk => ⟨hi.1.kp hk fun k hk hg => by have := hg.2; omega, hi.2.kp hk fun k hk hg => by have := hg.2; omega⟩) (fun b hk => ⟨hX6.kp hk fun k _ => mk_nil, hY6.kp hk fun k _ => mk_nil⟩) ?_ _ (by repeat (first | exact SubB.nil | refine SubB.cons rfl ?_)) _ (by repeat(first|exact MSub.refl|refine MSub.keep rfl ?_|exact MSub.nil|apply MSub.drop))
    intro b hI hkb σ' M' hs hM
    refine WL.sub hs hM ?_
    repeat(first|refine lrun_ ?_|(refine lo_boxA rfl rfl ?_;intro _ _ _)|(refine lo_box1 rfl rfl rfl ?_;intro _ _ _)|(refine lo_alloc rfl ?_;intro _ _ _))
    refine l_retR3 rfl (by repeat(first|exact LRes.nil|refine LRes.tmp rfl ?_|refine LRes.agg rfl (by(repeat(first|exact MIn.hd|refine MIn.tl ?_));done) (by rfl) (by rfl) ?_|refine LRes.one rfl (by(repeat(first|exact MIn.hd|refine MIn.tl ?_));done) (by rfl) ?_)) fun w' hw => ⟨hw.org, .inr ⟨hp, gt, gx, w4.heap.size, rfl, ?_, ?_⟩⟩
    · exact (hI.1.kp hw.kp fun k _ => mk_nil).mono fun k hk _ => ⟨by omega, hk.2⟩
    · exact (hI.2.kp hw.kp fun k _ => mk_nil).mono fun k hk _ => ⟨by omega, by omega⟩
end Go.Ink
