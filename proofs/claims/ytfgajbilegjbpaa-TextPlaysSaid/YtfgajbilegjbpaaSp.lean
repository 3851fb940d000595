/-
  inkhornref04.Split.
-/
import Derived.Test.YtfgajbilegjbpaaTb
import Derived.Test.YtfgajbilegjbpaaSeat
import Derived.Test.YtfgajbilegjbpaaTw
set_option linter.unusedVariables false
set_option linter.unusedSimpArgs false
namespace Go.Ink
open Go Go.Proofs Go.RowKit

/-- Rows that are ended, and the one that grows. -/
def spM (x : List Int) : Nat → List (List Int) × List Int
  | 0 => ([], [])
  | k + 1 => if x.getD k 0 = 10 then ((spM x k).1 ++ [(spM x k).2], []) else ((spM x k).1, (spM x k).2 ++ [x.getD k 0])
def splitM (x : List Int) : List (List Int) := (spM x x.length).1 ++ [(spM x x.length).2]
theorem spM_len (x : List Int) : ∀ k, (spM x k).1.length + (spM x k).2.length ≤ k
  | 0 => Nat.le_refl _
  | k + 1 => by
    have := spM_len x k
    unfold spM
    split
    · simp only [List.length_append, List.length_singleton, List.length_nil]; omega
    · simp only [List.length_append, List.length_singleton]; omega
/-- A table of own rows, of which the last one is apart. -/
structure SpI (w b : World) (an : Addr) (cn : Nat) (Az : Option Addr) (cz : Nat) (cs : List Value) (ys : List (List Int)) (z : List Int) : Prop where
  hn : Ow kRaw (noB w) (fun _ => False) b (.slice (some an) (ys.length + 1) cn) (cs ++ [.slice Az z.length cz])
  hz : Ow kRune (noB w) (fun _ => False) b (.slice Az z.length cz) z
  hy : Els kRow (fun k => noB w k ∧ (Value.slice Az z.length cz).ownBlock ≠ some k ∧ an.block ≠ k) b ys cs
  ne : (Value.slice Az z.length cz).ownBlock ≠ some an.block
section
variable {w b w' : World} {an : Addr} {cn cz : Nat} {Az : Option Addr} {cs : List Value} {ys : List (List Int)} {z : List Int}
theorem SpI.kn (h : SpI w b an cn Az cz cs ys z) (hw : Kn b w') : SpI w w' an cn Az cz cs ys z :=
  ⟨Kn.ow hw h.hn, Kn.ow hw h.hz, h.hy.move fun k hk hl => hw.block k hl id, h.ne⟩
theorem SpI.len (h : SpI w b an cn Az cz cs ys z) : cs.length = ys.length := by
  have := h.hy.len
  rwa [show kRow.sz = 1 from rfl, Nat.mul_one] at this
end
theorem ow_someA {α : Type} {d : Kd α} {G F : Nat → Prop} {w : World} {A : Option Addr} {n c : Nat} {xs : List α} (h : Ow d G F w (.slice A n c) xs) (hne : xs ≠ []) : ∃ ad, A = some ad := by
  obtain ⟨cells, h1, h2, h3⟩ := h
  rcases h3 with ⟨_, rfl⟩ | ⟨g, o, cap, cur, e, h3, _⟩
  · exact absurd rfl hne
  · cases h3; exact ⟨_, rfl⟩
theorem SpI.bound {w b : World} {an : Addr} {cn cz : Nat} {Az : Option Addr} {cs : List Value} {ys : List (List Int)} {z : List Int} (h : SpI w b an cn Az cz cs ys z) : Els kRow (fun k => (noB w k ∧ (Value.slice Az z.length cz).ownBlock ≠ some k ∧ an.block ≠ k) ∧ k < b.heap.size) b ys cs := h.hy.mono fun k hk hl => ⟨hk, hl⟩
theorem r_indexJ {P : Program} {N : Nat} {σ : Sig} {w : World} {d : Option Nat} {ty : TypeId} {pos : String} {af : Array Edge} {gd : Option (Nat × Bool)} {x y : Operand} {t e : TypeId} {sz bytes : Nat} {z : Value} [hT : SlT P t e] [hE : ElT P e sz bytes z] {A : Option Addr} {ad : Addr} {n c j : Nat} {iv : Int} {ik : IntKind} (hx : ev σ x = some (.slice A n c)) (hy : ev σ y = some (.int ik iv)) (hj : iv = (j : Int)) (hn : j < n) (hA : A = some ad) : Rn P N σ w ⟨d, .indexAddr t x y, ty, pos, af, gd⟩ (.pointer (some (ad.add (j * sz)))) := by
  subst hj hA; exact r_index hx hy rfl (by omega) (by omega)
theorem q_lit {P : Program} {fn : Func} {ops : Array Oper} {listed : Array Bool} {l : List (Nat × Nat)} {k : List Item} {σ : Sig} {Q : Nat → Prop} {w w2 : World} {R : Pt} {i : Nat} {dd : Option Nat} {oty : TypeId} {opos : String} {oaf : Array Edge} {og : Option (Nat × Bool)} {t e : TypeId} {sz bytes : Nat} {z : Value} [hT : SlT P t e] [hE : ElT P e sz bytes z] {len : Nat} {ps : List (Nat × Operand)} {qs : List (Nat × Value)} {cs : List Value} (hx : evps σ ps = some qs) (hn : len * sz ≤ 16777216)
    (hf : Instr.fill (fun i => some (i * sz, sz)) (madeCells z.cells (len * sz)) qs = some cs.toArray) (hg : wants ops σ ⟨dd, .buildSlice t len ps.toArray, oty, opos, oaf, og⟩ true) (hd : okD dd fn.ntmps = true) (hS : StQ Q w w2) (hl : w.heap.size ≤ w2.heap.size)
    (h : ∀ g w', Nb w2 w' g (cb cs e) → StQ Q w w' → WQ P fn ops (listed.setIfInBounds i true) l k (putS dd (.slice (some ⟨g, 0, none⟩) len len) σ) Q w w' R) : WQo P fn ops listed i 1 (⟨dd, .buildSlice t len ps.toArray, oty, opos, oaf, og⟩ : Oper) l k σ Q w w2 R :=
  q_any (e_lit hx hn hf) hg hd fun u w' ⟨g, hu, hn⟩ => by
    have hst : StQ Q w w' := fun k hk hq => (hn.kn.block k (Nat.lt_of_lt_of_le hk hl) id).trans (hS k hk hq)
    subst hu
    exact .inl ⟨hst, h g w' hn hst⟩
theorem kn_mk {b w' : World} (h : Kp (MK []) b w') : Kn b w' := h.mono fun _ _ h => (mk_nil h).elim
section
variable {F : Nat → Prop} {w : World} {v : Value} {x : List Int}
set_option maxHeartbeats 8000000 in
theorem split_calls (h : Sl kRune F w v x) (hx : x.length ≤ 4194304) : CallsR Try.prog 51 #[v] w fun u w' => Kn w w' ∧ Ow kRow (noB w) (noB w) w' u (splitM x) := by
  obtain ⟨A, c, ad, rfl, hX⟩ := h.rns
  refine l_enter (fun _ => False) Try.func51 rfl rfl ?_
  repeat(first|refine lrun_ ?_|(refine lo_boxA rfl rfl ?_;intro _ _ _)|(refine lo_box1 rfl rfl rfl ?_;intro _ _ _)|(refine lo_alloc rfl ?_;intro _ _ _))
  refine lo_lit (cs := [.slice none 0 0]) rfl (by decide) (by kernel_rfl) rfl ?_
  intro g5 hg5 _
  repeat(first|refine lops_ ?_|(refine lo_boxA rfl rfl ?_;intro _ _ _)|(refine lo_box1 rfl rfl rfl ?_;intro _ _ _)|(refine lo_alloc rfl ?_;intro _ _ _))
  refine lo_nil ?_
  refine l_take (M' := []) .nil fun w1 hw1 => ?_
  have hI0 : SpI w w1 ⟨g5, 0, none⟩ 1 none 0 [] [] [] := by
    refine ⟨⟨[.slice none 0 0], ⟨[_], [], rfl, ⟨rfl, rfl⟩, rfl⟩, show 1 * 24 ≤ 140737488355328 by decide, .inr ⟨g5, 0, 1, _, _, rfl, hg5, hw1.mem g5 _ .hd, by simp, by decide, by simp [kRaw], fun j u hu => ?_⟩⟩, Ow.nil _ _ _ _, rfl, fun e => by cases e⟩
    rw [Nat.zero_add]
    simpa using hu
  repeat(first|refine lrun_ ?_|(refine lo_boxA rfl rfl ?_;intro _ _ _)|(refine lo_box1 rfl rfl rfl ?_;intro _ _ _)|(refine lo_alloc rfl ?_;intro _ _ _))
  refine l_whileB (fun s : Nat × Addr × Nat × Option Addr × Nat × List Value => x.length - s.1) (fun s => [(0, .slice A x.length c), (3, .slice (some s.2.1) ((spM x s.1).1.length + 1) s.2.2.1), (4, .int .i64 (s.1 : Int))]) (fun _ => [])
    (fun s b => s.1 ≤ x.length ∧ SpI w b s.2.1 s.2.2.1 s.2.2.2.1 s.2.2.2.2.1 s.2.2.2.2.2 (spM x s.1).1 (spM x s.1).2) (0, ⟨g5, 0, none⟩, 1, none, 0, []) (by repeat (first | exact SubB.nil | refine SubB.cons rfl ?_)) (by repeat(first|exact MSub.refl|refine MSub.keep rfl ?_|exact MSub.nil|apply MSub.drop)) (fun w' hw => ⟨Nat.zero_le _, hI0.kn (kn_mk hw.kp)⟩) ?_
  clear hI0 hw1
  rintro ⟨k, an, cn, Az, cz, cs⟩ b ⟨hk, hI⟩ hkb ih
  simp only at hk hI
  dsimp only
  have hcl := hI.len
  have hsl := spM_len x k
  have hsb := hkb.size
  by_cases hlt : k < x.length
  case neg =>
    obtain rfl : k = x.length := by omega
    repeat(first|refine lrun_ ?_|(refine lo_boxA rfl rfl ?_;intro _ _ _)|(refine lo_box1 rfl rfl rfl ?_;intro _ _ _)|(refine lo_alloc rfl ?_;intro _ _ _))
    refine l_no rfl (by omega) ?_
    refine l_go (.exit rfl) ?_
    repeat(first|refine lrun_ ?_|(refine lo_boxA rfl rfl ?_;intro _ _ _)|(refine lo_box1 rfl rfl rfl ?_;intro _ _ _)|(refine lo_alloc rfl ?_;intro _ _ _))
    refine l_ret1 rfl rfl fun w' hw => ⟨hw.org, ?_⟩
    have hI := hI.kn (kn_mk hw.kp)
    have hE : Els kRow (fun k => noB w k ∧ an.block ≠ k) w' (splitM x) (cs ++ [.slice Az (spM x x.length).2.length cz]) := (hI.hy.mono fun k hk _ => ⟨hk.1, hk.2.2⟩).snoc ⟨_, rfl, (hI.hz.nE).slF (fun k hk => ⟨hk.1, fun e => hI.ne (e ▸ hk.2)⟩) fun _ h => h.elim⟩
    have hspl : (splitM x).length = (spM x x.length).1.length + 1 := by unfold splitM; rw [List.length_append]; rfl
    obtain ⟨cells, h1, h2, h3⟩ := hI.hn
    rw [els_raw h1] at h3
    refine ⟨_, hE.mono fun k hk _ => ⟨hk.1, fun e => hk.2 (by cases e; rfl)⟩, ?_, .inr ?_⟩
    · unfold Fits at h2 ⊢
      rw [List.length_append, hcl] at h2
      rw [hspl]; exact h2
    · rcases h3 with ⟨h3, _⟩ | ⟨g, o, cap, cur, e, h3, hg, hh, h4, h5, h6, h7⟩
      · cases h3
      · rw [List.length_append, hcl, List.length_singleton] at h3 h4
        exact ⟨g, o, cap, cur, e, by rw [hspl]; exact h3, hg, hh, by rw [hspl]; exact h4, h5, h6, h7⟩
  have hrl := hX.run k hlt
  have hlo := hX.lo k
  have hab := hI.hn.block an.block rfl
  have hzb := hI.hz.block
  by_cases hnl : x.getD k 0 = 10
  · have hst : spM x (k + 1) = ((spM x k).1 ++ [(spM x k).2], []) := by
      show (if x.getD k 0 = 10 then _ else _) = _
      rw [if_pos hnl]
    generalize spM x k = s at *
    obtain ⟨ys, z⟩ := s
    simp only at hI hcl hsl hst
    dsimp only
    repeat(first|refine lrun_ ?_|(refine lo_boxA rfl rfl ?_;intro _ _ _)|(refine lo_box1 rfl rfl rfl ?_;intro _ _ _)|(refine lo_alloc rfl ?_;intro _ _ _))
    refine l_yes rfl (by omega) ?_
    repeat(first|refine lrun_ ?_|(refine lo_boxA rfl rfl ?_;intro _ _ _)|(refine lo_box1 rfl rfl rfl ?_;intro _ _ _)|(refine lo_alloc rfl ?_;intro _ _ _))
    refine l_yes rfl hnl ?_
    repeat(first|refine lrun_ ?_|(refine lo_boxA rfl rfl ?_;intro _ _ _)|(refine lo_box1 rfl rfl rfl ?_;intro _ _ _)|(refine lo_alloc rfl ?_;intro _ _ _))
    refine lo_lit (cs := [.slice none 0 0]) rfl (by decide) (by kernel_rfl) rfl ?_
    intro g18 hg18 hg18'
    refine lo_append1 (d := kRaw) (q := .slice none 0 0) rfl rfl (hI.hn.mono (G' := fre w (MK [])) (F' := fun _ => False) (fun k hk _ => ⟨hk, mk_nil⟩) fun _ h _ => h) (fun _ h => h.elim) (by(repeat(first|exact MIn.hd|refine MIn.tl ?_));done) (fun w' hw => ⟨rfl, rfl⟩) (by rw [List.length_append, hcl]; show (ys.length + 1 + 1) * 24 ≤ 140737488355328; omega) rfl rfl rfl rfl ?_
    intro w3 A3 n3 w4 hw3 ko3 kp3 hown hog
    have hvl : (cs ++ [Value.slice Az z.length cz] ++ [Value.slice none 0 0]).length = (ys ++ [z]).length + 1 := by simp only [List.length_append, hcl, List.length_singleton]
    rw [hvl] at hog hown ⊢
    obtain ⟨an', rfl⟩ := ow_someA hog (by simp)
    have hor : an'.block = an.block ∨ b.heap.size ≤ an'.block := (hown an'.block rfl).imp (fun h => (Option.some.inj h).symm) id
    have hk3 : Kp (fun k => k = an.block) b w4 := kp3.mono fun k _ h => h.elim (fun h => (mk_nil h).elim) fun h => (Option.some.inj h).symm
    have hm18 : ∀ k, MK [(g18, cb [Value.slice none 0 0] 37)] k → b.heap.size ≤ k := fun k hm => by
      rw [MK_iff] at hm
      simp only [List.map_cons, List.map_nil, List.mem_cons, List.not_mem_nil, or_false] at hm
      omega
    repeat(first|refine lops_ ?_|(refine lo_boxA rfl rfl ?_;intro _ _ _)|(refine lo_box1 rfl rfl rfl ?_;intro _ _ _)|(refine lo_alloc rfl ?_;intro _ _ _))
    refine lo_nil ?_
    refine l_baseM (M3 := []) .nil fun w5 hw5 => ?_
    have hk5 : Kp (fun k => k = an.block ∨ b.heap.size ≤ k) b w5 := Kp.then hk3 hw5.kp (fun _ h => .inl h) fun k _ hm => .inr (hm18 k hm)
    have hI5 : SpI w w5 an' n3 none 0 (cs ++ [Value.slice Az z.length cz]) (ys ++ [z]) [] := by
      have hna : ∀ k, k < b.heap.size → an.block ≠ k → an'.block ≠ k := fun k hl hk e => by
        rcases hor with h | h
        · exact hk (h ▸ e)
        · omega
      refine ⟨(Kp.ow hw5.kp hog (fun _ h => h.2) fun _ h => h.elim).mono (fun k hk _ => hk.1) fun _ h _ => h, Ow.nil _ _ _ _, ?_, fun e => by cases e⟩
      refine ((hI.bound.move fun k hk hl => hk5.block k hl fun e => e.elim (fun e => hk.1.2.2 e.symm) fun e => by have := hk.2; omega).mono fun k hk _ => ⟨hk.1.1, fun e => (by cases e), hna k hk.2 hk.1.2.2⟩).snoc ⟨_, rfl, ?_⟩
      have h8 : Ow kRune (fun k => noB w k ∧ (Value.slice Az z.length cz).ownBlock = some k) (fun _ => False) w5 (.slice Az z.length cz) z := Kp.ow hk5 hI.hz.nE (fun k hk e => e.elim (fun e => hI.ne (e ▸ hk.2)) fun e => by have := (hzb k hk.2).2; omega) fun _ h => h.elim
      exact h8.slF (fun k hk => ⟨hk.1, fun e => (by cases e), hna k (hzb k hk.2).2 fun e => hI.ne (e ▸ hk.2)⟩) fun _ h => h.elim
    repeat(first|refine lrun_ ?_|(refine lo_boxA rfl rfl ?_;intro _ _ _)|(refine lo_box1 rfl rfl rfl ?_;intro _ _ _)|(refine lo_alloc rfl ?_;intro _ _ _))
    exact ih (k + 1, an', n3, none, 0, _) w5 _ ⟨hlt, by simp only [hst]; exact hI5⟩ (by simp only; omega) _ _ (by simp only [hst]; exact (by repeat (first | exact SubB.nil | refine SubB.cons rfl ?_))) (by repeat(first|exact MSub.refl|refine MSub.keep rfl ?_|exact MSub.nil|apply MSub.drop)) fun w' hw' => ⟨hlt, by simp only [hst]; exact hI5.kn (kn_mk hw'.kp)⟩
  have hst : spM x (k + 1) = ((spM x k).1, (spM x k).2 ++ [x.getD k 0]) := by
    show (if x.getD k 0 = 10 then _ else _) = _
    rw [if_neg hnl]
  generalize spM x k = s at *
  obtain ⟨ys, z⟩ := s
  simp only at hI hcl hsl hst
  dsimp only
  have hcell : b.cell? (an.add (ys.length * 1)) = some (.slice Az z.length cz) := hI.hn.rawCell (by rw [List.getElem?_append_right (by omega), hcl, Nat.sub_self]; rfl)
  repeat(first|refine lrun_ ?_|(refine lo_boxA rfl rfl ?_;intro _ _ _)|(refine lo_box1 rfl rfl rfl ?_;intro _ _ _)|(refine lo_alloc rfl ?_;intro _ _ _))
  refine l_yes rfl (by omega) ?_
  repeat(first|refine lrun_ ?_|(refine lo_boxA rfl rfl ?_;intro _ _ _)|(refine lo_box1 rfl rfl rfl ?_;intro _ _ _)|(refine lo_alloc rfl ?_;intro _ _ _))
  refine l_no rfl hnl ?_
  have hA := hX.a (by omega)
  subst hA
  have hfa := hX.sl.old.adF (by omega)
  unfold WLG
  intro w0 hw0
  have hI0 := hI.kn (kn_mk hw0.kp)
  have hcell0 := hw0.kp.cell hcell mk_nil
  have hrl0 := hw0.org.cell hrl id
  have hz0 := hI0.hz.block
  have hab0 := hI0.hn.block an.block rfl
  have hso := hw0.org.size
  refine k_drawQ (fun k => (Value.slice Az z.length cz).ownBlock = some k) [(0, 0), (1, 0), (2, 0), (3, 0), (4, 0), (5, 0), (6, 0), (7, 0), (8, 0), (9, 0), (10, 0), (11, 0), (12, 0), (13, 0), (14, 1), (15, 1), (16, 0), (17, 1)] (by kernel_rfl) (by kernel_rfl) rfl (by kernel_rfl) ?_
  repeat(refine runq_ ?_)
  refine q_open rfl ?_; refine q_still (fun w1 hq => r_indexJ (j := ys.length) rfl rfl (by omega) (by omega) rfl) wy_ rfl (StQ.refl _ _) ?_
  refine q_open rfl ?_; refine q_still (v := .slice Az z.length cz) (fun w1 hq => r_load rfl (hq.cell hcell0 (by rw [add_block]; exact hI.ne))) wy_ rfl (StQ.refl _ _) ?_
  repeat(refine runq_ ?_)
  refine q_open rfl ?_; refine q_still (fun w1 hq => r_indexJ (j := k) rfl rfl rfl hlt rfl) wy_ rfl (StQ.refl _ _) ?_
  refine q_open rfl ?_; refine q_still (v := .int .i32 (x.getD k 0)) (fun w1 hq => r_load rfl (hq.cell hrl0 (by rw [add_block]; intro e; have := (hz0 _ e).1; unfold noB at this; omega))) wy_ rfl (StQ.refl _ _) ?_
  repeat(refine runq_ ?_)
  refine q_open rfl ?_; refine q_lit (cs := [.int .i32 (x.getD k 0)]) rfl (by decide) (by kernel_rfl) wy_ rfl (StQ.refl _ _) (Nat.le_refl _) ?_
  intro g34 w1 nb1 hst1
  have hI1 := hI0.kn nb1.kn
  have hz1 := hI1.hz.block
  have hg34 := nb1.ge
  refine q_open rfl ?_; refine q_any (e_append1 (d := kRune) (F := fun _ => False) (q := x.getD k 0) rfl rfl hI1.hz nb1.at_ ⟨rfl, hlo⟩ (by show (z.length + 1) * 4 ≤ 140737488355328; omega) rfl rfl rfl) wy_ rfl fun v2 w2 hA => ?_
  obtain ⟨A2, n2, rfl, _, _⟩ := hA.ow.form
  have hst2 : StQ (fun k => (Value.slice Az z.length cz).ownBlock = some k) w0 w2 := fun k hk hq => (hA.kp.block k (Nat.lt_of_lt_of_le hk nb1.kn.size) hq).trans (hst1 k hk hq)
  refine .inl ⟨hst2, ?_⟩
  have hs1 := nb1.kn.size
  have hs2 := hA.kp.size
  have hn1 := hI1.hn.block an.block rfl
  have hn2 : Ow kRaw (noB w) (fun _ => False) w2 (.slice (some an) (ys.length + 1) cn) (cs ++ [.slice Az z.length cz]) := hI1.hn.keep fun k hk => by
    cases hk
    exact hA.kp.block an.block hn1.2 hI.ne
  refine q_open rfl ?_; refine q_still (fun w1 hq => r_indexJ (j := ys.length) rfl rfl (by omega) (by omega) rfl) wy_ rfl hst2 ?_
  refine q_open rfl ?_; refine q_unit (u_set (d := kRaw) (j := ys.length) (q := .slice A2 (z ++ [x.getD k 0]).length n2) rfl rfl hn2 (by rw [List.length_append, hcl]; simp) ⟨rfl, rfl⟩ rfl) wy_ rfl fun w3 ⟨kp3, hn3⟩ => .inr ⟨by kernel_rfl, ?_⟩
  rw [show (cs ++ [Value.slice Az z.length cz]).set ys.length (.slice A2 (z ++ [x.getD k 0]).length n2) = cs ++ [.slice A2 (z ++ [x.getD k 0]).length n2] by
    rw [List.set_append_right _ _ (by omega), hcl, Nat.sub_self]; rfl] at hn3
  refine q_nil ?_
  have hne2 : (Value.slice A2 (z ++ [x.getD k 0]).length n2).ownBlock ≠ some an.block := fun e => by
    rcases hA.blk with h | ⟨g, h, hg⟩
    · exact hI.ne (h ▸ e)
    · rw [h] at e; cases e; have := hab0.2; omega
  have hI3 : SpI w w3 an cn A2 n2 cs ys (z ++ [x.getD k 0]) := by
    have hz2 : Ow kRune (noB w) (fun _ => False) w2 (.slice A2 (z ++ [x.getD k 0]).length n2) (z ++ [x.getD k 0]) := hA.ow.mono (fun k hk _ => hk.elim id fun h => by unfold noB; omega) fun _ h _ => h
    refine ⟨hn3, hz2.keep fun k hk => kp3.block k (hz2.block k hk).2 fun e => hne2 (e ▸ hk), ?_, hne2⟩
    refine ((hI1.bound.move fun k hk hl => hA.kp.block k hl hk.1.2.1).mono (F' := fun m => (noB w m ∧ (Value.slice A2 (z ++ [x.getD k 0]).length n2).ownBlock ≠ some m ∧ an.block ≠ m)) fun k hk _ => ⟨hk.1.1, fun e => ?_, hk.1.2.2⟩).move fun k hk hl => kp3.block k hl fun e => hk.2.2 e.symm
    rcases hA.blk with h | ⟨g, h, hg⟩
    · exact hk.1.2.1 (h ▸ e)
    · rw [h] at e; cases e; have := hk.2; omega
  have hk03 : Kp (fun k => noB w k) w0 w3 := ((nb1.kn.mono fun _ _ h => h.elim).trans (hA.kp.mono fun k _ hk => (hz1 k hk).1)).trans (kp3.mono fun k _ e => by rw [e]; exact hab0.1)
  have hw3 : Lw w (fun _ => False) w3 (MK []) [] w3 := ⟨Kp.then hw0.org hk03 (fun _ h => h) fun k hk h => by unfold noB at h; omega, Kp.refl _ _, fun _ _ h => (by cases h), List.nodup_nil, fun k hk => (mk_nil hk).elim⟩
  refine l_close hw3 ?_
  repeat(first|refine lrun_ ?_|(refine lo_boxA rfl rfl ?_;intro _ _ _)|(refine lo_box1 rfl rfl rfl ?_;intro _ _ _)|(refine lo_alloc rfl ?_;intro _ _ _))
  exact ih (k + 1, an, cn, A2, n2, cs) w3 _ ⟨hlt, by simp only [hst]; exact hI3⟩ (by simp only; omega) _ _ (by simp only [hst]; exact (by repeat (first | exact SubB.nil | refine SubB.cons rfl ?_))) (by repeat(first|exact MSub.refl|refine MSub.keep rfl ?_|exact MSub.nil|apply MSub.drop)) fun w' hw' => ⟨hlt, by simp only [hst]; exact hI3.kn (kn_mk hw'.kp)⟩
end
end Go.Ink
