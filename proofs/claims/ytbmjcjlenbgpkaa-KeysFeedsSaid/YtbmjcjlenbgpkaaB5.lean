/-
  Map, on a board where it is new.
-/
import Derived.Test.YtbmjcjlenbgpkaaB4
import Derived.Test.YtbmjcjlenbgpkaaLn
set_option linter.unusedVariables false
set_option linter.unusedSimpArgs false
namespace Go.Ink
open Go Go.Proofs Go.RowKit

section
variable {P : Program} {fn : Func} {k : List Item} {σ : Sig} {O B : World} {S K : Nat → Prop} {M M3 : Mm} {R : Pt} {ops : Array Oper} {rest : List Oper}
variable {dd : Option Nat} {op : Op} {oty : TypeId} {opos : String} {oaf : Array Edge}
theorem lo_callT {f : FuncId} {args : Array Value} {T : Nat → Prop} {Φ : World → Value → World → Prop} (hs : MSub M3 M) (hrun : En P fn.ntmps σ ⟨dd, op, oty, opos, oaf, none⟩ f args) (hd : okD dd fn.ntmps = true) (hT : ∀ k, T k → (O.heap.size ≤ k ∨ S k) ∧ ¬ MK M3 k) (hc : ∀ w, Lw O S B K M w → CallsR P f args w fun u w' => Kp T w w' ∧ Φ w u w')
    (h : ∀ w u w', Lw O S B K M w → Kp T w w' → Kp S O w' → Φ w u w' → WLo P fn ops rest k (putS dd u σ) O S w' (MK M3) M3 R) : WLo P fn ops ((⟨dd, op, oty, opos, oaf, none⟩ : Oper) :: rest) k σ O S B K M R := by
  unfold WLo at *
  refine fun w hw => o_enter hrun (wants_none rfl) hd ((hc w hw).mono fun u w' ⟨k1, k2⟩ => ?_)
  have hw3 := hw.sub hs
  have ko : Kp S O w' := Kp.then hw.org k1 (fun _ h => h) fun i hi ht => ((hT i ht).1).elim (fun h => by omega) id
  exact h w u w' hw k1 ko k2 w' ⟨ko, Kp.refl _ _, fun q o hm => k1.blk (hw3.mem q o hm) fun ht => (hT q ht).2 ⟨o, hm⟩, hw3.nd, fun q hm => ⟨(hw3.ge q hm).1, .inr hm⟩⟩
end
/-- What is held in the base, in blocks that are told. -/
def HdF {α : Type} (d : Kd α) (F : Nat → Prop) (B : World) (K : Nat → Prop) (v : Value) (xs : List α) : Prop := Sl d F B v xs ∧ ∀ k, F k → ¬ K k ∧ k < B.heap.size
section
variable {α : Type} {d : Kd α} {F T : Nat → Prop} {O B w w' : World} {S K : Nat → Prop} {M : Mm} {v : Value} {xs : List α}
theorem HdF.now (h : HdF d F B K v xs) (hw : Lw O S B K M w) : Sl d F w v xs := Kp.sl hw.kp h.1 fun k hk => (h.2 k hk).1
theorem HdF.nextT (h : HdF d F B K v xs) (hw : Lw O S B K M w) (kp : Kp T w w') (hT : ∀ k, F k → ¬ T k) : HdF d F w' (MK M) v xs :=
  ⟨Kp.sl kp (h.now hw) hT, fun k hk => ⟨hw.apart (h.2 k hk).1 (h.2 k hk).2, by have := hw.kp.size; have := kp.size; have := (h.2 k hk).2; omega⟩⟩
theorem HdF.next (h : HdF d F B K v xs) (hw : Lw O S B K M w) (kn : Kn w w') : HdF d F w' (MK M) v xs := h.nextT hw kn fun _ _ h => h
end
theorem kn_mk {b w' : World} (h : Kp (MK []) b w') : Kn b w' := h.mono fun _ _ h => (mk_nil h).elim
theorem ow_someA {α : Type} {d : Kd α} {G F : Nat → Prop} {w : World} {A : Option Addr} {n c : Nat} {xs : List α} (h : Ow d G F w (.slice A n c) xs) (hne : xs ≠ []) : ∃ ad, A = some ad := by
  obtain ⟨cells, h1, h2, h3⟩ := h
  rcases h3 with ⟨_, rfl⟩ | ⟨g, o, cap, cur, e, h3, _⟩
  · exact absurd rfl hne
  · cases h3; exact ⟨_, rfl⟩
theorem q_lit {P : Program} {fn : Func} {ops : Array Oper} {listed : Array Bool} {l : List (Nat × Nat)} {k : List Item} {σ : Sig} {Q : Nat → Prop} {w w2 : World} {R : Pt} {i : Nat} {dd : Option Nat} {oty : TypeId} {opos : String} {oaf : Array Edge} {og : Option (Nat × Bool)} {t e : TypeId} {sz bytes : Nat} {z : Value} [hT : SlT P t e] [hE : ElT P e sz bytes z] {len : Nat} {ps : List (Nat × Operand)} {qs : List (Nat × Value)} {cs : List Value} (hx : evps σ ps = some qs) (hn : len * sz ≤ 16777216)
    (hf : Instr.fill (fun i => some (i * sz, sz)) (madeCells z.cells (len * sz)) qs = some cs.toArray) (hg : wants ops σ ⟨dd, .buildSlice t len ps.toArray, oty, opos, oaf, og⟩ true) (hd : okD dd fn.ntmps = true) (hS : StQ Q w w2) (hl : w.heap.size ≤ w2.heap.size)
    (h : ∀ g w', Nb w2 w' g (cb cs e) → StQ Q w w' → WQ P fn ops (listed.setIfInBounds i true) l k (putS dd (.slice (some ⟨g, 0, none⟩) len len) σ) Q w w' R) : WQo P fn ops listed i 1 (⟨dd, .buildSlice t len ps.toArray, oty, opos, oaf, og⟩ : Oper) l k σ Q w w2 R :=
  q_any (e_lit hx hn hf) hg hd fun u w' ⟨g, hu, hn⟩ => by
    have hst : StQ Q w w' := fun k hk hq => (hn.kn.block k (Nat.lt_of_lt_of_le hk hl) id).trans (hS k hk hq)
    subst hu
    exact .inl ⟨hst, h g w' hn hst⟩

theorem lw_one {O w : World} {S : Nat → Prop} {g : Nat} {cs : List Value} {e : TypeId} (ko : Kp S O w) (hb : w.heap[g]? = some (cb cs e)) (hS : S g) : Lw O S w (MK [(g, cb cs e)]) [(g, cb cs e)] w := by
  refine ⟨ko, Kp.refl _ _, fun q o hm => ?_, by simp, fun k hk => ⟨.inr (mk_one hk ▸ hS), .inr hk⟩⟩
  cases hm with
  | hd => exact hb
  | tl h => cases h
def mapL (ms : List Mg) (x y : List Int) : Prop := 1 ≤ x.length ∧ x.length ≤ 16 ∧ y.length ≤ 64 ∧ ms.findIdx? (hasM x) = none ∧ ms.length < 64
section
variable {D Fx Fy : Nat → Prop} {g : Nat} {w : World} {ms ms' : List Mg} {ws x y : List Int} {vx vy : Value}
def MapQ (D : Nat → Prop) (g : Nat) (w : World) (ms' : List Mg) (ws : List Int) (e : Int) (u : Value) (w' : World) : Prop := Kp D w w' ∧ u = .int .i64 e ∧ IsBd (gD D w) g w' ms' ws
set_option maxHeartbeats 8000000 in
theorem mapNew_calls (h : IsBd D g w ms ws) (hx : Sl kRune Fx w vx x) (hy : Sl kRune Fy w vy y) (hFx : ∀ k, Fx k → k < w.heap.size → ¬ D k) (hFy : ∀ k, Fy k → k < w.heap.size → ¬ D k) (hm : mapL ms x y)
    (hsort : ∀ (w' : World) (A : Option Addr) (c : Nat) (G F : Nat → Prop), Ow kMg G F w' (.slice A (ms ++ [(x, y)]).length c) (ms ++ [(x, y)]) → CallsR Try.prog 35 #[.slice A (ms ++ [(x, y)]).length c, .func (.func 36) #[] #[]] w' fun u w'' => Kp (fun k => (Value.slice A (ms ++ [(x, y)]).length c).ownBlock = some k) w' w'' ∧ u = .tuple #[] ∧ Ow kMg G F w'' (.slice A (ms ++ [(x, y)]).length c) ms') :
    CallsR Try.prog 14 #[.pointer (some ⟨g, 0, none⟩), vx, vy] w (MapQ D g w ms' ws 0) := by
  obtain ⟨hDg, vm, vw, Gm, Fm, Gw, hb, hom, how, h5, h6, h7⟩ := h
  obtain ⟨Gw, how, h5, h6, h7, h8⟩ : ∃ G : Nat → Prop, Ow kRune G (fun _ => False) w vw ws ∧ (∀ k, Gm k → D k ∧ k ≠ g ∧ ¬ G k) ∧ (∀ k, Fm k → D k ∧ k ≠ g ∧ ¬ G k) ∧ (∀ k, G k → D k ∧ k ≠ g) ∧ ∀ k, G k → k < w.heap.size :=
    ⟨fun k => Gw k ∧ k < w.heap.size, how.mono (fun k hk hl => ⟨hk, hl⟩) fun _ h _ => h, fun k hk => ⟨(h5 k hk).1, (h5 k hk).2.1, fun h => (h5 k hk).2.2 h.1⟩, fun k hk => ⟨(h6 k hk).1, (h6 k hk).2.1, fun h => (h6 k hk).2.2 h.1⟩, fun k hk => h7 k hk.1, fun k hk => hk.2⟩
  obtain ⟨hl1, hl2, hl3, hnone, hlm⟩ := hm
  have hgw := blk_lt hb
  have hx' := hx.mono (F' := fun k => Fx k ∧ k < w.heap.size) fun k hk hl => ⟨hk, hl⟩
  have hy' := hy.mono (F' := fun k => Fy k ∧ k < w.heap.size) fun k hk hl => ⟨hk, hl⟩
  obtain ⟨Ax, cx, rfl, _⟩ := hx.form
  obtain ⟨Ay, cy, rfl, _⟩ := hy.form
  obtain ⟨Am, cm, rfl, hcm, hfm⟩ := hom.form
  refine l_enterM (args := [.pointer (some ⟨g, 0, none⟩), .slice Ax x.length cx, .slice Ay y.length cy]) (S := D) hb hDg Try.func14 rfl rfl ?_
  repeat(first|refine lrun_ ?_|(refine lo_boxA rfl rfl ?_;intro _ _ _)|(refine lo_box1 rfl rfl rfl ?_;intro _ _ _)|(refine lo_alloc rfl ?_;intro _ _ _))
  refine l_no rfl (by omega) ?_
  refine l_go .skip ?_
  repeat(first|refine lrun_ ?_|(refine lo_boxA rfl rfl ?_;intro _ _ _)|(refine lo_box1 rfl rfl rfl ?_;intro _ _ _)|(refine lo_alloc rfl ?_;intro _ _ _))
  refine lo_callM (n_call rfl) rfl (fun w' hw => clone_calls (Kp.sl hw.org hx' fun k hk e => hFx k hk.1 hk.2 e)) ?_
  intro w1 u1 w2 hw1 kn1 ko1 hU1
  obtain ⟨A1, c1, rfl, _⟩ := hU1.form
  have hs1 := hw1.org.size
  have hs2 := kn1.size
  have hU1' : HdF kRune (fun k => noB w1 k ∧ k < w2.heap.size) w2 (MK [(g, cb [.slice Am ms.length cm, vw] 60)]) (.slice A1 x.length c1) x := ⟨(hU1.slF (fun _ h => h) fun _ h => h.elim).mono fun k hk hl => ⟨hk, hl⟩, fun k hk => ⟨fun hm => by have := mk_one hm; have := hk.1; unfold noB at this; omega, hk.2⟩⟩
  have hgK : ∀ k, D k ∧ k ≠ g → ¬ MK [(g, cb [.slice Am ms.length cm, vw] 60)] k := fun k hk hm => hk.2 (mk_one hm)
  have hom2 := Kn.ow kn1 (Kp.ow hw1.kp hom (fun k hk => hgK k ⟨(h5 k hk).1, (h5 k hk).2.1⟩) fun k hk => hgK k ⟨(h6 k hk).1, (h6 k hk).2.1⟩)
  have how2 := Kn.ow kn1 (Kp.ow hw1.kp how (fun k hk => hgK k (h7 k hk)) fun _ h => h.elim)
  repeat(first|refine lrun_ ?_|(refine lo_boxA rfl rfl ?_;intro _ _ _)|(refine lo_box1 rfl rfl rfl ?_;intro _ _ _)|(refine lo_alloc rfl ?_;intro _ _ _))
  refine lo_callM (n_call rfl) rfl (fun w' hw => clone_calls (Kp.sl hw.org hy' fun k hk e => hFy k hk.1 hk.2 e)) ?_
  intro w3 u3 w4 hw3 kn3 ko3 hU3
  obtain ⟨A3, c3, rfl, _⟩ := hU3.form
  have hs3 := hw3.kp.size
  have hs4 := kn3.size
  have hU1'' := hU1'.next hw3 kn3
  have hU3' : HdF kRune (fun k => noB w3 k ∧ k < w4.heap.size) w4 (MK [(g, cb [.slice Am ms.length cm, vw] 60)]) (.slice A3 y.length c3) y := ⟨(hU3.slF (fun _ h => h) fun _ h => h.elim).mono fun k hk hl => ⟨hk, hl⟩, fun k hk => ⟨fun hm => by have := mk_one hm; have := hk.1; unfold noB at this; omega, hk.2⟩⟩
  have hom4 := Kn.ow kn3 (Kp.ow hw3.kp hom2 (fun k hk => hgK k ⟨(h5 k hk).1, (h5 k hk).2.1⟩) fun k hk => hgK k ⟨(h6 k hk).1, (h6 k hk).2.1⟩)
  have how4 := Kn.ow kn3 (Kp.ow hw3.kp how2 (fun k hk => hgK k (h7 k hk)) fun _ h => h.elim)
  clear hU1 hU3 hom2 how2 hU1'
  repeat(first|refine lrun_ ?_|(refine lo_boxA rfl rfl ?_;intro _ _ _)|(refine lo_box1 rfl rfl rfl ?_;intro _ _ _)|(refine lo_alloc rfl ?_;intro _ _ _))
  rename_i g7 hg7 hg7'
  refine lo_call (n_call rfl) rfl (fun w' hw => find_calls (blk_cell (hw.mem g _ (by(repeat(first|exact MIn.hd|refine MIn.tl ?_));done))) (Kp.ow hw.kp hom4 (fun k hk => hgK k ⟨(h5 k hk).1, (h5 k hk).2.1⟩) fun k hk => hgK k ⟨(h6 k hk).1, (h6 k hk).2.1⟩).sl (Kp.sl hw.org hx' fun k hk e => hFx k hk.1 hk.2 e)) ?_
  rw [hnone]
  unfold idxW
  repeat(first|refine lrun_ ?_|(refine lo_boxA rfl rfl ?_;intro _ _ _)|(refine lo_box1 rfl rfl rfl ?_;intro _ _ _)|(refine lo_alloc rfl ?_;intro _ _ _))
  refine l_false rfl ?_
  refine l_go .skip ?_
  repeat(first|refine lrun_ ?_|(refine lo_boxA rfl rfl ?_;intro _ _ _)|(refine lo_box1 rfl rfl rfl ?_;intro _ _ _)|(refine lo_alloc rfl ?_;intro _ _ _))
  refine l_no rfl (by omega) ?_
  refine l_go .skip ?_
  refine l_seq ?_
  unfold WLG
  intro w5 hw5
  have hs5 := hw5.kp.size
  have hbg := hw5.mem g _ (.tl .hd)
  have hb7 := hw5.mem g7 _ .hd
  have hom5 := Kp.ow hw5.kp hom4 (fun k hk => hgK k ⟨(h5 k hk).1, (h5 k hk).2.1⟩) fun k hk => hgK k ⟨(h6 k hk).1, (h6 k hk).2.1⟩
  have how5 := Kp.ow hw5.kp how4 (fun k hk => hgK k (h7 k hk)) fun _ h => h.elim
  have hx5 := hU1''.now hw5
  have hy5 := hU3'.now hw5
  have hmb := hom5.block
  have hg7w : w4.heap.size ≤ g7 := by omega
  have hmw : ∀ k, (Value.slice Am ms.length cm).ownBlock = some k → k < w.heap.size := fun k hk => (hom.block k hk).2
  have hmbw : ∀ k, (Value.slice Am ms.length cm).ownBlock = some k → k < w4.heap.size := fun k hk => (hom4.block k hk).2
  refine k_drawQ (fun k => (Value.slice Am ms.length cm).ownBlock = some k) [(0, 0), (1, 0), (2, 0), (3, 0), (4, 0), (5, 0), (6, 1), (7, 1), (8, 0), (9, 0), (10, 1)] (by kernel_rfl) (by kernel_rfl) rfl (by kernel_rfl) ?_
  repeat(refine runq_ ?_)
  refine q_open rfl ?_; refine q_still (v := .slice Am ms.length cm) (fun w' hq => r_load rfl (hq.cell (blk_cell hbg) fun e => (h5 _ (hmb _ e).1).2.1 (by rw [add_block]))) wy_ rfl (StQ.refl _ _) ?_
  refine q_open rfl ?_; refine q_still (v := .agg #[.slice A1 x.length c1, .slice A3 y.length c3]) (fun w' hq => r_loadA (cs := [.slice A1 x.length c1, .slice A3 y.length c3]) rfl rfl (fun j u hu => by
    have nq : ¬ (Value.slice Am ms.length cm).ownBlock = some g7 := fun e => by have := hmbw _ e; omega
    match j, hu with
    | 0, hu => cases hu; exact hq.cell (blk_cell hb7) nq
    | 1, hu => cases hu; exact hq.cell (blk_cell hb7) nq)) wy_ rfl (StQ.refl _ _) ?_
  refine q_open rfl ?_; refine q_lit (cs := [.slice A1 x.length c1, .slice A3 y.length c3]) rfl (by decide) (by kernel_rfl) wy_ rfl (StQ.refl _ _) (Nat.le_refl _) ?_
  intro g55 w6 nb6 hst6
  have hg55 := nb6.ge
  have hs6 := nb6.kn.size
  have hom6 := (Kn.ow nb6.kn hom5).mono (F' := fun k => Fm k ∨ (w.heap.size ≤ k ∧ k < w4.heap.size)) (fun k hk _ => hk) fun k hk _ => .inl hk
  refine q_open rfl ?_; refine q_any (e_append1 (d := kMg) (q := (x, y)) rfl rfl hom6 nb6.at_ (mg_R (m := (x, y)) ((Kn.sl nb6.kn hx5).mono fun k hk _ => ⟨.inr ⟨by have := hk.1; unfold noB at this; omega, by have := hk.2; omega⟩, fun e => ?_⟩) ((Kn.sl nb6.kn hy5).mono fun k hk _ => ⟨.inr ⟨by have := hk.1; unfold noB at this; omega, hk.2⟩, fun e => ?_⟩)) (by show (ms.length + 1) * 48 ≤ 140737488355328; omega) rfl rfl rfl) wy_ rfl fun v7 w7 hA => ?_
  · have := hmw k e; have := hk.1; unfold noB at this; omega
  · have := hmw k e; have := hk.1; unfold noB at this; omega
  have hst7 : StQ (fun k => (Value.slice Am ms.length cm).ownBlock = some k) w5 w7 := fun k hk hq => (hA.kp.block k (by omega) hq).trans (hst6 k hk hq)
  have hs7 := hA.kp.size
  obtain ⟨A7, c7, rfl, _⟩ := hA.ow.form
  refine .inl ⟨hst7, ?_⟩
  repeat(refine runq_ ?_)
  have hbg7 := (hst7 g (blk_lt hbg) fun e => (h5 _ (hmb _ e).1).2.1 rfl).trans hbg
  refine q_open rfl ?_; refine q_unit (u_store rfl rfl rfl rfl hbg7 (by show 0 < 2; decide)) wy_ rfl fun w8 hw8 => .inr ⟨by kernel_rfl, ?_⟩
  refine q_nil ?_
  have hs8 := hw8.kp.size
  have ko6 : Kp D w w6 := hw5.org.trans nb6.kn.kp
  have ko7 : Kp D w w7 := Kp.then ko6 hA.kp (fun _ h => h) (fun k hk e => (h5 k (hom.block k e).1).1)
  have ko8 : Kp D w w8 := Kp.then ko7 hw8.kp (fun _ h => h) (fun k hk e => e ▸ hDg)
  have hom8 := Kp.ow hw8.kp hA.ow (fun k hk e => hk.elim (fun h => (h5 k h).2.1 e) fun h => by omega) (fun k hk e => hk.elim (fun h => (h6 k h).2.1 e) fun h => by omega)
  have how8 := Kp.ow hw8.kp (Kp.ow hA.kp (Kn.ow nb6.kn how5) (fun k hk e => (h5 k (hom.block k e).1).2.2 hk) fun _ h => h.elim) (fun k hk e => (h7 k hk).2 e) fun _ h => h.elim
  have hw9 := lw_one ko8 (cs := [.slice A7 (ms ++ [(x, y)]).length c7, vw]) hw8.at_ hDg
  refine l_close hw9 ?_
  have hvb := hom8.block
  repeat(first|refine lrun_ ?_|(refine lo_boxA rfl rfl ?_;intro _ _ _)|(refine lo_box1 rfl rfl rfl ?_;intro _ _ _)|(refine lo_alloc rfl ?_;intro _ _ _))
  refine lo_callT (M3 := [(g, cb [.slice A7 (ms ++ [(x, y)]).length c7, vw] 60)]) (T := fun k => (Value.slice A7 (ms ++ [(x, y)]).length c7).ownBlock = some k) (by repeat(first|exact MSub.refl|refine MSub.keep rfl ?_|exact MSub.nil|apply MSub.drop)) (n_call rfl) rfl (fun k hk => ⟨(hvb k hk).1.elim (fun h => .inr (h5 k h).1) fun h => .inl (by omega), fun hm => (hvb k hk).1.elim (fun h => (h5 k h).2.1 (mk_one hm)) fun h => by have := mk_one hm; omega⟩) (fun w' hw => hsort w' A7 c7 _ _ (Kp.ow hw.kp hom8 (fun k hk hm => hk.elim (fun h => (h5 k h).2.1 (mk_one hm)) fun h => by have := mk_one hm; omega) (fun k hk hm => hk.elim (fun h => (h6 k h).2.1 (mk_one hm)) fun h => by have := mk_one hm; omega))) ?_
  rintro w9 _ w10 hw9' kp10 ko10 ⟨rfl, hom10⟩
  have hs9 := hw9'.kp.size
  have hs10 := kp10.size
  have how10 := Kp.ow kp10 (Kp.ow hw9'.kp how8 (fun k hk hm => (h7 k hk).2 (mk_one hm)) fun _ h => h.elim) (fun k hk e => (hvb k e).1.elim (fun h => (h5 k h).2.2 hk) fun h => by have := h8 k hk; omega) fun _ h => h.elim
  repeat(first|refine lrun_ ?_|(refine lo_boxA rfl rfl ?_;intro _ _ _)|(refine lo_box1 rfl rfl rfl ?_;intro _ _ _)|(refine lo_alloc rfl ?_;intro _ _ _))
  refine l_ret1 rfl rfl fun w' hw => ⟨hw.org, rfl, .inl hDg, _, vw, fun k => Gm k ∨ w6.heap.size ≤ k, fun k => Fm k ∨ (w.heap.size ≤ k ∧ k < w4.heap.size), Gw, hw.mem g _ .hd, ?_, ?_, ?_, ?_, ?_⟩
  · exact Kp.ow hw.kp hom10 (fun k hk hm => hk.elim (fun h => (h5 k h).2.1 (mk_one hm)) fun h => by have := mk_one hm; omega) (fun k hk hm => hk.elim (fun h => (h6 k h).2.1 (mk_one hm)) fun h => by have := mk_one hm; omega)
  · exact Kp.ow hw.kp how10 (fun k hk hm => (h7 k hk).2 (mk_one hm)) fun _ h => h.elim
  · exact fun k hk => hk.elim (fun h => ⟨.inl (h5 k h).1, (h5 k h).2⟩) fun h => ⟨.inr (by omega), by omega, fun h' => by have := h8 k h'; omega⟩
  · exact fun k hk => hk.elim (fun h => ⟨.inl (h6 k h).1, (h6 k h).2⟩) fun h => ⟨.inr h.1, by omega, fun h' => by have := h8 k h'; omega⟩
  · exact fun k hk => ⟨.inl (h7 k hk).1, (h7 k hk).2⟩
end
end Go.Ink
