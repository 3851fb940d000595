/-
  A board in the base; awake.
-/
import Derived.Test.YtbmjcjlenbgpkaaK7
import Derived.Test.YtbmjcjlenbgpkaaB8
set_option linter.unusedVariables false
set_option linter.unusedSimpArgs false
namespace Go.Ink
open Go Go.Proofs Go.RowKit

/-- A board in the base, one's own. -/
def BdB (O B : World) (K D : Nat → Prop) (g : Nat) (ms : List Mg) (ws : List Int) : Prop := IsBd D g B ms ws ∧ ∀ k, D k → O.heap.size ≤ k ∧ k < B.heap.size ∧ ¬ K k
section
variable {P : Program} {fn : Func} {k : List Item} {σ : Sig} {O B w w' : World} {S K D : Nat → Prop} {M M3 : Mm} {R : Pt} {ops : Array Oper} {rest : List Oper}
variable {dd : Option Nat} {op : Op} {oty : TypeId} {opos : String} {oaf : Array Edge} {g : Nat} {ms ms' : List Mg} {ws : List Int}
theorem BdB.now (h : BdB O B K D g ms ws) (hw : Lw O S B K M w) : IsBd D g w ms ws := h.1.kp hw.kp fun k hk => (h.2 k hk).2.2
theorem BdB.next (h : BdB O B K D g ms ws) (hw : Lw O S B K M w) (kn : Kn w w') : BdB O w' (MK M) D g ms ws :=
  ⟨(h.now hw).kp kn fun _ _ h => h, fun k hk => ⟨(h.2 k hk).1, by have := (h.2 k hk).2.1; have := hw.kp.size; have := kn.size; omega, hw.apart (h.2 k hk).2.2 (h.2 k hk).2.1⟩⟩
theorem BdB.re (h : BdB O B K D g ms ws) (hw : Lw O S B K M w) (hs : MSub M3 M) : BdB O w (MK M3) D g ms ws := ⟨h.now hw, fun k hk => ⟨(h.2 k hk).1, by have := (h.2 k hk).2.1; have := hw.kp.size; omega, fun hm => hw.apart (h.2 k hk).2.2 (h.2 k hk).2.1 (msub_mk hs k hm)⟩⟩
theorem BdB.nextT {T : Nat → Prop} (h : BdB O B K D g ms ws) (hw : Lw O S B K M w) (kp : Kp T w w') (hT : ∀ k, D k → ¬ T k) : BdB O w' (MK M) D g ms ws :=
  ⟨(h.now hw).kp kp hT, fun k hk => ⟨(h.2 k hk).1, by have := (h.2 k hk).2.1; have := hw.kp.size; have := kp.size; omega, hw.apart (h.2 k hk).2.2 (h.2 k hk).2.1⟩⟩
theorem lo_map {vx vy : Value} (hT : BdB O B K D g ms ws) (hrun : En Try.prog fn.ntmps σ ⟨dd, op, oty, opos, oaf, none⟩ 14 #[.pointer (some ⟨g, 0, none⟩), vx, vy]) (hd : okD dd fn.ntmps = true)
    (hc : ∀ w, Lw O S B K M w → CallsR Try.prog 14 #[.pointer (some ⟨g, 0, none⟩), vx, vy] w (MapQ D g w ms' ws 0))
    (h : ∀ w w', Lw O S B K M w → Kp D w w' → Kp S O w' → BdB O w' (MK M) (fun k => gD D w k ∧ k < w'.heap.size) g ms' ws → WLo Try.prog fn ops rest k (putS dd (.int .i64 0) σ) O S w' (MK M) M R) : WLo Try.prog fn ops ((⟨dd, op, oty, opos, oaf, none⟩ : Oper) :: rest) k σ O S B K M R := by
  unfold WLo at *
  refine fun w hw => o_enter hrun (wants_none rfl) hd ((hc w hw).mono fun u w' ⟨k1, hu, k3⟩ => ?_)
  subst hu
  have hdm : ∀ k, D k → ¬ MK M k := fun k hk => hw.apart (hT.2 k hk).2.2 (hT.2 k hk).2.1
  have ko : Kp S O w' := Kp.then hw.org k1 (fun _ h => h) fun i hi ht => by have := (hT.2 i ht).1; omega
  have hs := hw.org.size
  refine h w w' hw k1 ko ⟨k3.mono fun k hk hl => ⟨hk, hl⟩, fun k hk => ⟨?_, hk.2, ?_⟩⟩ w' ⟨ko, Kp.refl _ _, fun q o hm => k1.blk (hw.mem q o hm) fun ht => hdm q ht ⟨o, hm⟩, hw.nd, fun q hm => ⟨(hw.ge q hm).1, .inr hm⟩⟩
  · exact hk.1.elim (fun h => (hT.2 k h).1) fun h => by omega
  · exact fun hm => hk.1.elim (fun h => hdm k h hm) fun h => by have := hw.lt hm; omega
theorem lo_push {r : Int} {f0 : Nat} {res : List Int × Int × List Int} (hT : BdB O B K D g ms ws) (hto : ∀ m ∈ ms, m.2.length ≤ 64) (hr : -2147483648 ≤ r ∧ r ≤ 2147483647) (hws : ws.length ≤ 99) (hres : pushF ms f0 (ws ++ [r]) 0 [] = some res) (hrun : En Try.prog fn.ntmps σ ⟨dd, op, oty, opos, oaf, none⟩ 11 #[.pointer (some ⟨g, 0, none⟩), .int .i32 r]) (hd : okD dd fn.ntmps = true)
    (h : ∀ w w' v D', Lw O S B K M w → Kp D w w' → Kp S O w' → BdB O w' (MK M) D' g ms res.2.2 → HdF kRune (fun k => (w.heap.size ≤ k ∧ ¬ D' k) ∧ k < w'.heap.size) w' (MK M) v res.1 → WLo Try.prog fn ops rest k (putS dd (.tuple #[v, .int .i64 res.2.1]) σ) O S w' (MK M) M R) : WLo Try.prog fn ops ((⟨dd, op, oty, opos, oaf, none⟩ : Oper) :: rest) k σ O S B K M R := by
  unfold WLo at *
  refine fun w hw => o_enter hrun (wants_none rfl) hd ((push_calls (hT.now hw) hto hr hws hres).mono fun u w' ⟨k1, v, D', hu, k3, k4, k5⟩ => ?_)
  subst hu
  have hdm : ∀ k, D k → ¬ MK M k := fun k hk => hw.apart (hT.2 k hk).2.2 (hT.2 k hk).2.1
  have ko : Kp S O w' := Kp.then hw.org k1 (fun _ h => h) fun i hi ht => by have := (hT.2 i ht).1; omega
  have hs := hw.org.size
  refine h w w' v (fun k => D' k ∧ k < w'.heap.size) hw k1 ko ⟨k3.mono fun k hk hl => ⟨hk, hl⟩, fun k hk => ⟨?_, hk.2, ?_⟩⟩ ⟨((k5.slF (fun _ h => h) fun _ h => h.elim).mono fun k hk hl => ⟨⟨hk.1, fun e => hk.2 e.1⟩, hl⟩), fun k hk => ⟨fun hm => by have := hw.lt hm; have := hk.1.1; omega, hk.2⟩⟩ w' ⟨ko, Kp.refl _ _, fun q o hm => k1.blk (hw.mem q o hm) fun ht => hdm q ht ⟨o, hm⟩, hw.nd, fun q hm => ⟨(hw.ge q hm).1, .inr hm⟩⟩
  · exact (k4 k hk.1).elim (fun h => (hT.2 k h).1) fun h => by omega
  · exact fun hm => (k4 k hk.1).elim (fun h => hdm k h hm) fun h => by have := hw.lt hm; omega
end
/-- A board of one map: nothing to sort. -/
theorem map1_calls {D Fx Fy : Nat → Prop} {g : Nat} {w : World} {ws x y : List Int} {vx vy : Value} (h : IsBd D g w [] ws) (hx : Sl kRune Fx w vx x) (hy : Sl kRune Fy w vy y) (hFx : ∀ k, Fx k → k < w.heap.size → ¬ D k) (hFy : ∀ k, Fy k → k < w.heap.size → ¬ D k) (h1 : 1 ≤ x.length) (h2 : x.length ≤ 16) (h3 : y.length ≤ 64) :
    CallsR Try.prog 14 #[.pointer (some ⟨g, 0, none⟩), vx, vy] w (MapQ D g w [(x, y)] ws 0) :=
  mapNew_calls (ms := []) (ms' := [(x, y)]) h hx hy hFx hFy ⟨h1, h2, h3, rfl, by decide⟩ fun w' A c G F hO => (sort1_calls (Nat.le_refl 1)).mono fun u w'' ⟨k1, k2⟩ => ⟨k1.mono fun _ _ h => h.elim, k2, Kn.ow k1 hO⟩
theorem one_list {x : List Int} {A : Option Addr} {c : Nat} {F : Nat → Prop} {b : World} (h : Sl kRune F b (.slice A x.length c) x) (h0 : 0 < x.length) : ∃ ad, A = some ad ∧ F ad.block ∧ b.cell? (ad.add (0 * 1)) = some (.int .i32 (x.getD 0 0)) := by
  obtain ⟨_, _, ad, e, hX⟩ := h.rns
  cases e
  exact ⟨ad, hX.a h0, hX.fa h0, hX.run 0 h0⟩
theorem r_eqC {P : Program} {N : Nat} {σ : Sig} {w : World} {dst : Option Nat} {ty : TypeId} {pos : String} {af : Array Edge} {gd : Option (Nat × Bool)} {x y : Operand} {t t' : TypeId} {ks : List (Option IntKind)} [hT : EqST P t ks] {vs us : List Value} {b : Bool} (hx : ev σ x = some (.agg vs.toArray)) (hy : ev σ y = some (.agg us.toArray)) (h1 : Okv ks vs) (h2 : Okv ks us) (hb : vbs vs us = b) :
    Rn P N σ w ⟨dst, .binOp .eql t x y t', ty, pos, af, gd⟩ (.bool b) := hb ▸ r_eqS hx hy h1 h2
theorem okv_cmd (c : Cmd) : Okv [some .i32, some .i64, some .i32, some .i32, some .i32, some .i32, none] (cmdL c) := .int (.int (.int (.int (.int (.int (.bool .nil))))))
set_option maxHeartbeats 16000000 in
theorem awake_calls {w : World} : CallsR Try.prog 19 #[] w fun u w' => Kn w w' ∧ u = .bool true := by
  refine l_enter (args := []) (fun _ => False) Try.func19 rfl rfl ?_
  repeat(first|refine lrun_ ?_|(refine lo_boxA rfl rfl ?_;intro _ _ _)|(refine lo_box1 rfl rfl rfl ?_;intro _ _ _)|(refine lo_alloc rfl ?_;intro _ _ _))
  refine lo_call (n_call rfl) rfl (fun w' hw => fed_calls (s := ⟨#[50, 100, 51, 119]⟩) (by decide) (by decide)) ?_
  rw [show runM false (bytesL ⟨#[50, 100, 51, 119]⟩) fed0 = ((⟨0, 6, 100, 119, 0, 0, false⟩, 1), pst0) from rfl]
  repeat(first|refine lrun_ ?_|(refine lo_boxA rfl rfl ?_;intro _ _ _)|(refine lo_box1 rfl rfl rfl ?_;intro _ _ _)|(refine lo_alloc rfl ?_;intro _ _ _))
  refine lo_call (n_call rfl) rfl (fun w' hw => fed_calls (s := ⟨#[34, 97, 121, 121]⟩) (by decide) (by decide)) ?_
  rw [show runM false (bytesL ⟨#[34, 97, 121, 121]⟩) fed0 = ((⟨97, 0, 121, 0, 0, 0, true⟩, 1), pst0) from rfl]
  repeat(first|refine lrun_ ?_|(refine lo_boxA rfl rfl ?_;intro _ _ _)|(refine lo_box1 rfl rfl rfl ?_;intro _ _ _)|(refine lo_alloc rfl ?_;intro _ _ _))
  refine lo_call (n_call rfl) rfl (fun w' hw => fed_calls (s := ⟨#[100, 105, 40]⟩) (by decide) (by decide)) ?_
  rw [show runM false (bytesL ⟨#[100, 105, 40]⟩) fed0 = ((⟨0, 0, 100, 40, 105, 0, false⟩, 1), pst0) from rfl]
  repeat(first|refine lrun_ ?_|(refine lo_boxA rfl rfl ?_;intro _ _ _)|(refine lo_box1 rfl rfl rfl ?_;intro _ _ _)|(refine lo_alloc rfl ?_;intro _ _ _))
  refine lo_call (n_call rfl) rfl (fun w' hw => fed_calls (s := ⟨#[100, 120]⟩) (by decide) (by decide)) ?_
  rw [show runM false (bytesL ⟨#[100, 120]⟩) fed0 = ((cmd0, 2), pst0) from rfl]
  repeat(first|refine lrun_ ?_|(refine lo_boxA rfl rfl ?_;intro _ _ _)|(refine lo_box1 rfl rfl rfl ?_;intro _ _ _)|(refine lo_alloc rfl ?_;intro _ _ _))
  refine lo_call (n_call rfl) rfl (fun w' hw => fed_calls (s := ⟨#[100, 105]⟩) (by decide) (by decide)) ?_
  rw [show (runM false (bytesL ⟨#[100, 105]⟩) fed0).1 = (cmd0, 0) from rfl]
  repeat(first|refine lrun_ ?_|(refine lo_boxA rfl rfl ?_;intro _ _ _)|(refine lo_box1 rfl rfl rfl ?_;intro _ _ _)|(refine lo_alloc rfl ?_;intro _ _ _))
  refine lo_callM (n_call (args := []) rfl) rfl (fun w' hw => newB_calls) ?_
  rintro w1 _ w2 hw1 kn1 ko1 ⟨g, rfl, hP⟩
  have hs1 := hw1.org.size
  have hs2 := kn1.size
  have hB2 : BdB w w2 (MK _) (fun k => noB w1 k ∧ k < w2.heap.size) g [] [] := ⟨hP.mono fun k hk hl => ⟨hk, hl⟩, fun k hk => ⟨by have := hk.1; unfold noB at this; omega, hk.2, fun hm => by have := hw1.lt hm; have := hk.1; unfold noB at this; omega⟩⟩
  have hgew : ∀ k, noB w1 k ∧ k < w2.heap.size → w1.heap.size ≤ k ∧ k < w2.heap.size := fun k hk => ⟨by have := hk.1; unfold noB at this; omega, hk.2⟩
  clear hP
  repeat(first|refine lrun_ ?_|(refine lo_boxA rfl rfl ?_;intro _ _ _)|(refine lo_box1 rfl rfl rfl ?_;intro _ _ _)|(refine lo_alloc rfl ?_;intro _ _ _))
  refine lo_callV (n_call (args := []) rfl) rfl (fun w' hw => (newP_calls).mono fun u w'' ⟨h1, g', h2, _⟩ => (⟨h1, g', h2⟩ : Kn w' w'' ∧ ∃ g', u = .pointer (some ⟨g', 0, none⟩))) ?_
  rintro _ ⟨g', rfl⟩
  repeat(first|refine lrun_ ?_|(refine lo_boxA rfl rfl ?_;intro _ _ _)|(refine lo_box1 rfl rfl rfl ?_;intro _ _ _)|(refine lo_alloc rfl ?_;intro _ _ _))
  refine l_false rfl ?_
  refine l_go .skip ?_
  repeat(first|refine lrun_ ?_|(refine lo_boxA rfl rfl ?_;intro _ _ _)|(refine lo_box1 rfl rfl rfl ?_;intro _ _ _)|(refine lo_alloc rfl ?_;intro _ _ _))
  refine lo_lit (cs := [.int .i32 106, .int .i32 106]) rfl (by decide) (by kernel_rfl) rfl ?_
  intro g45 hg45 hg45'
  refine lo_lit (cs := [.int .i32 27]) rfl (by decide) (by kernel_rfl) rfl ?_
  intro g46 hg46 hg46'
  refine lo_map hB2 (ms' := [([106, 106], [27])]) (n_call rfl) rfl (fun w' hw => map1_calls (Fx := fun k => k = g45) (Fy := fun k => k = g46) (hB2.now hw) (sl_row (xs := [106, 106]) (hw.mem g45 _ (.tl .hd)) rfl (by decide) (by decide)) (sl_row (xs := [27]) (hw.mem g46 _ .hd) rfl (by decide) (by decide)) (fun k hk _ e => by have := hgew k e; omega) (fun k hk _ e => by have := hgew k e; omega) (by decide) (by decide) (by decide)) ?_
  intro w3 w4 hw3 kp3 ko3 hB4
  repeat(first|refine lrun_ ?_|(refine lo_boxA rfl rfl ?_;intro _ _ _)|(refine lo_box1 rfl rfl rfl ?_;intro _ _ _)|(refine lo_alloc rfl ?_;intro _ _ _))
  refine lo_push (f0 := 10) (r := 106) hB4 (by decide) (by decide) (by decide) (res := ([], 0, [106])) rfl (n_call rfl) rfl ?_
  intro w5 w6 v6 D6 hw5 kp5 ko5 hB6 hv6
  obtain ⟨A6, c6, rfl, _⟩ := hv6.1.form
  repeat(first|refine lrun_ ?_|(refine lo_boxA rfl rfl ?_;intro _ _ _)|(refine lo_box1 rfl rfl rfl ?_;intro _ _ _)|(refine lo_alloc rfl ?_;intro _ _ _))
  refine lo_push (f0 := 10) (r := 106) hB6 (by decide) (by decide) (by decide) (res := ([27], 0, [])) rfl (n_call rfl) rfl ?_
  intro w7 w8 v8 D8 hw7 kp7 ko7 hB8 hv8
  obtain ⟨A8, c8, rfl, _⟩ := hv8.1.form
  obtain ⟨ad, rfl, hfa, hcell⟩ := one_list hv8.1 (by decide)
  have hnk := (hv8.2 _ hfa).1
  clear hB2 hB4 hB6 hB8 hv6
  repeat(first|refine lrun_ ?_|(refine lo_boxA rfl rfl ?_;intro _ _ _)|(refine lo_box1 rfl rfl rfl ?_;intro _ _ _)|(refine lo_alloc rfl ?_;intro _ _ _))
  refine lo_rn (fun _ => r_eqC (vs := cmdL ⟨0, 6, 100, 119, 0, 0, false⟩) (us := cmdL ⟨0, 6, 100, 119, 0, 0, false⟩) rfl rfl (okv_cmd _) (okv_cmd _) (b := true) rfl) rfl ?_
  repeat(first|refine lrun_ ?_|(refine lo_boxA rfl rfl ?_;intro _ _ _)|(refine lo_box1 rfl rfl rfl ?_;intro _ _ _)|(refine lo_alloc rfl ?_;intro _ _ _))
  refine lo_rn (fun _ => r_eqC (vs := cmdL ⟨97, 0, 121, 0, 0, 0, true⟩) (us := cmdL ⟨97, 0, 121, 0, 0, 0, true⟩) rfl rfl (okv_cmd _) (okv_cmd _) (b := true) rfl) rfl ?_
  repeat(first|refine lrun_ ?_|(refine lo_boxA rfl rfl ?_;intro _ _ _)|(refine lo_box1 rfl rfl rfl ?_;intro _ _ _)|(refine lo_alloc rfl ?_;intro _ _ _))
  refine lo_rn (fun _ => r_eqC (vs := cmdL ⟨0, 0, 100, 40, 105, 0, false⟩) (us := cmdL ⟨0, 0, 100, 40, 105, 0, false⟩) rfl rfl (okv_cmd _) (okv_cmd _) (b := true) rfl) rfl ?_
  repeat(first|refine lrun_ ?_|(refine lo_boxA rfl rfl ?_;intro _ _ _)|(refine lo_box1 rfl rfl rfl ?_;intro _ _ _)|(refine lo_alloc rfl ?_;intro _ _ _))
  refine lo_index (j := 0) rfl rfl rfl (by decide) rfl rfl ?_
  refine lo_yes (wants_yes rfl rfl rfl (by rfl)) ?_
  refine lo_loadB rfl hcell (by rw [add_block]; exact hnk) rfl ?_
  repeat(first|refine lrun_ ?_|(refine lo_boxA rfl rfl ?_;intro _ _ _)|(refine lo_box1 rfl rfl rfl ?_;intro _ _ _)|(refine lo_alloc rfl ?_;intro _ _ _))
  exact l_ret1 rfl rfl fun w' hw => ⟨hw.org, rfl⟩
end Go.Ink
