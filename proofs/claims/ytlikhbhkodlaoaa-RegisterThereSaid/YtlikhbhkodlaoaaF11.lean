/-
  awake.
-/
import Derived.Test.YtlikhbhkodlaoaaF10
set_option linter.unusedVariables false
set_option linter.unusedSimpArgs false
namespace Go.Ink
open Go Go.Proofs

def am1 := (putM emptySet 97 (0, [[120, 121]]) false).1
def am2 := (putM am1 65 (1, [[122]]) false).1
def am3 := (putM am2 0 (1, [[108]]) true).1
def am4 := (putM am3 0 (1, [[109]]) true).1
theorem ap1 : putM emptySet 97 (0, [[120, 121]]) false = (am1, 0) := by kernel_rfl
theorem ap2 : putM am1 65 (1, [[122]]) false = (am2, 0) := by kernel_rfl
theorem ap3 : putM am2 0 (1, [[108]]) true = (am3, 0) := by kernel_rfl
theorem ap4 : putM am3 0 (1, [[109]]) true = (am4, 0) := by kernel_rfl
theorem ag2 : getM am2 97 = ((1, [[120, 121], [122]]), 0) := by kernel_rfl
theorem ag4 : getM am4 50 = ((1, [[108]]), 0) := by kernel_rfl
theorem ap5 : putM am4 49 (0, [[]]) false = (am4, 1) := by kernel_rfl
theorem rs_xy : runesOf ⟨#[120, 121]⟩ = [120, 121] := by kernel_rfl
theorem rs_z : runesOf ⟨#[122]⟩ = [122] := by kernel_rfl
theorem rs_l : runesOf ⟨#[108]⟩ = [108] := by kernel_rfl
theorem rs_m : runesOf ⟨#[109]⟩ = [109] := by kernel_rfl
theorem rs_0 : runesOf ⟨#[]⟩ = [] := by kernel_rfl
theorem am1_ok : SetOK am1 ∧ am1.length = 38 := putM_ok emptySet_ok (by decide) _ _ _
theorem am2_ok : SetOK am2 ∧ am2.length = 38 := putM_ok am1_ok.1 am1_ok.2 _ _ _
theorem am3_ok : SetOK am3 ∧ am3.length = 38 := putM_ok am2_ok.1 am2_ok.2 _ _ _
theorem am4_ok : SetOK am4 ∧ am4.length = 38 := putM_ok am3_ok.1 am3_ok.2 _ _ _
/-- Put, its answer known. -/
theorem put_known {D : Nat → Prop} {g : Nat} {F : Nat → Prop} {w : World} {m m' : List Slot} {name e : Int} {r : Reg} {v : Value} {del : Bool} (hp : putM m name r del = (m', e)) (h : IsSet D g w m) (hB : ∀ k, w.heap.size ≤ k → D k) (hok : SetOK m) (hn : -2147483648 ≤ name ∧ name ≤ 2147483647) (hv : Sl kRow F w v r.2) (hk : -9223372036854775808 ≤ r.1 ∧ r.1 ≤ 9223372036854775807) (hs : sizeM r.2 ≤ 4611686018427387904) :
    CallsR Try.prog 10 #[.pointer (some ⟨g, 0, none⟩), .int .i32 name, .agg #[.int .i64 r.1, v], .bool del] w fun u w' => Kp (fun k => k = g) w w' ∧ IsSet D g w' m' ∧ u = .int .i64 e := by
  refine (put_calls (name := name) (r := r) (del := del) h hB hok hn hv hk hs).mono fun u w' ⟨h1, h2, h3⟩ => ?_
  rw [hp] at h2 h3
  exact ⟨h1, h2, h3⟩
theorem get_known {D : Nat → Prop} {g : Nat} {w : World} {m : List Slot} {name e : Int} {r : Reg} (hp : getM m name = (r, e)) (h : IsSet D g w m) (hn : -2147483648 ≤ name ∧ name ≤ 2147483647) : CallsR Try.prog 11 #[.pointer (some ⟨g, 0, none⟩), .int .i32 name] w
    fun u w' => Kn w w' ∧ ∃ A c, u = .tuple #[.agg #[.int .i64 r.1, .slice A r.2.length c], .int .i64 e] ∧ Ow kRow (noB w) (noB w) w' (.slice A r.2.length c) r.2 := by
  refine (get_calls h hn).mono fun u w' ⟨h1, A, c, h2, h3⟩ => ?_
  rw [hp] at h2 h3
  exact ⟨h1, A, c, h2, h3⟩
set_option maxHeartbeats 1000000 in
theorem awake_calls {w : World} : CallsR Try.prog 13 #[] w fun u w' => u = .bool true ∧ Kn w w' := by
  refine calls_enter (args := []) Try.func13 rfl rfl ?_
  repeat(first|refine o_nil ?_|(refine o_pass (wants_no rfl rfl rfl ?_) rfl ?_;(focus(first|rfl|assumption|(simp;done)|(simp;omega))))|refine o_pass (wants_not rfl rfl rfl) rfl ?_|(refine o_yes (wants_yes rfl rfl rfl ?_) ?_;(focus(first|rfl|assumption|(simp;done)|(simp;omega))))|refine k_region ?_|(apply k_go;(focus(constructor<;>rfl)))|refine d_nil ?_|(apply o_s;(focus(first|(constructor<;>first|rfl|omega)|(apply Ri.add3<;>first|rfl|omega)|(apply Ri.sub3<;>first|rfl|omega)|(apply Ri.conv3<;>first|rfl|omega)|(apply Ri.eqb<;>rfl)|(apply Ri.neb<;>rfl)|(apply Ri.pT;(focus rfl);(focus(first|rfl|assumption|(simp;done)|(simp;omega)));(focus rfl))|(apply Ri.pF;(focus rfl);(focus(first|rfl|assumption|(simp;done)|(simp;omega)));(focus rfl))));(focus rfl)))
  refine o_enter (n_call rfl) (wants_none rfl) rfl ((new_calls).mono ?_)
  rintro _ w1 ⟨g, rfl, hk1, hg, hS1⟩
  repeat(first|refine o_nil ?_|(refine o_pass (wants_no rfl rfl rfl ?_) rfl ?_;(focus(first|rfl|assumption|(simp;done)|(simp;omega))))|refine o_pass (wants_not rfl rfl rfl) rfl ?_|(refine o_yes (wants_yes rfl rfl rfl ?_) ?_;(focus(first|rfl|assumption|(simp;done)|(simp;omega))))|refine k_region ?_|(apply k_go;(focus(constructor<;>rfl)))|refine d_nil ?_|(apply o_s;(focus(first|(constructor<;>first|rfl|omega)|(apply Ri.add3<;>first|rfl|omega)|(apply Ri.sub3<;>first|rfl|omega)|(apply Ri.conv3<;>first|rfl|omega)|(apply Ri.eqb<;>rfl)|(apply Ri.neb<;>rfl)|(apply Ri.pT;(focus rfl);(focus(first|rfl|assumption|(simp;done)|(simp;omega)));(focus rfl))|(apply Ri.pF;(focus rfl);(focus(first|rfl|assumption|(simp;done)|(simp;omega)));(focus rfl))));(focus rfl)))
  refine k_false rfl ?_
  repeat(first|refine o_nil ?_|(refine o_pass (wants_no rfl rfl rfl ?_) rfl ?_;(focus(first|rfl|assumption|(simp;done)|(simp;omega))))|refine o_pass (wants_not rfl rfl rfl) rfl ?_|(refine o_yes (wants_yes rfl rfl rfl ?_) ?_;(focus(first|rfl|assumption|(simp;done)|(simp;omega))))|refine k_region ?_|(apply k_go;(focus(constructor<;>rfl)))|refine d_nil ?_|(apply o_s;(focus(first|(constructor<;>first|rfl|omega)|(apply Ri.add3<;>first|rfl|omega)|(apply Ri.sub3<;>first|rfl|omega)|(apply Ri.conv3<;>first|rfl|omega)|(apply Ri.eqb<;>rfl)|(apply Ri.neb<;>rfl)|(apply Ri.pT;(focus rfl);(focus(first|rfl|assumption|(simp;done)|(simp;omega)));(focus rfl))|(apply Ri.pF;(focus rfl);(focus(first|rfl|assumption|(simp;done)|(simp;omega)));(focus rfl))));(focus rfl)))
  refine o_enter (n_call rfl) (wants_none rfl) rfl ((char_calls (by decide)).mono ?_)
  rintro _ w2 ⟨hk2, A2, c2, rfl, h2⟩
  rw [rs_xy] at h2
  have z1 := hk1.size
  have z2 := hk2.size
  refine o_enter (n_call rfl) (wants_none rfl) rfl ((put_known (r := (0, [[120, 121]])) ap1 (hS1.kn hk2) (fun k hk => by omega) emptySet_ok (by decide) h2 (by decide) (by decide)).mono ?_)
  rintro _ w3 ⟨hk3, hS3, rfl⟩
  have z3 := hk3.size
  repeat(first|refine o_nil ?_|(refine o_pass (wants_no rfl rfl rfl ?_) rfl ?_;(focus(first|rfl|assumption|(simp;done)|(simp;omega))))|refine o_pass (wants_not rfl rfl rfl) rfl ?_|(refine o_yes (wants_yes rfl rfl rfl ?_) ?_;(focus(first|rfl|assumption|(simp;done)|(simp;omega))))|refine k_region ?_|(apply k_go;(focus(constructor<;>rfl)))|refine d_nil ?_|(apply o_s;(focus(first|(constructor<;>first|rfl|omega)|(apply Ri.add3<;>first|rfl|omega)|(apply Ri.sub3<;>first|rfl|omega)|(apply Ri.conv3<;>first|rfl|omega)|(apply Ri.eqb<;>rfl)|(apply Ri.neb<;>rfl)|(apply Ri.pT;(focus rfl);(focus(first|rfl|assumption|(simp;done)|(simp;omega)));(focus rfl))|(apply Ri.pF;(focus rfl);(focus(first|rfl|assumption|(simp;done)|(simp;omega)));(focus rfl))));(focus rfl)))
  refine o_enter (n_call rfl) (wants_none rfl) rfl ((line_calls (by decide)).mono ?_)
  rintro _ w4 ⟨hk4, A4, c4, rfl, h4⟩
  rw [rs_z] at h4
  have z4 := hk4.size
  refine o_enter (n_call rfl) (wants_none rfl) rfl ((put_known (r := (1, [[122]])) ap2 (hS3.kn hk4) (fun k hk => by omega) am1_ok.1 (by decide) h4 (by decide) (by decide)).mono ?_)
  rintro _ w5 ⟨hk5, hS5, rfl⟩
  have z5 := hk5.size
  repeat(first|refine o_nil ?_|(refine o_pass (wants_no rfl rfl rfl ?_) rfl ?_;(focus(first|rfl|assumption|(simp;done)|(simp;omega))))|refine o_pass (wants_not rfl rfl rfl) rfl ?_|(refine o_yes (wants_yes rfl rfl rfl ?_) ?_;(focus(first|rfl|assumption|(simp;done)|(simp;omega))))|refine k_region ?_|(apply k_go;(focus(constructor<;>rfl)))|refine d_nil ?_|(apply o_s;(focus(first|(constructor<;>first|rfl|omega)|(apply Ri.add3<;>first|rfl|omega)|(apply Ri.sub3<;>first|rfl|omega)|(apply Ri.conv3<;>first|rfl|omega)|(apply Ri.eqb<;>rfl)|(apply Ri.neb<;>rfl)|(apply Ri.pT;(focus rfl);(focus(first|rfl|assumption|(simp;done)|(simp;omega)));(focus rfl))|(apply Ri.pF;(focus rfl);(focus(first|rfl|assumption|(simp;done)|(simp;omega)));(focus rfl))));(focus rfl)))
  refine o_enter (n_call rfl) (wants_none rfl) rfl ((get_known ag2 hS5 (by decide)).mono ?_)
  rintro _ w6 ⟨hk6, A6, c6, rfl, h6⟩
  have z6 := hk6.size
  repeat(first|refine o_nil ?_|(refine o_pass (wants_no rfl rfl rfl ?_) rfl ?_;(focus(first|rfl|assumption|(simp;done)|(simp;omega))))|refine o_pass (wants_not rfl rfl rfl) rfl ?_|(refine o_yes (wants_yes rfl rfl rfl ?_) ?_;(focus(first|rfl|assumption|(simp;done)|(simp;omega))))|refine k_region ?_|(apply k_go;(focus(constructor<;>rfl)))|refine d_nil ?_|(apply o_s;(focus(first|(constructor<;>first|rfl|omega)|(apply Ri.add3<;>first|rfl|omega)|(apply Ri.sub3<;>first|rfl|omega)|(apply Ri.conv3<;>first|rfl|omega)|(apply Ri.eqb<;>rfl)|(apply Ri.neb<;>rfl)|(apply Ri.pT;(focus rfl);(focus(first|rfl|assumption|(simp;done)|(simp;omega)));(focus rfl))|(apply Ri.pF;(focus rfl);(focus(first|rfl|assumption|(simp;done)|(simp;omega)));(focus rfl))));(focus rfl)))
  refine o_any (e_alloc) (wants_none rfl) rfl ?_
  rintro _ w7 ⟨g7, rfl, nb7⟩
  refine o_unit (u_storeA rfl rfl rfl (by simp [Value.oneCell']) rfl nb7.at_ (Nat.le_refl 2)) (wants_none rfl) rfl ?_
  rintro w8 hw8
  repeat(first|refine o_nil ?_|(refine o_pass (wants_no rfl rfl rfl ?_) rfl ?_;(focus(first|rfl|assumption|(simp;done)|(simp;omega))))|refine o_pass (wants_not rfl rfl rfl) rfl ?_|(refine o_yes (wants_yes rfl rfl rfl ?_) ?_;(focus(first|rfl|assumption|(simp;done)|(simp;omega))))|refine k_region ?_|(apply k_go;(focus(constructor<;>rfl)))|refine d_nil ?_|(apply o_s;(focus(first|(constructor<;>first|rfl|omega)|(apply Ri.add3<;>first|rfl|omega)|(apply Ri.sub3<;>first|rfl|omega)|(apply Ri.conv3<;>first|rfl|omega)|(apply Ri.eqb<;>rfl)|(apply Ri.neb<;>rfl)|(apply Ri.pT;(focus rfl);(focus(first|rfl|assumption|(simp;done)|(simp;omega)));(focus rfl))|(apply Ri.pF;(focus rfl);(focus(first|rfl|assumption|(simp;done)|(simp;omega)));(focus rfl))));(focus rfl)))
  have l7 := nb7.lt
  have g7g := nb7.ge
  have z7 := nb7.kn.size
  have z8 := hw8.kp.size
  have hS8 : IsSet (fun k => w.heap.size ≤ k ∧ k ≠ g7) g w8 am2 := (((hS5.kn hk6).mono (D' := fun k => w.heap.size ≤ k ∧ k ≠ g7) fun k hk hl => ⟨hk, by omega⟩).kn nb7.kn).kp hw8.kp fun k hk => hk.2
  have b8 := hw8.at_
  have r8 := Kp.sl hw8.kp (nb7.kn.sl (((h6.slF (F' := fun k => w5.heap.size ≤ k) (fun k hk => hk) (fun k hk => hk)).mono (F' := fun k => w5.heap.size ≤ k ∧ k < w6.heap.size) fun k hk hl => ⟨hk, hl⟩))) (fun k hk => by omega)
  refine o_enter (n_call rfl) (wants_none rfl) rfl ((line_calls (by decide)).mono ?_)
  rintro _ w9 ⟨hk9, A9, c9, rfl, h9⟩
  rw [rs_l] at h9
  have z9 := hk9.size
  refine o_enter (n_call rfl) (wants_none rfl) rfl ((put_known (r := (1, [[108]])) ap3 (hS8.kn hk9) (fun k hk => ⟨by omega, by omega⟩) am2_ok.1 (by decide) h9 (by decide) (by decide)).mono ?_)
  rintro _ w10 ⟨hk10, hS10, rfl⟩
  have z10 := hk10.size
  repeat(first|refine o_nil ?_|(refine o_pass (wants_no rfl rfl rfl ?_) rfl ?_;(focus(first|rfl|assumption|(simp;done)|(simp;omega))))|refine o_pass (wants_not rfl rfl rfl) rfl ?_|(refine o_yes (wants_yes rfl rfl rfl ?_) ?_;(focus(first|rfl|assumption|(simp;done)|(simp;omega))))|refine k_region ?_|(apply k_go;(focus(constructor<;>rfl)))|refine d_nil ?_|(apply o_s;(focus(first|(constructor<;>first|rfl|omega)|(apply Ri.add3<;>first|rfl|omega)|(apply Ri.sub3<;>first|rfl|omega)|(apply Ri.conv3<;>first|rfl|omega)|(apply Ri.eqb<;>rfl)|(apply Ri.neb<;>rfl)|(apply Ri.pT;(focus rfl);(focus(first|rfl|assumption|(simp;done)|(simp;omega)));(focus rfl))|(apply Ri.pF;(focus rfl);(focus(first|rfl|assumption|(simp;done)|(simp;omega)));(focus rfl))));(focus rfl)))
  refine o_enter (n_call rfl) (wants_none rfl) rfl ((line_calls (by decide)).mono ?_)
  rintro _ w11 ⟨hk11, A11, c11, rfl, h11⟩
  rw [rs_m] at h11
  have z11 := hk11.size
  refine o_enter (n_call rfl) (wants_none rfl) rfl ((put_known (r := (1, [[109]])) ap4 (hS10.kn hk11) (fun k hk => ⟨by omega, by omega⟩) am3_ok.1 (by decide) h11 (by decide) (by decide)).mono ?_)
  rintro _ w12 ⟨hk12, hS12, rfl⟩
  have z12 := hk12.size
  repeat(first|refine o_nil ?_|(refine o_pass (wants_no rfl rfl rfl ?_) rfl ?_;(focus(first|rfl|assumption|(simp;done)|(simp;omega))))|refine o_pass (wants_not rfl rfl rfl) rfl ?_|(refine o_yes (wants_yes rfl rfl rfl ?_) ?_;(focus(first|rfl|assumption|(simp;done)|(simp;omega))))|refine k_region ?_|(apply k_go;(focus(constructor<;>rfl)))|refine d_nil ?_|(apply o_s;(focus(first|(constructor<;>first|rfl|omega)|(apply Ri.add3<;>first|rfl|omega)|(apply Ri.sub3<;>first|rfl|omega)|(apply Ri.conv3<;>first|rfl|omega)|(apply Ri.eqb<;>rfl)|(apply Ri.neb<;>rfl)|(apply Ri.pT;(focus rfl);(focus(first|rfl|assumption|(simp;done)|(simp;omega)));(focus rfl))|(apply Ri.pF;(focus rfl);(focus(first|rfl|assumption|(simp;done)|(simp;omega)));(focus rfl))));(focus rfl)))
  refine o_enter (n_call rfl) (wants_none rfl) rfl ((get_known ag4 hS12 (by decide)).mono ?_)
  rintro _ w13 ⟨hk13, A13, c13, rfl, h13⟩
  have z13 := hk13.size
  repeat(first|refine o_nil ?_|(refine o_pass (wants_no rfl rfl rfl ?_) rfl ?_;(focus(first|rfl|assumption|(simp;done)|(simp;omega))))|refine o_pass (wants_not rfl rfl rfl) rfl ?_|(refine o_yes (wants_yes rfl rfl rfl ?_) ?_;(focus(first|rfl|assumption|(simp;done)|(simp;omega))))|refine k_region ?_|(apply k_go;(focus(constructor<;>rfl)))|refine d_nil ?_|(apply o_s;(focus(first|(constructor<;>first|rfl|omega)|(apply Ri.add3<;>first|rfl|omega)|(apply Ri.sub3<;>first|rfl|omega)|(apply Ri.conv3<;>first|rfl|omega)|(apply Ri.eqb<;>rfl)|(apply Ri.neb<;>rfl)|(apply Ri.pT;(focus rfl);(focus(first|rfl|assumption|(simp;done)|(simp;omega)));(focus rfl))|(apply Ri.pF;(focus rfl);(focus(first|rfl|assumption|(simp;done)|(simp;omega)));(focus rfl))));(focus rfl)))
  refine o_any (e_alloc) (wants_none rfl) rfl ?_
  rintro _ w14 ⟨g14, rfl, nb14⟩
  refine o_unit (u_storeA rfl rfl rfl (by simp [Value.oneCell']) rfl nb14.at_ (Nat.le_refl 2)) (wants_none rfl) rfl ?_
  rintro w15 hw15
  have l14 := nb14.lt
  have g14g := nb14.ge
  have z14 := nb14.kn.size
  have z15 := hw15.kp.size
  repeat(first|refine o_nil ?_|(refine o_pass (wants_no rfl rfl rfl ?_) rfl ?_;(focus(first|rfl|assumption|(simp;done)|(simp;omega))))|refine o_pass (wants_not rfl rfl rfl) rfl ?_|(refine o_yes (wants_yes rfl rfl rfl ?_) ?_;(focus(first|rfl|assumption|(simp;done)|(simp;omega))))|refine k_region ?_|(apply k_go;(focus(constructor<;>rfl)))|refine d_nil ?_|(apply o_s;(focus(first|(constructor<;>first|rfl|omega)|(apply Ri.add3<;>first|rfl|omega)|(apply Ri.sub3<;>first|rfl|omega)|(apply Ri.conv3<;>first|rfl|omega)|(apply Ri.eqb<;>rfl)|(apply Ri.neb<;>rfl)|(apply Ri.pT;(focus rfl);(focus(first|rfl|assumption|(simp;done)|(simp;omega)));(focus rfl))|(apply Ri.pF;(focus rfl);(focus(first|rfl|assumption|(simp;done)|(simp;omega)));(focus rfl))));(focus rfl)))
  have gl5 := hS5.lt
  have q3 : Kn w w3 := Kp.then (hk1.trans hk2) hk3 (fun _ h => h.elim) (fun i hi he => by omega)
  have q5 : Kn w w5 := Kp.then (q3.trans hk4) hk5 (fun _ h => h.elim) (fun i hi he => by omega)
  have q8 : Kn w w8 := Kp.then ((q5.trans hk6).trans nb7.kn) hw8.kp (fun _ h => h.elim) (fun i hi he => by omega)
  have q10 : Kn w w10 := Kp.then (q8.trans hk9) hk10 (fun _ h => h.elim) (fun i hi he => by omega)
  have q12 : Kn w w12 := Kp.then (q10.trans hk11) hk12 (fun _ h => h.elim) (fun i hi he => by omega)
  have q15 : Kn w w15 := Kp.then ((q12.trans hk13).trans nb14.kn) hw15.kp (fun _ h => h.elim) (fun i hi he => by omega)
  have r10 := Kp.sl hk10 (hk9.sl r8) (fun k hk => by omega)
  have r12 := Kp.sl hk12 (hk11.sl r10) (fun k hk => by omega)
  have r15 := Kp.sl hw15.kp (nb14.kn.sl (hk13.sl r12)) (fun k hk => by omega)
  have s15 := Kp.sl hw15.kp (nb14.kn.sl ((h13.slF (F' := fun k => w12.heap.size ≤ k) (fun k hk => hk) (fun k hk => hk)).mono (F' := fun k => w12.heap.size ≤ k ∧ k < w13.heap.size) fun k hk hl => ⟨hk, hl⟩)) (fun k hk => by omega)
  have hS15 : IsSet (fun k => (w.heap.size ≤ k ∧ k ≠ g7) ∧ k ≠ g14) g w15 am4 := (((hS12.kn hk13).mono (D' := fun k => (w.heap.size ≤ k ∧ k ≠ g7) ∧ k ≠ g14) fun k hk hl => ⟨hk, by omega⟩).kn nb14.kn).kp hw15.kp fun k hk => hk.2
  have b15 := hw15.at_
  have b8' : w15.heap[g7]? = _ := hw15.kp.blk (nb14.kn.blk (hk13.blk (hk12.blk (hk11.blk (hk10.blk (hk9.blk b8 id) (by have := hS5.lt; omega)) id) (by have := hS5.lt; omega)) id) id) (by omega)
  have e0 : w15.cell? ⟨g7, 0, none⟩ = some (.int .i64 1) := blk_cell b8'
  have e1 : w15.cell? ⟨g7, 1, none⟩ = some (.slice A6 2 c6) := blk_cell b8'
  have f0 : w15.cell? ⟨g14, 0, none⟩ = some (.int .i64 1) := blk_cell b15
  have f1 : w15.cell? ⟨g14, 1, none⟩ = some (.slice A13 1 c13) := blk_cell b15
  refine k_draw ([(0, 0), (1, 0), (2, 0), (3, 0), (4, 0), (5, 0), (6, 0), (7, 0), (8, 0), (9, 0), (10, 0), (11, 0), (12, 0), (13, 0), (14, 0), (15, 0), (16, 0), (17, 0), (18, 0), (19, 0), (20, 0), (21, 0), (22, 0), (23, 0)] ++ ((24, 2) :: (25, 1) :: [(26, 1), (27, 0), (28, 1), (29, 0), (30, 0), (31, 0), (32, 1), (33, 1), (34, 0), (35, 0), (36, 0), (37, 1), (38, 1), (39, 0), (40, 0), (41, 0)])) (by kernel_rfl) (by kernel_rfl) rfl (by kernel_rfl) ?_
  repeat(first|refine d_nil ?_|(refine d_open rfl ?_;first|((first|refine x_pass (wants_no rfl rfl rfl ?_) rfl ?_ ?_|refine x_passNow (wants_no rfl rfl rfl ?_) rfl ?_ ?_);(focus(first|rfl|assumption|(simp;done)|(simp;omega)));(focus(first|exact St.refl _|assumption)))|((first|refine x_pass (wants_not rfl rfl rfl) rfl ?_ ?_|refine x_passNow (wants_not rfl rfl rfl) rfl ?_ ?_);(focus(first|exact St.refl _|assumption)))|((first|apply x_s|apply x_n);(focus(first|(constructor<;>first|rfl|omega)|(apply Ri.add3<;>first|rfl|omega)|(apply Ri.sub3<;>first|rfl|omega)|(apply Ri.conv3<;>first|rfl|omega)|(apply Ri.eqb<;>rfl)|(apply Ri.neb<;>rfl)|(apply Ri.pT;(focus rfl);(focus(first|rfl|assumption|(simp;done)|(simp;omega)));(focus rfl))|(apply Ri.pF;(focus rfl);(focus(first|rfl|assumption|(simp;done)|(simp;omega)));(focus rfl))));(focus(first|exact wants_none rfl|exact wants_yes rfl rfl rfl (by first|rfl|assumption|(simp;done)|(simp;omega))));(focus rfl);(focus(first|exact St.refl _|assumption)))))
  refine d_open rfl ?_; refine x_still (r_loadA (cs := [.int .i64 1, .slice A6 2 c6]) rfl rfl (by
    intro j u hu
    match j, hu with
    | 0, hu => cases hu; exact e0
    | 1, hu => cases hu; exact e1)) (wants_yes rfl rfl rfl (by first | rfl | assumption | (simp; done) | (simp; omega))) rfl (by first | exact St.refl _ | assumption) ?_
  refine d_branch2 (i := 24) (j := 25) (l1 := (25, 1) :: [(26, 1), (27, 0), (28, 1), (29, 0), (30, 0), (31, 0), (32, 1), (33, 1), (34, 0), (35, 0), (36, 0), (37, 1), (38, 1), (39, 0), (40, 0), (41, 0)]) (l2 := (24, 1) :: [(26, 1), (27, 0), (28, 1), (29, 0), (30, 0), (31, 0), (32, 1), (33, 1), (34, 0), (35, 0), (36, 0), (37, 1), (38, 1), (39, 0), (40, 0), (41, 0)]) (by kernel_rfl) rfl rfl (by kernel_rfl) (by kernel_rfl) ?_ ?_
  · refine br_any rfl (e_lit (qs := [(0, .int .i32 120), (1, .int .i32 121)]) (cells := #[.int .i32 120, .int .i32 121]) rfl (by decide) (by kernel_rfl)) (wants_yes rfl rfl rfl (by first | rfl | assumption | (simp; done) | (simp; omega))) rfl ?_
    rintro _ w16 ⟨gx, rfl, nbx⟩
    refine .inl ⟨nbx.kn.st, ?_⟩
    refine d_open rfl ?_
    refine x_any (e_one (z := .int .i32 0) (sz := 1) rfl rfl rfl (by decide)) (wants_yes rfl rfl rfl (by first | rfl | assumption | (simp; done) | (simp; omega))) rfl ?_
    rintro _ w17 ⟨gz, rfl, nbz⟩
    have kn17 : Kn w15 w17 := nbx.kn.trans nbz.kn
    refine .inl ⟨kn17.st, ?_⟩
    have bx : w17.heap[gx]? = some (.cells [Value.int .i32 120, .int .i32 121].toArray 21 (0, 0)) := nbz.kn.blk nbx.at_ id
    have bz : w17.heap[gz]? = some (.cells [Value.int .i32 122].toArray 21 (0, 0)) := nbz.at_
    have lx : w15.heap.size ≤ gx := nbx.ge
    have lz : w15.heap.size ≤ gz := Nat.le_trans nbx.kn.size nbz.ge
    have z17 := kn17.size
    have hst17 := kn17.st
    refine d_open rfl ?_
    refine x_any (e_lit (qs := [(0, .slice (some ⟨gx, 0, none⟩) 2 2), (1, .slice (some ⟨gz, 0, none⟩) 1 1)]) (cells := #[.slice (some ⟨gx, 0, none⟩) 2 2, .slice (some ⟨gz, 0, none⟩) 1 1]) rfl (by decide) (by kernel_rfl)) (wants_yes rfl rfl rfl (by first | rfl | assumption | (simp; done) | (simp; omega))) rfl ?_
    rintro _ w18 ⟨gl, rfl, nbl⟩
    have kn18 : Kn w15 w18 := kn17.trans nbl.kn
    refine .inl ⟨kn18.st, ?_⟩
    have hst18 := kn18.st
    have z18 := nbl.kn.size
    have lgl := nbl.ge
    have sx := sl_blk (d := kRune) (F := fun k => w15.heap.size ≤ k) (xs := [120, 121]) (nbl.kn.blk bx id) ⟨_, _, rfl, ⟨rfl, by decide, by decide⟩, ⟨_, _, rfl, ⟨rfl, by decide, by decide⟩, rfl⟩⟩ lx (show 2 * 4 ≤ 140737488355328 by decide)
    have sz := sl_blk (d := kRune) (F := fun k => w15.heap.size ≤ k) (xs := [122]) (nbl.kn.blk bz id) ⟨_, _, rfl, ⟨rfl, by decide, by decide⟩, rfl⟩ lz (show 1 * 4 ≤ 140737488355328 by decide)
    have sl := sl_blk (d := kRow) (F := fun k => w15.heap.size ≤ k) (xs := [[120, 121], [122]]) (cells := [.slice (some ⟨gx, 0, none⟩) 2 2, .slice (some ⟨gz, 0, none⟩) 1 1]) nbl.at_ ⟨_, _, rfl, ⟨_, rfl, sx⟩, ⟨_, _, rfl, ⟨_, rfl, sz⟩, rfl⟩⟩ (by omega) (show 2 * 24 ≤ 140737488355328 by decide)
    refine d_open rfl ?_; refine x_still (r_build (c := #[.int .i64 1, .slice (some ⟨gl, 0, none⟩) 2 2]) rfl rfl) (wants_yes rfl rfl rfl (by first | rfl | assumption | (simp; done) | (simp; omega))) rfl (by first | exact St.refl _ | assumption) ?_
    refine d_open rfl ?_; refine x_enter (n_call rfl) (wants_yes rfl rfl rfl (by first | rfl | assumption | (simp; done) | (simp; omega))) rfl ((same12_calls (r := (1, [[120, 121], [122]])) (s := (1, [[120, 121], [122]])) (kn18.sl r15) sl).mono ?_)
    rintro v19 w19 ⟨hk19, hv⟩
    rw [decide_eq_true rfl] at hv
    subst hv
    have kn19 : Kn w15 w19 := kn18.trans hk19
    refine .inl ⟨kn19.st, ?_⟩
    have hst19 := kn19.st
    repeat(first|refine d_nil ?_|(refine d_open rfl ?_;first|((first|refine x_pass (wants_no rfl rfl rfl ?_) rfl ?_ ?_|refine x_passNow (wants_no rfl rfl rfl ?_) rfl ?_ ?_);(focus(first|rfl|assumption|(simp;done)|(simp;omega)));(focus(first|exact St.refl _|assumption)))|((first|refine x_pass (wants_not rfl rfl rfl) rfl ?_ ?_|refine x_passNow (wants_not rfl rfl rfl) rfl ?_ ?_);(focus(first|exact St.refl _|assumption)))|((first|apply x_s|apply x_n);(focus(first|(constructor<;>first|rfl|omega)|(apply Ri.add3<;>first|rfl|omega)|(apply Ri.sub3<;>first|rfl|omega)|(apply Ri.conv3<;>first|rfl|omega)|(apply Ri.eqb<;>rfl)|(apply Ri.neb<;>rfl)|(apply Ri.pT;(focus rfl);(focus(first|rfl|assumption|(simp;done)|(simp;omega)));(focus rfl))|(apply Ri.pF;(focus rfl);(focus(first|rfl|assumption|(simp;done)|(simp;omega)));(focus rfl))));(focus(first|exact wants_none rfl|exact wants_yes rfl rfl rfl (by first|rfl|assumption|(simp;done)|(simp;omega))));(focus rfl);(focus(first|exact St.refl _|assumption)))))
    refine d_open rfl ?_; refine x_still (r_loadA (cs := [.int .i64 1, .slice A13 1 c13]) rfl rfl (by
      intro j u hu
      match j, hu with
      | 0, hu => cases hu; exact f0
      | 1, hu => cases hu; exact f1)) (wants_yes rfl rfl rfl (by first | rfl | assumption | (simp; done) | (simp; omega))) rfl (by first | exact St.refl _ | assumption) ?_
    refine d_open rfl ?_; refine x_enter (n_call rfl) (wants_yes rfl rfl rfl (by first | rfl | assumption | (simp; done) | (simp; omega))) rfl ((line_calls (by decide)).mono ?_)
    rintro _ w20 ⟨hk20, A20, c20, rfl, h20⟩
    rw [rs_l] at h20
    have kn20 : Kn w15 w20 := kn19.trans hk20
    refine .inl ⟨kn20.st, ?_⟩
    have hst20 := kn20.st
    refine d_open rfl ?_; refine x_enter (n_call rfl) (wants_yes rfl rfl rfl (by first | rfl | assumption | (simp; done) | (simp; omega))) rfl ((same12_calls (r := (1, [[108]])) (s := (1, [[108]])) (kn20.sl s15) h20).mono ?_)
    rintro v21 w21 ⟨hk21, hv⟩
    rw [decide_eq_true rfl] at hv
    subst hv
    have kn21 : Kn w15 w21 := kn20.trans hk21
    refine .inl ⟨kn21.st, ?_⟩
    have hst21 := kn21.st
    repeat(first|refine d_nil ?_|(refine d_open rfl ?_;first|((first|refine x_pass (wants_no rfl rfl rfl ?_) rfl ?_ ?_|refine x_passNow (wants_no rfl rfl rfl ?_) rfl ?_ ?_);(focus(first|rfl|assumption|(simp;done)|(simp;omega)));(focus(first|exact St.refl _|assumption)))|((first|refine x_pass (wants_not rfl rfl rfl) rfl ?_ ?_|refine x_passNow (wants_not rfl rfl rfl) rfl ?_ ?_);(focus(first|exact St.refl _|assumption)))|((first|apply x_s|apply x_n);(focus(first|(constructor<;>first|rfl|omega)|(apply Ri.add3<;>first|rfl|omega)|(apply Ri.sub3<;>first|rfl|omega)|(apply Ri.conv3<;>first|rfl|omega)|(apply Ri.eqb<;>rfl)|(apply Ri.neb<;>rfl)|(apply Ri.pT;(focus rfl);(focus(first|rfl|assumption|(simp;done)|(simp;omega)));(focus rfl))|(apply Ri.pF;(focus rfl);(focus(first|rfl|assumption|(simp;done)|(simp;omega)));(focus rfl))));(focus(first|exact wants_none rfl|exact wants_yes rfl rfl rfl (by first|rfl|assumption|(simp;done)|(simp;omega))));(focus rfl);(focus(first|exact St.refl _|assumption)))))
    refine d_open rfl ?_; refine x_enter (n_call rfl) (wants_yes rfl rfl rfl (by first | rfl | assumption | (simp; done) | (simp; omega))) rfl ((char_calls (by decide)).mono ?_)
    rintro _ w22 ⟨hk22, A22, c22, rfl, h22⟩
    rw [rs_0] at h22
    have kn22 : Kn w15 w22 := kn21.trans hk22
    refine .inl ⟨kn22.st, ?_⟩
    have hst22 := kn22.st
    have z22 := kn22.size
    refine d_open rfl ?_; refine x_enter (n_call rfl) (wants_yes rfl rfl rfl (by first | rfl | assumption | (simp; done) | (simp; omega))) rfl ((put_known (r := (0, [[]])) ap5 (hS15.kn kn22) (fun k hk => ⟨⟨by omega, by omega⟩, by omega⟩) am4_ok.1 (by decide) h22 (by decide) (by decide)).mono ?_)
    rintro _ w23 ⟨hk23, hS23, rfl⟩
    refine .inr ⟨(by kernel_rfl), ?_⟩
    repeat(first|refine d_nil ?_|(refine d_open rfl ?_;first|((first|refine x_pass (wants_no rfl rfl rfl ?_) rfl ?_ ?_|refine x_passNow (wants_no rfl rfl rfl ?_) rfl ?_ ?_);(focus(first|rfl|assumption|(simp;done)|(simp;omega)));(focus(first|exact St.refl _|assumption)))|((first|refine x_pass (wants_not rfl rfl rfl) rfl ?_ ?_|refine x_passNow (wants_not rfl rfl rfl) rfl ?_ ?_);(focus(first|exact St.refl _|assumption)))|((first|apply x_s|apply x_n);(focus(first|(constructor<;>first|rfl|omega)|(apply Ri.add3<;>first|rfl|omega)|(apply Ri.sub3<;>first|rfl|omega)|(apply Ri.conv3<;>first|rfl|omega)|(apply Ri.eqb<;>rfl)|(apply Ri.neb<;>rfl)|(apply Ri.pT;(focus rfl);(focus(first|rfl|assumption|(simp;done)|(simp;omega)));(focus rfl))|(apply Ri.pF;(focus rfl);(focus(first|rfl|assumption|(simp;done)|(simp;omega)));(focus rfl))));(focus(first|exact wants_none rfl|exact wants_yes rfl rfl rfl (by first|rfl|assumption|(simp;done)|(simp;omega))));(focus rfl);(focus(first|exact St.refl _|assumption)))))
    repeat(first|refine o_nil ?_|(refine o_pass (wants_no rfl rfl rfl ?_) rfl ?_;(focus(first|rfl|assumption|(simp;done)|(simp;omega))))|refine o_pass (wants_not rfl rfl rfl) rfl ?_|(refine o_yes (wants_yes rfl rfl rfl ?_) ?_;(focus(first|rfl|assumption|(simp;done)|(simp;omega))))|refine k_region ?_|(apply k_go;(focus(constructor<;>rfl)))|refine d_nil ?_|(apply o_s;(focus(first|(constructor<;>first|rfl|omega)|(apply Ri.add3<;>first|rfl|omega)|(apply Ri.sub3<;>first|rfl|omega)|(apply Ri.conv3<;>first|rfl|omega)|(apply Ri.eqb<;>rfl)|(apply Ri.neb<;>rfl)|(apply Ri.pT;(focus rfl);(focus(first|rfl|assumption|(simp;done)|(simp;omega)));(focus rfl))|(apply Ri.pF;(focus rfl);(focus(first|rfl|assumption|(simp;done)|(simp;omega)));(focus rfl))));(focus rfl)))
    refine k_ret1 rfl rfl ⟨rfl, Kp.then (q15.trans kn22) hk23 (fun _ h => h.elim) (fun i hi he => by omega)⟩
  · refine br_any rfl (e_one (z := .int .i32 0) (sz := 1) rfl rfl rfl (by decide)) (wants_yes rfl rfl rfl (by first | rfl | assumption | (simp; done) | (simp; omega))) rfl ?_
    rintro _ w16 ⟨gz, rfl, nbz⟩
    refine .inl ⟨nbz.kn.st, ?_⟩
    refine d_open rfl ?_
    refine x_any (e_lit (qs := [(0, .int .i32 120), (1, .int .i32 121)]) (cells := #[.int .i32 120, .int .i32 121]) rfl (by decide) (by kernel_rfl)) (wants_yes rfl rfl rfl (by first | rfl | assumption | (simp; done) | (simp; omega))) rfl ?_
    rintro _ w17 ⟨gx, rfl, nbx⟩
    have kn17 : Kn w15 w17 := nbz.kn.trans nbx.kn
    refine .inl ⟨kn17.st, ?_⟩
    have bx : w17.heap[gx]? = some (.cells [Value.int .i32 120, .int .i32 121].toArray 21 (0, 0)) := nbx.at_
    have bz : w17.heap[gz]? = some (.cells [Value.int .i32 122].toArray 21 (0, 0)) := nbx.kn.blk nbz.at_ id
    have lx : w15.heap.size ≤ gx := Nat.le_trans nbz.kn.size nbx.ge
    have lz : w15.heap.size ≤ gz := nbz.ge
    have z17 := kn17.size
    have hst17 := kn17.st
    refine d_open rfl ?_
    refine x_any (e_lit (qs := [(0, .slice (some ⟨gx, 0, none⟩) 2 2), (1, .slice (some ⟨gz, 0, none⟩) 1 1)]) (cells := #[.slice (some ⟨gx, 0, none⟩) 2 2, .slice (some ⟨gz, 0, none⟩) 1 1]) rfl (by decide) (by kernel_rfl)) (wants_yes rfl rfl rfl (by first | rfl | assumption | (simp; done) | (simp; omega))) rfl ?_
    rintro _ w18 ⟨gl, rfl, nbl⟩
    have kn18 : Kn w15 w18 := kn17.trans nbl.kn
    refine .inl ⟨kn18.st, ?_⟩
    have hst18 := kn18.st
    have z18 := nbl.kn.size
    have lgl := nbl.ge
    have sx := sl_blk (d := kRune) (F := fun k => w15.heap.size ≤ k) (xs := [120, 121]) (nbl.kn.blk bx id) ⟨_, _, rfl, ⟨rfl, by decide, by decide⟩, ⟨_, _, rfl, ⟨rfl, by decide, by decide⟩, rfl⟩⟩ lx (show 2 * 4 ≤ 140737488355328 by decide)
    have sz := sl_blk (d := kRune) (F := fun k => w15.heap.size ≤ k) (xs := [122]) (nbl.kn.blk bz id) ⟨_, _, rfl, ⟨rfl, by decide, by decide⟩, rfl⟩ lz (show 1 * 4 ≤ 140737488355328 by decide)
    have sl := sl_blk (d := kRow) (F := fun k => w15.heap.size ≤ k) (xs := [[120, 121], [122]]) (cells := [.slice (some ⟨gx, 0, none⟩) 2 2, .slice (some ⟨gz, 0, none⟩) 1 1]) nbl.at_ ⟨_, _, rfl, ⟨_, rfl, sx⟩, ⟨_, _, rfl, ⟨_, rfl, sz⟩, rfl⟩⟩ (by omega) (show 2 * 24 ≤ 140737488355328 by decide)
    refine d_open rfl ?_; refine x_still (r_build (c := #[.int .i64 1, .slice (some ⟨gl, 0, none⟩) 2 2]) rfl rfl) (wants_yes rfl rfl rfl (by first | rfl | assumption | (simp; done) | (simp; omega))) rfl (by first | exact St.refl _ | assumption) ?_
    refine d_open rfl ?_; refine x_enter (n_call rfl) (wants_yes rfl rfl rfl (by first | rfl | assumption | (simp; done) | (simp; omega))) rfl ((same12_calls (r := (1, [[120, 121], [122]])) (s := (1, [[120, 121], [122]])) (kn18.sl r15) sl).mono ?_)
    rintro v19 w19 ⟨hk19, hv⟩
    rw [decide_eq_true rfl] at hv
    subst hv
    have kn19 : Kn w15 w19 := kn18.trans hk19
    refine .inl ⟨kn19.st, ?_⟩
    have hst19 := kn19.st
    repeat(first|refine d_nil ?_|(refine d_open rfl ?_;first|((first|refine x_pass (wants_no rfl rfl rfl ?_) rfl ?_ ?_|refine x_passNow (wants_no rfl rfl rfl ?_) rfl ?_ ?_);(focus(first|rfl|assumption|(simp;done)|(simp;omega)));(focus(first|exact St.refl _|assumption)))|((first|refine x_pass (wants_not rfl rfl rfl) rfl ?_ ?_|refine x_passNow (wants_not rfl rfl rfl) rfl ?_ ?_);(focus(first|exact St.refl _|assumption)))|((first|apply x_s|apply x_n);(focus(first|(constructor<;>first|rfl|omega)|(apply Ri.add3<;>first|rfl|omega)|(apply Ri.sub3<;>first|rfl|omega)|(apply Ri.conv3<;>first|rfl|omega)|(apply Ri.eqb<;>rfl)|(apply Ri.neb<;>rfl)|(apply Ri.pT;(focus rfl);(focus(first|rfl|assumption|(simp;done)|(simp;omega)));(focus rfl))|(apply Ri.pF;(focus rfl);(focus(first|rfl|assumption|(simp;done)|(simp;omega)));(focus rfl))));(focus(first|exact wants_none rfl|exact wants_yes rfl rfl rfl (by first|rfl|assumption|(simp;done)|(simp;omega))));(focus rfl);(focus(first|exact St.refl _|assumption)))))
    refine d_open rfl ?_; refine x_still (r_loadA (cs := [.int .i64 1, .slice A13 1 c13]) rfl rfl (by
      intro j u hu
      match j, hu with
      | 0, hu => cases hu; exact f0
      | 1, hu => cases hu; exact f1)) (wants_yes rfl rfl rfl (by first | rfl | assumption | (simp; done) | (simp; omega))) rfl (by first | exact St.refl _ | assumption) ?_
    refine d_open rfl ?_; refine x_enter (n_call rfl) (wants_yes rfl rfl rfl (by first | rfl | assumption | (simp; done) | (simp; omega))) rfl ((line_calls (by decide)).mono ?_)
    rintro _ w20 ⟨hk20, A20, c20, rfl, h20⟩
    rw [rs_l] at h20
    have kn20 : Kn w15 w20 := kn19.trans hk20
    refine .inl ⟨kn20.st, ?_⟩
    have hst20 := kn20.st
    refine d_open rfl ?_; refine x_enter (n_call rfl) (wants_yes rfl rfl rfl (by first | rfl | assumption | (simp; done) | (simp; omega))) rfl ((same12_calls (r := (1, [[108]])) (s := (1, [[108]])) (kn20.sl s15) h20).mono ?_)
    rintro v21 w21 ⟨hk21, hv⟩
    rw [decide_eq_true rfl] at hv
    subst hv
    have kn21 : Kn w15 w21 := kn20.trans hk21
    refine .inl ⟨kn21.st, ?_⟩
    have hst21 := kn21.st
    repeat(first|refine d_nil ?_|(refine d_open rfl ?_;first|((first|refine x_pass (wants_no rfl rfl rfl ?_) rfl ?_ ?_|refine x_passNow (wants_no rfl rfl rfl ?_) rfl ?_ ?_);(focus(first|rfl|assumption|(simp;done)|(simp;omega)));(focus(first|exact St.refl _|assumption)))|((first|refine x_pass (wants_not rfl rfl rfl) rfl ?_ ?_|refine x_passNow (wants_not rfl rfl rfl) rfl ?_ ?_);(focus(first|exact St.refl _|assumption)))|((first|apply x_s|apply x_n);(focus(first|(constructor<;>first|rfl|omega)|(apply Ri.add3<;>first|rfl|omega)|(apply Ri.sub3<;>first|rfl|omega)|(apply Ri.conv3<;>first|rfl|omega)|(apply Ri.eqb<;>rfl)|(apply Ri.neb<;>rfl)|(apply Ri.pT;(focus rfl);(focus(first|rfl|assumption|(simp;done)|(simp;omega)));(focus rfl))|(apply Ri.pF;(focus rfl);(focus(first|rfl|assumption|(simp;done)|(simp;omega)));(focus rfl))));(focus(first|exact wants_none rfl|exact wants_yes rfl rfl rfl (by first|rfl|assumption|(simp;done)|(simp;omega))));(focus rfl);(focus(first|exact St.refl _|assumption)))))
    refine d_open rfl ?_; refine x_enter (n_call rfl) (wants_yes rfl rfl rfl (by first | rfl | assumption | (simp; done) | (simp; omega))) rfl ((char_calls (by decide)).mono ?_)
    rintro _ w22 ⟨hk22, A22, c22, rfl, h22⟩
    rw [rs_0] at h22
    have kn22 : Kn w15 w22 := kn21.trans hk22
    refine .inl ⟨kn22.st, ?_⟩
    have hst22 := kn22.st
    have z22 := kn22.size
    refine d_open rfl ?_; refine x_enter (n_call rfl) (wants_yes rfl rfl rfl (by first | rfl | assumption | (simp; done) | (simp; omega))) rfl ((put_known (r := (0, [[]])) ap5 (hS15.kn kn22) (fun k hk => ⟨⟨by omega, by omega⟩, by omega⟩) am4_ok.1 (by decide) h22 (by decide) (by decide)).mono ?_)
    rintro _ w23 ⟨hk23, hS23, rfl⟩
    refine .inr ⟨(by kernel_rfl), ?_⟩
    repeat(first|refine d_nil ?_|(refine d_open rfl ?_;first|((first|refine x_pass (wants_no rfl rfl rfl ?_) rfl ?_ ?_|refine x_passNow (wants_no rfl rfl rfl ?_) rfl ?_ ?_);(focus(first|rfl|assumption|(simp;done)|(simp;omega)));(focus(first|exact St.refl _|assumption)))|((first|refine x_pass (wants_not rfl rfl rfl) rfl ?_ ?_|refine x_passNow (wants_not rfl rfl rfl) rfl ?_ ?_);(focus(first|exact St.refl _|assumption)))|((first|apply x_s|apply x_n);(focus(first|(constructor<;>first|rfl|omega)|(apply Ri.add3<;>first|rfl|omega)|(apply Ri.sub3<;>first|rfl|omega)|(apply Ri.conv3<;>first|rfl|omega)|(apply Ri.eqb<;>rfl)|(apply Ri.neb<;>rfl)|(apply Ri.pT;(focus rfl);(focus(first|rfl|assumption|(simp;done)|(simp;omega)));(focus rfl))|(apply Ri.pF;(focus rfl);(focus(first|rfl|assumption|(simp;done)|(simp;omega)));(focus rfl))));(focus(first|exact wants_none rfl|exact wants_yes rfl rfl rfl (by first|rfl|assumption|(simp;done)|(simp;omega))));(focus rfl);(focus(first|exact St.refl _|assumption)))))
    repeat(first|refine o_nil ?_|(refine o_pass (wants_no rfl rfl rfl ?_) rfl ?_;(focus(first|rfl|assumption|(simp;done)|(simp;omega))))|refine o_pass (wants_not rfl rfl rfl) rfl ?_|(refine o_yes (wants_yes rfl rfl rfl ?_) ?_;(focus(first|rfl|assumption|(simp;done)|(simp;omega))))|refine k_region ?_|(apply k_go;(focus(constructor<;>rfl)))|refine d_nil ?_|(apply o_s;(focus(first|(constructor<;>first|rfl|omega)|(apply Ri.add3<;>first|rfl|omega)|(apply Ri.sub3<;>first|rfl|omega)|(apply Ri.conv3<;>first|rfl|omega)|(apply Ri.eqb<;>rfl)|(apply Ri.neb<;>rfl)|(apply Ri.pT;(focus rfl);(focus(first|rfl|assumption|(simp;done)|(simp;omega)));(focus rfl))|(apply Ri.pF;(focus rfl);(focus(first|rfl|assumption|(simp;done)|(simp;omega)));(focus rfl))));(focus rfl)))
    refine k_ret1 rfl rfl ⟨rfl, Kp.then (q15.trans kn22) hk23 (fun _ h => h.elim) (fun i hi he => by omega)⟩
end Go.Ink
