/-
  The document's Clip, Ahead, Places; small, row.
-/
import Derived.Test.YtabmggnljijhkaaF2
set_option linter.unusedVariables false
set_option linter.unusedSimpArgs false
namespace Go.Ink
open Go Go.Proofs

section
variable {F : Nat → Prop} {w : World} {v : Value} {l : List (List Int)} {p q : Ps}
set_option maxHeartbeats 1000000 in
theorem clipR_calls (h : Sl kRow F w v l) (hp : P64 p) : CallsR Try.prog 12 #[v, posV p] w fun u w' => Kn w w' ∧ u = posV (clipM l p) := by
  obtain ⟨A, c, rfl, hc, hlf⟩ := h.form
  have hlen := hlf.len
  refine calls_enter Try.func12 rfl rfl ?_
  repeat(first|refine o_nil ?_|(refine o_pass (wants_no rfl rfl rfl ?_) rfl ?_;(focus(first|rfl|assumption|(simp;done)|(simp;omega))))|refine o_pass (wants_not rfl rfl rfl) rfl ?_|(refine o_yes (wants_yes rfl rfl rfl ?_) ?_;(focus(first|rfl|assumption|(simp;done)|(simp;omega))))|refine k_region ?_|(apply k_go;(focus(constructor<;>rfl)))|refine d_nil ?_|(apply o_s;(focus(first|(constructor<;>first|rfl|omega)|(apply Ri.add3<;>first|rfl|omega)|(apply Ri.sub3<;>first|rfl|omega)|(apply Ri.conv3<;>first|rfl|omega)|(apply Ri.eqb<;>rfl)|(apply Ri.neb<;>rfl)|(apply Ri.pT;(focus rfl);(focus(first|rfl|assumption|(simp;done)|(simp;omega)));(focus rfl))|(apply Ri.pF;(focus rfl);(focus(first|rfl|assumption|(simp;done)|(simp;omega)));(focus rfl))));(focus rfl)))
  refine o_any (e_box rfl) (wants_none rfl) rfl ?_
  rintro _ w1 ⟨g1, rfl, nb1⟩
  refine o_any (e_alloc) (wants_none rfl) rfl ?_
  rintro _ w2 ⟨g2, rfl, nb2⟩
  have k2 : Kn w w2 := nb1.kn.trans nb2.kn
  have b1 := nb2.kn.blk nb1.at_ id
  have e1 := nb1.ge
  have l1 := nb1.lt
  have e2 := nb2.ge
  have z1 := nb1.kn.size
  by_cases hn : l = []
  · repeat(first|refine o_nil ?_|(refine o_pass (wants_no rfl rfl rfl ?_) rfl ?_;(focus(first|rfl|assumption|(simp;done)|(simp;omega))))|refine o_pass (wants_not rfl rfl rfl) rfl ?_|(refine o_yes (wants_yes rfl rfl rfl ?_) ?_;(focus(first|rfl|assumption|(simp;done)|(simp;omega))))|refine k_region ?_|(apply k_go;(focus(constructor<;>rfl)))|refine d_nil ?_|(apply o_s;(focus(first|(constructor<;>first|rfl|omega)|(apply Ri.add3<;>first|rfl|omega)|(apply Ri.sub3<;>first|rfl|omega)|(apply Ri.conv3<;>first|rfl|omega)|(apply Ri.eqb<;>rfl)|(apply Ri.neb<;>rfl)|(apply Ri.pT;(focus rfl);(focus(first|rfl|assumption|(simp;done)|(simp;omega)));(focus rfl))|(apply Ri.pF;(focus rfl);(focus(first|rfl|assumption|(simp;done)|(simp;omega)));(focus rfl))));(focus rfl)))
    refine k_yes rfl (by rw [hn]; rfl) ?_
    repeat(first|refine o_nil ?_|(refine o_pass (wants_no rfl rfl rfl ?_) rfl ?_;(focus(first|rfl|assumption|(simp;done)|(simp;omega))))|refine o_pass (wants_not rfl rfl rfl) rfl ?_|(refine o_yes (wants_yes rfl rfl rfl ?_) ?_;(focus(first|rfl|assumption|(simp;done)|(simp;omega))))|refine k_region ?_|(apply k_go;(focus(constructor<;>rfl)))|refine d_nil ?_|(apply o_s;(focus(first|(constructor<;>first|rfl|omega)|(apply Ri.add3<;>first|rfl|omega)|(apply Ri.sub3<;>first|rfl|omega)|(apply Ri.conv3<;>first|rfl|omega)|(apply Ri.eqb<;>rfl)|(apply Ri.neb<;>rfl)|(apply Ri.pT;(focus rfl);(focus(first|rfl|assumption|(simp;done)|(simp;omega)));(focus rfl))|(apply Ri.pF;(focus rfl);(focus(first|rfl|assumption|(simp;done)|(simp;omega)));(focus rfl))));(focus rfl)))
    refine o_unit (u_storeA rfl rfl rfl (by simp [Value.oneCell']) rfl nb2.at_ (Nat.le_refl 2)) (wants_none rfl) rfl ?_
    rintro w4 hw4
    repeat(first|refine o_nil ?_|(refine o_pass (wants_no rfl rfl rfl ?_) rfl ?_;(focus(first|rfl|assumption|(simp;done)|(simp;omega))))|refine o_pass (wants_not rfl rfl rfl) rfl ?_|(refine o_yes (wants_yes rfl rfl rfl ?_) ?_;(focus(first|rfl|assumption|(simp;done)|(simp;omega))))|refine k_region ?_|(apply k_go;(focus(constructor<;>rfl)))|refine d_nil ?_|(apply o_s;(focus(first|(constructor<;>first|rfl|omega)|(apply Ri.add3<;>first|rfl|omega)|(apply Ri.sub3<;>first|rfl|omega)|(apply Ri.conv3<;>first|rfl|omega)|(apply Ri.eqb<;>rfl)|(apply Ri.neb<;>rfl)|(apply Ri.pT;(focus rfl);(focus(first|rfl|assumption|(simp;done)|(simp;omega)));(focus rfl))|(apply Ri.pF;(focus rfl);(focus(first|rfl|assumption|(simp;done)|(simp;omega)));(focus rfl))));(focus rfl)))
    have hk4 : Kn w w4 := Kp.then k2 hw4.kp (fun _ h => h) fun i hi he => by omega
    refine k_retR1 rfl (.agg rfl rfl (blk_all hw4.at_) .nil) ⟨hk4, ?_⟩
    unfold clipM
    rw [if_pos hn]
    rfl
  have hpos := List.length_pos_iff.2 hn
  obtain ⟨hil, hie⟩ := lineOf_lt (p := p) hn
  have f0 : w2.cell? ⟨g1, 0, none⟩ = some (.int .i64 p.1) := blk_cell b1
  repeat(first|refine o_nil ?_|(refine o_pass (wants_no rfl rfl rfl ?_) rfl ?_;(focus(first|rfl|assumption|(simp;done)|(simp;omega))))|refine o_pass (wants_not rfl rfl rfl) rfl ?_|(refine o_yes (wants_yes rfl rfl rfl ?_) ?_;(focus(first|rfl|assumption|(simp;done)|(simp;omega))))|refine k_region ?_|(apply k_go;(focus(constructor<;>rfl)))|refine d_nil ?_|(apply o_s;(focus(first|(constructor<;>first|rfl|omega)|(apply Ri.add3<;>first|rfl|omega)|(apply Ri.sub3<;>first|rfl|omega)|(apply Ri.conv3<;>first|rfl|omega)|(apply Ri.eqb<;>rfl)|(apply Ri.neb<;>rfl)|(apply Ri.pT;(focus rfl);(focus(first|rfl|assumption|(simp;done)|(simp;omega)));(focus rfl))|(apply Ri.pF;(focus rfl);(focus(first|rfl|assumption|(simp;done)|(simp;omega)));(focus rfl))));(focus rfl)))
  refine k_no rfl (by omega) ?_
  repeat(first|refine o_nil ?_|(refine o_pass (wants_no rfl rfl rfl ?_) rfl ?_;(focus(first|rfl|assumption|(simp;done)|(simp;omega))))|refine o_pass (wants_not rfl rfl rfl) rfl ?_|(refine o_yes (wants_yes rfl rfl rfl ?_) ?_;(focus(first|rfl|assumption|(simp;done)|(simp;omega))))|refine k_region ?_|(apply k_go;(focus(constructor<;>rfl)))|refine d_nil ?_|(apply o_s;(focus(first|(constructor<;>first|rfl|omega)|(apply Ri.add3<;>first|rfl|omega)|(apply Ri.sub3<;>first|rfl|omega)|(apply Ri.conv3<;>first|rfl|omega)|(apply Ri.eqb<;>rfl)|(apply Ri.neb<;>rfl)|(apply Ri.pT;(focus rfl);(focus(first|rfl|assumption|(simp;done)|(simp;omega)));(focus rfl))|(apply Ri.pF;(focus rfl);(focus(first|rfl|assumption|(simp;done)|(simp;omega)));(focus rfl))));(focus rfl)))
  refine o_still (r_load rfl f0) (wants_none rfl) rfl ?_
  repeat(first|refine o_nil ?_|(refine o_pass (wants_no rfl rfl rfl ?_) rfl ?_;(focus(first|rfl|assumption|(simp;done)|(simp;omega))))|refine o_pass (wants_not rfl rfl rfl) rfl ?_|(refine o_yes (wants_yes rfl rfl rfl ?_) ?_;(focus(first|rfl|assumption|(simp;done)|(simp;omega))))|refine k_region ?_|(apply k_go;(focus(constructor<;>rfl)))|refine d_nil ?_|(apply o_s;(focus(first|(constructor<;>first|rfl|omega)|(apply Ri.add3<;>first|rfl|omega)|(apply Ri.sub3<;>first|rfl|omega)|(apply Ri.conv3<;>first|rfl|omega)|(apply Ri.eqb<;>rfl)|(apply Ri.neb<;>rfl)|(apply Ri.pT;(focus rfl);(focus(first|rfl|assumption|(simp;done)|(simp;omega)));(focus rfl))|(apply Ri.pF;(focus rfl);(focus(first|rfl|assumption|(simp;done)|(simp;omega)));(focus rfl))));(focus rfl)))
  refine o_unit (u_store (i := 0) rfl rfl rfl (by simp only [add_plain, Nat.zero_add, Nat.add_zero]) b1 (show 0 < 2 by decide)) (wants_none rfl) rfl ?_
  rintro w3 hw3
  have hk3 : Kn w w3 := Kp.then k2 hw3.kp (fun _ h => h) fun i hi he => by omega
  have q0 : w3.cell? ⟨g1, 0, none⟩ = some (.int .i64 (lineOf l p)) := by
    refine (blk_cell hw3.at_).trans ?_
    show some (Value.int .i64 _) = _
    congr 2
    rw [hie]
    unfold clampI
    (repeat' split) <;> omega
  have q1 : w3.cell? ⟨g1, 1, none⟩ = some (.int .i64 p.2) := blk_cell hw3.at_
  obtain ⟨ad, cs, rfl, ⟨v1, rfl, hr⟩, hcell⟩ := h.at_ (List.getElem?_eq_getElem hil)
  obtain ⟨A1, c1, rfl, hc1, hf1⟩ := hr.form
  have hlx := hf1.len
  have hgd := getD_get hil
  generalize hi : lineOf l p = i at *
  repeat(first|refine o_nil ?_|(refine o_pass (wants_no rfl rfl rfl ?_) rfl ?_;(focus(first|rfl|assumption|(simp;done)|(simp;omega))))|refine o_pass (wants_not rfl rfl rfl) rfl ?_|(refine o_yes (wants_yes rfl rfl rfl ?_) ?_;(focus(first|rfl|assumption|(simp;done)|(simp;omega))))|refine k_region ?_|(apply k_go;(focus(constructor<;>rfl)))|refine d_nil ?_|(apply o_s;(focus(first|(constructor<;>first|rfl|omega)|(apply Ri.add3<;>first|rfl|omega)|(apply Ri.sub3<;>first|rfl|omega)|(apply Ri.conv3<;>first|rfl|omega)|(apply Ri.eqb<;>rfl)|(apply Ri.neb<;>rfl)|(apply Ri.pT;(focus rfl);(focus(first|rfl|assumption|(simp;done)|(simp;omega)));(focus rfl))|(apply Ri.pF;(focus rfl);(focus(first|rfl|assumption|(simp;done)|(simp;omega)));(focus rfl))));(focus rfl)))
  refine k_draw [(0, 0), (1, 0), (2, 0), (3, 0), (4, 0), (5, 0), (6, 0), (7, 0), (8, 0), (9, 0), (10, 0), (11, 0), (12, 1)] (by kernel_rfl) (by kernel_rfl) rfl (by kernel_rfl) ?_
  repeat(first|refine d_nil ?_|(refine d_open rfl ?_;first|((first|refine x_pass (wants_no rfl rfl rfl ?_) rfl ?_ ?_|refine x_passNow (wants_no rfl rfl rfl ?_) rfl ?_ ?_);(focus(first|rfl|assumption|(simp;done)|(simp;omega)));(focus(first|exact St.refl _|assumption)))|((first|refine x_pass (wants_not rfl rfl rfl) rfl ?_ ?_|refine x_passNow (wants_not rfl rfl rfl) rfl ?_ ?_);(focus(first|exact St.refl _|assumption)))|((first|apply x_s|apply x_n);(focus(first|(constructor<;>first|rfl|omega)|(apply Ri.add3<;>first|rfl|omega)|(apply Ri.sub3<;>first|rfl|omega)|(apply Ri.conv3<;>first|rfl|omega)|(apply Ri.eqb<;>rfl)|(apply Ri.neb<;>rfl)|(apply Ri.pT;(focus rfl);(focus(first|rfl|assumption|(simp;done)|(simp;omega)));(focus rfl))|(apply Ri.pF;(focus rfl);(focus(first|rfl|assumption|(simp;done)|(simp;omega)));(focus rfl))));(focus(first|exact wants_none rfl|exact wants_yes rfl rfl rfl (by first|rfl|assumption|(simp;done)|(simp;omega))));(focus rfl);(focus(first|exact St.refl _|assumption)))))
  refine d_open rfl ?_; refine x_still (r_load rfl q1) (wants_none rfl) rfl (by first | exact St.refl _ | assumption) ?_
  repeat(first|refine d_nil ?_|(refine d_open rfl ?_;first|((first|refine x_pass (wants_no rfl rfl rfl ?_) rfl ?_ ?_|refine x_passNow (wants_no rfl rfl rfl ?_) rfl ?_ ?_);(focus(first|rfl|assumption|(simp;done)|(simp;omega)));(focus(first|exact St.refl _|assumption)))|((first|refine x_pass (wants_not rfl rfl rfl) rfl ?_ ?_|refine x_passNow (wants_not rfl rfl rfl) rfl ?_ ?_);(focus(first|exact St.refl _|assumption)))|((first|apply x_s|apply x_n);(focus(first|(constructor<;>first|rfl|omega)|(apply Ri.add3<;>first|rfl|omega)|(apply Ri.sub3<;>first|rfl|omega)|(apply Ri.conv3<;>first|rfl|omega)|(apply Ri.eqb<;>rfl)|(apply Ri.neb<;>rfl)|(apply Ri.pT;(focus rfl);(focus(first|rfl|assumption|(simp;done)|(simp;omega)));(focus rfl))|(apply Ri.pF;(focus rfl);(focus(first|rfl|assumption|(simp;done)|(simp;omega)));(focus rfl))));(focus(first|exact wants_none rfl|exact wants_yes rfl rfl rfl (by first|rfl|assumption|(simp;done)|(simp;omega))));(focus rfl);(focus(first|exact St.refl _|assumption)))))
  refine d_open rfl ?_; refine x_still (r_load rfl q0) (wants_none rfl) rfl (by first | exact St.refl _ | assumption) ?_
  refine d_open rfl ?_; refine x_still (r_index rfl rfl rfl (by omega) (by omega)) (wants_none rfl) rfl (by first | exact St.refl _ | assumption) ?_
  refine d_open rfl ?_; refine x_still (r_load rfl (hk3.cell (hcell 0 _ rfl) id)) (wants_none rfl) rfl (by first | exact St.refl _ | assumption) ?_
  repeat(first|refine d_nil ?_|(refine d_open rfl ?_;first|((first|refine x_pass (wants_no rfl rfl rfl ?_) rfl ?_ ?_|refine x_passNow (wants_no rfl rfl rfl ?_) rfl ?_ ?_);(focus(first|rfl|assumption|(simp;done)|(simp;omega)));(focus(first|exact St.refl _|assumption)))|((first|refine x_pass (wants_not rfl rfl rfl) rfl ?_ ?_|refine x_passNow (wants_not rfl rfl rfl) rfl ?_ ?_);(focus(first|exact St.refl _|assumption)))|((first|apply x_s|apply x_n);(focus(first|(constructor<;>first|rfl|omega)|(apply Ri.add3<;>first|rfl|omega)|(apply Ri.sub3<;>first|rfl|omega)|(apply Ri.conv3<;>first|rfl|omega)|(apply Ri.eqb<;>rfl)|(apply Ri.neb<;>rfl)|(apply Ri.pT;(focus rfl);(focus(first|rfl|assumption|(simp;done)|(simp;omega)));(focus rfl))|(apply Ri.pF;(focus rfl);(focus(first|rfl|assumption|(simp;done)|(simp;omega)));(focus rfl))));(focus(first|exact wants_none rfl|exact wants_yes rfl rfl rfl (by first|rfl|assumption|(simp;done)|(simp;omega))));(focus rfl);(focus(first|exact St.refl _|assumption)))))
  have b3 := hw3.at_
  refine d_open rfl ?_; refine x_unit (u_store (i := 1) rfl rfl rfl (by simp only [add_plain, Nat.zero_add, Nat.add_zero]) b3 (show 1 < 2 by decide)) (wants_none rfl) rfl ?_
  rintro w4 hw4
  refine .inr ⟨(by kernel_rfl), ?_⟩
  have hk4 : Kn w w4 := Kp.then hk3 hw4.kp (fun _ h => h) fun i hi he => by omega
  have r0 : w4.cell? ⟨g1, 0, none⟩ = some (.int .i64 i) := (blk_cell hw4.at_).trans ((blk_cell hw3.at_).symm.trans q0)
  have r1 : w4.cell? ⟨g1, 1, none⟩ = some (.int .i64 (if l[i].length = 0 then 0 else clampI p.2 l[i].length)) := by
    refine (blk_cell hw4.at_).trans ?_
    show some (Value.int .i64 _) = _
    congr 2
    unfold clampI
    (repeat' split) <;> omega
  have bb2 := hw4.kp.blk (hw3.kp.blk nb2.at_ (by omega)) (by omega)
  have z3 := hw3.kp.size
  have z4 := hw4.kp.size
  repeat(first|refine d_nil ?_|(refine d_open rfl ?_;first|((first|refine x_pass (wants_no rfl rfl rfl ?_) rfl ?_ ?_|refine x_passNow (wants_no rfl rfl rfl ?_) rfl ?_ ?_);(focus(first|rfl|assumption|(simp;done)|(simp;omega)));(focus(first|exact St.refl _|assumption)))|((first|refine x_pass (wants_not rfl rfl rfl) rfl ?_ ?_|refine x_passNow (wants_not rfl rfl rfl) rfl ?_ ?_);(focus(first|exact St.refl _|assumption)))|((first|apply x_s|apply x_n);(focus(first|(constructor<;>first|rfl|omega)|(apply Ri.add3<;>first|rfl|omega)|(apply Ri.sub3<;>first|rfl|omega)|(apply Ri.conv3<;>first|rfl|omega)|(apply Ri.eqb<;>rfl)|(apply Ri.neb<;>rfl)|(apply Ri.pT;(focus rfl);(focus(first|rfl|assumption|(simp;done)|(simp;omega)));(focus rfl))|(apply Ri.pF;(focus rfl);(focus(first|rfl|assumption|(simp;done)|(simp;omega)));(focus rfl))));(focus(first|exact wants_none rfl|exact wants_yes rfl rfl rfl (by first|rfl|assumption|(simp;done)|(simp;omega))));(focus rfl);(focus(first|exact St.refl _|assumption)))))
  repeat(first|refine o_nil ?_|(refine o_pass (wants_no rfl rfl rfl ?_) rfl ?_;(focus(first|rfl|assumption|(simp;done)|(simp;omega))))|refine o_pass (wants_not rfl rfl rfl) rfl ?_|(refine o_yes (wants_yes rfl rfl rfl ?_) ?_;(focus(first|rfl|assumption|(simp;done)|(simp;omega))))|refine k_region ?_|(apply k_go;(focus(constructor<;>rfl)))|refine d_nil ?_|(apply o_s;(focus(first|(constructor<;>first|rfl|omega)|(apply Ri.add3<;>first|rfl|omega)|(apply Ri.sub3<;>first|rfl|omega)|(apply Ri.conv3<;>first|rfl|omega)|(apply Ri.eqb<;>rfl)|(apply Ri.neb<;>rfl)|(apply Ri.pT;(focus rfl);(focus(first|rfl|assumption|(simp;done)|(simp;omega)));(focus rfl))|(apply Ri.pF;(focus rfl);(focus(first|rfl|assumption|(simp;done)|(simp;omega)));(focus rfl))));(focus rfl)))
  refine o_still (r_loadA (cs := [.int .i64 i, .int .i64 (if l[i].length = 0 then 0 else clampI p.2 l[i].length)]) rfl rfl (by
    intro j u hu
    match j, hu with
    | 0, hu => cases hu; exact r0
    | 1, hu => cases hu; exact r1)) (wants_none rfl) rfl ?_
  refine o_unit (u_storeA rfl rfl rfl (by simp [Value.oneCell']) rfl bb2 (Nat.le_refl 2)) (wants_none rfl) rfl ?_
  rintro w5 hw5
  have hk5 : Kn w w5 := Kp.then hk4 hw5.kp (fun _ h => h) fun i hi he => by omega
  repeat(first|refine o_nil ?_|(refine o_pass (wants_no rfl rfl rfl ?_) rfl ?_;(focus(first|rfl|assumption|(simp;done)|(simp;omega))))|refine o_pass (wants_not rfl rfl rfl) rfl ?_|(refine o_yes (wants_yes rfl rfl rfl ?_) ?_;(focus(first|rfl|assumption|(simp;done)|(simp;omega))))|refine k_region ?_|(apply k_go;(focus(constructor<;>rfl)))|refine d_nil ?_|(apply o_s;(focus(first|(constructor<;>first|rfl|omega)|(apply Ri.add3<;>first|rfl|omega)|(apply Ri.sub3<;>first|rfl|omega)|(apply Ri.conv3<;>first|rfl|omega)|(apply Ri.eqb<;>rfl)|(apply Ri.neb<;>rfl)|(apply Ri.pT;(focus rfl);(focus(first|rfl|assumption|(simp;done)|(simp;omega)));(focus rfl))|(apply Ri.pF;(focus rfl);(focus(first|rfl|assumption|(simp;done)|(simp;omega)));(focus rfl))));(focus rfl)))
  refine k_retR1 rfl (.agg rfl rfl (blk_all hw5.at_) .nil) ⟨hk5, ?_⟩
  unfold clipM
  rw [if_neg hn, hi, hgd]
  rfl
def aheadM (p q : Ps) : Bool := decide (p.1 < q.1 ∨ (p.1 = q.1 ∧ p.2 < q.2))
theorem ahead_calls : CallsR Try.prog 13 #[posV p, posV q] w fun u w' => Kn w w' ∧ u = .bool (aheadM p q) := by
  refine calls_enter Try.func13 rfl rfl ?_
  repeat(first|refine o_nil ?_|(refine o_pass (wants_no rfl rfl rfl ?_) rfl ?_;(focus(first|rfl|assumption|(simp;done)|(simp;omega))))|refine o_pass (wants_not rfl rfl rfl) rfl ?_|(refine o_yes (wants_yes rfl rfl rfl ?_) ?_;(focus(first|rfl|assumption|(simp;done)|(simp;omega))))|refine k_region ?_|(apply k_go;(focus(constructor<;>rfl)))|refine d_nil ?_|(apply o_s;(focus(first|(constructor<;>first|rfl|omega)|(apply Ri.add3<;>first|rfl|omega)|(apply Ri.sub3<;>first|rfl|omega)|(apply Ri.conv3<;>first|rfl|omega)|(apply Ri.eqb<;>rfl)|(apply Ri.neb<;>rfl)|(apply Ri.pT;(focus rfl);(focus(first|rfl|assumption|(simp;done)|(simp;omega)));(focus rfl))|(apply Ri.pF;(focus rfl);(focus(first|rfl|assumption|(simp;done)|(simp;omega)));(focus rfl))));(focus rfl)))
  refine o_any (e_box rfl) (wants_none rfl) rfl ?_
  rintro _ w1 ⟨g1, rfl, nb1⟩
  refine o_any (e_box rfl) (wants_none rfl) rfl ?_
  rintro _ w2 ⟨g2, rfl, nb2⟩
  have k2 : Kn w w2 := nb1.kn.trans nb2.kn
  have b1 := nb2.kn.blk nb1.at_ id
  have p0 : w2.cell? ⟨g1, 0, none⟩ = some (.int .i64 p.1) := blk_cell b1
  have p1 : w2.cell? ⟨g1, 1, none⟩ = some (.int .i64 p.2) := blk_cell b1
  have q0 : w2.cell? ⟨g2, 0, none⟩ = some (.int .i64 q.1) := blk_cell nb2.at_
  have q1 : w2.cell? ⟨g2, 1, none⟩ = some (.int .i64 q.2) := blk_cell nb2.at_
  repeat(first|refine o_nil ?_|(refine o_pass (wants_no rfl rfl rfl ?_) rfl ?_;(focus(first|rfl|assumption|(simp;done)|(simp;omega))))|refine o_pass (wants_not rfl rfl rfl) rfl ?_|(refine o_yes (wants_yes rfl rfl rfl ?_) ?_;(focus(first|rfl|assumption|(simp;done)|(simp;omega))))|refine k_region ?_|(apply k_go;(focus(constructor<;>rfl)))|refine d_nil ?_|(apply o_s;(focus(first|(constructor<;>first|rfl|omega)|(apply Ri.add3<;>first|rfl|omega)|(apply Ri.sub3<;>first|rfl|omega)|(apply Ri.conv3<;>first|rfl|omega)|(apply Ri.eqb<;>rfl)|(apply Ri.neb<;>rfl)|(apply Ri.pT;(focus rfl);(focus(first|rfl|assumption|(simp;done)|(simp;omega)));(focus rfl))|(apply Ri.pF;(focus rfl);(focus(first|rfl|assumption|(simp;done)|(simp;omega)));(focus rfl))));(focus rfl)))
  refine o_still (r_load rfl p0) (wants_none rfl) rfl ?_
  repeat(first|refine o_nil ?_|(refine o_pass (wants_no rfl rfl rfl ?_) rfl ?_;(focus(first|rfl|assumption|(simp;done)|(simp;omega))))|refine o_pass (wants_not rfl rfl rfl) rfl ?_|(refine o_yes (wants_yes rfl rfl rfl ?_) ?_;(focus(first|rfl|assumption|(simp;done)|(simp;omega))))|refine k_region ?_|(apply k_go;(focus(constructor<;>rfl)))|refine d_nil ?_|(apply o_s;(focus(first|(constructor<;>first|rfl|omega)|(apply Ri.add3<;>first|rfl|omega)|(apply Ri.sub3<;>first|rfl|omega)|(apply Ri.conv3<;>first|rfl|omega)|(apply Ri.eqb<;>rfl)|(apply Ri.neb<;>rfl)|(apply Ri.pT;(focus rfl);(focus(first|rfl|assumption|(simp;done)|(simp;omega)));(focus rfl))|(apply Ri.pF;(focus rfl);(focus(first|rfl|assumption|(simp;done)|(simp;omega)));(focus rfl))));(focus rfl)))
  refine o_still (r_load rfl q0) (wants_none rfl) rfl ?_
  by_cases h1 : p.1 < q.1
  · repeat(first|refine o_nil ?_|(refine o_pass (wants_no rfl rfl rfl ?_) rfl ?_;(focus(first|rfl|assumption|(simp;done)|(simp;omega))))|refine o_pass (wants_not rfl rfl rfl) rfl ?_|(refine o_yes (wants_yes rfl rfl rfl ?_) ?_;(focus(first|rfl|assumption|(simp;done)|(simp;omega))))|refine k_region ?_|(apply k_go;(focus(constructor<;>rfl)))|refine d_nil ?_|(apply o_s;(focus(first|(constructor<;>first|rfl|omega)|(apply Ri.add3<;>first|rfl|omega)|(apply Ri.sub3<;>first|rfl|omega)|(apply Ri.conv3<;>first|rfl|omega)|(apply Ri.eqb<;>rfl)|(apply Ri.neb<;>rfl)|(apply Ri.pT;(focus rfl);(focus(first|rfl|assumption|(simp;done)|(simp;omega)));(focus rfl))|(apply Ri.pF;(focus rfl);(focus(first|rfl|assumption|(simp;done)|(simp;omega)));(focus rfl))));(focus rfl)))
    exact k_ret1 rfl rfl ⟨k2, by unfold aheadM; rw [decide_eq_true (.inl h1)]⟩
  by_cases h2 : p.1 = q.1
  · repeat(first|refine o_nil ?_|(refine o_pass (wants_no rfl rfl rfl ?_) rfl ?_;(focus(first|rfl|assumption|(simp;done)|(simp;omega))))|refine o_pass (wants_not rfl rfl rfl) rfl ?_|(refine o_yes (wants_yes rfl rfl rfl ?_) ?_;(focus(first|rfl|assumption|(simp;done)|(simp;omega))))|refine k_region ?_|(apply k_go;(focus(constructor<;>rfl)))|refine d_nil ?_|(apply o_s;(focus(first|(constructor<;>first|rfl|omega)|(apply Ri.add3<;>first|rfl|omega)|(apply Ri.sub3<;>first|rfl|omega)|(apply Ri.conv3<;>first|rfl|omega)|(apply Ri.eqb<;>rfl)|(apply Ri.neb<;>rfl)|(apply Ri.pT;(focus rfl);(focus(first|rfl|assumption|(simp;done)|(simp;omega)));(focus rfl))|(apply Ri.pF;(focus rfl);(focus(first|rfl|assumption|(simp;done)|(simp;omega)));(focus rfl))));(focus rfl)))
    refine o_still (r_load rfl p0) (wants_none rfl) rfl ?_
    repeat(first|refine o_nil ?_|(refine o_pass (wants_no rfl rfl rfl ?_) rfl ?_;(focus(first|rfl|assumption|(simp;done)|(simp;omega))))|refine o_pass (wants_not rfl rfl rfl) rfl ?_|(refine o_yes (wants_yes rfl rfl rfl ?_) ?_;(focus(first|rfl|assumption|(simp;done)|(simp;omega))))|refine k_region ?_|(apply k_go;(focus(constructor<;>rfl)))|refine d_nil ?_|(apply o_s;(focus(first|(constructor<;>first|rfl|omega)|(apply Ri.add3<;>first|rfl|omega)|(apply Ri.sub3<;>first|rfl|omega)|(apply Ri.conv3<;>first|rfl|omega)|(apply Ri.eqb<;>rfl)|(apply Ri.neb<;>rfl)|(apply Ri.pT;(focus rfl);(focus(first|rfl|assumption|(simp;done)|(simp;omega)));(focus rfl))|(apply Ri.pF;(focus rfl);(focus(first|rfl|assumption|(simp;done)|(simp;omega)));(focus rfl))));(focus rfl)))
    refine o_still (r_load rfl q0) (wants_none rfl) rfl ?_
    repeat(first|refine o_nil ?_|(refine o_pass (wants_no rfl rfl rfl ?_) rfl ?_;(focus(first|rfl|assumption|(simp;done)|(simp;omega))))|refine o_pass (wants_not rfl rfl rfl) rfl ?_|(refine o_yes (wants_yes rfl rfl rfl ?_) ?_;(focus(first|rfl|assumption|(simp;done)|(simp;omega))))|refine k_region ?_|(apply k_go;(focus(constructor<;>rfl)))|refine d_nil ?_|(apply o_s;(focus(first|(constructor<;>first|rfl|omega)|(apply Ri.add3<;>first|rfl|omega)|(apply Ri.sub3<;>first|rfl|omega)|(apply Ri.conv3<;>first|rfl|omega)|(apply Ri.eqb<;>rfl)|(apply Ri.neb<;>rfl)|(apply Ri.pT;(focus rfl);(focus(first|rfl|assumption|(simp;done)|(simp;omega)));(focus rfl))|(apply Ri.pF;(focus rfl);(focus(first|rfl|assumption|(simp;done)|(simp;omega)));(focus rfl))));(focus rfl)))
    refine o_still (r_load rfl p1) (wants_none rfl) rfl ?_
    repeat(first|refine o_nil ?_|(refine o_pass (wants_no rfl rfl rfl ?_) rfl ?_;(focus(first|rfl|assumption|(simp;done)|(simp;omega))))|refine o_pass (wants_not rfl rfl rfl) rfl ?_|(refine o_yes (wants_yes rfl rfl rfl ?_) ?_;(focus(first|rfl|assumption|(simp;done)|(simp;omega))))|refine k_region ?_|(apply k_go;(focus(constructor<;>rfl)))|refine d_nil ?_|(apply o_s;(focus(first|(constructor<;>first|rfl|omega)|(apply Ri.add3<;>first|rfl|omega)|(apply Ri.sub3<;>first|rfl|omega)|(apply Ri.conv3<;>first|rfl|omega)|(apply Ri.eqb<;>rfl)|(apply Ri.neb<;>rfl)|(apply Ri.pT;(focus rfl);(focus(first|rfl|assumption|(simp;done)|(simp;omega)));(focus rfl))|(apply Ri.pF;(focus rfl);(focus(first|rfl|assumption|(simp;done)|(simp;omega)));(focus rfl))));(focus rfl)))
    refine o_still (r_load rfl q1) (wants_none rfl) rfl ?_
    repeat(first|refine o_nil ?_|(refine o_pass (wants_no rfl rfl rfl ?_) rfl ?_;(focus(first|rfl|assumption|(simp;done)|(simp;omega))))|refine o_pass (wants_not rfl rfl rfl) rfl ?_|(refine o_yes (wants_yes rfl rfl rfl ?_) ?_;(focus(first|rfl|assumption|(simp;done)|(simp;omega))))|refine k_region ?_|(apply k_go;(focus(constructor<;>rfl)))|refine d_nil ?_|(apply o_s;(focus(first|(constructor<;>first|rfl|omega)|(apply Ri.add3<;>first|rfl|omega)|(apply Ri.sub3<;>first|rfl|omega)|(apply Ri.conv3<;>first|rfl|omega)|(apply Ri.eqb<;>rfl)|(apply Ri.neb<;>rfl)|(apply Ri.pT;(focus rfl);(focus(first|rfl|assumption|(simp;done)|(simp;omega)));(focus rfl))|(apply Ri.pF;(focus rfl);(focus(first|rfl|assumption|(simp;done)|(simp;omega)));(focus rfl))));(focus rfl)))
    exact k_ret1 rfl rfl ⟨k2, by unfold aheadM; congr 1; rw [decide_eq_decide]; omega⟩
  · repeat(first|refine o_nil ?_|(refine o_pass (wants_no rfl rfl rfl ?_) rfl ?_;(focus(first|rfl|assumption|(simp;done)|(simp;omega))))|refine o_pass (wants_not rfl rfl rfl) rfl ?_|(refine o_yes (wants_yes rfl rfl rfl ?_) ?_;(focus(first|rfl|assumption|(simp;done)|(simp;omega))))|refine k_region ?_|(apply k_go;(focus(constructor<;>rfl)))|refine d_nil ?_|(apply o_s;(focus(first|(constructor<;>first|rfl|omega)|(apply Ri.add3<;>first|rfl|omega)|(apply Ri.sub3<;>first|rfl|omega)|(apply Ri.conv3<;>first|rfl|omega)|(apply Ri.eqb<;>rfl)|(apply Ri.neb<;>rfl)|(apply Ri.pT;(focus rfl);(focus(first|rfl|assumption|(simp;done)|(simp;omega)));(focus rfl))|(apply Ri.pF;(focus rfl);(focus(first|rfl|assumption|(simp;done)|(simp;omega)));(focus rfl))));(focus rfl)))
    refine o_still (r_load rfl p0) (wants_none rfl) rfl ?_
    repeat(first|refine o_nil ?_|(refine o_pass (wants_no rfl rfl rfl ?_) rfl ?_;(focus(first|rfl|assumption|(simp;done)|(simp;omega))))|refine o_pass (wants_not rfl rfl rfl) rfl ?_|(refine o_yes (wants_yes rfl rfl rfl ?_) ?_;(focus(first|rfl|assumption|(simp;done)|(simp;omega))))|refine k_region ?_|(apply k_go;(focus(constructor<;>rfl)))|refine d_nil ?_|(apply o_s;(focus(first|(constructor<;>first|rfl|omega)|(apply Ri.add3<;>first|rfl|omega)|(apply Ri.sub3<;>first|rfl|omega)|(apply Ri.conv3<;>first|rfl|omega)|(apply Ri.eqb<;>rfl)|(apply Ri.neb<;>rfl)|(apply Ri.pT;(focus rfl);(focus(first|rfl|assumption|(simp;done)|(simp;omega)));(focus rfl))|(apply Ri.pF;(focus rfl);(focus(first|rfl|assumption|(simp;done)|(simp;omega)));(focus rfl))));(focus rfl)))
    refine o_still (r_load rfl q0) (wants_none rfl) rfl ?_
    repeat(first|refine o_nil ?_|(refine o_pass (wants_no rfl rfl rfl ?_) rfl ?_;(focus(first|rfl|assumption|(simp;done)|(simp;omega))))|refine o_pass (wants_not rfl rfl rfl) rfl ?_|(refine o_yes (wants_yes rfl rfl rfl ?_) ?_;(focus(first|rfl|assumption|(simp;done)|(simp;omega))))|refine k_region ?_|(apply k_go;(focus(constructor<;>rfl)))|refine d_nil ?_|(apply o_s;(focus(first|(constructor<;>first|rfl|omega)|(apply Ri.add3<;>first|rfl|omega)|(apply Ri.sub3<;>first|rfl|omega)|(apply Ri.conv3<;>first|rfl|omega)|(apply Ri.eqb<;>rfl)|(apply Ri.neb<;>rfl)|(apply Ri.pT;(focus rfl);(focus(first|rfl|assumption|(simp;done)|(simp;omega)));(focus rfl))|(apply Ri.pF;(focus rfl);(focus(first|rfl|assumption|(simp;done)|(simp;omega)));(focus rfl))));(focus rfl)))
    exact k_ret1 rfl rfl ⟨k2, by unfold aheadM; rw [decide_eq_false (by omega)]⟩
def kPs : Kd Ps := kPair kI64 kI64
instance : ScK kPs := inferInstanceAs (ScK (kPair kI64 kI64))
def colsTo (i n : Nat) : List Ps := (List.range n).map fun k : Nat => ((i : Int), (k : Int))
theorem colsTo_succ (i n : Nat) : colsTo i (n + 1) = colsTo i n ++ [((i : Int), (n : Int))] := by unfold colsTo; rw [List.range_succ, List.map_append]; rfl
theorem colsTo_len (i n : Nat) : (colsTo i n).length = n := by simp [colsTo]
def placesAt (l : List (List Int)) (i : Nat) : List Ps := if (l.getD i []).length = 0 then [((i : Int), 0)] else colsTo i (l.getD i []).length
def placesTo (l : List (List Int)) (n : Nat) : List Ps := (List.range n).flatMap (placesAt l)
theorem placesTo_succ (n : Nat) : placesTo l (n + 1) = placesTo l n ++ placesAt l n := by unfold placesTo; rw [List.range_succ, List.flatMap_append]; simp
theorem placesTo_le : ∀ n, n ≤ l.length → (placesTo l n).length ≤ n + runesM (l.take n)
  | 0, _ => by simp [placesTo]
  | n + 1, h => by
    have ih := placesTo_le n (by omega)
    have h1 : (placesAt l n).length ≤ 1 + (l[n]'(by omega)).length := by
      unfold placesAt
      rw [getD_get (by omega)]
      split
      · simp
      · rw [colsTo_len]; omega
    have h2 : runesM (l.take (n + 1)) = runesM (l.take n) + (l[n]'(by omega)).length := by
      unfold runesM
      rw [List.take_succ_eq_append_getElem (by omega), List.map_append, List.sum_append]
      simp
    rw [placesTo_succ, List.length_append]
    omega
structure PcSt where
  i : Nat
  A : Option Addr
  c : Nat
structure PkSt where
  k : Nat
  A : Option Addr
  c : Nat
theorem ps_R {F : Nat → Prop} {w : World} {a b : Int} (h1 : -9223372036854775808 ≤ a ∧ a ≤ 9223372036854775807) (h2 : -9223372036854775808 ≤ b ∧ b ≤ 9223372036854775807) : kPs.R F w (a, b) [.int .i64 a, .int .i64 b] :=
  ⟨[.int .i64 a], [.int .i64 b], rfl, ⟨rfl, h1.1, h1.2⟩, ⟨rfl, h2.1, h2.2⟩⟩
theorem app_next {α : Type} {d : Kd α} [ScK d] {F : Nat → Prop} {w w1 w2 : World} {v v2 : Value} {xs zs : List α} (hk : Kn w w1) (hO : Ow d (noB w) (fun _ => False) w1 v xs) (hA : App d (noB w) F w1 v zs v2 w2) :
    Kn w w2 ∧ Ow d (noB w) (fun _ => False) w2 v2 zs := by
  have hz := hk.size
  refine ⟨Kp.then hk hA.kp (fun _ h => h) (fun i hi he => ?_), (hA.ow.sc (F' := fun _ => False)).mono (fun k hk _ => hk.elim id (fun h => ?_)) (fun _ h _ => h)⟩
  · have := (hO.block i he).1
    simp only [noB] at this
    omega
  · simp only [noB]; omega
set_option maxHeartbeats 2000000 in
theorem places_calls (h : Sl kRow F w v l) (hs : l.length + runesM l ≤ 4000) : CallsR Try.prog 16 #[v] w fun u w' => Kn w w' ∧ ∃ A c, u = .slice A (placesTo l l.length).length c ∧ Ow kPs (noB w) (fun _ => False) w' (.slice A (placesTo l l.length).length c) (placesTo l l.length) := by
  obtain ⟨A, c, rfl, hc, hlf⟩ := h.form
  have hrt : ∀ n, runesM (l.take n) ≤ runesM l := fun n => by
    unfold runesM
    have : l.map List.length = (l.take n).map List.length ++ (l.drop n).map List.length := by rw [← List.map_append, List.take_append_drop]
    rw [this, List.sum_append]
    omega
  refine calls_enter Try.func16 rfl rfl ?_
  repeat(first|refine o_nil ?_|(refine o_pass (wants_no rfl rfl rfl ?_) rfl ?_;(focus(first|rfl|assumption|(simp;done)|(simp;omega))))|refine o_pass (wants_not rfl rfl rfl) rfl ?_|(refine o_yes (wants_yes rfl rfl rfl ?_) ?_;(focus(first|rfl|assumption|(simp;done)|(simp;omega))))|refine k_region ?_|(apply k_go;(focus(constructor<;>rfl)))|refine d_nil ?_|(apply o_s;(focus(first|(constructor<;>first|rfl|omega)|(apply Ri.add3<;>first|rfl|omega)|(apply Ri.sub3<;>first|rfl|omega)|(apply Ri.conv3<;>first|rfl|omega)|(apply Ri.eqb<;>rfl)|(apply Ri.neb<;>rfl)|(apply Ri.pT;(focus rfl);(focus(first|rfl|assumption|(simp;done)|(simp;omega)));(focus rfl))|(apply Ri.pF;(focus rfl);(focus(first|rfl|assumption|(simp;done)|(simp;omega)));(focus rfl))));(focus rfl)))
  refine k_while (S := PcSt) (fun s => l.length - s.i) (fun s => [(0, .slice A l.length c), (3, .slice s.A (placesTo l s.i).length s.c), (4, .int .i64 s.i)])
    (fun s wr => s.i ≤ l.length ∧ Kn w wr ∧ Ow kPs (noB w) (fun _ => False) wr (.slice s.A (placesTo l s.i).length s.c) (placesTo l s.i)) ⟨0, none, 0⟩ (by repeat (first | exact SubB.nil | refine SubB.cons rfl ?_)) ⟨Nat.zero_le _, Kp.refl _ _, Ow.nil _ _ _ _⟩ ?_
  rintro ⟨i, B, cB⟩ wr ⟨hi, hkn, hO⟩ ih
  simp only at hi hkn hO ih ⊢
  have hle := placesTo_le (l := l) i hi
  have hr := hrt i
  repeat(first|refine o_nil ?_|(refine o_pass (wants_no rfl rfl rfl ?_) rfl ?_;(focus(first|rfl|assumption|(simp;done)|(simp;omega))))|refine o_pass (wants_not rfl rfl rfl) rfl ?_|(refine o_yes (wants_yes rfl rfl rfl ?_) ?_;(focus(first|rfl|assumption|(simp;done)|(simp;omega))))|refine k_region ?_|(apply k_go;(focus(constructor<;>rfl)))|refine d_nil ?_|(apply o_s;(focus(first|(constructor<;>first|rfl|omega)|(apply Ri.add3<;>first|rfl|omega)|(apply Ri.sub3<;>first|rfl|omega)|(apply Ri.conv3<;>first|rfl|omega)|(apply Ri.eqb<;>rfl)|(apply Ri.neb<;>rfl)|(apply Ri.pT;(focus rfl);(focus(first|rfl|assumption|(simp;done)|(simp;omega)));(focus rfl))|(apply Ri.pF;(focus rfl);(focus(first|rfl|assumption|(simp;done)|(simp;omega)));(focus rfl))));(focus rfl)))
  refine k_ite rfl (fun hlt => ?_) (fun hge => ?_)
  case refine_2 =>
    obtain rfl : i = l.length := by omega
    repeat(first|refine o_nil ?_|(refine o_pass (wants_no rfl rfl rfl ?_) rfl ?_;(focus(first|rfl|assumption|(simp;done)|(simp;omega))))|refine o_pass (wants_not rfl rfl rfl) rfl ?_|(refine o_yes (wants_yes rfl rfl rfl ?_) ?_;(focus(first|rfl|assumption|(simp;done)|(simp;omega))))|refine k_region ?_|(apply k_go;(focus(constructor<;>rfl)))|refine d_nil ?_|(apply o_s;(focus(first|(constructor<;>first|rfl|omega)|(apply Ri.add3<;>first|rfl|omega)|(apply Ri.sub3<;>first|rfl|omega)|(apply Ri.conv3<;>first|rfl|omega)|(apply Ri.eqb<;>rfl)|(apply Ri.neb<;>rfl)|(apply Ri.pT;(focus rfl);(focus(first|rfl|assumption|(simp;done)|(simp;omega)));(focus rfl))|(apply Ri.pF;(focus rfl);(focus(first|rfl|assumption|(simp;done)|(simp;omega)));(focus rfl))));(focus rfl)))
    exact k_ret1 rfl rfl ⟨hkn, B, cB, rfl, hO⟩
  have hlt' : i < l.length := by omega
  have hle2 := placesTo_le (l := l) (i + 1) (by omega)
  have hr2 := hrt (i + 1)
  have hps := placesTo_succ (l := l) i
  obtain ⟨ad, cs, rfl, ⟨v1, rfl, hrow⟩, hcell⟩ := h.at_ (List.getElem?_eq_getElem hlt')
  obtain ⟨A1, c1, rfl, hc1, hf1⟩ := hrow.form
  have hlx := hf1.len
  have hgd := getD_get hlt'
  have hpa : placesAt l i = if l[i].length = 0 then [((i : Int), 0)] else colsTo i l[i].length := by unfold placesAt; rw [hgd]
  have J : ∀ (B2 : Option Addr) (c2 : Nat) (w2 : World) (base : List Ps), (l[i].length = 0 → base = placesTo l (i + 1)) → (l[i].length ≠ 0 → base = placesTo l i) → Kn w w2 → Ow kPs (noB w) (fun _ => False) w2 (.slice B2 base.length c2) base →
      ∀ σ', SubB σ' [(0, .slice (some ad) l.length c), (3, .slice B2 base.length c2), (4, .int .i64 i)] → WK Try.prog Try.f16 [.code (bodyC Try.f16 [1, 1, 0, 1, 0, 0, 1, 0, 0, 1]), .inBlock 1, .code (bodyC Try.f16 [1, 1, 0, 1, 0, 0, 1, 1]), .inLoop (bodyC Try.f16 [1, 1, 0, 1, 0, 0]), .inBlock 0, .code (bodyC Try.f16 [1, 1, 1])] σ' w2 fun u w' => Kn w w' ∧ ∃ A c, u = .slice A (placesTo l l.length).length c ∧ Ow kPs (noB w) (fun _ => False) w' (.slice A (placesTo l l.length).length c) (placesTo l l.length) := by
    intro B2 c2 w2 base hb0 hb1 k2 hO2 σ' hs'
    refine WK.sub (Sub.mk hs') ?_
    clear hs' σ'
    repeat(first|refine o_nil ?_|(refine o_pass (wants_no rfl rfl rfl ?_) rfl ?_;(focus(first|rfl|assumption|(simp;done)|(simp;omega))))|refine o_pass (wants_not rfl rfl rfl) rfl ?_|(refine o_yes (wants_yes rfl rfl rfl ?_) ?_;(focus(first|rfl|assumption|(simp;done)|(simp;omega))))|refine k_region ?_|(apply k_go;(focus(constructor<;>rfl)))|refine d_nil ?_|(apply o_s;(focus(first|(constructor<;>first|rfl|omega)|(apply Ri.add3<;>first|rfl|omega)|(apply Ri.sub3<;>first|rfl|omega)|(apply Ri.conv3<;>first|rfl|omega)|(apply Ri.eqb<;>rfl)|(apply Ri.neb<;>rfl)|(apply Ri.pT;(focus rfl);(focus(first|rfl|assumption|(simp;done)|(simp;omega)));(focus rfl))|(apply Ri.pF;(focus rfl);(focus(first|rfl|assumption|(simp;done)|(simp;omega)));(focus rfl))));(focus rfl)))
    refine k_while (S := PkSt) (fun s => l[i].length - s.k) (fun s => [(0, .slice (some ad) l.length c), (3, .slice s.A (base.length + s.k) s.c), (4, .int .i64 i), (5, .int .i64 s.k)])
      (fun s wq => s.k ≤ l[i].length ∧ Kn w wq ∧ Ow kPs (noB w) (fun _ => False) wq (.slice s.A (base.length + s.k) s.c) (base ++ colsTo i s.k)) ⟨0, B2, c2⟩ (by repeat (first | exact SubB.nil | refine SubB.cons rfl ?_)) ⟨Nat.zero_le _, k2, by show Ow kPs (noB w) (fun _ => False) w2 (.slice B2 (base.length + 0) c2) (base ++ colsTo i 0); simpa [colsTo] using hO2⟩ ?_
    rintro ⟨k, B3, c3⟩ wq ⟨hk, hkq, hOq⟩ ih2
    simp only at hk hkq hOq ih2 ⊢
    repeat(first|refine o_nil ?_|(refine o_pass (wants_no rfl rfl rfl ?_) rfl ?_;(focus(first|rfl|assumption|(simp;done)|(simp;omega))))|refine o_pass (wants_not rfl rfl rfl) rfl ?_|(refine o_yes (wants_yes rfl rfl rfl ?_) ?_;(focus(first|rfl|assumption|(simp;done)|(simp;omega))))|refine k_region ?_|(apply k_go;(focus(constructor<;>rfl)))|refine d_nil ?_|(apply o_s;(focus(first|(constructor<;>first|rfl|omega)|(apply Ri.add3<;>first|rfl|omega)|(apply Ri.sub3<;>first|rfl|omega)|(apply Ri.conv3<;>first|rfl|omega)|(apply Ri.eqb<;>rfl)|(apply Ri.neb<;>rfl)|(apply Ri.pT;(focus rfl);(focus(first|rfl|assumption|(simp;done)|(simp;omega)));(focus rfl))|(apply Ri.pF;(focus rfl);(focus(first|rfl|assumption|(simp;done)|(simp;omega)));(focus rfl))));(focus rfl)))
    refine o_still (r_index rfl rfl rfl (by omega) (by omega)) (wants_none rfl) rfl ?_
    refine o_still (r_load rfl (hkq.cell (hcell 0 _ rfl) id)) (wants_none rfl) rfl ?_
    repeat(first|refine o_nil ?_|(refine o_pass (wants_no rfl rfl rfl ?_) rfl ?_;(focus(first|rfl|assumption|(simp;done)|(simp;omega))))|refine o_pass (wants_not rfl rfl rfl) rfl ?_|(refine o_yes (wants_yes rfl rfl rfl ?_) ?_;(focus(first|rfl|assumption|(simp;done)|(simp;omega))))|refine k_region ?_|(apply k_go;(focus(constructor<;>rfl)))|refine d_nil ?_|(apply o_s;(focus(first|(constructor<;>first|rfl|omega)|(apply Ri.add3<;>first|rfl|omega)|(apply Ri.sub3<;>first|rfl|omega)|(apply Ri.conv3<;>first|rfl|omega)|(apply Ri.eqb<;>rfl)|(apply Ri.neb<;>rfl)|(apply Ri.pT;(focus rfl);(focus(first|rfl|assumption|(simp;done)|(simp;omega)));(focus rfl))|(apply Ri.pF;(focus rfl);(focus(first|rfl|assumption|(simp;done)|(simp;omega)));(focus rfl))));(focus rfl)))
    refine k_ite rfl (fun hlt2 => ?_) (fun hge2 => ?_)
    · have hk' : k < l[i].length := by omega
      have hbase : base = placesTo l i := hb1 (by omega)
      have hpl : (placesTo l (i + 1)).length = (placesTo l i).length + l[i].length := by rw [hps, List.length_append, hpa, if_neg (by omega), colsTo_len]
      repeat (first | refine o_nil ?_ | refine k_seq ?_ | refine k_region ?_ | refine k_block ?_ | refine k_inBlock ?_ | refine k_skip ?_)
      refine o_still (r_move rfl) (wants_none rfl) rfl ?_
      refine o_still (r_move rfl) (wants_none rfl) rfl ?_
      refine o_still (r_move rfl) (wants_none rfl) rfl ?_
      refine o_still (r_build (c := #[.int .i64 i, .int .i64 k]) rfl rfl) (wants_none rfl) rfl ?_
      refine o_any (e_one (z := .agg #[.int .i64 0, .int .i64 0]) (sz := 2) rfl rfl rfl (by decide)) (wants_none rfl) rfl ?_
      rintro _ w4 ⟨g4, rfl, nb4⟩
      have hOq4 := Kn.ow nb4.kn hOq
      have k4 : Kn w w4 := hkq.trans nb4.kn
      have e4 := nb4.ge
      refine o_any (e_append2 (d := kPs) rfl rfl hOq4 (sl_blk (F := fun k => k = g4) (xs := [((i : Int), (k : Int))]) (cells := [.int .i64 i, .int .i64 k]) nb4.at_ ⟨_, [], rfl, ps_R (by omega) (by omega), rfl⟩ rfl (show 1 * 16 ≤ 140737488355328 by decide)) (by
        rintro j rfl he
        have := (hOq.block _ he).2
        omega) (by rw [List.length_append, colsTo_len]; show (base.length + k + 1) * 16 ≤ 140737488355328; rw [hbase]; omega) rfl rfl rfl) (wants_none rfl) rfl ?_
      rintro v5 w5 hA
      obtain ⟨k5, hO5⟩ := app_next k4 hOq4 hA
      have hl5 : (base ++ colsTo i k) ++ [((i : Int), (k : Int))] = base ++ colsTo i (k + 1) := by rw [colsTo_succ, List.append_assoc]
      rw [hl5] at hO5
      obtain ⟨A5, c5, hv5, _⟩ := hO5.form
      rw [List.length_append, colsTo_len] at hv5
      subst hv5
      repeat(first|refine o_nil ?_|(refine o_pass (wants_no rfl rfl rfl ?_) rfl ?_;(focus(first|rfl|assumption|(simp;done)|(simp;omega))))|refine o_pass (wants_not rfl rfl rfl) rfl ?_|(refine o_yes (wants_yes rfl rfl rfl ?_) ?_;(focus(first|rfl|assumption|(simp;done)|(simp;omega))))|refine k_region ?_|(apply k_go;(focus(constructor<;>rfl)))|refine d_nil ?_|(apply o_s;(focus(first|(constructor<;>first|rfl|omega)|(apply Ri.add3<;>first|rfl|omega)|(apply Ri.sub3<;>first|rfl|omega)|(apply Ri.conv3<;>first|rfl|omega)|(apply Ri.eqb<;>rfl)|(apply Ri.neb<;>rfl)|(apply Ri.pT;(focus rfl);(focus(first|rfl|assumption|(simp;done)|(simp;omega)));(focus rfl))|(apply Ri.pF;(focus rfl);(focus(first|rfl|assumption|(simp;done)|(simp;omega)));(focus rfl))));(focus rfl)))
      exact ih2 ⟨k + 1, A5, c5⟩ w5 ⟨by show k + 1 ≤ _; omega, k5, hO5⟩ (by show l[i].length - (k + 1) < l[i].length - k; omega) _ (by repeat (first | exact SubB.nil | refine SubB.cons rfl ?_))
    · have hkk : k = l[i].length := by omega
      have hfin : base ++ colsTo i k = placesTo l (i + 1) := by
        by_cases h0 : l[i].length = 0
        · rw [hkk, h0, hb0 h0]; simp [colsTo]
        · rw [hb1 h0, hps, hpa, if_neg h0, hkk]
      have hlen : base.length + k = (placesTo l (i + 1)).length := by rw [← hfin, List.length_append, colsTo_len]
      rw [hfin, hlen] at hOq
      rw [hlen]
      repeat(first|refine o_nil ?_|(refine o_pass (wants_no rfl rfl rfl ?_) rfl ?_;(focus(first|rfl|assumption|(simp;done)|(simp;omega))))|refine o_pass (wants_not rfl rfl rfl) rfl ?_|(refine o_yes (wants_yes rfl rfl rfl ?_) ?_;(focus(first|rfl|assumption|(simp;done)|(simp;omega))))|refine k_region ?_|(apply k_go;(focus(constructor<;>rfl)))|refine d_nil ?_|(apply o_s;(focus(first|(constructor<;>first|rfl|omega)|(apply Ri.add3<;>first|rfl|omega)|(apply Ri.sub3<;>first|rfl|omega)|(apply Ri.conv3<;>first|rfl|omega)|(apply Ri.eqb<;>rfl)|(apply Ri.neb<;>rfl)|(apply Ri.pT;(focus rfl);(focus(first|rfl|assumption|(simp;done)|(simp;omega)));(focus rfl))|(apply Ri.pF;(focus rfl);(focus(first|rfl|assumption|(simp;done)|(simp;omega)));(focus rfl))));(focus rfl)))
      exact ih ⟨i + 1, B3, c3⟩ wq ⟨by show i + 1 ≤ _; omega, hkq, hOq⟩ (by show l.length - (i + 1) < l.length - i; omega) _ (by repeat (first | exact SubB.nil | refine SubB.cons rfl ?_))
  repeat(first|refine o_nil ?_|(refine o_pass (wants_no rfl rfl rfl ?_) rfl ?_;(focus(first|rfl|assumption|(simp;done)|(simp;omega))))|refine o_pass (wants_not rfl rfl rfl) rfl ?_|(refine o_yes (wants_yes rfl rfl rfl ?_) ?_;(focus(first|rfl|assumption|(simp;done)|(simp;omega))))|refine k_region ?_|(apply k_go;(focus(constructor<;>rfl)))|refine d_nil ?_|(apply o_s;(focus(first|(constructor<;>first|rfl|omega)|(apply Ri.add3<;>first|rfl|omega)|(apply Ri.sub3<;>first|rfl|omega)|(apply Ri.conv3<;>first|rfl|omega)|(apply Ri.eqb<;>rfl)|(apply Ri.neb<;>rfl)|(apply Ri.pT;(focus rfl);(focus(first|rfl|assumption|(simp;done)|(simp;omega)));(focus rfl))|(apply Ri.pF;(focus rfl);(focus(first|rfl|assumption|(simp;done)|(simp;omega)));(focus rfl))));(focus rfl)))
  refine o_still (r_index rfl rfl rfl (by omega) (by omega)) (wants_none rfl) rfl ?_
  refine o_still (r_load rfl (hkn.cell (hcell 0 _ rfl) id)) (wants_none rfl) rfl ?_
  repeat(first|refine o_nil ?_|(refine o_pass (wants_no rfl rfl rfl ?_) rfl ?_;(focus(first|rfl|assumption|(simp;done)|(simp;omega))))|refine o_pass (wants_not rfl rfl rfl) rfl ?_|(refine o_yes (wants_yes rfl rfl rfl ?_) ?_;(focus(first|rfl|assumption|(simp;done)|(simp;omega))))|refine k_region ?_|(apply k_go;(focus(constructor<;>rfl)))|refine d_nil ?_|(apply o_s;(focus(first|(constructor<;>first|rfl|omega)|(apply Ri.add3<;>first|rfl|omega)|(apply Ri.sub3<;>first|rfl|omega)|(apply Ri.conv3<;>first|rfl|omega)|(apply Ri.eqb<;>rfl)|(apply Ri.neb<;>rfl)|(apply Ri.pT;(focus rfl);(focus(first|rfl|assumption|(simp;done)|(simp;omega)));(focus rfl))|(apply Ri.pF;(focus rfl);(focus(first|rfl|assumption|(simp;done)|(simp;omega)));(focus rfl))));(focus rfl)))
  refine k_ite rfl (fun h0 => ?_) (fun h0 => ?_)
  · have h0' : l[i].length = 0 := by omega
    refine k_region ?_
    refine o_still (r_move rfl) (wants_none rfl) rfl ?_
    refine o_still (r_move rfl) (wants_none rfl) rfl ?_
    refine o_still (r_build (c := #[.int .i64 i, .int .i64 0]) rfl rfl) (wants_none rfl) rfl ?_
    refine o_any (e_one (z := .agg #[.int .i64 0, .int .i64 0]) (sz := 2) rfl rfl rfl (by decide)) (wants_none rfl) rfl ?_
    rintro _ w4 ⟨g4, rfl, nb4⟩
    have hOq4 := Kn.ow nb4.kn hO
    have k4 : Kn w w4 := hkn.trans nb4.kn
    have e4 := nb4.ge
    refine o_any (e_append2 (d := kPs) rfl rfl hOq4 (sl_blk (F := fun k => k = g4) (xs := [((i : Int), (0 : Int))]) (cells := [.int .i64 i, .int .i64 0]) nb4.at_ ⟨_, [], rfl, ps_R (by omega) (by decide), rfl⟩ rfl (show 1 * 16 ≤ 140737488355328 by decide)) (by
      rintro j rfl he
      have := (hO.block _ he).2
      omega) (by show ((placesTo l i).length + 1) * 16 ≤ 140737488355328; omega) rfl rfl rfl) (wants_none rfl) rfl ?_
    rintro v5 w5 hA
    obtain ⟨k5, hO5⟩ := app_next k4 hOq4 hA
    obtain ⟨A5, c5, rfl, _⟩ := hO5.form
    refine o_still (r_assign rfl) (wants_none rfl) rfl ?_
    refine o_nil ?_
    exact J A5 c5 w5 (placesTo l i ++ [((i : Int), 0)]) (fun _ => by rw [hps, hpa, if_pos h0']) (fun h => absurd h0' h) k5 hO5 _ (by repeat (first | exact SubB.nil | refine SubB.cons rfl ?_))
  · refine k_skip ?_
    exact J B cB wr (placesTo l i) (fun h => absurd h (by omega)) (fun _ => rfl) hkn hO _ (by repeat (first | exact SubB.nil | refine SubB.cons rfl ?_))
def smallP (l : List (List Int)) : Bool := decide (l.length ≤ 30 ∧ smallM l = true ∧ (placesTo l l.length).length ≤ 300)
theorem small_runes (h : smallM l = true) : l.length + runesM l ≤ 4000 := by
  unfold smallM at h
  have := of_decide_eq_true h
  omega
theorem smallP_calls (h : Sl kRow F w v l) : CallsR Try.prog 8 #[v] w fun u w' => Kn w w' ∧ u = .bool (smallP l) := by
  obtain ⟨A, c, rfl, hc, hlf⟩ := h.form
  have hlen := hlf.len
  refine calls_enter Try.func8 rfl rfl ?_
  by_cases hl : l.length ≤ 30
  · repeat(first|refine o_nil ?_|(refine o_pass (wants_no rfl rfl rfl ?_) rfl ?_;(focus(first|rfl|assumption|(simp;done)|(simp;omega))))|refine o_pass (wants_not rfl rfl rfl) rfl ?_|(refine o_yes (wants_yes rfl rfl rfl ?_) ?_;(focus(first|rfl|assumption|(simp;done)|(simp;omega))))|refine k_region ?_|(apply k_go;(focus(constructor<;>rfl)))|refine d_nil ?_|(apply o_s;(focus(first|(constructor<;>first|rfl|omega)|(apply Ri.add3<;>first|rfl|omega)|(apply Ri.sub3<;>first|rfl|omega)|(apply Ri.conv3<;>first|rfl|omega)|(apply Ri.eqb<;>rfl)|(apply Ri.neb<;>rfl)|(apply Ri.pT;(focus rfl);(focus(first|rfl|assumption|(simp;done)|(simp;omega)));(focus rfl))|(apply Ri.pF;(focus rfl);(focus(first|rfl|assumption|(simp;done)|(simp;omega)));(focus rfl))));(focus rfl)))
    refine o_enter (n_call rfl) (wants_none rfl) rfl ((small_calls h).mono ?_)
    rintro _ w ⟨rfl, rfl⟩
    cases hs : smallM l with
    | true =>
      repeat(first|refine o_nil ?_|(refine o_pass (wants_no rfl rfl rfl ?_) rfl ?_;(focus(first|rfl|assumption|(simp;done)|(simp;omega))))|refine o_pass (wants_not rfl rfl rfl) rfl ?_|(refine o_yes (wants_yes rfl rfl rfl ?_) ?_;(focus(first|rfl|assumption|(simp;done)|(simp;omega))))|refine k_region ?_|(apply k_go;(focus(constructor<;>rfl)))|refine d_nil ?_|(apply o_s;(focus(first|(constructor<;>first|rfl|omega)|(apply Ri.add3<;>first|rfl|omega)|(apply Ri.sub3<;>first|rfl|omega)|(apply Ri.conv3<;>first|rfl|omega)|(apply Ri.eqb<;>rfl)|(apply Ri.neb<;>rfl)|(apply Ri.pT;(focus rfl);(focus(first|rfl|assumption|(simp;done)|(simp;omega)));(focus rfl))|(apply Ri.pF;(focus rfl);(focus(first|rfl|assumption|(simp;done)|(simp;omega)));(focus rfl))));(focus rfl)))
      refine o_enter (n_call rfl) (wants_none rfl) rfl ((places_calls h (small_runes hs)).mono ?_)
      rintro _ w2 ⟨k2, A2, c2, rfl, hO⟩
      repeat(first|refine o_nil ?_|(refine o_pass (wants_no rfl rfl rfl ?_) rfl ?_;(focus(first|rfl|assumption|(simp;done)|(simp;omega))))|refine o_pass (wants_not rfl rfl rfl) rfl ?_|(refine o_yes (wants_yes rfl rfl rfl ?_) ?_;(focus(first|rfl|assumption|(simp;done)|(simp;omega))))|refine k_region ?_|(apply k_go;(focus(constructor<;>rfl)))|refine d_nil ?_|(apply o_s;(focus(first|(constructor<;>first|rfl|omega)|(apply Ri.add3<;>first|rfl|omega)|(apply Ri.sub3<;>first|rfl|omega)|(apply Ri.conv3<;>first|rfl|omega)|(apply Ri.eqb<;>rfl)|(apply Ri.neb<;>rfl)|(apply Ri.pT;(focus rfl);(focus(first|rfl|assumption|(simp;done)|(simp;omega)));(focus rfl))|(apply Ri.pF;(focus rfl);(focus(first|rfl|assumption|(simp;done)|(simp;omega)));(focus rfl))));(focus rfl)))
      refine k_ret1 rfl rfl ⟨k2, ?_⟩
      unfold smallP
      congr 1
      rw [decide_eq_decide]
      constructor
      · intro h; exact ⟨hl, hs, by omega⟩
      · intro h; omega
    | false =>
      repeat(first|refine o_nil ?_|(refine o_pass (wants_no rfl rfl rfl ?_) rfl ?_;(focus(first|rfl|assumption|(simp;done)|(simp;omega))))|refine o_pass (wants_not rfl rfl rfl) rfl ?_|(refine o_yes (wants_yes rfl rfl rfl ?_) ?_;(focus(first|rfl|assumption|(simp;done)|(simp;omega))))|refine k_region ?_|(apply k_go;(focus(constructor<;>rfl)))|refine d_nil ?_|(apply o_s;(focus(first|(constructor<;>first|rfl|omega)|(apply Ri.add3<;>first|rfl|omega)|(apply Ri.sub3<;>first|rfl|omega)|(apply Ri.conv3<;>first|rfl|omega)|(apply Ri.eqb<;>rfl)|(apply Ri.neb<;>rfl)|(apply Ri.pT;(focus rfl);(focus(first|rfl|assumption|(simp;done)|(simp;omega)));(focus rfl))|(apply Ri.pF;(focus rfl);(focus(first|rfl|assumption|(simp;done)|(simp;omega)));(focus rfl))));(focus rfl)))
      refine k_ret1 rfl rfl ⟨Kp.refl _ _, ?_⟩
      unfold smallP
      rw [decide_eq_false (by simp [hs])]
  · repeat(first|refine o_nil ?_|(refine o_pass (wants_no rfl rfl rfl ?_) rfl ?_;(focus(first|rfl|assumption|(simp;done)|(simp;omega))))|refine o_pass (wants_not rfl rfl rfl) rfl ?_|(refine o_yes (wants_yes rfl rfl rfl ?_) ?_;(focus(first|rfl|assumption|(simp;done)|(simp;omega))))|refine k_region ?_|(apply k_go;(focus(constructor<;>rfl)))|refine d_nil ?_|(apply o_s;(focus(first|(constructor<;>first|rfl|omega)|(apply Ri.add3<;>first|rfl|omega)|(apply Ri.sub3<;>first|rfl|omega)|(apply Ri.conv3<;>first|rfl|omega)|(apply Ri.eqb<;>rfl)|(apply Ri.neb<;>rfl)|(apply Ri.pT;(focus rfl);(focus(first|rfl|assumption|(simp;done)|(simp;omega)));(focus rfl))|(apply Ri.pF;(focus rfl);(focus(first|rfl|assumption|(simp;done)|(simp;omega)));(focus rfl))));(focus rfl)))
    refine k_ret1 rfl rfl ⟨Kp.refl _ _, ?_⟩
    unfold smallP
    rw [decide_eq_false (by omega)]
theorem row_calls {s : ByteArray} (hs : s.size ≤ 35184372088832) : CallsR Try.prog 27 #[.string s] w fun u w' => Kn w w' ∧ ∃ A c, u = .slice A (runesOf s).length c ∧ Ow kRune (noB w) (fun _ => False) w' (.slice A (runesOf s).length c) (runesOf s) := by
  refine calls_enter Try.func27 rfl rfl ?_
  repeat(first|refine o_nil ?_|(refine o_pass (wants_no rfl rfl rfl ?_) rfl ?_;(focus(first|rfl|assumption|(simp;done)|(simp;omega))))|refine o_pass (wants_not rfl rfl rfl) rfl ?_|(refine o_yes (wants_yes rfl rfl rfl ?_) ?_;(focus(first|rfl|assumption|(simp;done)|(simp;omega))))|refine k_region ?_|(apply k_go;(focus(constructor<;>rfl)))|refine d_nil ?_|(apply o_s;(focus(first|(constructor<;>first|rfl|omega)|(apply Ri.add3<;>first|rfl|omega)|(apply Ri.sub3<;>first|rfl|omega)|(apply Ri.conv3<;>first|rfl|omega)|(apply Ri.eqb<;>rfl)|(apply Ri.neb<;>rfl)|(apply Ri.pT;(focus rfl);(focus(first|rfl|assumption|(simp;done)|(simp;omega)));(focus rfl))|(apply Ri.pF;(focus rfl);(focus(first|rfl|assumption|(simp;done)|(simp;omega)));(focus rfl))));(focus rfl)))
  refine o_any (e_runes rfl hs) (wants_none rfl) rfl ?_
  rintro v2 w2 ⟨k2, hO⟩
  obtain ⟨A2, c2, rfl, _⟩ := hO.form
  repeat(first|refine o_nil ?_|(refine o_pass (wants_no rfl rfl rfl ?_) rfl ?_;(focus(first|rfl|assumption|(simp;done)|(simp;omega))))|refine o_pass (wants_not rfl rfl rfl) rfl ?_|(refine o_yes (wants_yes rfl rfl rfl ?_) ?_;(focus(first|rfl|assumption|(simp;done)|(simp;omega))))|refine k_region ?_|(apply k_go;(focus(constructor<;>rfl)))|refine d_nil ?_|(apply o_s;(focus(first|(constructor<;>first|rfl|omega)|(apply Ri.add3<;>first|rfl|omega)|(apply Ri.sub3<;>first|rfl|omega)|(apply Ri.conv3<;>first|rfl|omega)|(apply Ri.eqb<;>rfl)|(apply Ri.neb<;>rfl)|(apply Ri.pT;(focus rfl);(focus(first|rfl|assumption|(simp;done)|(simp;omega)));(focus rfl))|(apply Ri.pF;(focus rfl);(focus(first|rfl|assumption|(simp;done)|(simp;omega)));(focus rfl))));(focus rfl)))
  exact k_ret1 rfl rfl ⟨k2, A2, c2, rfl, hO⟩
end
end Go.Ink
