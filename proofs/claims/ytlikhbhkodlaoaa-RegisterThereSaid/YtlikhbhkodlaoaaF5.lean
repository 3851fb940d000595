/-
  slot.more.
-/
import Derived.Test.YtlikhbhkodlaoaaF4
set_option linter.unusedVariables false
set_option linter.unusedSimpArgs false
namespace Go.Ink
open Go Go.Proofs

theorem sizeM_len (l : List (List Int)) : l.length ≤ sizeM l := by unfold sizeM; omega
theorem sizeM_mem {l : List (List Int)} {x : List Int} (h : x ∈ l) : x.length ≤ sizeM l := by
  unfold sizeM
  induction l with
  | nil => cases h
  | cons a l ih =>
    rcases List.mem_cons.1 h with rfl | h
    · simp; omega
    · have := ih h; simp; omega
set_option maxHeartbeats 1000000 in
theorem more_calls {F : Nat → Prop} {w : World} {x : Slot} {r : Reg} {vx vr : Value} (hx : Sl kRow F w vx x.2.2) (hr : Sl kRow F w vr r.2) (hn : x.1 = true → x.2.1 = 0 → r.1 = 0 → x.2.2 ≠ [] ∧ r.2 ≠ [])
    (hsx : sizeM x.2.2 ≤ 4294967296) (hsr : sizeM r.2 ≤ 4294967296) :
    CallsR Try.prog 25 #[.agg #[.bool x.1, .int .i64 x.2.1, vx], .agg #[.int .i64 r.1, vr]] w fun u w' => Kn w w' ∧ ∃ v', u = .agg #[.int .i64 (moreM x r).1, v'] ∧ Sl kRow (fun k => F k ∨ noB w k) w' v' (moreM x r).2 := by
  obtain ⟨xb, xk, xl⟩ := x
  obtain ⟨rk, rl⟩ := r
  simp only at hx hr hn hsx hsr
  obtain ⟨Ax, cx, rfl, hcx, hlx⟩ := hx.form
  obtain ⟨Ar, cr, rfl, hcr, hlr⟩ := hr.form
  have hzx := sizeM_len xl
  have hzr := sizeM_len rl
  have hr0 := hr.mono (F' := fun k => F k ∧ k < w.heap.size) fun k hk hl => ⟨hk, hl⟩
  refine calls_enter Try.func25 rfl rfl ?_
  repeat(first|refine o_nil ?_|(refine o_pass (wants_no rfl rfl rfl ?_) rfl ?_;(focus(first|rfl|assumption|(simp;done)|(simp;omega))))|refine o_pass (wants_not rfl rfl rfl) rfl ?_|(refine o_yes (wants_yes rfl rfl rfl ?_) ?_;(focus(first|rfl|assumption|(simp;done)|(simp;omega))))|refine k_region ?_|(apply k_go;(focus(constructor<;>rfl)))|refine d_nil ?_|(apply o_s;(focus(first|(constructor<;>first|rfl|omega)|(apply Ri.add3<;>first|rfl|omega)|(apply Ri.sub3<;>first|rfl|omega)|(apply Ri.conv3<;>first|rfl|omega)|(apply Ri.eqb<;>rfl)|(apply Ri.neb<;>rfl)|(apply Ri.pT;(focus rfl);(focus(first|rfl|assumption|(simp;done)|(simp;omega)));(focus rfl))|(apply Ri.pF;(focus rfl);(focus(first|rfl|assumption|(simp;done)|(simp;omega)));(focus rfl))));(focus rfl)))
  refine o_any (e_box rfl) (wants_none rfl) rfl ?_
  rintro _ w1 ⟨g1, rfl, nb1⟩
  refine o_any (e_box rfl) (wants_none rfl) rfl ?_
  rintro _ w2 ⟨g2, rfl, nb2⟩
  refine o_any (e_alloc) (wants_none rfl) rfl ?_
  rintro _ w3 ⟨g3, rfl, nb3⟩
  have b1 := nb3.kn.blk (nb2.kn.blk nb1.at_ id) id
  have b2 := nb3.kn.blk nb2.at_ id
  have k3 : Kn w w3 := (nb1.kn.trans nb2.kn).trans nb3.kn
  have hx3 := k3.sl hx
  have hr3 := k3.sl hr0
  have s13 := nb1.kn.size
  have s23 := nb2.kn.size
  have s33 := nb3.kn.size
  have g1l := nb1.lt
  have g2l := nb2.lt
  have g3l := nb3.lt
  have g1g := nb1.ge
  have g2g := nb2.ge
  have g3g := nb3.ge
  have d0 : w3.cell? ⟨g1, 0, none⟩ = some (.bool xb) := blk_cell b1
  have d1 : w3.cell? ⟨g1, 1, none⟩ = some (.int .i64 xk) := blk_cell b1
  have d2 : w3.cell? ⟨g1, 2, none⟩ = some (.slice Ax xl.length cx) := blk_cell b1
  have e0 : w3.cell? ⟨g2, 0, none⟩ = some (.int .i64 rk) := blk_cell b2
  have e1 : w3.cell? ⟨g2, 1, none⟩ = some (.slice Ar rl.length cr) := blk_cell b2
  repeat(first|refine o_nil ?_|(refine o_pass (wants_no rfl rfl rfl ?_) rfl ?_;(focus(first|rfl|assumption|(simp;done)|(simp;omega))))|refine o_pass (wants_not rfl rfl rfl) rfl ?_|(refine o_yes (wants_yes rfl rfl rfl ?_) ?_;(focus(first|rfl|assumption|(simp;done)|(simp;omega))))|refine k_region ?_|(apply k_go;(focus(constructor<;>rfl)))|refine d_nil ?_|(apply o_s;(focus(first|(constructor<;>first|rfl|omega)|(apply Ri.add3<;>first|rfl|omega)|(apply Ri.sub3<;>first|rfl|omega)|(apply Ri.conv3<;>first|rfl|omega)|(apply Ri.eqb<;>rfl)|(apply Ri.neb<;>rfl)|(apply Ri.pT;(focus rfl);(focus(first|rfl|assumption|(simp;done)|(simp;omega)));(focus rfl))|(apply Ri.pF;(focus rfl);(focus(first|rfl|assumption|(simp;done)|(simp;omega)));(focus rfl))));(focus rfl)))
  refine o_still (r_load rfl d0) (wants_none rfl) rfl ?_
  repeat(first|refine o_nil ?_|(refine o_pass (wants_no rfl rfl rfl ?_) rfl ?_;(focus(first|rfl|assumption|(simp;done)|(simp;omega))))|refine o_pass (wants_not rfl rfl rfl) rfl ?_|(refine o_yes (wants_yes rfl rfl rfl ?_) ?_;(focus(first|rfl|assumption|(simp;done)|(simp;omega))))|refine k_region ?_|(apply k_go;(focus(constructor<;>rfl)))|refine d_nil ?_|(apply o_s;(focus(first|(constructor<;>first|rfl|omega)|(apply Ri.add3<;>first|rfl|omega)|(apply Ri.sub3<;>first|rfl|omega)|(apply Ri.conv3<;>first|rfl|omega)|(apply Ri.eqb<;>rfl)|(apply Ri.neb<;>rfl)|(apply Ri.pT;(focus rfl);(focus(first|rfl|assumption|(simp;done)|(simp;omega)));(focus rfl))|(apply Ri.pF;(focus rfl);(focus(first|rfl|assumption|(simp;done)|(simp;omega)));(focus rfl))));(focus rfl)))
  cases xb with
  | false =>
    refine k_true rfl ?_
    repeat(first|refine o_nil ?_|(refine o_pass (wants_no rfl rfl rfl ?_) rfl ?_;(focus(first|rfl|assumption|(simp;done)|(simp;omega))))|refine o_pass (wants_not rfl rfl rfl) rfl ?_|(refine o_yes (wants_yes rfl rfl rfl ?_) ?_;(focus(first|rfl|assumption|(simp;done)|(simp;omega))))|refine k_region ?_|(apply k_go;(focus(constructor<;>rfl)))|refine d_nil ?_|(apply o_s;(focus(first|(constructor<;>first|rfl|omega)|(apply Ri.add3<;>first|rfl|omega)|(apply Ri.sub3<;>first|rfl|omega)|(apply Ri.conv3<;>first|rfl|omega)|(apply Ri.eqb<;>rfl)|(apply Ri.neb<;>rfl)|(apply Ri.pT;(focus rfl);(focus(first|rfl|assumption|(simp;done)|(simp;omega)));(focus rfl))|(apply Ri.pF;(focus rfl);(focus(first|rfl|assumption|(simp;done)|(simp;omega)));(focus rfl))));(focus rfl)))
    refine o_still (r_loadA (cs := [.int .i64 rk, .slice Ar rl.length cr]) rfl rfl (by
      intro j u hu
      match j, hu with
      | 0, hu => cases hu; exact e0
      | 1, hu => cases hu; exact e1)) (wants_none rfl) rfl ?_
    refine o_unit (u_storeA rfl rfl rfl (by simp [Value.oneCell']) rfl nb3.at_ (Nat.le_refl 2)) (wants_none rfl) rfl ?_
    rintro w4 hw4
    repeat(first|refine o_nil ?_|(refine o_pass (wants_no rfl rfl rfl ?_) rfl ?_;(focus(first|rfl|assumption|(simp;done)|(simp;omega))))|refine o_pass (wants_not rfl rfl rfl) rfl ?_|(refine o_yes (wants_yes rfl rfl rfl ?_) ?_;(focus(first|rfl|assumption|(simp;done)|(simp;omega))))|refine k_region ?_|(apply k_go;(focus(constructor<;>rfl)))|refine d_nil ?_|(apply o_s;(focus(first|(constructor<;>first|rfl|omega)|(apply Ri.add3<;>first|rfl|omega)|(apply Ri.sub3<;>first|rfl|omega)|(apply Ri.conv3<;>first|rfl|omega)|(apply Ri.eqb<;>rfl)|(apply Ri.neb<;>rfl)|(apply Ri.pT;(focus rfl);(focus(first|rfl|assumption|(simp;done)|(simp;omega)));(focus rfl))|(apply Ri.pF;(focus rfl);(focus(first|rfl|assumption|(simp;done)|(simp;omega)));(focus rfl))));(focus rfl)))
    refine k_retR1 rfl (.agg rfl rfl (blk_all hw4.at_) .nil) ⟨?_, _, rfl, ?_⟩
    · exact Kp.then k3 hw4.kp (fun _ h => h) (fun i hi he => by omega)
    · exact (Kp.sl hw4.kp hr3 (fun k hk => by omega)).mono fun k hk _ => .inl hk.1
  | true =>
    refine k_false rfl ?_
    repeat(first|refine o_nil ?_|(refine o_pass (wants_no rfl rfl rfl ?_) rfl ?_;(focus(first|rfl|assumption|(simp;done)|(simp;omega))))|refine o_pass (wants_not rfl rfl rfl) rfl ?_|(refine o_yes (wants_yes rfl rfl rfl ?_) ?_;(focus(first|rfl|assumption|(simp;done)|(simp;omega))))|refine k_region ?_|(apply k_go;(focus(constructor<;>rfl)))|refine d_nil ?_|(apply o_s;(focus(first|(constructor<;>first|rfl|omega)|(apply Ri.add3<;>first|rfl|omega)|(apply Ri.sub3<;>first|rfl|omega)|(apply Ri.conv3<;>first|rfl|omega)|(apply Ri.eqb<;>rfl)|(apply Ri.neb<;>rfl)|(apply Ri.pT;(focus rfl);(focus(first|rfl|assumption|(simp;done)|(simp;omega)));(focus rfl))|(apply Ri.pF;(focus rfl);(focus(first|rfl|assumption|(simp;done)|(simp;omega)));(focus rfl))));(focus rfl)))
    refine o_still (r_load rfl d2) (wants_none rfl) rfl ?_
    by_cases hch : xk = 0 ∧ rk = 0
    · obtain ⟨hx0, hr0'⟩ := hch
      subst hx0 hr0'
      obtain ⟨hnx, hnr⟩ := hn rfl rfl rfl
      have hpx := List.length_pos_iff.2 hnx
      have hpr := List.length_pos_iff.2 hnr
      refine o_enter (n_call rfl) (wants_none rfl) rfl ((linesL_calls hx3 hnx).mono ?_)
      rintro _ w4 ⟨hk4, g4, cs4, e4, rfl, hg4, hb4, r0, xl', c0, u, hxs, rfl, hE4, hO4⟩
      subst hxs
      have s43 := hk4.size
      have g4l := blk_lt hb4
      have b14 := hk4.blk b1 id
      have b24 := hk4.blk b2 id
      have b34 := hk4.blk nb3.at_ id
      have hr4 := hk4.sl hr3
      have d1' : w4.cell? ⟨g1, 1, none⟩ = some (.int .i64 0) := blk_cell b14
      have e0' : w4.cell? ⟨g2, 0, none⟩ = some (.int .i64 0) := blk_cell b24
      have e1' : w4.cell? ⟨g2, 1, none⟩ = some (.slice Ar rl.length cr) := blk_cell b24
      have hcl := hE4.len
      have hcl : c0.length = r0.length := by rw [hcl]; exact Nat.mul_one _
      have hxlen : (r0 ++ [xl']).length = r0.length + 1 := by simp
      rw [hxlen] at hzx hpx
      obtain ⟨rh, rt, rfl⟩ := List.exists_cons_of_ne_nil hnr
      have hrlen : (rh :: rt).length = rt.length + 1 := rfl
      rw [hrlen] at hzr hpr
      obtain ⟨ad, ds, rfl, ⟨v1, rfl, hrow⟩, hcell⟩ := hr4.at_ (j := 0) (x := rh) rfl
      have hub := hO4.block
      obtain ⟨Au, cu, rfl, hcu, hlu⟩ := hO4.form
      have hlx' := sizeM_mem (l := r0 ++ [xl']) (x := xl') (by simp)
      have hlr' := sizeM_mem (l := rh :: rt) (x := rh) (by simp)
      repeat(first|refine o_nil ?_|(refine o_pass (wants_no rfl rfl rfl ?_) rfl ?_;(focus(first|rfl|assumption|(simp;done)|(simp;omega))))|refine o_pass (wants_not rfl rfl rfl) rfl ?_|(refine o_yes (wants_yes rfl rfl rfl ?_) ?_;(focus(first|rfl|assumption|(simp;done)|(simp;omega))))|refine k_region ?_|(apply k_go;(focus(constructor<;>rfl)))|refine d_nil ?_|(apply o_s;(focus(first|(constructor<;>first|rfl|omega)|(apply Ri.add3<;>first|rfl|omega)|(apply Ri.sub3<;>first|rfl|omega)|(apply Ri.conv3<;>first|rfl|omega)|(apply Ri.eqb<;>rfl)|(apply Ri.neb<;>rfl)|(apply Ri.pT;(focus rfl);(focus(first|rfl|assumption|(simp;done)|(simp;omega)));(focus rfl))|(apply Ri.pF;(focus rfl);(focus(first|rfl|assumption|(simp;done)|(simp;omega)));(focus rfl))));(focus rfl)))
      refine o_still (r_load rfl d1') (wants_none rfl) rfl ?_
      repeat(first|refine o_nil ?_|(refine o_pass (wants_no rfl rfl rfl ?_) rfl ?_;(focus(first|rfl|assumption|(simp;done)|(simp;omega))))|refine o_pass (wants_not rfl rfl rfl) rfl ?_|(refine o_yes (wants_yes rfl rfl rfl ?_) ?_;(focus(first|rfl|assumption|(simp;done)|(simp;omega))))|refine k_region ?_|(apply k_go;(focus(constructor<;>rfl)))|refine d_nil ?_|(apply o_s;(focus(first|(constructor<;>first|rfl|omega)|(apply Ri.add3<;>first|rfl|omega)|(apply Ri.sub3<;>first|rfl|omega)|(apply Ri.conv3<;>first|rfl|omega)|(apply Ri.eqb<;>rfl)|(apply Ri.neb<;>rfl)|(apply Ri.pT;(focus rfl);(focus(first|rfl|assumption|(simp;done)|(simp;omega)));(focus rfl))|(apply Ri.pF;(focus rfl);(focus(first|rfl|assumption|(simp;done)|(simp;omega)));(focus rfl))));(focus rfl)))
      refine o_still (r_load rfl e0') (wants_none rfl) rfl ?_
      repeat(first|refine o_nil ?_|(refine o_pass (wants_no rfl rfl rfl ?_) rfl ?_;(focus(first|rfl|assumption|(simp;done)|(simp;omega))))|refine o_pass (wants_not rfl rfl rfl) rfl ?_|(refine o_yes (wants_yes rfl rfl rfl ?_) ?_;(focus(first|rfl|assumption|(simp;done)|(simp;omega))))|refine k_region ?_|(apply k_go;(focus(constructor<;>rfl)))|refine d_nil ?_|(apply o_s;(focus(first|(constructor<;>first|rfl|omega)|(apply Ri.add3<;>first|rfl|omega)|(apply Ri.sub3<;>first|rfl|omega)|(apply Ri.conv3<;>first|rfl|omega)|(apply Ri.eqb<;>rfl)|(apply Ri.neb<;>rfl)|(apply Ri.pT;(focus rfl);(focus(first|rfl|assumption|(simp;done)|(simp;omega)));(focus rfl))|(apply Ri.pF;(focus rfl);(focus(first|rfl|assumption|(simp;done)|(simp;omega)));(focus rfl))));(focus rfl)))
      refine k_false rfl ?_
      repeat(first|refine o_nil ?_|(refine o_pass (wants_no rfl rfl rfl ?_) rfl ?_;(focus(first|rfl|assumption|(simp;done)|(simp;omega))))|refine o_pass (wants_not rfl rfl rfl) rfl ?_|(refine o_yes (wants_yes rfl rfl rfl ?_) ?_;(focus(first|rfl|assumption|(simp;done)|(simp;omega))))|refine k_region ?_|(apply k_go;(focus(constructor<;>rfl)))|refine d_nil ?_|(apply o_s;(focus(first|(constructor<;>first|rfl|omega)|(apply Ri.add3<;>first|rfl|omega)|(apply Ri.sub3<;>first|rfl|omega)|(apply Ri.conv3<;>first|rfl|omega)|(apply Ri.eqb<;>rfl)|(apply Ri.neb<;>rfl)|(apply Ri.pT;(focus rfl);(focus(first|rfl|assumption|(simp;done)|(simp;omega)));(focus rfl))|(apply Ri.pF;(focus rfl);(focus(first|rfl|assumption|(simp;done)|(simp;omega)));(focus rfl))));(focus rfl)))
      refine o_still (r_index rfl rfl rfl (by simp only [hxlen]; omega) (by simp only [hxlen]; omega)) (wants_none rfl) rfl ?_
      repeat(first|refine o_nil ?_|(refine o_pass (wants_no rfl rfl rfl ?_) rfl ?_;(focus(first|rfl|assumption|(simp;done)|(simp;omega))))|refine o_pass (wants_not rfl rfl rfl) rfl ?_|(refine o_yes (wants_yes rfl rfl rfl ?_) ?_;(focus(first|rfl|assumption|(simp;done)|(simp;omega))))|refine k_region ?_|(apply k_go;(focus(constructor<;>rfl)))|refine d_nil ?_|(apply o_s;(focus(first|(constructor<;>first|rfl|omega)|(apply Ri.add3<;>first|rfl|omega)|(apply Ri.sub3<;>first|rfl|omega)|(apply Ri.conv3<;>first|rfl|omega)|(apply Ri.eqb<;>rfl)|(apply Ri.neb<;>rfl)|(apply Ri.pT;(focus rfl);(focus(first|rfl|assumption|(simp;done)|(simp;omega)));(focus rfl))|(apply Ri.pF;(focus rfl);(focus(first|rfl|assumption|(simp;done)|(simp;omega)));(focus rfl))));(focus rfl)))
      have hidx : ((((r0 ++ [xl']).length : Nat) : Int) - 1).toNat * 1 = r0.length := by simp only [hxlen]; omega
      have cu0 : w4.cell? ((⟨g4, 0, none⟩ : Addr).add (((((r0 ++ [xl']).length : Nat) : Int) - 1).toNat * 1)) = some (.slice Au xl'.length cu) := by
        rw [hidx]
        simp only [add_plain, Nat.zero_add, Nat.add_zero]
        rw [blk_cell hb4]
        simp [← hcl]
      have k4 := k3.trans hk4
      refine k_draw [(0, 0), (1, 0), (2, 0), (3, 0), (4, 0), (5, 0), (6, 0), (7, 0), (8, 1), (9, 0), (10, 1)] (by kernel_rfl) (by kernel_rfl) rfl (by kernel_rfl) ?_
      repeat(first|refine d_nil ?_|(refine d_open rfl ?_;first|((first|refine x_pass (wants_no rfl rfl rfl ?_) rfl ?_ ?_|refine x_passNow (wants_no rfl rfl rfl ?_) rfl ?_ ?_);(focus(first|rfl|assumption|(simp;done)|(simp;omega)));(focus(first|exact St.refl _|assumption)))|((first|refine x_pass (wants_not rfl rfl rfl) rfl ?_ ?_|refine x_passNow (wants_not rfl rfl rfl) rfl ?_ ?_);(focus(first|exact St.refl _|assumption)))|((first|apply x_s|apply x_n);(focus(first|(constructor<;>first|rfl|omega)|(apply Ri.add3<;>first|rfl|omega)|(apply Ri.sub3<;>first|rfl|omega)|(apply Ri.conv3<;>first|rfl|omega)|(apply Ri.eqb<;>rfl)|(apply Ri.neb<;>rfl)|(apply Ri.pT;(focus rfl);(focus(first|rfl|assumption|(simp;done)|(simp;omega)));(focus rfl))|(apply Ri.pF;(focus rfl);(focus(first|rfl|assumption|(simp;done)|(simp;omega)));(focus rfl))));(focus(first|exact wants_none rfl|exact wants_yes rfl rfl rfl (by first|rfl|assumption|(simp;done)|(simp;omega))));(focus rfl);(focus(first|exact St.refl _|assumption)))))
      refine d_open rfl ?_; refine x_still (r_load rfl cu0) (wants_none rfl) rfl (by first | exact St.refl _ | assumption) ?_
      repeat(first|refine d_nil ?_|(refine d_open rfl ?_;first|((first|refine x_pass (wants_no rfl rfl rfl ?_) rfl ?_ ?_|refine x_passNow (wants_no rfl rfl rfl ?_) rfl ?_ ?_);(focus(first|rfl|assumption|(simp;done)|(simp;omega)));(focus(first|exact St.refl _|assumption)))|((first|refine x_pass (wants_not rfl rfl rfl) rfl ?_ ?_|refine x_passNow (wants_not rfl rfl rfl) rfl ?_ ?_);(focus(first|exact St.refl _|assumption)))|((first|apply x_s|apply x_n);(focus(first|(constructor<;>first|rfl|omega)|(apply Ri.add3<;>first|rfl|omega)|(apply Ri.sub3<;>first|rfl|omega)|(apply Ri.conv3<;>first|rfl|omega)|(apply Ri.eqb<;>rfl)|(apply Ri.neb<;>rfl)|(apply Ri.pT;(focus rfl);(focus(first|rfl|assumption|(simp;done)|(simp;omega)));(focus rfl))|(apply Ri.pF;(focus rfl);(focus(first|rfl|assumption|(simp;done)|(simp;omega)));(focus rfl))));(focus(first|exact wants_none rfl|exact wants_yes rfl rfl rfl (by first|rfl|assumption|(simp;done)|(simp;omega))));(focus rfl);(focus(first|exact St.refl _|assumption)))))
      refine d_open rfl ?_; refine x_still (r_load rfl e1') (wants_none rfl) rfl (by first | exact St.refl _ | assumption) ?_
      refine d_open rfl ?_; refine x_still (r_index rfl rfl rfl (by omega) (by omega)) (wants_none rfl) rfl (by first | exact St.refl _ | assumption) ?_
      refine d_open rfl ?_; refine x_still (r_load rfl (hcell 0 _ rfl)) (wants_none rfl) rfl (by first | exact St.refl _ | assumption) ?_
      refine d_open rfl ?_; refine x_any (e_append2 (d := kRune) (G := fun k => noB w3 k ∧ k ≠ g4) (F := fun _ => False) (F2 := fun k => F k ∧ k < w.heap.size) rfl rfl hO4 hrow (by
        intro k hk hg
        have := (hub k hg).1.1
        simp only [noB] at this
        omega) (by show (xl'.length + rh.length) * 4 ≤ 140737488355328; omega) rfl rfl rfl) (wants_none rfl) rfl ?_
      rintro u5 w5 hA
      refine .inr ⟨(by kernel_rfl), ?_⟩
      obtain ⟨A5, c5, rfl, hc5, hl5⟩ := hA.ow.form
      have b5 := hA.kp.blk hb4 (fun he => (hub g4 he).1.2 rfl)
      have s54 := hA.kp.size
      repeat(first|refine d_nil ?_|(refine d_open rfl ?_;first|((first|refine x_pass (wants_no rfl rfl rfl ?_) rfl ?_ ?_|refine x_passNow (wants_no rfl rfl rfl ?_) rfl ?_ ?_);(focus(first|rfl|assumption|(simp;done)|(simp;omega)));(focus(first|exact St.refl _|assumption)))|((first|refine x_pass (wants_not rfl rfl rfl) rfl ?_ ?_|refine x_passNow (wants_not rfl rfl rfl) rfl ?_ ?_);(focus(first|exact St.refl _|assumption)))|((first|apply x_s|apply x_n);(focus(first|(constructor<;>first|rfl|omega)|(apply Ri.add3<;>first|rfl|omega)|(apply Ri.sub3<;>first|rfl|omega)|(apply Ri.conv3<;>first|rfl|omega)|(apply Ri.eqb<;>rfl)|(apply Ri.neb<;>rfl)|(apply Ri.pT;(focus rfl);(focus(first|rfl|assumption|(simp;done)|(simp;omega)));(focus rfl))|(apply Ri.pF;(focus rfl);(focus(first|rfl|assumption|(simp;done)|(simp;omega)));(focus rfl))));(focus(first|exact wants_none rfl|exact wants_yes rfl rfl rfl (by first|rfl|assumption|(simp;done)|(simp;omega))));(focus rfl);(focus(first|exact St.refl _|assumption)))))
      refine d_open rfl ?_; refine x_unit (u_store (i := r0.length) rfl rfl rfl (by rw [hidx]; simp only [add_plain, Nat.zero_add, Nat.add_zero]) b5 (by simp [hcl])) (wants_none rfl) rfl ?_
      rintro w6 hw6
      refine .inr ⟨(by kernel_rfl), ?_⟩
      have s65 := hw6.kp.size
      have hb6 := hw6.at_
      rw [show (c0 ++ [Value.slice Au xl'.length cu]).toArray.setIfInBounds r0.length (Value.slice A5 (xl' ++ rh).length c5) = (c0 ++ [Value.slice A5 (xl' ++ rh).length c5]).toArray from by
        rw [List.setIfInBounds_toArray, List.set_append_right _ _ (by omega), hcl, Nat.sub_self]; rfl] at hb6
      have k5 : Kn w w5 := Kp.then k4 hA.kp (fun _ h => h) (fun i hi he => by
        have := (hub i he).1.1
        simp only [noB] at this
        omega)
      have k6 : Kn w w6 := Kp.then k5 hw6.kp (fun _ h => h) (fun i hi he => by omega)
      have hE6 : Els kRow (fun k => noB w3 k ∧ k ≠ g4) w6 r0 c0 := by
        refine Els.mono ((hE4.move fun k hk hl => hA.kp.block k hl (fun he => hk.2.2 he)).move fun k hk hl => hw6.kp.block k hl hk.2.1) fun k hk _ => ⟨hk.1, hk.2.1⟩
      have hU6 : Sl kRune (fun k => noB w3 k ∧ k ≠ g4) w6 (.slice A5 (xl' ++ rh).length c5) (xl' ++ rh) := by
        refine Kp.sl hw6.kp ((hA.ow.sc (F' := fun _ => False)).slF ?_ ?_) fun k hk => hk.2
        · intro k hk
          simp only [noB] at hk ⊢
          omega
        · exact fun k hk => hk.elim
      have hl6 : (r0 ++ [xl']).length = (r0 ++ [xl' ++ rh]).length := by simp
      have hO6 : Ow kRow (fun k => k = g4) (fun k => noB w3 k ∧ k ≠ g4) w6 (.slice (some ⟨g4, 0, none⟩) (r0 ++ [xl']).length (r0 ++ [xl']).length) (r0 ++ [xl' ++ rh]) := by
        rw [hl6]
        refine ⟨_, Els.mono (hE6.snoc ⟨_, rfl, hU6⟩) fun k hk _ => ⟨hk, by simpa [Value.ownBlock] using fun e => hk.2 e.symm⟩, ?_, .inr ⟨g4, 0, _, _, _, rfl, ?_, hb6, Nat.le_refl _, ?_, ?_, ?_⟩⟩
        · show (r0 ++ [xl' ++ rh]).length * 24 ≤ 140737488355328
          rw [← hl6, hxlen]
          omega
        · rfl
        · rw [← hl6, hxlen]
          unfold maxLen
          omega
        · rw [← hl6, hxlen]
          simp [hcl, show kRow.sz = 1 from rfl]
        · intro j u hu
          simpa using hu
      have hr6 : Sl kRow (fun k => F k ∧ k < w.heap.size) w6 (.slice (some ad) (rh :: rt).length cr) (rh :: rt) := k6.sl hr0
      have f1 : w6.cell? ⟨g2, 1, none⟩ = some (.slice (some ad) (rh :: rt).length cr) := blk_cell (hw6.kp.blk (hA.kp.blk b24 (fun he => by
        have := (hub g2 he).1.1
        simp only [noB] at this
        omega)) (by omega))
      have b6 := hw6.kp.blk (hA.kp.blk b34 (fun he => by
        have := (hub g3 he).1.1
        simp only [noB] at this
        omega)) (by omega)
      have hcut := hr6.cutV (l := 1) (hi := (rh :: rt).length) (m := cr) (by simp) (Nat.le_refl _) hcr (Nat.le_refl _)
      repeat(first|refine o_nil ?_|(refine o_pass (wants_no rfl rfl rfl ?_) rfl ?_;(focus(first|rfl|assumption|(simp;done)|(simp;omega))))|refine o_pass (wants_not rfl rfl rfl) rfl ?_|(refine o_yes (wants_yes rfl rfl rfl ?_) ?_;(focus(first|rfl|assumption|(simp;done)|(simp;omega))))|refine k_region ?_|(apply k_go;(focus(constructor<;>rfl)))|refine d_nil ?_|(apply o_s;(focus(first|(constructor<;>first|rfl|omega)|(apply Ri.add3<;>first|rfl|omega)|(apply Ri.sub3<;>first|rfl|omega)|(apply Ri.conv3<;>first|rfl|omega)|(apply Ri.eqb<;>rfl)|(apply Ri.neb<;>rfl)|(apply Ri.pT;(focus rfl);(focus(first|rfl|assumption|(simp;done)|(simp;omega)));(focus rfl))|(apply Ri.pF;(focus rfl);(focus(first|rfl|assumption|(simp;done)|(simp;omega)));(focus rfl))));(focus rfl)))
      refine o_still (r_load rfl f1) (wants_none rfl) rfl ?_
      refine o_still (r_slice rfl 1 (rh :: rt).length cr rfl ⟨rfl, rfl⟩ ⟨_, rfl⟩ (by simp) hcr (Nat.le_refl _)) (wants_none rfl) rfl ?_
      have hrt : (List.drop 1 (List.take (rh :: rt).length (rh :: rt))) = rt := by simp
      rw [hrt] at hcut
      refine o_any (e_append2 (d := kRow) rfl rfl hO6 hcut (by
        intro k hk hg
        obtain rfl : g4 = k := by simpa [Value.ownBlock] using hg
        omega) (by
        rw [← hl6, hxlen]
        show (r0.length + 1 + rt.length) * 24 ≤ 140737488355328
        omega) rfl rfl rfl) (wants_none rfl) rfl ?_
      rintro u7 w7 hA7
      obtain ⟨A7, c7, rfl, hc7, hl7⟩ := hA7.ow.form
      have s76 := hA7.kp.size
      have b7 := hA7.kp.blk b6 (by
        intro hg
        obtain rfl : g4 = g3 := by simpa [Value.ownBlock] using hg
        omega)
      have k7 : Kn w w7 := Kp.then k6 hA7.kp (fun _ h => h) (fun i hi he => by
        obtain rfl : g4 = i := by simpa [Value.ownBlock] using he
        omega)
      refine o_still (r_build (c := #[.int .i64 0, .slice A7 (r0 ++ [xl' ++ rh] ++ rt).length c7]) rfl rfl) (wants_none rfl) rfl ?_
      refine o_unit (u_storeA rfl rfl rfl (by simp [Value.oneCell']) rfl b7 (Nat.le_refl 2)) (wants_none rfl) rfl ?_
      rintro w8 hw8
      repeat(first|refine o_nil ?_|(refine o_pass (wants_no rfl rfl rfl ?_) rfl ?_;(focus(first|rfl|assumption|(simp;done)|(simp;omega))))|refine o_pass (wants_not rfl rfl rfl) rfl ?_|(refine o_yes (wants_yes rfl rfl rfl ?_) ?_;(focus(first|rfl|assumption|(simp;done)|(simp;omega))))|refine k_region ?_|(apply k_go;(focus(constructor<;>rfl)))|refine d_nil ?_|(apply o_s;(focus(first|(constructor<;>first|rfl|omega)|(apply Ri.add3<;>first|rfl|omega)|(apply Ri.sub3<;>first|rfl|omega)|(apply Ri.conv3<;>first|rfl|omega)|(apply Ri.eqb<;>rfl)|(apply Ri.neb<;>rfl)|(apply Ri.pT;(focus rfl);(focus(first|rfl|assumption|(simp;done)|(simp;omega)));(focus rfl))|(apply Ri.pF;(focus rfl);(focus(first|rfl|assumption|(simp;done)|(simp;omega)));(focus rfl))));(focus rfl)))
      have hm : moreM (true, (0, r0 ++ [xl'])) (0, rh :: rt) = (0, r0 ++ [xl' ++ rh] ++ rt) := by simp [moreM]
      rw [hm]
      refine k_retR1 rfl (.agg rfl rfl (blk_all hw8.at_) .nil) ⟨?_, _, rfl, ?_⟩
      · exact Kp.then k7 hw8.kp (fun _ h => h) (fun i hi he => by omega)
      · refine (Kp.sl hw8.kp (hA7.ow.slF (F' := fun k => (F k ∨ noB w k) ∧ k ≠ g3) ?_ ?_) fun k hk => hk.2).mono fun k hk _ => hk.1
        · rintro k (hk | hk)
          · exact ⟨.inr (by simp only [noB]; omega), by omega⟩
          · exact ⟨.inr (by simp only [noB]; omega), by omega⟩
        · rintro k (hk | hk)
          · have := hk.1
            simp only [noB] at this
            exact ⟨.inr (by simp only [noB]; omega), by omega⟩
          · exact ⟨.inl hk.1, by omega⟩
    · have hm : moreM (true, (xk, xl)) (rk, rl) = (1, xl ++ rl) := by
        have : xk ≠ 0 ∨ rk ≠ 0 := by omega
        simp [moreM, this]
      rw [hm]
      refine o_enter (n_call rfl) (wants_none rfl) rfl ((lines_calls hx3).mono ?_)
      rintro v4 w4 ⟨hk4, hO4⟩
      obtain ⟨A4, c4, rfl, hc4, hl4⟩ := hO4.form
      have hub := hO4.block
      have s43 := hk4.size
      have b14 := hk4.blk b1 id
      have b24 := hk4.blk b2 id
      have b34 := hk4.blk nb3.at_ id
      have hr4 := hk4.sl hr3
      have k4 := k3.trans hk4
      have d1' : w4.cell? ⟨g1, 1, none⟩ = some (.int .i64 xk) := blk_cell b14
      have e0' : w4.cell? ⟨g2, 0, none⟩ = some (.int .i64 rk) := blk_cell b24
      have e1' : w4.cell? ⟨g2, 1, none⟩ = some (.slice Ar rl.length cr) := blk_cell b24
      repeat(first|refine o_nil ?_|(refine o_pass (wants_no rfl rfl rfl ?_) rfl ?_;(focus(first|rfl|assumption|(simp;done)|(simp;omega))))|refine o_pass (wants_not rfl rfl rfl) rfl ?_|(refine o_yes (wants_yes rfl rfl rfl ?_) ?_;(focus(first|rfl|assumption|(simp;done)|(simp;omega))))|refine k_region ?_|(apply k_go;(focus(constructor<;>rfl)))|refine d_nil ?_|(apply o_s;(focus(first|(constructor<;>first|rfl|omega)|(apply Ri.add3<;>first|rfl|omega)|(apply Ri.sub3<;>first|rfl|omega)|(apply Ri.conv3<;>first|rfl|omega)|(apply Ri.eqb<;>rfl)|(apply Ri.neb<;>rfl)|(apply Ri.pT;(focus rfl);(focus(first|rfl|assumption|(simp;done)|(simp;omega)));(focus rfl))|(apply Ri.pF;(focus rfl);(focus(first|rfl|assumption|(simp;done)|(simp;omega)));(focus rfl))));(focus rfl)))
      refine o_still (r_load rfl d1') (wants_none rfl) rfl ?_
      repeat(first|refine o_nil ?_|(refine o_pass (wants_no rfl rfl rfl ?_) rfl ?_;(focus(first|rfl|assumption|(simp;done)|(simp;omega))))|refine o_pass (wants_not rfl rfl rfl) rfl ?_|(refine o_yes (wants_yes rfl rfl rfl ?_) ?_;(focus(first|rfl|assumption|(simp;done)|(simp;omega))))|refine k_region ?_|(apply k_go;(focus(constructor<;>rfl)))|refine d_nil ?_|(apply o_s;(focus(first|(constructor<;>first|rfl|omega)|(apply Ri.add3<;>first|rfl|omega)|(apply Ri.sub3<;>first|rfl|omega)|(apply Ri.conv3<;>first|rfl|omega)|(apply Ri.eqb<;>rfl)|(apply Ri.neb<;>rfl)|(apply Ri.pT;(focus rfl);(focus(first|rfl|assumption|(simp;done)|(simp;omega)));(focus rfl))|(apply Ri.pF;(focus rfl);(focus(first|rfl|assumption|(simp;done)|(simp;omega)));(focus rfl))));(focus rfl)))
      have J : ∀ σ', SubB σ' [(4, .pointer (some ⟨g3, 0, none⟩)), (3, .pointer (some ⟨g2, 0, none⟩)), (5, .slice A4 xl.length c4)] → WK Try.prog Try.f25 [.code (bodyC Try.f25 [1, 1, 1, 0, 1, 0]), .code (bodyC Try.f25 [1, 1, 1, 1])] σ' w4 fun u w' => Kn w w' ∧ ∃ v', u = .agg #[.int .i64 1, v'] ∧ Sl kRow (fun k => F k ∨ noB w k) w' v' (xl ++ rl) := by
        intro σ' hs
        refine WK.sub (Sub.mk hs) ?_
        clear hs σ'
        repeat(first|refine o_nil ?_|(refine o_pass (wants_no rfl rfl rfl ?_) rfl ?_;(focus(first|rfl|assumption|(simp;done)|(simp;omega))))|refine o_pass (wants_not rfl rfl rfl) rfl ?_|(refine o_yes (wants_yes rfl rfl rfl ?_) ?_;(focus(first|rfl|assumption|(simp;done)|(simp;omega))))|refine k_region ?_|(apply k_go;(focus(constructor<;>rfl)))|refine d_nil ?_|(apply o_s;(focus(first|(constructor<;>first|rfl|omega)|(apply Ri.add3<;>first|rfl|omega)|(apply Ri.sub3<;>first|rfl|omega)|(apply Ri.conv3<;>first|rfl|omega)|(apply Ri.eqb<;>rfl)|(apply Ri.neb<;>rfl)|(apply Ri.pT;(focus rfl);(focus(first|rfl|assumption|(simp;done)|(simp;omega)));(focus rfl))|(apply Ri.pF;(focus rfl);(focus(first|rfl|assumption|(simp;done)|(simp;omega)));(focus rfl))));(focus rfl)))
        refine o_still (r_load rfl e1') (wants_none rfl) rfl ?_
        refine o_any (e_append2 (d := kRow) (F2 := fun k => F k ∧ k < w.heap.size) rfl rfl hO4 hr4 (by
          intro k hk hg
          have := (hub k hg).1
          simp only [noB] at this
          omega) (by show (xl.length + rl.length) * 24 ≤ 140737488355328; omega) rfl rfl rfl) (wants_none rfl) rfl ?_
        rintro u5 w5 hA
        obtain ⟨A5, c5, rfl, hc5, hl5⟩ := hA.ow.form
        have s54 := hA.kp.size
        have b5 := hA.kp.blk b34 (by
          intro hg
          have := (hub _ hg).1
          simp only [noB] at this
          omega)
        have k5 : Kn w w5 := Kp.then k4 hA.kp (fun _ h => h) (fun i hi he => by
          have := (hub _ he).1
          simp only [noB] at this
          omega)
        refine o_still (r_build (c := #[.int .i64 1, .slice A5 (xl ++ rl).length c5]) rfl rfl) (wants_none rfl) rfl ?_
        refine o_unit (u_storeA rfl rfl rfl (by simp [Value.oneCell']) rfl b5 (Nat.le_refl 2)) (wants_none rfl) rfl ?_
        rintro w6 hw6
        repeat(first|refine o_nil ?_|(refine o_pass (wants_no rfl rfl rfl ?_) rfl ?_;(focus(first|rfl|assumption|(simp;done)|(simp;omega))))|refine o_pass (wants_not rfl rfl rfl) rfl ?_|(refine o_yes (wants_yes rfl rfl rfl ?_) ?_;(focus(first|rfl|assumption|(simp;done)|(simp;omega))))|refine k_region ?_|(apply k_go;(focus(constructor<;>rfl)))|refine d_nil ?_|(apply o_s;(focus(first|(constructor<;>first|rfl|omega)|(apply Ri.add3<;>first|rfl|omega)|(apply Ri.sub3<;>first|rfl|omega)|(apply Ri.conv3<;>first|rfl|omega)|(apply Ri.eqb<;>rfl)|(apply Ri.neb<;>rfl)|(apply Ri.pT;(focus rfl);(focus(first|rfl|assumption|(simp;done)|(simp;omega)));(focus rfl))|(apply Ri.pF;(focus rfl);(focus(first|rfl|assumption|(simp;done)|(simp;omega)));(focus rfl))));(focus rfl)))
        refine k_retR1 rfl (.agg rfl rfl (blk_all hw6.at_) .nil) ⟨?_, _, rfl, ?_⟩
        · exact Kp.then k5 hw6.kp (fun _ h => h) (fun i hi he => by omega)
        · refine (Kp.sl hw6.kp (hA.ow.slF (F' := fun k => (F k ∨ noB w k) ∧ k ≠ g3) ?_ ?_) fun k hk => hk.2).mono fun k hk _ => hk.1
          · rintro k (hk | hk)
            · simp only [noB] at hk
              exact ⟨.inr (by simp only [noB]; omega), by omega⟩
            · exact ⟨.inr (by simp only [noB]; omega), by omega⟩
          · rintro k (hk | hk)
            · simp only [noB] at hk
              exact ⟨.inr (by simp only [noB]; omega), by omega⟩
            · exact ⟨.inl hk.1, by omega⟩
      have hk0 : xk ≠ 0 ∨ (xk = 0 ∧ rk ≠ 0) := by omega
      rcases hk0 with hx0 | ⟨hx0, hr0'⟩
      rotate_left
      · repeat(first|refine o_nil ?_|(refine o_pass (wants_no rfl rfl rfl ?_) rfl ?_;(focus(first|rfl|assumption|(simp;done)|(simp;omega))))|refine o_pass (wants_not rfl rfl rfl) rfl ?_|(refine o_yes (wants_yes rfl rfl rfl ?_) ?_;(focus(first|rfl|assumption|(simp;done)|(simp;omega))))|refine k_region ?_|(apply k_go;(focus(constructor<;>rfl)))|refine d_nil ?_|(apply o_s;(focus(first|(constructor<;>first|rfl|omega)|(apply Ri.add3<;>first|rfl|omega)|(apply Ri.sub3<;>first|rfl|omega)|(apply Ri.conv3<;>first|rfl|omega)|(apply Ri.eqb<;>rfl)|(apply Ri.neb<;>rfl)|(apply Ri.pT;(focus rfl);(focus(first|rfl|assumption|(simp;done)|(simp;omega)));(focus rfl))|(apply Ri.pF;(focus rfl);(focus(first|rfl|assumption|(simp;done)|(simp;omega)));(focus rfl))));(focus rfl)))
        refine o_still (r_load rfl e0') (wants_none rfl) rfl ?_
        refine o_still (r_neq rfl rfl) (wants_yes rfl rfl rfl (by first | rfl | assumption | (simp; done) | (simp; omega))) rfl ?_
        refine o_still (r_pickF rfl (by simp [hx0]) rfl) (wants_none rfl) rfl ?_
        refine o_nil ?_
        refine k_yes rfl hr0' ?_
        refine J _ ?_
        repeat (first | exact SubB.nil | refine SubB.cons rfl ?_)
      · repeat(first|refine o_nil ?_|(refine o_pass (wants_no rfl rfl rfl ?_) rfl ?_;(focus(first|rfl|assumption|(simp;done)|(simp;omega))))|refine o_pass (wants_not rfl rfl rfl) rfl ?_|(refine o_yes (wants_yes rfl rfl rfl ?_) ?_;(focus(first|rfl|assumption|(simp;done)|(simp;omega))))|refine k_region ?_|(apply k_go;(focus(constructor<;>rfl)))|refine d_nil ?_|(apply o_s;(focus(first|(constructor<;>first|rfl|omega)|(apply Ri.add3<;>first|rfl|omega)|(apply Ri.sub3<;>first|rfl|omega)|(apply Ri.conv3<;>first|rfl|omega)|(apply Ri.eqb<;>rfl)|(apply Ri.neb<;>rfl)|(apply Ri.pT;(focus rfl);(focus(first|rfl|assumption|(simp;done)|(simp;omega)));(focus rfl))|(apply Ri.pF;(focus rfl);(focus(first|rfl|assumption|(simp;done)|(simp;omega)));(focus rfl))));(focus rfl)))
        refine k_true rfl ?_
        refine J _ ?_
        repeat (first | exact SubB.nil | refine SubB.cons rfl ?_)
end Go.Ink
