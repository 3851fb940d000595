/-
  register: New, place, size, twin.
-/
import Derived.Test.YtlikhbhkodlaoaaF1
import Derived.Test.YtlikhbhkodlaoaaMod
set_option linter.unusedVariables false
namespace Go.Ink
open Go Go.Proofs

theorem place_range (n : Int) : -1 ≤ placeM n ∧ placeM n ≤ 37 := by
  unfold placeM; repeat' split
  all_goals omega
theorem place_calls {w : World} {n : Int} (h : -2147483648 ≤ n ∧ n ≤ 2147483647) :
    CallsR Try.prog 21 #[.int .i32 n] w fun r w' => Kn w w' ∧ r = .int .i64 (placeM n) := by
  refine calls_enter Try.func21 rfl rfl ?_
  repeat'(first|refine o_nil ?_|(refine o_pass (wants_no rfl rfl rfl ?_) rfl ?_;(focus(first|rfl|assumption|(simp;done)|(simp;omega))))|refine o_pass (wants_not rfl rfl rfl) rfl ?_|(refine o_yes (wants_yes rfl rfl rfl ?_) ?_;(focus(first|rfl|assumption|(simp;done)|(simp;omega))))|refine k_region ?_|(apply k_go;(focus(constructor<;>rfl)))|refine d_nil ?_|(apply o_s;(focus(first|(constructor<;>first|rfl|omega)|(apply Ri.add3<;>first|rfl|omega)|(apply Ri.sub3<;>first|rfl|omega)|(apply Ri.eqb<;>rfl)|(apply Ri.neb<;>rfl)|(apply Ri.pT;(focus rfl);(focus(first|rfl|assumption|(simp;done)|(simp;omega)));(focus rfl))|(apply Ri.pF;(focus rfl);(focus(first|rfl|assumption|(simp;done)|(simp;omega)));(focus rfl))));(focus rfl))|(refine k_yes rfl ?_ ?_;omega)|(refine k_no rfl ?_ ?_;omega)|refine k_true rfl ?_|refine k_false rfl ?_|refine k_ite rfl (fun _=>?_) (fun _=>?_)|refine o_gsplit rfl rfl rfl (fun _=>?_) (fun _=>?_))
  all_goals refine k_ret1 rfl rfl ⟨Kp.refl _ _, ?_⟩
  all_goals congr 1
  all_goals unfold placeM
  all_goals (repeat' split)
  all_goals first | rfl | omega

theorem sizeM_nil : sizeM [] = 0 := rfl
theorem take_sum {ls : List (List Int)} {k : Nat} (h : k < ls.length) : ((ls.take (k + 1)).map List.length).sum = ((ls.take k).map List.length).sum + ls[k].length := by
  rw [take_snoc h, List.map_append, List.sum_append]; simp
theorem take_sum_le (ls : List (List Int)) (k : Nat) : ((ls.take k).map List.length).sum ≤ (ls.map List.length).sum := by
  have : (ls.map List.length).sum = ((ls.take k).map List.length).sum + ((ls.drop k).map List.length).sum := by
    rw [← List.sum_append, ← List.map_append, List.take_append_drop]
  omega
theorem size_calls {F : Nat → Prop} {w : World} {v : Value} {ls : List (List Int)} (h : Sl kRow F w v ls) (hs : sizeM ls ≤ 4611686018427387904) :
    CallsR Try.prog 22 #[v] w fun r w' => Kn w w' ∧ r = .int .i64 (sizeM ls) := by
  obtain ⟨A, c, rfl, hc, hl⟩ := h.form
  have hlen := hl.len
  refine calls_enter Try.func22 rfl rfl ?_
  repeat(first|refine o_nil ?_|(refine o_pass (wants_no rfl rfl rfl ?_) rfl ?_;(focus(first|rfl|assumption|(simp;done)|(simp;omega))))|refine o_pass (wants_not rfl rfl rfl) rfl ?_|(refine o_yes (wants_yes rfl rfl rfl ?_) ?_;(focus(first|rfl|assumption|(simp;done)|(simp;omega))))|refine k_region ?_|(apply k_go;(focus(constructor<;>rfl)))|refine d_nil ?_|(apply o_s;(focus(first|(constructor<;>first|rfl|omega)|(apply Ri.add3<;>first|rfl|omega)|(apply Ri.sub3<;>first|rfl|omega)|(apply Ri.eqb<;>rfl)|(apply Ri.neb<;>rfl)|(apply Ri.pT;(focus rfl);(focus(first|rfl|assumption|(simp;done)|(simp;omega)));(focus rfl))|(apply Ri.pF;(focus rfl);(focus(first|rfl|assumption|(simp;done)|(simp;omega)));(focus rfl))));(focus rfl)))
  refine k_while (fun k => ls.length - k) (fun k : Nat => [(3, .int .i64 (ls.length + ((ls.take k).map List.length).sum : Nat)), (8, .slice A ls.length c), (9, .int .i64 ls.length), (10, .int .i64 k)])
    (fun k wr => k ≤ ls.length ∧ wr = w) 0 (by repeat (first | exact SubB.nil | refine SubB.cons rfl ?_)) ⟨Nat.zero_le _, rfl⟩ ?_
  rintro k _ ⟨hk, rfl⟩ ih
  repeat(first|refine o_nil ?_|(refine o_pass (wants_no rfl rfl rfl ?_) rfl ?_;(focus(first|rfl|assumption|(simp;done)|(simp;omega))))|refine o_pass (wants_not rfl rfl rfl) rfl ?_|(refine o_yes (wants_yes rfl rfl rfl ?_) ?_;(focus(first|rfl|assumption|(simp;done)|(simp;omega))))|refine k_region ?_|(apply k_go;(focus(constructor<;>rfl)))|refine d_nil ?_|(apply o_s;(focus(first|(constructor<;>first|rfl|omega)|(apply Ri.add3<;>first|rfl|omega)|(apply Ri.sub3<;>first|rfl|omega)|(apply Ri.eqb<;>rfl)|(apply Ri.neb<;>rfl)|(apply Ri.pT;(focus rfl);(focus(first|rfl|assumption|(simp;done)|(simp;omega)));(focus rfl))|(apply Ri.pF;(focus rfl);(focus(first|rfl|assumption|(simp;done)|(simp;omega)));(focus rfl))));(focus rfl)))
  refine k_ite rfl (fun hlt => ?_) (fun hge => ?_)
  · have hlt' : k < ls.length := by omega
    obtain ⟨ad, cs, rfl, ⟨v1, rfl, hrow⟩, hcell⟩ := h.at_ (List.getElem?_eq_getElem hlt')
    obtain ⟨A1, c1, rfl, hc1, hl1⟩ := hrow.form
    have hlen1 := hl1.len
    have hsum := take_sum hlt'
    have hle := take_sum_le ls (k + 1)
    have hle2 := take_sum_le ls k
    have hs' : ls.length + (ls.map List.length).sum ≤ 4611686018427387904 := hs
    repeat(first|refine o_nil ?_|(refine o_pass (wants_no rfl rfl rfl ?_) rfl ?_;(focus(first|rfl|assumption|(simp;done)|(simp;omega))))|refine o_pass (wants_not rfl rfl rfl) rfl ?_|(refine o_yes (wants_yes rfl rfl rfl ?_) ?_;(focus(first|rfl|assumption|(simp;done)|(simp;omega))))|refine k_region ?_|(apply k_go;(focus(constructor<;>rfl)))|refine d_nil ?_|(apply o_s;(focus(first|(constructor<;>first|rfl|omega)|(apply Ri.add3<;>first|rfl|omega)|(apply Ri.sub3<;>first|rfl|omega)|(apply Ri.eqb<;>rfl)|(apply Ri.neb<;>rfl)|(apply Ri.pT;(focus rfl);(focus(first|rfl|assumption|(simp;done)|(simp;omega)));(focus rfl))|(apply Ri.pF;(focus rfl);(focus(first|rfl|assumption|(simp;done)|(simp;omega)));(focus rfl))));(focus rfl)))
    refine o_still (r_index rfl rfl rfl (by omega) (by omega)) (wants_none rfl) rfl ?_
    refine o_still (r_load rfl (hcell 0 _ rfl)) (wants_none rfl) rfl ?_
    repeat(first|refine o_nil ?_|(refine o_pass (wants_no rfl rfl rfl ?_) rfl ?_;(focus(first|rfl|assumption|(simp;done)|(simp;omega))))|refine o_pass (wants_not rfl rfl rfl) rfl ?_|(refine o_yes (wants_yes rfl rfl rfl ?_) ?_;(focus(first|rfl|assumption|(simp;done)|(simp;omega))))|refine k_region ?_|(apply k_go;(focus(constructor<;>rfl)))|refine d_nil ?_|(apply o_s;(focus(first|(constructor<;>first|rfl|omega)|(apply Ri.add3<;>first|rfl|omega)|(apply Ri.sub3<;>first|rfl|omega)|(apply Ri.eqb<;>rfl)|(apply Ri.neb<;>rfl)|(apply Ri.pT;(focus rfl);(focus(first|rfl|assumption|(simp;done)|(simp;omega)));(focus rfl))|(apply Ri.pF;(focus rfl);(focus(first|rfl|assumption|(simp;done)|(simp;omega)));(focus rfl))));(focus rfl)))
    exact ih (k + 1) _ ⟨by omega, rfl⟩ (by omega) _ (.cons (int_eq (by omega)) (by repeat (first | exact SubB.nil | refine SubB.cons rfl ?_)))
  · repeat(first|refine o_nil ?_|(refine o_pass (wants_no rfl rfl rfl ?_) rfl ?_;(focus(first|rfl|assumption|(simp;done)|(simp;omega))))|refine o_pass (wants_not rfl rfl rfl) rfl ?_|(refine o_yes (wants_yes rfl rfl rfl ?_) ?_;(focus(first|rfl|assumption|(simp;done)|(simp;omega))))|refine k_region ?_|(apply k_go;(focus(constructor<;>rfl)))|refine d_nil ?_|(apply o_s;(focus(first|(constructor<;>first|rfl|omega)|(apply Ri.add3<;>first|rfl|omega)|(apply Ri.sub3<;>first|rfl|omega)|(apply Ri.eqb<;>rfl)|(apply Ri.neb<;>rfl)|(apply Ri.pT;(focus rfl);(focus(first|rfl|assumption|(simp;done)|(simp;omega)));(focus rfl))|(apply Ri.pF;(focus rfl);(focus(first|rfl|assumption|(simp;done)|(simp;omega)));(focus rfl))));(focus rfl)))
    refine k_ret1 rfl rfl ⟨Kp.refl _ _, ?_⟩
    rw [show k = ls.length from by omega, List.take_length]
    rfl
theorem els_reg {F : Nat → Prop} {w : World} {x : Reg} {cs : List Value} (h : (kPair kI64 kLines).R F w x cs) : ∃ v, cs = [.int .i64 x.1, v] ∧ Sl kRow F w v x.2 ∧ -9223372036854775808 ≤ x.1 ∧ x.1 ≤ 9223372036854775807 := by
  obtain ⟨c1, c2, rfl, ⟨rfl, h1, h2⟩, v, rfl, h3⟩ := h
  exact ⟨v, rfl, h3, h1, h2⟩
theorem twin_calls {F : Nat → Prop} {w : World} {n : Int} {v : Value} {ls : List (List Int)} (h : Sl kRow F w v ls) :
    CallsR Try.prog 23 #[.agg #[.int .i64 n, v]] w fun r w' => ∃ v', r = .agg #[.int .i64 n, v'] ∧ Kn w w' ∧ Ow kRow (noB w) (noB w) w' v' ls := by
  obtain ⟨A, c, rfl, hc, hl⟩ := h.form
  refine calls_enter Try.func23 rfl rfl ?_
  repeat(first|refine o_nil ?_|(refine o_pass (wants_no rfl rfl rfl ?_) rfl ?_;(focus(first|rfl|assumption|(simp;done)|(simp;omega))))|refine o_pass (wants_not rfl rfl rfl) rfl ?_|(refine o_yes (wants_yes rfl rfl rfl ?_) ?_;(focus(first|rfl|assumption|(simp;done)|(simp;omega))))|refine k_region ?_|(apply k_go;(focus(constructor<;>rfl)))|refine d_nil ?_|(apply o_s;(focus(first|(constructor<;>first|rfl|omega)|(apply Ri.add3<;>first|rfl|omega)|(apply Ri.sub3<;>first|rfl|omega)|(apply Ri.eqb<;>rfl)|(apply Ri.neb<;>rfl)|(apply Ri.pT;(focus rfl);(focus(first|rfl|assumption|(simp;done)|(simp;omega)));(focus rfl))|(apply Ri.pF;(focus rfl);(focus(first|rfl|assumption|(simp;done)|(simp;omega)));(focus rfl))));(focus rfl)))
  refine o_any (e_box rfl) (wants_none rfl) rfl ?_
  rintro _ w1 ⟨g1, rfl, nb1⟩
  refine o_any (e_alloc) (wants_none rfl) rfl ?_
  rintro _ w2 ⟨g2, rfl, nb2⟩
  have b1 := nb2.kn.blk nb1.at_ id
  have h2 := nb2.kn.sl (nb1.kn.sl h)
  repeat(first|refine o_nil ?_|(refine o_pass (wants_no rfl rfl rfl ?_) rfl ?_;(focus(first|rfl|assumption|(simp;done)|(simp;omega))))|refine o_pass (wants_not rfl rfl rfl) rfl ?_|(refine o_yes (wants_yes rfl rfl rfl ?_) ?_;(focus(first|rfl|assumption|(simp;done)|(simp;omega))))|refine k_region ?_|(apply k_go;(focus(constructor<;>rfl)))|refine d_nil ?_|(apply o_s;(focus(first|(constructor<;>first|rfl|omega)|(apply Ri.add3<;>first|rfl|omega)|(apply Ri.sub3<;>first|rfl|omega)|(apply Ri.eqb<;>rfl)|(apply Ri.neb<;>rfl)|(apply Ri.pT;(focus rfl);(focus(first|rfl|assumption|(simp;done)|(simp;omega)));(focus rfl))|(apply Ri.pF;(focus rfl);(focus(first|rfl|assumption|(simp;done)|(simp;omega)));(focus rfl))));(focus rfl)))
  refine k_draw [(0, 0), (1, 0), (2, 0), (3, 0), (4, 1), (5, 0), (6, 1)] (by kernel_rfl) (by kernel_rfl) rfl (by kernel_rfl) ?_
  refine d_open rfl ?_; refine x_still (r_field rfl) (wants_none rfl) rfl (by first | exact St.refl _ | assumption) ?_
  refine d_open rfl ?_; refine x_still (r_load rfl (blk_cell b1)) (wants_none rfl) rfl (by first | exact St.refl _ | assumption) ?_
  refine d_open rfl ?_; refine x_still (r_field rfl) (wants_none rfl) rfl (by first | exact St.refl _ | assumption) ?_
  refine d_open rfl ?_; refine x_still (r_load rfl (blk_cell b1)) (wants_none rfl) rfl (by first | exact St.refl _ | assumption) ?_
  refine d_open rfl ?_; refine x_enter (n_call rfl) (wants_none rfl) rfl ((lines_calls h2).mono ?_)
  rintro v3 w3 ⟨hk3, ho3⟩
  refine .inl ⟨hk3.st, ?_⟩
  obtain ⟨A3, c3, rfl, _⟩ := ho3.form
  have b2 := hk3.blk nb2.at_ id
  have hst3 := hk3.st
  refine d_open rfl ?_; refine x_still (r_build (c := #[.int .i64 n, .slice A3 ls.length c3]) rfl rfl) (wants_none rfl) rfl (by first | exact St.refl _ | assumption) ?_
  refine d_open rfl ?_; refine x_unit (u_storeA rfl rfl rfl (by simp [Value.oneCell']) rfl b2 (Nat.le_refl 2)) (wants_none rfl) rfl ?_
  rintro w4 hw4
  refine .inr ⟨(by kernel_rfl), ?_⟩
  repeat(first|refine d_nil ?_|(refine d_open rfl ?_;first|((first|refine x_pass (wants_no rfl rfl rfl ?_) rfl ?_ ?_|refine x_passNow (wants_no rfl rfl rfl ?_) rfl ?_ ?_);(focus(first|rfl|assumption|(simp;done)|(simp;omega)));(focus(first|exact St.refl _|assumption)))|((first|refine x_pass (wants_not rfl rfl rfl) rfl ?_ ?_|refine x_passNow (wants_not rfl rfl rfl) rfl ?_ ?_);(focus(first|exact St.refl _|assumption)))|((first|apply x_s|apply x_n);(focus(first|(constructor<;>first|rfl|omega)|(apply Ri.add3<;>first|rfl|omega)|(apply Ri.sub3<;>first|rfl|omega)|(apply Ri.eqb<;>rfl)|(apply Ri.neb<;>rfl)|(apply Ri.pT;(focus rfl);(focus(first|rfl|assumption|(simp;done)|(simp;omega)));(focus rfl))|(apply Ri.pF;(focus rfl);(focus(first|rfl|assumption|(simp;done)|(simp;omega)));(focus rfl))));(focus(first|exact wants_none rfl|exact wants_yes rfl rfl rfl (by first|rfl|assumption|(simp;done)|(simp;omega))));(focus rfl);(focus(first|exact St.refl _|assumption)))))
  refine k_retR1 rfl (.agg rfl rfl (blk_all hw4.at_) .nil) ?_
  refine ⟨_, rfl, ?_, ?_⟩
  · refine Kp.then ((nb1.kn.trans nb2.kn).trans hk3) hw4.kp (fun _ h => h) ?_
    intro i hi he
    have := nb2.ge
    have := nb1.kn.size
    omega
  · refine (Kp.ow hw4.kp ho3 ?_ ?_).mono ?_ ?_
    all_goals
      intro k hk
      have := nb2.lt
      have := nb2.kn.size
      have := nb1.kn.size
      simp only [noB] at hk ⊢
      try intro _
      omega
end Go.Ink
