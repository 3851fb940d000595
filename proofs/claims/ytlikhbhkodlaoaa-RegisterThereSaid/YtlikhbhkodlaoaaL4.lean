/-
  RegisterNone.
-/
import Derived.Test.YtlikhbhkodlaoaaF11
import Derived.Test.YtlikhbhkodlaoaaRead
set_option linter.unusedVariables false
set_option linter.unusedSimpArgs false
namespace Go.Ink
open Go Go.Proofs

structure Deed12 where
  ask : Bool
  name : Int
  reg : Reg
  del : Bool
def kDeed12 : Kd Deed12 := kIso (kPair kBool (kPair kRune (kPair kReg kBool))) (fun d => (d.ask, d.name, d.reg, d.del)) 48 (by decide)
theorem rd_same {P : Program} {t : TypeId} {α : Type} {d : Kd α} {b : Nat} {hb : 0 < b} (h : RdT P t (kIso d id b hb)) (hb' : d.bytes = b) : RdT P t d := ⟨h.rd, h.sz, h.by_.trans hb'.symm⟩
instance : StrucT Try.prog 29 [3, 22] := ⟨by kernel_rfl, by kernel_rfl⟩
instance : RdT Try.prog 29 kReg := rd_same (b := 32) (hb := by decide) (rd_struct (g := id) inferInstance inferInstance (fun _ => rfl) (by kernel_rfl) (by kernel_rfl)) rfl
instance : StrucT Try.prog 47 [4, 21, 29, 4] := ⟨by kernel_rfl, by kernel_rfl⟩
instance : RdT Try.prog 47 kDeed12 := rd_struct (g := fun p => ⟨p.1, p.2.1, p.2.2.1, p.2.2.2⟩) inferInstance inferInstance (fun _ => rfl) (by kernel_rfl) (by kernel_rfl)
theorem deed12_cells {F : Nat → Prop} {w : World} {d : Deed12} {cs : List Value} (h : kDeed12.R F w d cs) : ∃ v, cs = [.bool d.ask, .int .i32 d.name, .int .i64 d.reg.1, v, .bool d.del] ∧ Sl kRow F w v d.reg.2 ∧
    (-2147483648 ≤ d.name ∧ d.name ≤ 2147483647) ∧ (-9223372036854775808 ≤ d.reg.1 ∧ d.reg.1 ≤ 9223372036854775807) := by
  obtain ⟨c1, c2, rfl, h1, c3, c4, rfl, ⟨rfl, h3, h4⟩, c5, c6, rfl, ⟨c7, c8, rfl, ⟨rfl, h5, h6⟩, v, rfl, h7⟩, h8⟩ := h
  have h1' : c1 = [.bool d.ask] := h1
  have h8' : c6 = [.bool d.del] := h8
  subst h1' h8'
  exact ⟨v, rfl, h7, ⟨h3, h4⟩, ⟨h5, h6⟩⟩
section
variable {w : World}
theorem all_nil : CallsR Try.prog 20 #[.pointer none] w fun u w' => w' = w ∧ u = .slice none 0 0 := by
  refine calls_enter Try.func20 rfl rfl ?_
  repeat(first|refine o_nil ?_|(refine o_pass (wants_no rfl rfl rfl ?_) rfl ?_;(focus(first|rfl|assumption|(simp;done)|(simp;omega))))|refine o_pass (wants_not rfl rfl rfl) rfl ?_|(refine o_yes (wants_yes rfl rfl rfl ?_) ?_;(focus(first|rfl|assumption|(simp;done)|(simp;omega))))|refine k_region ?_|(apply k_go;(focus(constructor<;>rfl)))|refine d_nil ?_|(apply o_s;(focus(first|(constructor<;>first|rfl|omega)|(apply Ri.add3<;>first|rfl|omega)|(apply Ri.sub3<;>first|rfl|omega)|(apply Ri.conv3<;>first|rfl|omega)|(apply Ri.eqb<;>rfl)|(apply Ri.neb<;>rfl)|(apply Ri.pT;(focus rfl);(focus(first|rfl|assumption|(simp;done)|(simp;omega)));(focus rfl))|(apply Ri.pF;(focus rfl);(focus(first|rfl|assumption|(simp;done)|(simp;omega)));(focus rfl))));(focus rfl)))
  refine k_true rfl ?_
  repeat(first|refine o_nil ?_|(refine o_pass (wants_no rfl rfl rfl ?_) rfl ?_;(focus(first|rfl|assumption|(simp;done)|(simp;omega))))|refine o_pass (wants_not rfl rfl rfl) rfl ?_|(refine o_yes (wants_yes rfl rfl rfl ?_) ?_;(focus(first|rfl|assumption|(simp;done)|(simp;omega))))|refine k_region ?_|(apply k_go;(focus(constructor<;>rfl)))|refine d_nil ?_|(apply o_s;(focus(first|(constructor<;>first|rfl|omega)|(apply Ri.add3<;>first|rfl|omega)|(apply Ri.sub3<;>first|rfl|omega)|(apply Ri.conv3<;>first|rfl|omega)|(apply Ri.eqb<;>rfl)|(apply Ri.neb<;>rfl)|(apply Ri.pT;(focus rfl);(focus(first|rfl|assumption|(simp;done)|(simp;omega)));(focus rfl))|(apply Ri.pF;(focus rfl);(focus(first|rfl|assumption|(simp;done)|(simp;omega)));(focus rfl))));(focus rfl)))
  exact k_ret1 rfl rfl ⟨rfl, rfl⟩
theorem get_nil {name : Int} (hn : -2147483648 ≤ name ∧ name ≤ 2147483647) : CallsR Try.prog 11 #[.pointer none, .int .i32 name] w fun u w' => Kn w w' ∧ u = .tuple #[.agg #[.int .i64 0, .slice none 0 0], .int .i64 1] := by
  refine calls_enter Try.func11 rfl rfl ?_
  repeat(first|refine o_nil ?_|(refine o_pass (wants_no rfl rfl rfl ?_) rfl ?_;(focus(first|rfl|assumption|(simp;done)|(simp;omega))))|refine o_pass (wants_not rfl rfl rfl) rfl ?_|(refine o_yes (wants_yes rfl rfl rfl ?_) ?_;(focus(first|rfl|assumption|(simp;done)|(simp;omega))))|refine k_region ?_|(apply k_go;(focus(constructor<;>rfl)))|refine d_nil ?_|(apply o_s;(focus(first|(constructor<;>first|rfl|omega)|(apply Ri.add3<;>first|rfl|omega)|(apply Ri.sub3<;>first|rfl|omega)|(apply Ri.conv3<;>first|rfl|omega)|(apply Ri.eqb<;>rfl)|(apply Ri.neb<;>rfl)|(apply Ri.pT;(focus rfl);(focus(first|rfl|assumption|(simp;done)|(simp;omega)));(focus rfl))|(apply Ri.pF;(focus rfl);(focus(first|rfl|assumption|(simp;done)|(simp;omega)));(focus rfl))));(focus rfl)))
  refine o_any (e_alloc) (wants_none rfl) rfl ?_
  rintro _ w1 ⟨g1, rfl, nb1⟩
  repeat(first|refine o_nil ?_|(refine o_pass (wants_no rfl rfl rfl ?_) rfl ?_;(focus(first|rfl|assumption|(simp;done)|(simp;omega))))|refine o_pass (wants_not rfl rfl rfl) rfl ?_|(refine o_yes (wants_yes rfl rfl rfl ?_) ?_;(focus(first|rfl|assumption|(simp;done)|(simp;omega))))|refine k_region ?_|(apply k_go;(focus(constructor<;>rfl)))|refine d_nil ?_|(apply o_s;(focus(first|(constructor<;>first|rfl|omega)|(apply Ri.add3<;>first|rfl|omega)|(apply Ri.sub3<;>first|rfl|omega)|(apply Ri.conv3<;>first|rfl|omega)|(apply Ri.eqb<;>rfl)|(apply Ri.neb<;>rfl)|(apply Ri.pT;(focus rfl);(focus(first|rfl|assumption|(simp;done)|(simp;omega)));(focus rfl))|(apply Ri.pF;(focus rfl);(focus(first|rfl|assumption|(simp;done)|(simp;omega)));(focus rfl))));(focus rfl)))
  refine o_enter (n_call rfl) (wants_none rfl) rfl ((place_calls hn).mono ?_)
  rintro _ w2 ⟨hk2, rfl⟩
  have b2 := hk2.blk nb1.at_ id
  have k2 : Kn w w2 := nb1.kn.trans hk2
  have hg1 := nb1.ge
  repeat(first|refine o_nil ?_|(refine o_pass (wants_no rfl rfl rfl ?_) rfl ?_;(focus(first|rfl|assumption|(simp;done)|(simp;omega))))|refine o_pass (wants_not rfl rfl rfl) rfl ?_|(refine o_yes (wants_yes rfl rfl rfl ?_) ?_;(focus(first|rfl|assumption|(simp;done)|(simp;omega))))|refine k_region ?_|(apply k_go;(focus(constructor<;>rfl)))|refine d_nil ?_|(apply o_s;(focus(first|(constructor<;>first|rfl|omega)|(apply Ri.add3<;>first|rfl|omega)|(apply Ri.sub3<;>first|rfl|omega)|(apply Ri.conv3<;>first|rfl|omega)|(apply Ri.eqb<;>rfl)|(apply Ri.neb<;>rfl)|(apply Ri.pT;(focus rfl);(focus(first|rfl|assumption|(simp;done)|(simp;omega)));(focus rfl))|(apply Ri.pF;(focus rfl);(focus(first|rfl|assumption|(simp;done)|(simp;omega)));(focus rfl))));(focus rfl)))
  refine k_true rfl ?_
  repeat(first|refine o_nil ?_|(refine o_pass (wants_no rfl rfl rfl ?_) rfl ?_;(focus(first|rfl|assumption|(simp;done)|(simp;omega))))|refine o_pass (wants_not rfl rfl rfl) rfl ?_|(refine o_yes (wants_yes rfl rfl rfl ?_) ?_;(focus(first|rfl|assumption|(simp;done)|(simp;omega))))|refine k_region ?_|(apply k_go;(focus(constructor<;>rfl)))|refine d_nil ?_|(apply o_s;(focus(first|(constructor<;>first|rfl|omega)|(apply Ri.add3<;>first|rfl|omega)|(apply Ri.sub3<;>first|rfl|omega)|(apply Ri.conv3<;>first|rfl|omega)|(apply Ri.eqb<;>rfl)|(apply Ri.neb<;>rfl)|(apply Ri.pT;(focus rfl);(focus(first|rfl|assumption|(simp;done)|(simp;omega)));(focus rfl))|(apply Ri.pF;(focus rfl);(focus(first|rfl|assumption|(simp;done)|(simp;omega)));(focus rfl))));(focus rfl)))
  refine o_unit (u_storeA rfl rfl rfl (by simp [Value.oneCell']) rfl b2 (Nat.le_refl 2)) (wants_none rfl) rfl ?_
  rintro w4 hw4
  repeat(first|refine o_nil ?_|(refine o_pass (wants_no rfl rfl rfl ?_) rfl ?_;(focus(first|rfl|assumption|(simp;done)|(simp;omega))))|refine o_pass (wants_not rfl rfl rfl) rfl ?_|(refine o_yes (wants_yes rfl rfl rfl ?_) ?_;(focus(first|rfl|assumption|(simp;done)|(simp;omega))))|refine k_region ?_|(apply k_go;(focus(constructor<;>rfl)))|refine d_nil ?_|(apply o_s;(focus(first|(constructor<;>first|rfl|omega)|(apply Ri.add3<;>first|rfl|omega)|(apply Ri.sub3<;>first|rfl|omega)|(apply Ri.conv3<;>first|rfl|omega)|(apply Ri.eqb<;>rfl)|(apply Ri.neb<;>rfl)|(apply Ri.pT;(focus rfl);(focus(first|rfl|assumption|(simp;done)|(simp;omega)));(focus rfl))|(apply Ri.pF;(focus rfl);(focus(first|rfl|assumption|(simp;done)|(simp;omega)));(focus rfl))));(focus rfl)))
  exact k_retR2 rfl (.agg rfl rfl (blk_all hw4.at_) (.tmp rfl .nil)) ⟨Kp.then k2 hw4.kp (fun _ h => h.elim) (fun i hi hi2 => by omega), rfl⟩
theorem put_nil {name : Int} (hn : -2147483648 ≤ name ∧ name ≤ 2147483647) {n : Int} {v : Value} {b : Bool} : CallsR Try.prog 10 #[.pointer none, .int .i32 name, .agg #[.int .i64 n, v], .bool b] w fun u w' => Kn w w' ∧ u = .int .i64 1 := by
  refine calls_enter Try.func10 rfl rfl ?_
  repeat(first|refine o_nil ?_|(refine o_pass (wants_no rfl rfl rfl ?_) rfl ?_;(focus(first|rfl|assumption|(simp;done)|(simp;omega))))|refine o_pass (wants_not rfl rfl rfl) rfl ?_|(refine o_yes (wants_yes rfl rfl rfl ?_) ?_;(focus(first|rfl|assumption|(simp;done)|(simp;omega))))|refine k_region ?_|(apply k_go;(focus(constructor<;>rfl)))|refine d_nil ?_|(apply o_s;(focus(first|(constructor<;>first|rfl|omega)|(apply Ri.add3<;>first|rfl|omega)|(apply Ri.sub3<;>first|rfl|omega)|(apply Ri.conv3<;>first|rfl|omega)|(apply Ri.eqb<;>rfl)|(apply Ri.neb<;>rfl)|(apply Ri.pT;(focus rfl);(focus(first|rfl|assumption|(simp;done)|(simp;omega)));(focus rfl))|(apply Ri.pF;(focus rfl);(focus(first|rfl|assumption|(simp;done)|(simp;omega)));(focus rfl))));(focus rfl)))
  refine o_any (e_box rfl) (wants_none rfl) rfl ?_
  rintro _ w1 ⟨g1, rfl, nb1⟩
  repeat(first|refine o_nil ?_|(refine o_pass (wants_no rfl rfl rfl ?_) rfl ?_;(focus(first|rfl|assumption|(simp;done)|(simp;omega))))|refine o_pass (wants_not rfl rfl rfl) rfl ?_|(refine o_yes (wants_yes rfl rfl rfl ?_) ?_;(focus(first|rfl|assumption|(simp;done)|(simp;omega))))|refine k_region ?_|(apply k_go;(focus(constructor<;>rfl)))|refine d_nil ?_|(apply o_s;(focus(first|(constructor<;>first|rfl|omega)|(apply Ri.add3<;>first|rfl|omega)|(apply Ri.sub3<;>first|rfl|omega)|(apply Ri.conv3<;>first|rfl|omega)|(apply Ri.eqb<;>rfl)|(apply Ri.neb<;>rfl)|(apply Ri.pT;(focus rfl);(focus(first|rfl|assumption|(simp;done)|(simp;omega)));(focus rfl))|(apply Ri.pF;(focus rfl);(focus(first|rfl|assumption|(simp;done)|(simp;omega)));(focus rfl))));(focus rfl)))
  refine o_enter (n_call rfl) (wants_none rfl) rfl ((place_calls hn).mono ?_)
  rintro _ w2 ⟨hk2, rfl⟩
  repeat(first|refine o_nil ?_|(refine o_pass (wants_no rfl rfl rfl ?_) rfl ?_;(focus(first|rfl|assumption|(simp;done)|(simp;omega))))|refine o_pass (wants_not rfl rfl rfl) rfl ?_|(refine o_yes (wants_yes rfl rfl rfl ?_) ?_;(focus(first|rfl|assumption|(simp;done)|(simp;omega))))|refine k_region ?_|(apply k_go;(focus(constructor<;>rfl)))|refine d_nil ?_|(apply o_s;(focus(first|(constructor<;>first|rfl|omega)|(apply Ri.add3<;>first|rfl|omega)|(apply Ri.sub3<;>first|rfl|omega)|(apply Ri.conv3<;>first|rfl|omega)|(apply Ri.eqb<;>rfl)|(apply Ri.neb<;>rfl)|(apply Ri.pT;(focus rfl);(focus(first|rfl|assumption|(simp;done)|(simp;omega)));(focus rfl))|(apply Ri.pF;(focus rfl);(focus(first|rfl|assumption|(simp;done)|(simp;omega)));(focus rfl))));(focus rfl)))
  refine k_true rfl ?_
  repeat(first|refine o_nil ?_|(refine o_pass (wants_no rfl rfl rfl ?_) rfl ?_;(focus(first|rfl|assumption|(simp;done)|(simp;omega))))|refine o_pass (wants_not rfl rfl rfl) rfl ?_|(refine o_yes (wants_yes rfl rfl rfl ?_) ?_;(focus(first|rfl|assumption|(simp;done)|(simp;omega))))|refine k_region ?_|(apply k_go;(focus(constructor<;>rfl)))|refine d_nil ?_|(apply o_s;(focus(first|(constructor<;>first|rfl|omega)|(apply Ri.add3<;>first|rfl|omega)|(apply Ri.sub3<;>first|rfl|omega)|(apply Ri.conv3<;>first|rfl|omega)|(apply Ri.eqb<;>rfl)|(apply Ri.neb<;>rfl)|(apply Ri.pT;(focus rfl);(focus(first|rfl|assumption|(simp;done)|(simp;omega)));(focus rfl))|(apply Ri.pF;(focus rfl);(focus(first|rfl|assumption|(simp;done)|(simp;omega)));(focus rfl))));(focus rfl)))
  exact k_ret1 rfl rfl ⟨nb1.kn.trans hk2, rfl⟩
end
set_option maxHeartbeats 4000000 in
theorem law_RegisterNone {W : World} {d : Deed12} {cs : List Value} (h : kDeed12.R (fun _ => True) W d cs) : CallsR Try.prog 8 #[.agg cs.toArray] W fun r w' => r = .bool true ∧ Kn W w' := by
  obtain ⟨vl, rfl, hvl, hk1, hk2⟩ := deed12_cells h
  refine calls_enter Try.func8 rfl rfl ?_
  repeat(first|refine o_nil ?_|(refine o_pass (wants_no rfl rfl rfl ?_) rfl ?_;(focus(first|rfl|assumption|(simp;done)|(simp;omega))))|refine o_pass (wants_not rfl rfl rfl) rfl ?_|(refine o_yes (wants_yes rfl rfl rfl ?_) ?_;(focus(first|rfl|assumption|(simp;done)|(simp;omega))))|refine k_region ?_|(apply k_go;(focus(constructor<;>rfl)))|refine d_nil ?_|(apply o_s;(focus(first|(constructor<;>first|rfl|omega)|(apply Ri.add3<;>first|rfl|omega)|(apply Ri.sub3<;>first|rfl|omega)|(apply Ri.conv3<;>first|rfl|omega)|(apply Ri.eqb<;>rfl)|(apply Ri.neb<;>rfl)|(apply Ri.pT;(focus rfl);(focus(first|rfl|assumption|(simp;done)|(simp;omega)));(focus rfl))|(apply Ri.pF;(focus rfl);(focus(first|rfl|assumption|(simp;done)|(simp;omega)));(focus rfl))));(focus rfl)))
  refine o_any (e_box rfl) (wants_none rfl) rfl ?_
  rintro _ w1 ⟨gb, rfl, nb⟩
  have f1 : w1.cell? ⟨gb, 1, none⟩ = some (.int .i32 d.name) := blk_cell nb.at_
  have f2 : w1.cell? ⟨gb, 2, none⟩ = some (.int .i64 d.reg.1) := blk_cell nb.at_
  have f3 : w1.cell? ⟨gb, 3, none⟩ = some vl := blk_cell nb.at_
  have f4 : w1.cell? ⟨gb, 4, none⟩ = some (.bool d.del) := blk_cell nb.at_
  have kn := nb.kn
  have lb := nb.lt
  clear nb
  repeat(first|refine o_nil ?_|(refine o_pass (wants_no rfl rfl rfl ?_) rfl ?_;(focus(first|rfl|assumption|(simp;done)|(simp;omega))))|refine o_pass (wants_not rfl rfl rfl) rfl ?_|(refine o_yes (wants_yes rfl rfl rfl ?_) ?_;(focus(first|rfl|assumption|(simp;done)|(simp;omega))))|refine k_region ?_|(apply k_go;(focus(constructor<;>rfl)))|refine d_nil ?_|(apply o_s;(focus(first|(constructor<;>first|rfl|omega)|(apply Ri.add3<;>first|rfl|omega)|(apply Ri.sub3<;>first|rfl|omega)|(apply Ri.conv3<;>first|rfl|omega)|(apply Ri.eqb<;>rfl)|(apply Ri.neb<;>rfl)|(apply Ri.pT;(focus rfl);(focus(first|rfl|assumption|(simp;done)|(simp;omega)));(focus rfl))|(apply Ri.pF;(focus rfl);(focus(first|rfl|assumption|(simp;done)|(simp;omega)));(focus rfl))));(focus rfl)))
  refine o_still (r_load rfl f1) (wants_none rfl) rfl ?_
  refine o_enter (n_call rfl) (wants_none rfl) rfl ((get_nil hk1).mono ?_)
  rintro _ w2 ⟨k2, rfl⟩
  repeat(first|refine o_nil ?_|(refine o_pass (wants_no rfl rfl rfl ?_) rfl ?_;(focus(first|rfl|assumption|(simp;done)|(simp;omega))))|refine o_pass (wants_not rfl rfl rfl) rfl ?_|(refine o_yes (wants_yes rfl rfl rfl ?_) ?_;(focus(first|rfl|assumption|(simp;done)|(simp;omega))))|refine k_region ?_|(apply k_go;(focus(constructor<;>rfl)))|refine d_nil ?_|(apply o_s;(focus(first|(constructor<;>first|rfl|omega)|(apply Ri.add3<;>first|rfl|omega)|(apply Ri.sub3<;>first|rfl|omega)|(apply Ri.conv3<;>first|rfl|omega)|(apply Ri.eqb<;>rfl)|(apply Ri.neb<;>rfl)|(apply Ri.pT;(focus rfl);(focus(first|rfl|assumption|(simp;done)|(simp;omega)));(focus rfl))|(apply Ri.pF;(focus rfl);(focus(first|rfl|assumption|(simp;done)|(simp;omega)));(focus rfl))));(focus rfl)))
  refine o_any (e_alloc) (wants_none rfl) rfl ?_
  rintro _ w3 ⟨g3, rfl, nb3⟩
  refine o_unit (u_storeA rfl rfl rfl (by simp [Value.oneCell']) rfl nb3.at_ (Nat.le_refl 2)) (wants_none rfl) rfl ?_
  rintro w4 hw4
  have e3 := nb3.ge
  have k4 : Kn w1 w4 := Kp.then (k2.trans nb3.kn) hw4.kp (fun _ h => h) (fun k hk he => by have := k2.size; omega)
  repeat(first|refine o_nil ?_|(refine o_pass (wants_no rfl rfl rfl ?_) rfl ?_;(focus(first|rfl|assumption|(simp;done)|(simp;omega))))|refine o_pass (wants_not rfl rfl rfl) rfl ?_|(refine o_yes (wants_yes rfl rfl rfl ?_) ?_;(focus(first|rfl|assumption|(simp;done)|(simp;omega))))|refine k_region ?_|(apply k_go;(focus(constructor<;>rfl)))|refine d_nil ?_|(apply o_s;(focus(first|(constructor<;>first|rfl|omega)|(apply Ri.add3<;>first|rfl|omega)|(apply Ri.sub3<;>first|rfl|omega)|(apply Ri.conv3<;>first|rfl|omega)|(apply Ri.eqb<;>rfl)|(apply Ri.neb<;>rfl)|(apply Ri.pT;(focus rfl);(focus(first|rfl|assumption|(simp;done)|(simp;omega)));(focus rfl))|(apply Ri.pF;(focus rfl);(focus(first|rfl|assumption|(simp;done)|(simp;omega)));(focus rfl))));(focus rfl)))
  refine o_still (r_load rfl (k4.cell f1 id)) (wants_none rfl) rfl ?_
  repeat(first|refine o_nil ?_|(refine o_pass (wants_no rfl rfl rfl ?_) rfl ?_;(focus(first|rfl|assumption|(simp;done)|(simp;omega))))|refine o_pass (wants_not rfl rfl rfl) rfl ?_|(refine o_yes (wants_yes rfl rfl rfl ?_) ?_;(focus(first|rfl|assumption|(simp;done)|(simp;omega))))|refine k_region ?_|(apply k_go;(focus(constructor<;>rfl)))|refine d_nil ?_|(apply o_s;(focus(first|(constructor<;>first|rfl|omega)|(apply Ri.add3<;>first|rfl|omega)|(apply Ri.sub3<;>first|rfl|omega)|(apply Ri.conv3<;>first|rfl|omega)|(apply Ri.eqb<;>rfl)|(apply Ri.neb<;>rfl)|(apply Ri.pT;(focus rfl);(focus(first|rfl|assumption|(simp;done)|(simp;omega)));(focus rfl))|(apply Ri.pF;(focus rfl);(focus(first|rfl|assumption|(simp;done)|(simp;omega)));(focus rfl))));(focus rfl)))
  refine o_still (r_loadA (cs := [.int .i64 d.reg.1, vl]) rfl rfl (by
    intro j u hu
    match j, hu with
    | 0, hu => cases hu; exact k4.cell f2 id
    | 1, hu => cases hu; exact k4.cell f3 id)) (wants_none rfl) rfl ?_
  repeat(first|refine o_nil ?_|(refine o_pass (wants_no rfl rfl rfl ?_) rfl ?_;(focus(first|rfl|assumption|(simp;done)|(simp;omega))))|refine o_pass (wants_not rfl rfl rfl) rfl ?_|(refine o_yes (wants_yes rfl rfl rfl ?_) ?_;(focus(first|rfl|assumption|(simp;done)|(simp;omega))))|refine k_region ?_|(apply k_go;(focus(constructor<;>rfl)))|refine d_nil ?_|(apply o_s;(focus(first|(constructor<;>first|rfl|omega)|(apply Ri.add3<;>first|rfl|omega)|(apply Ri.sub3<;>first|rfl|omega)|(apply Ri.conv3<;>first|rfl|omega)|(apply Ri.eqb<;>rfl)|(apply Ri.neb<;>rfl)|(apply Ri.pT;(focus rfl);(focus(first|rfl|assumption|(simp;done)|(simp;omega)));(focus rfl))|(apply Ri.pF;(focus rfl);(focus(first|rfl|assumption|(simp;done)|(simp;omega)));(focus rfl))));(focus rfl)))
  refine o_still (r_load rfl (k4.cell f4 id)) (wants_none rfl) rfl ?_
  refine o_enter (n_call rfl) (wants_none rfl) rfl ((put_nil hk1).mono ?_)
  rintro _ w5 ⟨k5, rfl⟩
  repeat(first|refine o_nil ?_|(refine o_pass (wants_no rfl rfl rfl ?_) rfl ?_;(focus(first|rfl|assumption|(simp;done)|(simp;omega))))|refine o_pass (wants_not rfl rfl rfl) rfl ?_|(refine o_yes (wants_yes rfl rfl rfl ?_) ?_;(focus(first|rfl|assumption|(simp;done)|(simp;omega))))|refine k_region ?_|(apply k_go;(focus(constructor<;>rfl)))|refine d_nil ?_|(apply o_s;(focus(first|(constructor<;>first|rfl|omega)|(apply Ri.add3<;>first|rfl|omega)|(apply Ri.sub3<;>first|rfl|omega)|(apply Ri.conv3<;>first|rfl|omega)|(apply Ri.eqb<;>rfl)|(apply Ri.neb<;>rfl)|(apply Ri.pT;(focus rfl);(focus(first|rfl|assumption|(simp;done)|(simp;omega)));(focus rfl))|(apply Ri.pF;(focus rfl);(focus(first|rfl|assumption|(simp;done)|(simp;omega)));(focus rfl))));(focus rfl)))
  refine o_enter (n_call rfl) (wants_none rfl) rfl ((all_nil).mono ?_)
  rintro _ w5 ⟨rfl, rfl⟩
  repeat(first|refine o_nil ?_|(refine o_pass (wants_no rfl rfl rfl ?_) rfl ?_;(focus(first|rfl|assumption|(simp;done)|(simp;omega))))|refine o_pass (wants_not rfl rfl rfl) rfl ?_|(refine o_yes (wants_yes rfl rfl rfl ?_) ?_;(focus(first|rfl|assumption|(simp;done)|(simp;omega))))|refine k_region ?_|(apply k_go;(focus(constructor<;>rfl)))|refine d_nil ?_|(apply o_s;(focus(first|(constructor<;>first|rfl|omega)|(apply Ri.add3<;>first|rfl|omega)|(apply Ri.sub3<;>first|rfl|omega)|(apply Ri.conv3<;>first|rfl|omega)|(apply Ri.eqb<;>rfl)|(apply Ri.neb<;>rfl)|(apply Ri.pT;(focus rfl);(focus(first|rfl|assumption|(simp;done)|(simp;omega)));(focus rfl))|(apply Ri.pF;(focus rfl);(focus(first|rfl|assumption|(simp;done)|(simp;omega)));(focus rfl))));(focus rfl)))
  refine o_enter (n_call rfl) (wants_none rfl) rfl ((awake_calls).mono ?_)
  rintro _ w6 ⟨rfl, k6⟩
  repeat(first|refine o_nil ?_|(refine o_pass (wants_no rfl rfl rfl ?_) rfl ?_;(focus(first|rfl|assumption|(simp;done)|(simp;omega))))|refine o_pass (wants_not rfl rfl rfl) rfl ?_|(refine o_yes (wants_yes rfl rfl rfl ?_) ?_;(focus(first|rfl|assumption|(simp;done)|(simp;omega))))|refine k_region ?_|(apply k_go;(focus(constructor<;>rfl)))|refine d_nil ?_|(apply o_s;(focus(first|(constructor<;>first|rfl|omega)|(apply Ri.add3<;>first|rfl|omega)|(apply Ri.sub3<;>first|rfl|omega)|(apply Ri.conv3<;>first|rfl|omega)|(apply Ri.eqb<;>rfl)|(apply Ri.neb<;>rfl)|(apply Ri.pT;(focus rfl);(focus(first|rfl|assumption|(simp;done)|(simp;omega)));(focus rfl))|(apply Ri.pF;(focus rfl);(focus(first|rfl|assumption|(simp;done)|(simp;omega)));(focus rfl))));(focus rfl)))
  exact k_ret1 rfl rfl ⟨rfl, ((kn.trans k4).trans k5).trans k6⟩
end Go.Ink
