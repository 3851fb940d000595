/-
  PieceUndoes.
-/
import Derived.Test.YteleidcghoddjaaL1
import Derived.Test.YteleidcghoddjaaArr
set_option linter.unusedVariables false
set_option linter.unusedSimpArgs false
namespace Go.Ink
open Go Go.Proofs

instance : RdT Try.prog 40 (kArr 2 (by decide) kI64) := rd_array (e := 3) (by kernel_rfl) (by kernel_rfl) (by kernel_rfl) inferInstance
section
variable {T : Tab} {a n : Int} {xs ys : List Int}
/-- An insert that is taken: what it leaves. -/
theorem ins_take (h : SpOK T.store T.row) (h0 : 0 ≤ a) (h1 : a ≤ tot T.row) (h2 : tot T.row + xs.length ≤ 65536) : ∃ T', insM T a xs = (T', 0) ∧ flat T'.store T'.row = (flat T.store T.row).take a.toNat ++ xs ++ (flat T.store T.row).drop a.toNat ∧ tot T'.row = tot T.row + xs.length ∧ T'.store.length = T.store.length + xs.length ∧ T'.row.length ≤ T.row.length + 2 := by
  obtain ⟨g1, g2, g3, g4, g5, g6, g7⟩ := ins_flat (xs := xs) h h0 h1 (by omega)
  exact ⟨_, Prod.ext rfl g1, g4, g6, g7, g5⟩
theorem del_take (h : SpOK T.store T.row) (h0 : 0 ≤ a) (hn : 0 ≤ n) (h1 : a + n ≤ tot T.row) : ∃ T', delM T a n = (T', 0) ∧ flat T'.store T'.row = (flat T.store T.row).take a.toNat ++ (flat T.store T.row).drop (a + n).toNat ∧ tot T'.row = tot T.row - n ∧ T'.store.length = T.store.length ∧ T'.row.length ≤ T.row.length + 2 := by
  obtain ⟨g1, g2, g3, g4, g5, g6⟩ := del_flat h h0 hn h1
  exact ⟨_, Prod.ext rfl g1, by rw [g3]; exact g4, g6, by rw [g3], g5⟩
theorem slice_take (h0 : 0 ≤ a) (hn : 0 ≤ n) (h1 : a + n ≤ tot T.row) : sliceM T a n = (((flat T.store T.row).drop a.toNat).take n.toNat, 0) := by
  unfold sliceM
  rw [if_pos (fit_zero.2 ⟨h0, hn, h1⟩)]
theorem in_out {l more : List Int} {i : Nat} (hi : i ≤ l.length) : (l.take i ++ more ++ l.drop i).take i ++ (l.take i ++ more ++ l.drop i).drop (i + more.length) = l := by
  have e1 : (l.take i).length = i := by simp [hi]
  rw [List.append_assoc, List.take_append_of_le_length (by omega), List.take_of_length_le (by omega), ← List.append_assoc, List.drop_append, List.length_append, e1]
  rw [List.drop_of_length_le (by simp [hi]), List.nil_append, show i + more.length - (i + more.length) = 0 from by omega, List.drop_zero, List.take_append_drop]
theorem out_in {l : List Int} {i n : Nat} (hi : i + n ≤ l.length) : (l.take i ++ l.drop (i + n)).take i ++ (l.drop i).take n ++ (l.take i ++ l.drop (i + n)).drop i = l := by
  have e1 : (l.take i).length = i := by rw [List.length_take]; omega
  have e2 : (l.take i ++ l.drop (i + n)).take i = l.take i := by rw [List.take_append_of_le_length (by omega), List.take_of_length_le (by omega)]
  have e3 : (l.take i ++ l.drop (i + n)).drop i = l.drop (i + n) := by rw [List.drop_append, List.drop_of_length_le (by omega : (l.take i).length ≤ i), e1, Nat.sub_self, List.drop_zero, List.nil_append]
  rw [e2, e3, ← List.drop_drop, List.append_assoc, List.take_append_drop, List.take_append_drop]
end
theorem newM_tot (xs : List Int) : tot (newM xs).row = xs.length := by
  have := flat_len (newM_ok xs)
  rw [(rel_new xs).fl] at this
  omega
set_option maxHeartbeats 4000000 in
theorem law_PieceUndoes {W : World} {u v : Value} {xs ys : List Int} {q : List Int} {cs : List Value} (h : Sl kRune (fun _ => True) W u xs) (h' : Sl kRune (fun _ => True) W v ys) (hq : (kArr 2 (by decide) kI64).R (fun _ => True) W q cs) :
    CallsR Try.prog 4 #[u, v, .agg cs.toArray] W fun r w' => r = .bool true ∧ Kn W w' := by
  obtain ⟨a0, a1, rfl, rfl, hb0, hb1⟩ := arr2_cells hq
  obtain ⟨A, c, rfl, hc, hl⟩ := h.form
  obtain ⟨B, c', rfl, hc', hl'⟩ := h'.form
  have hlen := hl.len
  have hlen' := hl'.len
  have h0 := h.old
  have h0' := h'.old
  refine calls_enter Try.func4 rfl rfl ?_
  repeat(first|refine o_nil ?_|(refine o_pass (wants_no rfl rfl rfl ?_) rfl ?_;(focus(first|rfl|assumption|(simp;done)|(simp;omega))))|refine o_pass (wants_not rfl rfl rfl) rfl ?_|(refine o_yes (wants_yes rfl rfl rfl ?_) ?_;(focus(first|rfl|assumption|(simp;done)|(simp;omega))))|refine k_region ?_|(apply k_go;(focus(constructor<;>rfl)))|refine d_nil ?_|(apply o_s;(focus(first|(constructor<;>first|rfl|omega)|(apply Ri.add3<;>first|rfl|omega)|(apply Ri.sub3<;>first|rfl|omega)|(apply Ri.eqb<;>rfl)|(apply Ri.neb<;>rfl)|(apply Ri.pT;(focus rfl);(focus(first|rfl|assumption|(simp;done)|(simp;omega)));(focus rfl))|(apply Ri.pF;(focus rfl);(focus(first|rfl|assumption|(simp;done)|(simp;omega)));(focus rfl))));(focus rfl)))
  refine o_any (e_box rfl) (wants_none rfl) rfl ?_
  rintro _ w1 ⟨gb, rfl, nb⟩
  have z1 := nb.kn.size
  have f0 : w1.cell? ⟨gb, 0, none⟩ = some (.int .i64 a0) := blk_cell nb.at_
  have f1 : w1.cell? ⟨gb, 1, none⟩ = some (.int .i64 a1) := blk_cell nb.at_
  by_cases hb : 2000 < xs.length
  · repeat(first|refine o_nil ?_|(refine o_pass (wants_no rfl rfl rfl ?_) rfl ?_;(focus(first|rfl|assumption|(simp;done)|(simp;omega))))|refine o_pass (wants_not rfl rfl rfl) rfl ?_|(refine o_yes (wants_yes rfl rfl rfl ?_) ?_;(focus(first|rfl|assumption|(simp;done)|(simp;omega))))|refine k_region ?_|(apply k_go;(focus(constructor<;>rfl)))|refine d_nil ?_|(apply o_s;(focus(first|(constructor<;>first|rfl|omega)|(apply Ri.add3<;>first|rfl|omega)|(apply Ri.sub3<;>first|rfl|omega)|(apply Ri.eqb<;>rfl)|(apply Ri.neb<;>rfl)|(apply Ri.pT;(focus rfl);(focus(first|rfl|assumption|(simp;done)|(simp;omega)));(focus rfl))|(apply Ri.pF;(focus rfl);(focus(first|rfl|assumption|(simp;done)|(simp;omega)));(focus rfl))));(focus rfl)))
    refine k_true rfl ?_
    repeat(first|refine o_nil ?_|(refine o_pass (wants_no rfl rfl rfl ?_) rfl ?_;(focus(first|rfl|assumption|(simp;done)|(simp;omega))))|refine o_pass (wants_not rfl rfl rfl) rfl ?_|(refine o_yes (wants_yes rfl rfl rfl ?_) ?_;(focus(first|rfl|assumption|(simp;done)|(simp;omega))))|refine k_region ?_|(apply k_go;(focus(constructor<;>rfl)))|refine d_nil ?_|(apply o_s;(focus(first|(constructor<;>first|rfl|omega)|(apply Ri.add3<;>first|rfl|omega)|(apply Ri.sub3<;>first|rfl|omega)|(apply Ri.eqb<;>rfl)|(apply Ri.neb<;>rfl)|(apply Ri.pT;(focus rfl);(focus(first|rfl|assumption|(simp;done)|(simp;omega)));(focus rfl))|(apply Ri.pF;(focus rfl);(focus(first|rfl|assumption|(simp;done)|(simp;omega)));(focus rfl))));(focus rfl)))
    exact k_ret1 rfl rfl ⟨rfl, nb.kn⟩
  by_cases hb' : 2000 < ys.length
  · repeat(first|refine o_nil ?_|(refine o_pass (wants_no rfl rfl rfl ?_) rfl ?_;(focus(first|rfl|assumption|(simp;done)|(simp;omega))))|refine o_pass (wants_not rfl rfl rfl) rfl ?_|(refine o_yes (wants_yes rfl rfl rfl ?_) ?_;(focus(first|rfl|assumption|(simp;done)|(simp;omega))))|refine k_region ?_|(apply k_go;(focus(constructor<;>rfl)))|refine d_nil ?_|(apply o_s;(focus(first|(constructor<;>first|rfl|omega)|(apply Ri.add3<;>first|rfl|omega)|(apply Ri.sub3<;>first|rfl|omega)|(apply Ri.eqb<;>rfl)|(apply Ri.neb<;>rfl)|(apply Ri.pT;(focus rfl);(focus(first|rfl|assumption|(simp;done)|(simp;omega)));(focus rfl))|(apply Ri.pF;(focus rfl);(focus(first|rfl|assumption|(simp;done)|(simp;omega)));(focus rfl))));(focus rfl)))
    refine k_yes rfl (by omega) ?_
    repeat(first|refine o_nil ?_|(refine o_pass (wants_no rfl rfl rfl ?_) rfl ?_;(focus(first|rfl|assumption|(simp;done)|(simp;omega))))|refine o_pass (wants_not rfl rfl rfl) rfl ?_|(refine o_yes (wants_yes rfl rfl rfl ?_) ?_;(focus(first|rfl|assumption|(simp;done)|(simp;omega))))|refine k_region ?_|(apply k_go;(focus(constructor<;>rfl)))|refine d_nil ?_|(apply o_s;(focus(first|(constructor<;>first|rfl|omega)|(apply Ri.add3<;>first|rfl|omega)|(apply Ri.sub3<;>first|rfl|omega)|(apply Ri.eqb<;>rfl)|(apply Ri.neb<;>rfl)|(apply Ri.pT;(focus rfl);(focus(first|rfl|assumption|(simp;done)|(simp;omega)));(focus rfl))|(apply Ri.pF;(focus rfl);(focus(first|rfl|assumption|(simp;done)|(simp;omega)));(focus rfl))));(focus rfl)))
    exact k_ret1 rfl rfl ⟨rfl, nb.kn⟩
  repeat(first|refine o_nil ?_|(refine o_pass (wants_no rfl rfl rfl ?_) rfl ?_;(focus(first|rfl|assumption|(simp;done)|(simp;omega))))|refine o_pass (wants_not rfl rfl rfl) rfl ?_|(refine o_yes (wants_yes rfl rfl rfl ?_) ?_;(focus(first|rfl|assumption|(simp;done)|(simp;omega))))|refine k_region ?_|(apply k_go;(focus(constructor<;>rfl)))|refine d_nil ?_|(apply o_s;(focus(first|(constructor<;>first|rfl|omega)|(apply Ri.add3<;>first|rfl|omega)|(apply Ri.sub3<;>first|rfl|omega)|(apply Ri.eqb<;>rfl)|(apply Ri.neb<;>rfl)|(apply Ri.pT;(focus rfl);(focus(first|rfl|assumption|(simp;done)|(simp;omega)));(focus rfl))|(apply Ri.pF;(focus rfl);(focus(first|rfl|assumption|(simp;done)|(simp;omega)));(focus rfl))));(focus rfl)))
  refine k_no rfl (by omega) ?_
  repeat(first|refine o_nil ?_|(refine o_pass (wants_no rfl rfl rfl ?_) rfl ?_;(focus(first|rfl|assumption|(simp;done)|(simp;omega))))|refine o_pass (wants_not rfl rfl rfl) rfl ?_|(refine o_yes (wants_yes rfl rfl rfl ?_) ?_;(focus(first|rfl|assumption|(simp;done)|(simp;omega))))|refine k_region ?_|(apply k_go;(focus(constructor<;>rfl)))|refine d_nil ?_|(apply o_s;(focus(first|(constructor<;>first|rfl|omega)|(apply Ri.add3<;>first|rfl|omega)|(apply Ri.sub3<;>first|rfl|omega)|(apply Ri.eqb<;>rfl)|(apply Ri.neb<;>rfl)|(apply Ri.pT;(focus rfl);(focus(first|rfl|assumption|(simp;done)|(simp;omega)));(focus rfl))|(apply Ri.pF;(focus rfl);(focus(first|rfl|assumption|(simp;done)|(simp;omega)));(focus rfl))));(focus rfl)))
  refine o_enter (n_call rfl) (wants_none rfl) rfl ((new_solo (W := w1) (nb.kn.sl h0) (by omega) (Nat.le_refl _)).mono ?_)
  rintro _ w2 ⟨k2, g, D0, rfl, hD0, hn0, hT0⟩
  have z2 := k2.size
  repeat(first|refine o_nil ?_|(refine o_pass (wants_no rfl rfl rfl ?_) rfl ?_;(focus(first|rfl|assumption|(simp;done)|(simp;omega))))|refine o_pass (wants_not rfl rfl rfl) rfl ?_|(refine o_yes (wants_yes rfl rfl rfl ?_) ?_;(focus(first|rfl|assumption|(simp;done)|(simp;omega))))|refine k_region ?_|(apply k_go;(focus(constructor<;>rfl)))|refine d_nil ?_|(apply o_s;(focus(first|(constructor<;>first|rfl|omega)|(apply Ri.add3<;>first|rfl|omega)|(apply Ri.sub3<;>first|rfl|omega)|(apply Ri.eqb<;>rfl)|(apply Ri.neb<;>rfl)|(apply Ri.pT;(focus rfl);(focus(first|rfl|assumption|(simp;done)|(simp;omega)));(focus rfl))|(apply Ri.pF;(focus rfl);(focus(first|rfl|assumption|(simp;done)|(simp;omega)));(focus rfl))));(focus rfl)))
  refine k_false rfl ?_
  repeat(first|refine o_nil ?_|(refine o_pass (wants_no rfl rfl rfl ?_) rfl ?_;(focus(first|rfl|assumption|(simp;done)|(simp;omega))))|refine o_pass (wants_not rfl rfl rfl) rfl ?_|(refine o_yes (wants_yes rfl rfl rfl ?_) ?_;(focus(first|rfl|assumption|(simp;done)|(simp;omega))))|refine k_region ?_|(apply k_go;(focus(constructor<;>rfl)))|refine d_nil ?_|(apply o_s;(focus(first|(constructor<;>first|rfl|omega)|(apply Ri.add3<;>first|rfl|omega)|(apply Ri.sub3<;>first|rfl|omega)|(apply Ri.eqb<;>rfl)|(apply Ri.neb<;>rfl)|(apply Ri.pT;(focus rfl);(focus(first|rfl|assumption|(simp;done)|(simp;omega)));(focus rfl))|(apply Ri.pF;(focus rfl);(focus(first|rfl|assumption|(simp;done)|(simp;omega)));(focus rfl))));(focus rfl)))
  refine o_still (r_indexA rfl rfl (by decide) (by decide)) (wants_none rfl) rfl ?_
  refine o_still (r_load rfl (k2.cell f0 id)) (wants_none rfl) rfl ?_
  repeat(first|refine o_nil ?_|(refine o_pass (wants_no rfl rfl rfl ?_) rfl ?_;(focus(first|rfl|assumption|(simp;done)|(simp;omega))))|refine o_pass (wants_not rfl rfl rfl) rfl ?_|(refine o_yes (wants_yes rfl rfl rfl ?_) ?_;(focus(first|rfl|assumption|(simp;done)|(simp;omega))))|refine k_region ?_|(apply k_go;(focus(constructor<;>rfl)))|refine d_nil ?_|(apply o_s;(focus(first|(constructor<;>first|rfl|omega)|(apply Ri.add3<;>first|rfl|omega)|(apply Ri.sub3<;>first|rfl|omega)|(apply Ri.eqb<;>rfl)|(apply Ri.neb<;>rfl)|(apply Ri.pT;(focus rfl);(focus(first|rfl|assumption|(simp;done)|(simp;omega)));(focus rfl))|(apply Ri.pF;(focus rfl);(focus(first|rfl|assumption|(simp;done)|(simp;omega)));(focus rfl))));(focus rfl)))
  obtain ⟨i, hi, hil⟩ : ∃ i : Nat, (if 0 < (if (xs.length : Int) < a0 then (xs.length : Int) else a0) then (if (xs.length : Int) < a0 then (xs.length : Int) else a0) else 0) = (i : Int) ∧ i ≤ xs.length := by
    refine ⟨(if 0 < (if (xs.length : Int) < a0 then (xs.length : Int) else a0) then (if (xs.length : Int) < a0 then (xs.length : Int) else a0) else 0).toNat, ?_, ?_⟩
    · split <;> split <;> omega
    · split <;> split <;> omega
  rw [hi]
  refine o_still (r_indexA rfl rfl (by decide) (by decide)) (wants_none rfl) rfl ?_
  refine o_still (r_load rfl (k2.cell f1 id)) (wants_none rfl) rfl ?_
  repeat(first|refine o_nil ?_|(refine o_pass (wants_no rfl rfl rfl ?_) rfl ?_;(focus(first|rfl|assumption|(simp;done)|(simp;omega))))|refine o_pass (wants_not rfl rfl rfl) rfl ?_|(refine o_yes (wants_yes rfl rfl rfl ?_) ?_;(focus(first|rfl|assumption|(simp;done)|(simp;omega))))|refine k_region ?_|(apply k_go;(focus(constructor<;>rfl)))|refine d_nil ?_|(apply o_s;(focus(first|(constructor<;>first|rfl|omega)|(apply Ri.add3<;>first|rfl|omega)|(apply Ri.sub3<;>first|rfl|omega)|(apply Ri.eqb<;>rfl)|(apply Ri.neb<;>rfl)|(apply Ri.pT;(focus rfl);(focus(first|rfl|assumption|(simp;done)|(simp;omega)));(focus rfl))|(apply Ri.pF;(focus rfl);(focus(first|rfl|assumption|(simp;done)|(simp;omega)));(focus rfl))));(focus rfl)))
  obtain ⟨n, hn, hnl⟩ : ∃ n : Nat, (if 0 < (if (xs.length : Int) - i < a1 then (xs.length : Int) - i else a1) then (if (xs.length : Int) - i < a1 then (xs.length : Int) - i else a1) else 0) = (n : Int) ∧ i + n ≤ xs.length := by
    refine ⟨(if 0 < (if (xs.length : Int) - i < a1 then (xs.length : Int) - i else a1) then (if (xs.length : Int) - i < a1 then (xs.length : Int) - i else a1) else 0).toNat, ?_, ?_⟩
    · split <;> split <;> omega
    · split <;> split <;> omega
  rw [hn]
  clear hi hn
  have ok0 := hT0.ok
  have fl0 : flat (newM xs).store (newM xs).row = xs := (rel_new xs).fl
  have t0 := newM_tot xs
  have s0 : (newM xs).store.length = xs.length := rfl
  obtain ⟨T1, e1, fl1, t1, s1, _⟩ := ins_take (T := newM xs) (a := i) (xs := ys) ok0.1 (by omega) (by omega) (by omega)
  have z0 := z1
  refine o_enter (n_call rfl) (wants_none rfl) rfl ((ins_solo (W := w1) e1 hT0 hD0 z2 (by omega) (k2.sl (nb.kn.sl h0')) (fun k hk hl hd => by have := hD0 k hd; omega) (by omega)).mono ?_)
  rintro _ w3 ⟨rfl, hk3, D1, hD1, hn1, hT1⟩
  have z3 := hk3.size
  repeat(first|refine o_nil ?_|(refine o_pass (wants_no rfl rfl rfl ?_) rfl ?_;(focus(first|rfl|assumption|(simp;done)|(simp;omega))))|refine o_pass (wants_not rfl rfl rfl) rfl ?_|(refine o_yes (wants_yes rfl rfl rfl ?_) ?_;(focus(first|rfl|assumption|(simp;done)|(simp;omega))))|refine k_region ?_|(apply k_go;(focus(constructor<;>rfl)))|refine d_nil ?_|(apply o_s;(focus(first|(constructor<;>first|rfl|omega)|(apply Ri.add3<;>first|rfl|omega)|(apply Ri.sub3<;>first|rfl|omega)|(apply Ri.eqb<;>rfl)|(apply Ri.neb<;>rfl)|(apply Ri.pT;(focus rfl);(focus(first|rfl|assumption|(simp;done)|(simp;omega)));(focus rfl))|(apply Ri.pF;(focus rfl);(focus(first|rfl|assumption|(simp;done)|(simp;omega)));(focus rfl))));(focus rfl)))
  refine o_enter (n_call rfl) (wants_none rfl) rfl ((len_calls hT1).mono ?_)
  rintro _ w3 ⟨rfl, rfl⟩
  have ok1 := hT1.ok
  rw [fl0, Int.toNat_natCast] at fl1
  obtain ⟨T2, e2, fl2, t2, s2, _⟩ := del_take (T := T1) (a := i) (n := ys.length) ok1.1 (by omega) (by omega) (by omega)
  rw [fl1, Int.toNat_natCast, show ((i : Int) + ys.length).toNat = i + ys.length from by omega, in_out hil] at fl2
  repeat(first|refine o_nil ?_|(refine o_pass (wants_no rfl rfl rfl ?_) rfl ?_;(focus(first|rfl|assumption|(simp;done)|(simp;omega))))|refine o_pass (wants_not rfl rfl rfl) rfl ?_|(refine o_yes (wants_yes rfl rfl rfl ?_) ?_;(focus(first|rfl|assumption|(simp;done)|(simp;omega))))|refine k_region ?_|(apply k_go;(focus(constructor<;>rfl)))|refine d_nil ?_|(apply o_s;(focus(first|(constructor<;>first|rfl|omega)|(apply Ri.add3<;>first|rfl|omega)|(apply Ri.sub3<;>first|rfl|omega)|(apply Ri.eqb<;>rfl)|(apply Ri.neb<;>rfl)|(apply Ri.pT;(focus rfl);(focus(first|rfl|assumption|(simp;done)|(simp;omega)));(focus rfl))|(apply Ri.pF;(focus rfl);(focus(first|rfl|assumption|(simp;done)|(simp;omega)));(focus rfl))));(focus rfl)))
  refine o_enter (n_call rfl) (wants_none rfl) rfl ((del_solo (W := w1) e2 hT1 hD1 (by omega) (by omega) (by omega)).mono ?_)
  rintro _ w4 ⟨rfl, hk4, D2, hD2, hn2, hT2⟩
  have z4 := hk4.size
  have ok2 := hT2.ok
  repeat(first|refine o_nil ?_|(refine o_pass (wants_no rfl rfl rfl ?_) rfl ?_;(focus(first|rfl|assumption|(simp;done)|(simp;omega))))|refine o_pass (wants_not rfl rfl rfl) rfl ?_|(refine o_yes (wants_yes rfl rfl rfl ?_) ?_;(focus(first|rfl|assumption|(simp;done)|(simp;omega))))|refine k_region ?_|(apply k_go;(focus(constructor<;>rfl)))|refine d_nil ?_|(apply o_s;(focus(first|(constructor<;>first|rfl|omega)|(apply Ri.add3<;>first|rfl|omega)|(apply Ri.sub3<;>first|rfl|omega)|(apply Ri.eqb<;>rfl)|(apply Ri.neb<;>rfl)|(apply Ri.pT;(focus rfl);(focus(first|rfl|assumption|(simp;done)|(simp;omega)));(focus rfl))|(apply Ri.pF;(focus rfl);(focus(first|rfl|assumption|(simp;done)|(simp;omega)));(focus rfl))));(focus rfl)))
  refine k_false rfl ?_
  repeat(first|refine o_nil ?_|(refine o_pass (wants_no rfl rfl rfl ?_) rfl ?_;(focus(first|rfl|assumption|(simp;done)|(simp;omega))))|refine o_pass (wants_not rfl rfl rfl) rfl ?_|(refine o_yes (wants_yes rfl rfl rfl ?_) ?_;(focus(first|rfl|assumption|(simp;done)|(simp;omega))))|refine k_region ?_|(apply k_go;(focus(constructor<;>rfl)))|refine d_nil ?_|(apply o_s;(focus(first|(constructor<;>first|rfl|omega)|(apply Ri.add3<;>first|rfl|omega)|(apply Ri.sub3<;>first|rfl|omega)|(apply Ri.eqb<;>rfl)|(apply Ri.neb<;>rfl)|(apply Ri.pT;(focus rfl);(focus(first|rfl|assumption|(simp;done)|(simp;omega)));(focus rfl))|(apply Ri.pF;(focus rfl);(focus(first|rfl|assumption|(simp;done)|(simp;omega)));(focus rfl))));(focus rfl)))
  refine o_enter (n_call rfl) (wants_none rfl) rfl ((whole_calls hT2).mono ?_)
  rintro _ w5 ⟨k5, vw, rfl, hO5⟩
  rw [fl2] at hO5
  obtain ⟨Aw, cw, rfl, _⟩ := hO5.form
  have z5 := k5.size
  repeat(first|refine o_nil ?_|(refine o_pass (wants_no rfl rfl rfl ?_) rfl ?_;(focus(first|rfl|assumption|(simp;done)|(simp;omega))))|refine o_pass (wants_not rfl rfl rfl) rfl ?_|(refine o_yes (wants_yes rfl rfl rfl ?_) ?_;(focus(first|rfl|assumption|(simp;done)|(simp;omega))))|refine k_region ?_|(apply k_go;(focus(constructor<;>rfl)))|refine d_nil ?_|(apply o_s;(focus(first|(constructor<;>first|rfl|omega)|(apply Ri.add3<;>first|rfl|omega)|(apply Ri.sub3<;>first|rfl|omega)|(apply Ri.eqb<;>rfl)|(apply Ri.neb<;>rfl)|(apply Ri.pT;(focus rfl);(focus(first|rfl|assumption|(simp;done)|(simp;omega)));(focus rfl))|(apply Ri.pF;(focus rfl);(focus(first|rfl|assumption|(simp;done)|(simp;omega)));(focus rfl))));(focus rfl)))
  have e3 := slice_take (T := T2) (a := i) (n := n) (by omega) (by omega) (by omega)
  rw [fl2, Int.toNat_natCast, Int.toNat_natCast] at e3
  refine o_enter (n_call rfl) (wants_none rfl) rfl ((slice_known e3 (hT2.kn k5) (by omega) (by omega)).mono ?_)
  rintro _ w6 ⟨k6, A6, c6, rfl, h6⟩
  have z6 := k6.size
  have kn4 : Kn W w4 := Kp.then (Kp.then (nb.kn.trans k2) hk3 (fun _ h => h) fun k hk hd => by have := hD0 k hd; omega) hk4 (fun _ h => h) fun k hk hd => by have := hD1 k hd; omega
  have kn6 : Kn W w6 := (kn4.trans k5).trans k6
  repeat(first|refine o_nil ?_|(refine o_pass (wants_no rfl rfl rfl ?_) rfl ?_;(focus(first|rfl|assumption|(simp;done)|(simp;omega))))|refine o_pass (wants_not rfl rfl rfl) rfl ?_|(refine o_yes (wants_yes rfl rfl rfl ?_) ?_;(focus(first|rfl|assumption|(simp;done)|(simp;omega))))|refine k_region ?_|(apply k_go;(focus(constructor<;>rfl)))|refine d_nil ?_|(apply o_s;(focus(first|(constructor<;>first|rfl|omega)|(apply Ri.add3<;>first|rfl|omega)|(apply Ri.sub3<;>first|rfl|omega)|(apply Ri.eqb<;>rfl)|(apply Ri.neb<;>rfl)|(apply Ri.pT;(focus rfl);(focus(first|rfl|assumption|(simp;done)|(simp;omega)));(focus rfl))|(apply Ri.pF;(focus rfl);(focus(first|rfl|assumption|(simp;done)|(simp;omega)));(focus rfl))));(focus rfl)))
  refine o_enter (n_call rfl) (wants_none rfl) rfl ((runes_calls (k6.sl (hO5.slF (F' := noB w4) (fun _ h => h) fun _ h => h.elim)) (kn6.sl h0)).mono ?_)
  rintro v7 w7 ⟨k7, hv⟩
  rw [decide_eq_true rfl] at hv
  subst hv
  have z7 := k7.size
  have k67 : Kn w4 w7 := (k5.trans k6).trans k7
  have hx7 := k7.sl h6
  obtain ⟨T3, e4, fl3, t3, s3, _⟩ := del_take (T := T2) (a := i) (n := n) ok2.1 (by omega) (by omega) (by omega)
  rw [fl2, Int.toNat_natCast, show ((i : Int) + n).toNat = i + n from by omega] at fl3
  repeat(first|refine o_nil ?_|(refine o_pass (wants_no rfl rfl rfl ?_) rfl ?_;(focus(first|rfl|assumption|(simp;done)|(simp;omega))))|refine o_pass (wants_not rfl rfl rfl) rfl ?_|(refine o_yes (wants_yes rfl rfl rfl ?_) ?_;(focus(first|rfl|assumption|(simp;done)|(simp;omega))))|refine k_region ?_|(apply k_go;(focus(constructor<;>rfl)))|refine d_nil ?_|(apply o_s;(focus(first|(constructor<;>first|rfl|omega)|(apply Ri.add3<;>first|rfl|omega)|(apply Ri.sub3<;>first|rfl|omega)|(apply Ri.eqb<;>rfl)|(apply Ri.neb<;>rfl)|(apply Ri.pT;(focus rfl);(focus(first|rfl|assumption|(simp;done)|(simp;omega)));(focus rfl))|(apply Ri.pF;(focus rfl);(focus(first|rfl|assumption|(simp;done)|(simp;omega)));(focus rfl))));(focus rfl)))
  refine o_enter (n_call rfl) (wants_none rfl) rfl ((del_solo (W := w1) e4 (hT2.kn k67) (fun k hk => by have := hD2 k hk; omega) (by omega) (by omega) (by omega)).mono ?_)
  rintro _ w8 ⟨rfl, hk8, D3, hD3, hn3, hT3⟩
  have z8 := hk8.size
  have ok3 := hT3.ok
  have hxl : ((xs.drop i).take n).length = n := by rw [List.length_take, List.length_drop]; omega
  obtain ⟨T4, e5, fl4, t4, s4, _⟩ := ins_take (T := T3) (a := i) (xs := (xs.drop i).take n) ok3.1 (by omega) (by omega) (by omega)
  rw [fl3, Int.toNat_natCast, out_in hnl] at fl4
  have hx8 := Kp.sl hk8 hx7 fun k hk hd => by have := hD2 k hd; omega
  repeat(first|refine o_nil ?_|(refine o_pass (wants_no rfl rfl rfl ?_) rfl ?_;(focus(first|rfl|assumption|(simp;done)|(simp;omega))))|refine o_pass (wants_not rfl rfl rfl) rfl ?_|(refine o_yes (wants_yes rfl rfl rfl ?_) ?_;(focus(first|rfl|assumption|(simp;done)|(simp;omega))))|refine k_region ?_|(apply k_go;(focus(constructor<;>rfl)))|refine d_nil ?_|(apply o_s;(focus(first|(constructor<;>first|rfl|omega)|(apply Ri.add3<;>first|rfl|omega)|(apply Ri.sub3<;>first|rfl|omega)|(apply Ri.eqb<;>rfl)|(apply Ri.neb<;>rfl)|(apply Ri.pT;(focus rfl);(focus(first|rfl|assumption|(simp;done)|(simp;omega)));(focus rfl))|(apply Ri.pF;(focus rfl);(focus(first|rfl|assumption|(simp;done)|(simp;omega)));(focus rfl))));(focus rfl)))
  refine o_enter (n_call rfl) (wants_none rfl) rfl ((ins_solo (W := w1) e5 hT3 hD3 (by omega) (by omega) hx8 (fun k hk hl hd => by have := hn3 k (by omega) hd; have := hD2 k this; omega) (by omega)).mono ?_)
  rintro _ w9 ⟨rfl, hk9, D4, hD4, hn4, hT4⟩
  have z9 := hk9.size
  repeat(first|refine o_nil ?_|(refine o_pass (wants_no rfl rfl rfl ?_) rfl ?_;(focus(first|rfl|assumption|(simp;done)|(simp;omega))))|refine o_pass (wants_not rfl rfl rfl) rfl ?_|(refine o_yes (wants_yes rfl rfl rfl ?_) ?_;(focus(first|rfl|assumption|(simp;done)|(simp;omega))))|refine k_region ?_|(apply k_go;(focus(constructor<;>rfl)))|refine d_nil ?_|(apply o_s;(focus(first|(constructor<;>first|rfl|omega)|(apply Ri.add3<;>first|rfl|omega)|(apply Ri.sub3<;>first|rfl|omega)|(apply Ri.eqb<;>rfl)|(apply Ri.neb<;>rfl)|(apply Ri.pT;(focus rfl);(focus(first|rfl|assumption|(simp;done)|(simp;omega)));(focus rfl))|(apply Ri.pF;(focus rfl);(focus(first|rfl|assumption|(simp;done)|(simp;omega)));(focus rfl))));(focus rfl)))
  refine k_false rfl ?_
  repeat(first|refine o_nil ?_|(refine o_pass (wants_no rfl rfl rfl ?_) rfl ?_;(focus(first|rfl|assumption|(simp;done)|(simp;omega))))|refine o_pass (wants_not rfl rfl rfl) rfl ?_|(refine o_yes (wants_yes rfl rfl rfl ?_) ?_;(focus(first|rfl|assumption|(simp;done)|(simp;omega))))|refine k_region ?_|(apply k_go;(focus(constructor<;>rfl)))|refine d_nil ?_|(apply o_s;(focus(first|(constructor<;>first|rfl|omega)|(apply Ri.add3<;>first|rfl|omega)|(apply Ri.sub3<;>first|rfl|omega)|(apply Ri.eqb<;>rfl)|(apply Ri.neb<;>rfl)|(apply Ri.pT;(focus rfl);(focus(first|rfl|assumption|(simp;done)|(simp;omega)));(focus rfl))|(apply Ri.pF;(focus rfl);(focus(first|rfl|assumption|(simp;done)|(simp;omega)));(focus rfl))));(focus rfl)))
  refine o_enter (n_call rfl) (wants_none rfl) rfl ((whole_calls hT4).mono ?_)
  rintro _ w10 ⟨k10, vw2, rfl, hO10⟩
  rw [fl4] at hO10
  obtain ⟨Aw2, cw2, rfl, _⟩ := hO10.form
  have kn10 : Kn W w10 := (Kp.then (Kp.then (kn6.trans k7) hk8 (fun _ h => h) fun k hk hd => by have := hD2 k hd; omega) hk9 (fun _ h => h) fun k hk hd => by have := hD3 k hd; omega : Kn W w9).trans k10
  repeat(first|refine o_nil ?_|(refine o_pass (wants_no rfl rfl rfl ?_) rfl ?_;(focus(first|rfl|assumption|(simp;done)|(simp;omega))))|refine o_pass (wants_not rfl rfl rfl) rfl ?_|(refine o_yes (wants_yes rfl rfl rfl ?_) ?_;(focus(first|rfl|assumption|(simp;done)|(simp;omega))))|refine k_region ?_|(apply k_go;(focus(constructor<;>rfl)))|refine d_nil ?_|(apply o_s;(focus(first|(constructor<;>first|rfl|omega)|(apply Ri.add3<;>first|rfl|omega)|(apply Ri.sub3<;>first|rfl|omega)|(apply Ri.eqb<;>rfl)|(apply Ri.neb<;>rfl)|(apply Ri.pT;(focus rfl);(focus(first|rfl|assumption|(simp;done)|(simp;omega)));(focus rfl))|(apply Ri.pF;(focus rfl);(focus(first|rfl|assumption|(simp;done)|(simp;omega)));(focus rfl))));(focus rfl)))
  refine o_enter (n_call rfl) (wants_none rfl) rfl ((runes_calls (hO10.slF (F' := noB w9) (fun _ h => h) fun _ h => h.elim) (kn10.sl h0)).mono ?_)
  rintro v11 w11 ⟨k11, hv⟩
  rw [decide_eq_true rfl] at hv
  subst hv
  repeat(first|refine o_nil ?_|(refine o_pass (wants_no rfl rfl rfl ?_) rfl ?_;(focus(first|rfl|assumption|(simp;done)|(simp;omega))))|refine o_pass (wants_not rfl rfl rfl) rfl ?_|(refine o_yes (wants_yes rfl rfl rfl ?_) ?_;(focus(first|rfl|assumption|(simp;done)|(simp;omega))))|refine k_region ?_|(apply k_go;(focus(constructor<;>rfl)))|refine d_nil ?_|(apply o_s;(focus(first|(constructor<;>first|rfl|omega)|(apply Ri.add3<;>first|rfl|omega)|(apply Ri.sub3<;>first|rfl|omega)|(apply Ri.eqb<;>rfl)|(apply Ri.neb<;>rfl)|(apply Ri.pT;(focus rfl);(focus(first|rfl|assumption|(simp;done)|(simp;omega)));(focus rfl))|(apply Ri.pF;(focus rfl);(focus(first|rfl|assumption|(simp;done)|(simp;omega)));(focus rfl))));(focus rfl)))
  refine o_enter (n_call rfl) (wants_none rfl) rfl ((awake_calls).mono ?_)
  rintro _ w12 ⟨rfl, k12⟩
  repeat(first|refine o_nil ?_|(refine o_pass (wants_no rfl rfl rfl ?_) rfl ?_;(focus(first|rfl|assumption|(simp;done)|(simp;omega))))|refine o_pass (wants_not rfl rfl rfl) rfl ?_|(refine o_yes (wants_yes rfl rfl rfl ?_) ?_;(focus(first|rfl|assumption|(simp;done)|(simp;omega))))|refine k_region ?_|(apply k_go;(focus(constructor<;>rfl)))|refine d_nil ?_|(apply o_s;(focus(first|(constructor<;>first|rfl|omega)|(apply Ri.add3<;>first|rfl|omega)|(apply Ri.sub3<;>first|rfl|omega)|(apply Ri.eqb<;>rfl)|(apply Ri.neb<;>rfl)|(apply Ri.pT;(focus rfl);(focus(first|rfl|assumption|(simp;done)|(simp;omega)));(focus rfl))|(apply Ri.pF;(focus rfl);(focus(first|rfl|assumption|(simp;done)|(simp;omega)));(focus rfl))));(focus rfl)))
  exact k_ret1 rfl rfl ⟨rfl, (kn10.trans k11).trans k12⟩
end Go.Ink
