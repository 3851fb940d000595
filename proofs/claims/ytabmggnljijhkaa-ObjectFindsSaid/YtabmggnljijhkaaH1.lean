/-
  What several laws need (as in L1, L3, L4).
-/
import Derived.Test.YtabmggnljijhkaaR2
set_option linter.unusedVariables false
set_option linter.unusedSimpArgs false
namespace Go.Ink
open Go Go.Proofs

theorem small_room {l : List (List Int)} (h : smallP l = true) : l.length + runesM l ≤ 4000 := small_runes (of_decide_eq_true h).2.1
theorem find_empty {w : World} {A : Option Addr} {c : Nat} {p : Ps} {key : Int} {around : Bool} : CallsR Try.prog 9 #[.slice A 0 c, posV p, .int .i32 key, .bool around] w fun u w' => Kn w w' ∧ u = findV none := by
  refine calls_enter Try.func9 rfl rfl ?_
  repeat(first|refine o_nil ?_|(refine o_pass (wants_no rfl rfl rfl ?_) rfl ?_;(focus(first|rfl|assumption|(simp;done)|(simp;omega))))|refine o_pass (wants_not rfl rfl rfl) rfl ?_|(refine o_yes (wants_yes rfl rfl rfl ?_) ?_;(focus(first|rfl|assumption|(simp;done)|(simp;omega))))|refine k_region ?_|(apply k_go;(focus(constructor<;>rfl)))|refine d_nil ?_|(apply o_s;(focus(first|(constructor<;>first|rfl|omega)|(apply Ri.add3<;>first|rfl|omega)|(apply Ri.sub3<;>first|rfl|omega)|(apply Ri.conv3<;>first|rfl|omega)|(apply Ri.eqb<;>rfl)|(apply Ri.neb<;>rfl)|(apply Ri.pT;(focus rfl);(focus(first|rfl|assumption|(simp;done)|(simp;omega)));(focus rfl))|(apply Ri.pF;(focus rfl);(focus(first|rfl|assumption|(simp;done)|(simp;omega)));(focus rfl))));(focus rfl)))
  refine o_any (e_box rfl) (wants_none rfl) rfl ?_
  rintro _ w1 ⟨g5, rfl, nb5⟩
  refine o_any (e_alloc) (wants_none rfl) rfl ?_
  rintro _ w2 ⟨g8, rfl, nb8⟩
  refine o_any (e_alloc) (wants_none rfl) rfl ?_
  rintro _ w3 ⟨g9, rfl, nb9⟩
  repeat(first|refine o_nil ?_|(refine o_pass (wants_no rfl rfl rfl ?_) rfl ?_;(focus(first|rfl|assumption|(simp;done)|(simp;omega))))|refine o_pass (wants_not rfl rfl rfl) rfl ?_|(refine o_yes (wants_yes rfl rfl rfl ?_) ?_;(focus(first|rfl|assumption|(simp;done)|(simp;omega))))|refine k_region ?_|(apply k_go;(focus(constructor<;>rfl)))|refine d_nil ?_|(apply o_s;(focus(first|(constructor<;>first|rfl|omega)|(apply Ri.add3<;>first|rfl|omega)|(apply Ri.sub3<;>first|rfl|omega)|(apply Ri.conv3<;>first|rfl|omega)|(apply Ri.eqb<;>rfl)|(apply Ri.neb<;>rfl)|(apply Ri.pT;(focus rfl);(focus(first|rfl|assumption|(simp;done)|(simp;omega)));(focus rfl))|(apply Ri.pF;(focus rfl);(focus(first|rfl|assumption|(simp;done)|(simp;omega)));(focus rfl))));(focus rfl)))
  refine k_true rfl ?_
  repeat(first|refine o_nil ?_|(refine o_pass (wants_no rfl rfl rfl ?_) rfl ?_;(focus(first|rfl|assumption|(simp;done)|(simp;omega))))|refine o_pass (wants_not rfl rfl rfl) rfl ?_|(refine o_yes (wants_yes rfl rfl rfl ?_) ?_;(focus(first|rfl|assumption|(simp;done)|(simp;omega))))|refine k_region ?_|(apply k_go;(focus(constructor<;>rfl)))|refine d_nil ?_|(apply o_s;(focus(first|(constructor<;>first|rfl|omega)|(apply Ri.add3<;>first|rfl|omega)|(apply Ri.sub3<;>first|rfl|omega)|(apply Ri.conv3<;>first|rfl|omega)|(apply Ri.eqb<;>rfl)|(apply Ri.neb<;>rfl)|(apply Ri.pT;(focus rfl);(focus(first|rfl|assumption|(simp;done)|(simp;omega)));(focus rfl))|(apply Ri.pF;(focus rfl);(focus(first|rfl|assumption|(simp;done)|(simp;omega)));(focus rfl))));(focus rfl)))
  exact k_retR4 rfl (.agg rfl rfl (blk_all (nb9.kn.blk nb8.at_ id)) (.agg rfl rfl (blk_all nb9.at_) (.tmp rfl (.tmp rfl .nil)))) ⟨(nb5.kn.trans nb8.kn).trans nb9.kn, rfl⟩
theorem find_any {F : Nat → Prop} {w : World} {v : Value} {l : List (List Int)} {p : Ps} {key : Int} {around : Bool} (hs0 : l.length + runesM l ≤ 4000) (h : Sl kRow F w v l) (hp : P64 p) :
    CallsR Try.prog 9 #[v, posV p, .int .i32 key, .bool around] w fun u w' => Kn w w' ∧ u = findV (findM l p key around) := by
  by_cases hl0 : l = []
  · subst hl0
    obtain ⟨A, c, rfl, -⟩ := h.form
    exact find_empty
  · exact find_calls hs0 h hp hl0
/-- An answer of Find, taken apart. -/
theorem findV_parts (r : Option (Ps × Ps × Int)) : ∃ (a b : Ps) (k : Int) (ok : Bool), findV r = .tuple #[posV a, posV b, .int .i64 k, .bool ok] ∧ (ok = true → r = some (a, b, k)) ∧ (ok = false → r = none ∧ a = (0, 0) ∧ b = (0, 0) ∧ k = 0) :=
  match r with
  | none => ⟨(0, 0), (0, 0), 0, false, rfl, (by intro h; cases h), fun _ => ⟨rfl, rfl, rfl, rfl⟩⟩
  | some (a, b, k) => ⟨a, b, k, true, rfl, fun _ => rfl, (by intro h; cases h)⟩
theorem pairR_calls {w : World} {key : Int} : CallsR Try.prog 15 #[.int .i32 key] w fun u w' => w' = w ∧ u = .tuple #[.int .i32 (pairOf key).1, .int .i32 (pairOf key).2] := by
  refine calls_enter Try.func15 rfl rfl ?_
  by_cases h98 : key = 98
  · subst h98
    repeat'(first|refine o_nil ?_|(refine o_pass (wants_no rfl rfl rfl ?_) rfl ?_;(focus(first|rfl|assumption|(simp;done)|(simp;omega))))|refine o_pass (wants_not rfl rfl rfl) rfl ?_|(refine o_yes (wants_yes rfl rfl rfl ?_) ?_;(focus(first|rfl|assumption|(simp;done)|(simp;omega))))|refine k_region ?_|(apply k_go;(focus(constructor<;>rfl)))|refine d_nil ?_|(apply o_s;(focus(first|(constructor<;>first|rfl|omega)|(apply Ri.add3<;>first|rfl|omega)|(apply Ri.sub3<;>first|rfl|omega)|(apply Ri.conv3<;>first|rfl|omega)|(apply Ri.eqb<;>rfl)|(apply Ri.neb<;>rfl)|(apply Ri.pT;(focus rfl);(focus(first|rfl|assumption|(simp;done)|(simp;omega)));(focus rfl))|(apply Ri.pF;(focus rfl);(focus(first|rfl|assumption|(simp;done)|(simp;omega)));(focus rfl))));(focus rfl))|(refine k_yes rfl ?_ ?_;omega)|(refine k_no rfl ?_ ?_;omega)|refine k_true rfl ?_|refine k_false rfl ?_|refine k_ite rfl (fun _=>?_) (fun _=>?_)|refine o_gsplit rfl rfl rfl (fun _=>?_) (fun _=>?_))
    exact k_ret2 rfl rfl rfl ⟨rfl, rfl⟩
  by_cases h40 : key = 40
  · subst h40
    repeat'(first|refine o_nil ?_|(refine o_pass (wants_no rfl rfl rfl ?_) rfl ?_;(focus(first|rfl|assumption|(simp;done)|(simp;omega))))|refine o_pass (wants_not rfl rfl rfl) rfl ?_|(refine o_yes (wants_yes rfl rfl rfl ?_) ?_;(focus(first|rfl|assumption|(simp;done)|(simp;omega))))|refine k_region ?_|(apply k_go;(focus(constructor<;>rfl)))|refine d_nil ?_|(apply o_s;(focus(first|(constructor<;>first|rfl|omega)|(apply Ri.add3<;>first|rfl|omega)|(apply Ri.sub3<;>first|rfl|omega)|(apply Ri.conv3<;>first|rfl|omega)|(apply Ri.eqb<;>rfl)|(apply Ri.neb<;>rfl)|(apply Ri.pT;(focus rfl);(focus(first|rfl|assumption|(simp;done)|(simp;omega)));(focus rfl))|(apply Ri.pF;(focus rfl);(focus(first|rfl|assumption|(simp;done)|(simp;omega)));(focus rfl))));(focus rfl))|(refine k_yes rfl ?_ ?_;omega)|(refine k_no rfl ?_ ?_;omega)|refine k_true rfl ?_|refine k_false rfl ?_|refine k_ite rfl (fun _=>?_) (fun _=>?_)|refine o_gsplit rfl rfl rfl (fun _=>?_) (fun _=>?_))
    exact k_ret2 rfl rfl rfl ⟨rfl, rfl⟩
  by_cases h41 : key = 41
  · subst h41
    repeat'(first|refine o_nil ?_|(refine o_pass (wants_no rfl rfl rfl ?_) rfl ?_;(focus(first|rfl|assumption|(simp;done)|(simp;omega))))|refine o_pass (wants_not rfl rfl rfl) rfl ?_|(refine o_yes (wants_yes rfl rfl rfl ?_) ?_;(focus(first|rfl|assumption|(simp;done)|(simp;omega))))|refine k_region ?_|(apply k_go;(focus(constructor<;>rfl)))|refine d_nil ?_|(apply o_s;(focus(first|(constructor<;>first|rfl|omega)|(apply Ri.add3<;>first|rfl|omega)|(apply Ri.sub3<;>first|rfl|omega)|(apply Ri.conv3<;>first|rfl|omega)|(apply Ri.eqb<;>rfl)|(apply Ri.neb<;>rfl)|(apply Ri.pT;(focus rfl);(focus(first|rfl|assumption|(simp;done)|(simp;omega)));(focus rfl))|(apply Ri.pF;(focus rfl);(focus(first|rfl|assumption|(simp;done)|(simp;omega)));(focus rfl))));(focus rfl))|(refine k_yes rfl ?_ ?_;omega)|(refine k_no rfl ?_ ?_;omega)|refine k_true rfl ?_|refine k_false rfl ?_|refine k_ite rfl (fun _=>?_) (fun _=>?_)|refine o_gsplit rfl rfl rfl (fun _=>?_) (fun _=>?_))
    exact k_ret2 rfl rfl rfl ⟨rfl, rfl⟩
  by_cases h66 : key = 66
  · subst h66
    repeat'(first|refine o_nil ?_|(refine o_pass (wants_no rfl rfl rfl ?_) rfl ?_;(focus(first|rfl|assumption|(simp;done)|(simp;omega))))|refine o_pass (wants_not rfl rfl rfl) rfl ?_|(refine o_yes (wants_yes rfl rfl rfl ?_) ?_;(focus(first|rfl|assumption|(simp;done)|(simp;omega))))|refine k_region ?_|(apply k_go;(focus(constructor<;>rfl)))|refine d_nil ?_|(apply o_s;(focus(first|(constructor<;>first|rfl|omega)|(apply Ri.add3<;>first|rfl|omega)|(apply Ri.sub3<;>first|rfl|omega)|(apply Ri.conv3<;>first|rfl|omega)|(apply Ri.eqb<;>rfl)|(apply Ri.neb<;>rfl)|(apply Ri.pT;(focus rfl);(focus(first|rfl|assumption|(simp;done)|(simp;omega)));(focus rfl))|(apply Ri.pF;(focus rfl);(focus(first|rfl|assumption|(simp;done)|(simp;omega)));(focus rfl))));(focus rfl))|(refine k_yes rfl ?_ ?_;omega)|(refine k_no rfl ?_ ?_;omega)|refine k_true rfl ?_|refine k_false rfl ?_|refine k_ite rfl (fun _=>?_) (fun _=>?_)|refine o_gsplit rfl rfl rfl (fun _=>?_) (fun _=>?_))
    exact k_ret2 rfl rfl rfl ⟨rfl, rfl⟩
  by_cases h123 : key = 123
  · subst h123
    repeat'(first|refine o_nil ?_|(refine o_pass (wants_no rfl rfl rfl ?_) rfl ?_;(focus(first|rfl|assumption|(simp;done)|(simp;omega))))|refine o_pass (wants_not rfl rfl rfl) rfl ?_|(refine o_yes (wants_yes rfl rfl rfl ?_) ?_;(focus(first|rfl|assumption|(simp;done)|(simp;omega))))|refine k_region ?_|(apply k_go;(focus(constructor<;>rfl)))|refine d_nil ?_|(apply o_s;(focus(first|(constructor<;>first|rfl|omega)|(apply Ri.add3<;>first|rfl|omega)|(apply Ri.sub3<;>first|rfl|omega)|(apply Ri.conv3<;>first|rfl|omega)|(apply Ri.eqb<;>rfl)|(apply Ri.neb<;>rfl)|(apply Ri.pT;(focus rfl);(focus(first|rfl|assumption|(simp;done)|(simp;omega)));(focus rfl))|(apply Ri.pF;(focus rfl);(focus(first|rfl|assumption|(simp;done)|(simp;omega)));(focus rfl))));(focus rfl))|(refine k_yes rfl ?_ ?_;omega)|(refine k_no rfl ?_ ?_;omega)|refine k_true rfl ?_|refine k_false rfl ?_|refine k_ite rfl (fun _=>?_) (fun _=>?_)|refine o_gsplit rfl rfl rfl (fun _=>?_) (fun _=>?_))
    exact k_ret2 rfl rfl rfl ⟨rfl, rfl⟩
  by_cases h125 : key = 125
  · subst h125
    repeat'(first|refine o_nil ?_|(refine o_pass (wants_no rfl rfl rfl ?_) rfl ?_;(focus(first|rfl|assumption|(simp;done)|(simp;omega))))|refine o_pass (wants_not rfl rfl rfl) rfl ?_|(refine o_yes (wants_yes rfl rfl rfl ?_) ?_;(focus(first|rfl|assumption|(simp;done)|(simp;omega))))|refine k_region ?_|(apply k_go;(focus(constructor<;>rfl)))|refine d_nil ?_|(apply o_s;(focus(first|(constructor<;>first|rfl|omega)|(apply Ri.add3<;>first|rfl|omega)|(apply Ri.sub3<;>first|rfl|omega)|(apply Ri.conv3<;>first|rfl|omega)|(apply Ri.eqb<;>rfl)|(apply Ri.neb<;>rfl)|(apply Ri.pT;(focus rfl);(focus(first|rfl|assumption|(simp;done)|(simp;omega)));(focus rfl))|(apply Ri.pF;(focus rfl);(focus(first|rfl|assumption|(simp;done)|(simp;omega)));(focus rfl))));(focus rfl))|(refine k_yes rfl ?_ ?_;omega)|(refine k_no rfl ?_ ?_;omega)|refine k_true rfl ?_|refine k_false rfl ?_|refine k_ite rfl (fun _=>?_) (fun _=>?_)|refine o_gsplit rfl rfl rfl (fun _=>?_) (fun _=>?_))
    exact k_ret2 rfl rfl rfl ⟨rfl, rfl⟩
  by_cases h91 : key = 91
  · subst h91
    repeat'(first|refine o_nil ?_|(refine o_pass (wants_no rfl rfl rfl ?_) rfl ?_;(focus(first|rfl|assumption|(simp;done)|(simp;omega))))|refine o_pass (wants_not rfl rfl rfl) rfl ?_|(refine o_yes (wants_yes rfl rfl rfl ?_) ?_;(focus(first|rfl|assumption|(simp;done)|(simp;omega))))|refine k_region ?_|(apply k_go;(focus(constructor<;>rfl)))|refine d_nil ?_|(apply o_s;(focus(first|(constructor<;>first|rfl|omega)|(apply Ri.add3<;>first|rfl|omega)|(apply Ri.sub3<;>first|rfl|omega)|(apply Ri.conv3<;>first|rfl|omega)|(apply Ri.eqb<;>rfl)|(apply Ri.neb<;>rfl)|(apply Ri.pT;(focus rfl);(focus(first|rfl|assumption|(simp;done)|(simp;omega)));(focus rfl))|(apply Ri.pF;(focus rfl);(focus(first|rfl|assumption|(simp;done)|(simp;omega)));(focus rfl))));(focus rfl))|(refine k_yes rfl ?_ ?_;omega)|(refine k_no rfl ?_ ?_;omega)|refine k_true rfl ?_|refine k_false rfl ?_|refine k_ite rfl (fun _=>?_) (fun _=>?_)|refine o_gsplit rfl rfl rfl (fun _=>?_) (fun _=>?_))
    exact k_ret2 rfl rfl rfl ⟨rfl, rfl⟩
  by_cases h93 : key = 93
  · subst h93
    repeat'(first|refine o_nil ?_|(refine o_pass (wants_no rfl rfl rfl ?_) rfl ?_;(focus(first|rfl|assumption|(simp;done)|(simp;omega))))|refine o_pass (wants_not rfl rfl rfl) rfl ?_|(refine o_yes (wants_yes rfl rfl rfl ?_) ?_;(focus(first|rfl|assumption|(simp;done)|(simp;omega))))|refine k_region ?_|(apply k_go;(focus(constructor<;>rfl)))|refine d_nil ?_|(apply o_s;(focus(first|(constructor<;>first|rfl|omega)|(apply Ri.add3<;>first|rfl|omega)|(apply Ri.sub3<;>first|rfl|omega)|(apply Ri.conv3<;>first|rfl|omega)|(apply Ri.eqb<;>rfl)|(apply Ri.neb<;>rfl)|(apply Ri.pT;(focus rfl);(focus(first|rfl|assumption|(simp;done)|(simp;omega)));(focus rfl))|(apply Ri.pF;(focus rfl);(focus(first|rfl|assumption|(simp;done)|(simp;omega)));(focus rfl))));(focus rfl))|(refine k_yes rfl ?_ ?_;omega)|(refine k_no rfl ?_ ?_;omega)|refine k_true rfl ?_|refine k_false rfl ?_|refine k_ite rfl (fun _=>?_) (fun _=>?_)|refine o_gsplit rfl rfl rfl (fun _=>?_) (fun _=>?_))
    exact k_ret2 rfl rfl rfl ⟨rfl, rfl⟩
  by_cases h60 : key = 60
  · subst h60
    repeat'(first|refine o_nil ?_|(refine o_pass (wants_no rfl rfl rfl ?_) rfl ?_;(focus(first|rfl|assumption|(simp;done)|(simp;omega))))|refine o_pass (wants_not rfl rfl rfl) rfl ?_|(refine o_yes (wants_yes rfl rfl rfl ?_) ?_;(focus(first|rfl|assumption|(simp;done)|(simp;omega))))|refine k_region ?_|(apply k_go;(focus(constructor<;>rfl)))|refine d_nil ?_|(apply o_s;(focus(first|(constructor<;>first|rfl|omega)|(apply Ri.add3<;>first|rfl|omega)|(apply Ri.sub3<;>first|rfl|omega)|(apply Ri.conv3<;>first|rfl|omega)|(apply Ri.eqb<;>rfl)|(apply Ri.neb<;>rfl)|(apply Ri.pT;(focus rfl);(focus(first|rfl|assumption|(simp;done)|(simp;omega)));(focus rfl))|(apply Ri.pF;(focus rfl);(focus(first|rfl|assumption|(simp;done)|(simp;omega)));(focus rfl))));(focus rfl))|(refine k_yes rfl ?_ ?_;omega)|(refine k_no rfl ?_ ?_;omega)|refine k_true rfl ?_|refine k_false rfl ?_|refine k_ite rfl (fun _=>?_) (fun _=>?_)|refine o_gsplit rfl rfl rfl (fun _=>?_) (fun _=>?_))
    exact k_ret2 rfl rfl rfl ⟨rfl, rfl⟩
  by_cases h62 : key = 62
  · subst h62
    repeat'(first|refine o_nil ?_|(refine o_pass (wants_no rfl rfl rfl ?_) rfl ?_;(focus(first|rfl|assumption|(simp;done)|(simp;omega))))|refine o_pass (wants_not rfl rfl rfl) rfl ?_|(refine o_yes (wants_yes rfl rfl rfl ?_) ?_;(focus(first|rfl|assumption|(simp;done)|(simp;omega))))|refine k_region ?_|(apply k_go;(focus(constructor<;>rfl)))|refine d_nil ?_|(apply o_s;(focus(first|(constructor<;>first|rfl|omega)|(apply Ri.add3<;>first|rfl|omega)|(apply Ri.sub3<;>first|rfl|omega)|(apply Ri.conv3<;>first|rfl|omega)|(apply Ri.eqb<;>rfl)|(apply Ri.neb<;>rfl)|(apply Ri.pT;(focus rfl);(focus(first|rfl|assumption|(simp;done)|(simp;omega)));(focus rfl))|(apply Ri.pF;(focus rfl);(focus(first|rfl|assumption|(simp;done)|(simp;omega)));(focus rfl))));(focus rfl))|(refine k_yes rfl ?_ ?_;omega)|(refine k_no rfl ?_ ?_;omega)|refine k_true rfl ?_|refine k_false rfl ?_|refine k_ite rfl (fun _=>?_) (fun _=>?_)|refine o_gsplit rfl rfl rfl (fun _=>?_) (fun _=>?_))
    exact k_ret2 rfl rfl rfl ⟨rfl, rfl⟩
  have hp0 : pairOf key = (0, 0) := by unfold pairOf; rw [if_neg (by omega), if_neg (by omega), if_neg (by omega), if_neg (by omega)]
  rw [hp0]
  repeat'(first|refine o_nil ?_|(refine o_pass (wants_no rfl rfl rfl ?_) rfl ?_;(focus(first|rfl|assumption|(simp;done)|(simp;omega))))|refine o_pass (wants_not rfl rfl rfl) rfl ?_|(refine o_yes (wants_yes rfl rfl rfl ?_) ?_;(focus(first|rfl|assumption|(simp;done)|(simp;omega))))|refine k_region ?_|(apply k_go;(focus(constructor<;>rfl)))|refine d_nil ?_|(apply o_s;(focus(first|(constructor<;>first|rfl|omega)|(apply Ri.add3<;>first|rfl|omega)|(apply Ri.sub3<;>first|rfl|omega)|(apply Ri.conv3<;>first|rfl|omega)|(apply Ri.eqb<;>rfl)|(apply Ri.neb<;>rfl)|(apply Ri.pT;(focus rfl);(focus(first|rfl|assumption|(simp;done)|(simp;omega)));(focus rfl))|(apply Ri.pF;(focus rfl);(focus(first|rfl|assumption|(simp;done)|(simp;omega)));(focus rfl))));(focus rfl))|(refine k_yes rfl ?_ ?_;omega)|(refine k_no rfl ?_ ?_;omega)|refine k_true rfl ?_|refine k_false rfl ?_|refine k_ite rfl (fun _=>?_) (fun _=>?_)|refine o_gsplit rfl rfl rfl (fun _=>?_) (fun _=>?_))
  exact k_ret2 rfl rfl rfl ⟨rfl, rfl⟩
theorem places_at {l : List (List Int)} {q : Ps} (h : q ∈ placesTo l l.length) : At l q := by
  unfold placesTo at h
  obtain ⟨i, hi, hq⟩ := List.mem_flatMap.1 h
  have hil := List.mem_range.1 hi
  unfold placesAt at hq
  split at hq
  · next h0 =>
    rw [List.mem_singleton] at hq
    subst hq
    exact at_line hil
  · unfold colsTo at hq
    obtain ⟨k, hk, rfl⟩ := List.mem_map.1 hq
    have := List.mem_range.1 hk
    exact row_at (q := ((i : Int), 0)) ⟨by show (0 : Int) ≤ (i : Int); omega, by show (i : Int) < l.length; omega⟩ (by rw [rowOf_at]; exact this)
/-- A place, in numbers. -/
theorem at_nat {l : List (List Int)} {q : Ps} (h : At l q) : ∃ (i k : Nat) (hi : i < l.length), q = ((i : Int), (k : Int)) ∧ (l[i].length = 0 ∧ k = 0 ∨ k < l[i].length) := by
  obtain ⟨i, k, rfl, hi, hk, -⟩ := at_index h
  rw [getD_get hi] at hk
  exact ⟨i, k, hi, rfl, hk⟩
end Go.Ink
