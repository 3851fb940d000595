/-
  ObjectBrackets.
-/
import Derived.Test.YtabmggnljijhkaaL3
import Derived.Test.YtabmggnljijhkaaP5
set_option linter.unusedVariables false
set_option linter.unusedSimpArgs false
namespace Go.Ink
open Go Go.Proofs

theorem pairR_calls {w : World} {key : Int} : CallsR Try.prog 15 #[.int .i32 key] w fun u w' => w' = w ∧ u = .tuple #[.int .i32 (pairOf key).1, .int .i32 (pairOf key).2] := by
  refine calls_enter Try.func15 rfl rfl ?_
  by_cases h98 : key = 98
  · subst h98
    repeat'(first|refine o_nil ?_|(refine o_pass (wants_no rfl rfl rfl ?_) rfl ?_;(focus(first|rfl|assumption|(simp;done)|(simp;omega))))|refine o_pass (wants_not rfl rfl rfl) rfl ?_|(refine o_yes (wants_yes rfl rfl rfl ?_) ?_;(focus(first|rfl|assumption|(simp;done)|(simp;omega))))|refine k_region ?_|(apply k_go;(focus(constructor<;>rfl)))|refine d_nil ?_|(apply o_s;(focus(first|(constructor<;>first|rfl|omega)|(apply Ri.add3<;>first|rfl|omega)|(apply Ri.sub3<;>first|rfl|omega)|(apply Ri.conv3<;>first|rfl|omega)|(apply Ri.eqb<;>rfl)|(apply Ri.neb<;>rfl)|(apply Ri.pT;(focus rfl);(focus(first|rfl|assumption|(simp;done)|(simp;omega)));(focus rfl))|(apply Ri.pF;(focus rfl);(focus(first|rfl|assumption|(simp;done)|(simp;omega)));(focus rfl))));(focus rfl))|(refine k_yes rfl ?_ ?_;omega)|(refine k_no rfl ?_ ?_;omega)|refine k_true rfl ?_|refine k_false rfl ?_|refine k_ite rfl (fun _=>?_) (fun _=>?_)|refine o_gsplit rfl rfl rfl (fun _=>?_) (fun _=>?_))
    exact k_ret2 rfl rfl rfl ⟨rfl, rfl⟩
  by_cases h40 : key = 40
  · subst h40
    repeat'(first|refine o_nil ?_|(refine o_pass (wants_no rfl rfl rfl ?_) rfl ?_;(focus(first|rfl|assumption|(simp;done)|(simp;omega))))|refine o_pass (wants_not rfl rfl rfl) rfl ?_|(refine o_yes (wants_yes rfl rfl rfl ?_) ?_;(focus(first|rfl|assumption|(simp;done)|(simp;omega))))|refine k_region ?_|(apply k_go;(focus(constructor<;>rfl)))|refine d_nil ?_|(apply o_s;(focus(first|(constructor<;>first|rfl|omega)|(apply Ri.add3<;>first|rfl|omega)|(apply Ri.sub3<;>first|rfl|omega)|(apply Ri.conv3<;>first|rfl|omega)|(apply Ri.eqb<;>rfl)|(apply Ri.neb<;>rfl)|(apply Ri.pT;(focus rfl);(focus(first|rfl|assumption|(simp;done)|(simp;omega)));(focus rfl))|(apply Ri.pF;(focus rfl);(focus(first|rfl|assumption|(simp;done)|(simp;omega)));(focus rfl))));(focus rfl))|(refine k_yes rfl ?_ ?_;omega)|(refine k_no rfl ?_ ?_;omega)|refine k_true rfl ?_|refine k_false rfl ?_|refine k_ite rfl (fun _=>?_) (fun _=>?_)|refine o_gsplit rfl rfl rfl (fun _=>?_) (fun _=>?_))
    exact k_ret2 rfl rfl rfl ⟨rfl, rfl⟩
  by_cases h41 : key = 41
  · subst h41
    repeat'(first|refine o_nil ?_|(refine o_pass (wants_no rfl rfl rfl ?_) rfl ?_;(focus(first|rfl|assumption|(simp;done)|(simp;omega))))|refine o_pass (wants_not rfl rfl rfl) rfl ?_|(refine o_yes (wants_yes rfl rfl rfl ?_) ?_;(focus(first|rfl|assumption|(simp;done)|(simp;omega))))|refine k_region ?_|(apply k_go;(focus(constructor<;>rfl)))|refine d_nil ?_|(apply o_s;(focus(first|(constructor<;>first|rfl|omega)|(apply Ri.add3<;>first|rfl|omega)|(apply Ri.sub3<;>first|rfl|omega)|(apply Ri.conv3<;>first|rfl|omega)|(apply Ri.eqb<;>rfl)|(apply Ri.neb<;>rfl)|(apply Ri.pT;(focus rfl);(focus(first|rfl|assumption|(simp;done)|(simp;omega)));(focus rfl))|(apply Ri.pF;(focus rfl);(focus(first|rfl|assumption|(simp;done)|(simp;omega)));(focus rfl))));(focus rfl))|(refine k_yes rfl ?_ ?_;omega)|(refine k_no rfl ?_ ?_;omega)|refine k_true rfl ?_|refine k_false rfl ?_|refine k_ite rfl (fun _=>?_) (fun _=>?_)|refine o_gsplit rfl rfl rfl (fun _=>?_) (fun _=>?_))
    exact k_ret2 rfl rfl rfl ⟨rfl, rfl⟩
  by_cases h66 : key = 66
  · subst h66
    repeat'(first|refine o_nil ?_|(refine o_pass (wants_no rfl rfl rfl ?_) rfl ?_;(focus(first|rfl|assumption|(simp;done)|(simp;omega))))|refine o_pass (wants_not rfl rfl rfl) rfl ?_|(refine o_yes (wants_yes rfl rfl rfl ?_) ?_;(focus(first|rfl|assumption|(simp;done)|(simp;omega))))|refine k_region ?_|(apply k_go;(focus(constructor<;>rfl)))|refine d_nil ?_|(apply o_s;(focus(first|(constructor<;>first|rfl|omega)|(apply Ri.add3<;>first|rfl|omega)|(apply Ri.sub3<;>first|rfl|omega)|(apply Ri.conv3<;>first|rfl|omega)|(apply Ri.eqb<;>rfl)|(apply Ri.neb<;>rfl)|(apply Ri.pT;(focus rfl);(focus(first|rfl|assumption|(simp;done)|(simp;omega)));(focus rfl))|(apply Ri.pF;(focus rfl);(focus(first|rfl|assumption|(simp;done)|(simp;omega)));(focus rfl))));(focus rfl))|(refine k_yes rfl ?_ ?_;omega)|(refine k_no rfl ?_ ?_;omega)|refine k_true rfl ?_|refine k_false rfl ?_|refine k_ite rfl (fun _=>?_) (fun _=>?_)|refine o_gsplit rfl rfl rfl (fun _=>?_) (fun _=>?_))
    exact k_ret2 rfl rfl rfl ⟨rfl, rfl⟩
  by_cases h123 : key = 123
  · subst h123
    repeat'(first|refine o_nil ?_|(refine o_pass (wants_no rfl rfl rfl ?_) rfl ?_;(focus(first|rfl|assumption|(simp;done)|(simp;omega))))|refine o_pass (wants_not rfl rfl rfl) rfl ?_|(refine o_yes (wants_yes rfl rfl rfl ?_) ?_;(focus(first|rfl|assumption|(simp;done)|(simp;omega))))|refine k_region ?_|(apply k_go;(focus(constructor<;>rfl)))|refine d_nil ?_|(apply o_s;(focus(first|(constructor<;>first|rfl|omega)|(apply Ri.add3<;>first|rfl|omega)|(apply Ri.sub3<;>first|rfl|omega)|(apply Ri.conv3<;>first|rfl|omega)|(apply Ri.eqb<;>rfl)|(apply Ri.neb<;>rfl)|(apply Ri.pT;(focus rfl);(focus(first|rfl|assumption|(simp;done)|(simp;omega)));(focus rfl))|(apply Ri.pF;(focus rfl);(focus(first|rfl|assumption|(simp;done)|(simp;omega)));(focus rfl))));(focus rfl))|(refine k_yes rfl ?_ ?_;omega)|(refine k_no rfl ?_ ?_;omega)|refine k_true rfl ?_|refine k_false rfl ?_|refine k_ite rfl (fun _=>?_) (fun _=>?_)|refine o_gsplit rfl rfl rfl (fun _=>?_) (fun _=>?_))
    exact k_ret2 rfl rfl rfl ⟨rfl, rfl⟩
  by_cases h125 : key = 125
  · subst h125
    repeat'(first|refine o_nil ?_|(refine o_pass (wants_no rfl rfl rfl ?_) rfl ?_;(focus(first|rfl|assumption|(simp;done)|(simp;omega))))|refine o_pass (wants_not rfl rfl rfl) rfl ?_|(refine o_yes (wants_yes rfl rfl rfl ?_) ?_;(focus(first|rfl|assumption|(simp;done)|(simp;omega))))|refine k_region ?_|(apply k_go;(focus(constructor<;>rfl)))|refine d_nil ?_|(apply o_s;(focus(first|(constructor<;>first|rfl|omega)|(apply Ri.add3<;>first|rfl|omega)|(apply Ri.sub3<;>first|rfl|omega)|(apply Ri.conv3<;>first|rfl|omega)|(apply Ri.eqb<;>rfl)|(apply Ri.neb<;>rfl)|(apply Ri.pT;(focus rfl);(focus(first|rfl|assumption|(simp;done)|(simp;omega)));(focus rfl))|(apply Ri.pF;(focus rfl);(focus(first|rfl|assumption|(simp;done)|(simp;omega)));(focus rfl))));(focus rfl))|(refine k_yes rfl ?_ ?_;omega)|(refine k_no rfl ?_ ?_;omega)|refine k_true rfl ?_|refine k_false rfl ?_|refine k_ite rfl (fun _=>?_) (fun _=>?_)|refine o_gsplit rfl rfl rfl (fun _=>?_) (fun _=>?_))
    exact k_ret2 rfl rfl rfl ⟨rfl, rfl⟩
  by_cases h91 : key = 91
  · subst h91
    repeat'(first|refine o_nil ?_|(refine o_pass (wants_no rfl rfl rfl ?_) rfl ?_;(focus(first|rfl|assumption|(simp;done)|(simp;omega))))|refine o_pass (wants_not rfl rfl rfl) rfl ?_|(refine o_yes (wants_yes rfl rfl rfl ?_) ?_;(focus(first|rfl|assumption|(simp;done)|(simp;omega))))|refine k_region ?_|(apply k_go;(focus(constructor<;>rfl)))|refine d_nil ?_|(apply o_s;(focus(first|(constructor<;>first|rfl|omega)|(apply Ri.add3<;>first|rfl|omega)|(apply Ri.sub3<;>first|rfl|omega)|(apply Ri.conv3<;>first|rfl|omega)|(apply Ri.eqb<;>rfl)|(apply Ri.neb<;>rfl)|(apply Ri.pT;(focus rfl);(focus(first|rfl|assumption|(simp;done)|(simp;omega)));(focus rfl))|(apply Ri.pF;(focus rfl);(focus(first|rfl|assumption|(simp;done)|(simp;omega)));(focus rfl))));(focus rfl))|(refine k_yes rfl ?_ ?_;omega)|(refine k_no rfl ?_ ?_;omega)|refine k_true rfl ?_|refine k_false rfl ?_|refine k_ite rfl (fun _=>?_) (fun _=>?_)|refine o_gsplit rfl rfl rfl (fun _=>?_) (fun _=>?_))
    exact k_ret2 rfl rfl rfl ⟨rfl, rfl⟩
  by_cases h93 : key = 93
  · subst h93
    repeat'(first|refine o_nil ?_|(refine o_pass (wants_no rfl rfl rfl ?_) rfl ?_;(focus(first|rfl|assumption|(simp;done)|(simp;omega))))|refine o_pass (wants_not rfl rfl rfl) rfl ?_|(refine o_yes (wants_yes rfl rfl rfl ?_) ?_;(focus(first|rfl|assumption|(simp;done)|(simp;omega))))|refine k_region ?_|(apply k_go;(focus(constructor<;>rfl)))|refine d_nil ?_|(apply o_s;(focus(first|(constructor<;>first|rfl|omega)|(apply Ri.add3<;>first|rfl|omega)|(apply Ri.sub3<;>first|rfl|omega)|(apply Ri.conv3<;>first|rfl|omega)|(apply Ri.eqb<;>rfl)|(apply Ri.neb<;>rfl)|(apply Ri.pT;(focus rfl);(focus(first|rfl|assumption|(simp;done)|(simp;omega)));(focus rfl))|(apply Ri.pF;(focus rfl);(focus(first|rfl|assumption|(simp;done)|(simp;omega)));(focus rfl))));(focus rfl))|(refine k_yes rfl ?_ ?_;omega)|(refine k_no rfl ?_ ?_;omega)|refine k_true rfl ?_|refine k_false rfl ?_|refine k_ite rfl (fun _=>?_) (fun _=>?_)|refine o_gsplit rfl rfl rfl (fun _=>?_) (fun _=>?_))
    exact k_ret2 rfl rfl rfl ⟨rfl, rfl⟩
  by_cases h60 : key = 60
  · subst h60
    repeat'(first|refine o_nil ?_|(refine o_pass (wants_no rfl rfl rfl ?_) rfl ?_;(focus(first|rfl|assumption|(simp;done)|(simp;omega))))|refine o_pass (wants_not rfl rfl rfl) rfl ?_|(refine o_yes (wants_yes rfl rfl rfl ?_) ?_;(focus(first|rfl|assumption|(simp;done)|(simp;omega))))|refine k_region ?_|(apply k_go;(focus(constructor<;>rfl)))|refine d_nil ?_|(apply o_s;(focus(first|(constructor<;>first|rfl|omega)|(apply Ri.add3<;>first|rfl|omega)|(apply Ri.sub3<;>first|rfl|omega)|(apply Ri.conv3<;>first|rfl|omega)|(apply Ri.eqb<;>rfl)|(apply Ri.neb<;>rfl)|(apply Ri.pT;(focus rfl);(focus(first|rfl|assumption|(simp;done)|(simp;omega)));(focus rfl))|(apply Ri.pF;(focus rfl);(focus(first|rfl|assumption|(simp;done)|(simp;omega)));(focus rfl))));(focus rfl))|(refine k_yes rfl ?_ ?_;omega)|(refine k_no rfl ?_ ?_;omega)|refine k_true rfl ?_|refine k_false rfl ?_|refine k_ite rfl (fun _=>?_) (fun _=>?_)|refine o_gsplit rfl rfl rfl (fun _=>?_) (fun _=>?_))
    exact k_ret2 rfl rfl rfl ⟨rfl, rfl⟩
  by_cases h62 : key = 62
  · subst h62
    repeat'(first|refine o_nil ?_|(refine o_pass (wants_no rfl rfl rfl ?_) rfl ?_;(focus(first|rfl|assumption|(simp;done)|(simp;omega))))|refine o_pass (wants_not rfl rfl rfl) rfl ?_|(refine o_yes (wants_yes rfl rfl rfl ?_) ?_;(focus(first|rfl|assumption|(simp;done)|(simp;omega))))|refine k_region ?_|(apply k_go;(focus(constructor<;>rfl)))|refine d_nil ?_|(apply o_s;(focus(first|(constructor<;>first|rfl|omega)|(apply Ri.add3<;>first|rfl|omega)|(apply Ri.sub3<;>first|rfl|omega)|(apply Ri.conv3<;>first|rfl|omega)|(apply Ri.eqb<;>rfl)|(apply Ri.neb<;>rfl)|(apply Ri.pT;(focus rfl);(focus(first|rfl|assumption|(simp;done)|(simp;omega)));(focus rfl))|(apply Ri.pF;(focus rfl);(focus(first|rfl|assumption|(simp;done)|(simp;omega)));(focus rfl))));(focus rfl))|(refine k_yes rfl ?_ ?_;omega)|(refine k_no rfl ?_ ?_;omega)|refine k_true rfl ?_|refine k_false rfl ?_|refine k_ite rfl (fun _=>?_) (fun _=>?_)|refine o_gsplit rfl rfl rfl (fun _=>?_) (fun _=>?_))
    exact k_ret2 rfl rfl rfl ⟨rfl, rfl⟩
  have hp0 : pairOf key = (0, 0) := by unfold pairOf; rw [if_neg (by omega), if_neg (by omega), if_neg (by omega), if_neg (by omega)]
  rw [hp0]
  repeat'(first|refine o_nil ?_|(refine o_pass (wants_no rfl rfl rfl ?_) rfl ?_;(focus(first|rfl|assumption|(simp;done)|(simp;omega))))|refine o_pass (wants_not rfl rfl rfl) rfl ?_|(refine o_yes (wants_yes rfl rfl rfl ?_) ?_;(focus(first|rfl|assumption|(simp;done)|(simp;omega))))|refine k_region ?_|(apply k_go;(focus(constructor<;>rfl)))|refine d_nil ?_|(apply o_s;(focus(first|(constructor<;>first|rfl|omega)|(apply Ri.add3<;>first|rfl|omega)|(apply Ri.sub3<;>first|rfl|omega)|(apply Ri.conv3<;>first|rfl|omega)|(apply Ri.eqb<;>rfl)|(apply Ri.neb<;>rfl)|(apply Ri.pT;(focus rfl);(focus(first|rfl|assumption|(simp;done)|(simp;omega)));(focus rfl))|(apply Ri.pF;(focus rfl);(focus(first|rfl|assumption|(simp;done)|(simp;omega)));(focus rfl))));(focus rfl))|(refine k_yes rfl ?_ ?_;omega)|(refine k_no rfl ?_ ?_;omega)|refine k_true rfl ?_|refine k_false rfl ?_|refine k_ite rfl (fun _=>?_) (fun _=>?_)|refine o_gsplit rfl rfl rfl (fun _=>?_) (fun _=>?_))
  exact k_ret2 rfl rfl rfl ⟨rfl, rfl⟩
theorem pairOf_facts {key : Int} (h : (pairOf key).1 ≠ 0) : (pairOf key).2 ≠ 0 ∧ (pairOf key).1 ≠ (pairOf key).2 ∧ ¬ (key = 119 ∨ key = 87) ∧ ¬ (key = 34 ∨ key = 39 ∨ key = 96) ∧ key ≠ 112 := by
  unfold pairOf at *
  by_cases h1 : key = 98 ∨ key = 40 ∨ key = 41
  · rw [if_pos h1]; exact ⟨by decide, by decide, by omega, by omega, by omega⟩
  · rw [if_neg h1] at *
    by_cases h2 : key = 66 ∨ key = 123 ∨ key = 125
    · rw [if_pos h2]; exact ⟨by decide, by decide, by omega, by omega, by omega⟩
    · rw [if_neg h2] at *
      by_cases h3 : key = 91 ∨ key = 93
      · rw [if_pos h3]; exact ⟨by decide, by decide, by omega, by omega, by omega⟩
      · rw [if_neg h3] at *
        by_cases h4 : key = 60 ∨ key = 62
        · rw [if_pos h4]; exact ⟨by decide, by decide, by omega, by omega, by omega⟩
        · rw [if_neg h4] at h; exact absurd rfl h
theorem places_at {l : List (List Int)} {q : Ps} (h : q ∈ placesTo l l.length) : At l q := by
  unfold placesTo at h
  obtain ⟨i, hi, hq⟩ := List.mem_flatMap.1 h
  have hil := List.mem_range.1 hi
  unfold placesAt at hq
  split at hq
  · next h0 =>
    rw [List.mem_singleton] at hq
    subst hq
    exact at_line hil
  · unfold colsTo at hq
    obtain ⟨k, hk, rfl⟩ := List.mem_map.1 hq
    have := List.mem_range.1 hk
    exact row_at (q := ((i : Int), 0)) ⟨by show (0 : Int) ≤ (i : Int); omega, by show (i : Int) < l.length; omega⟩ (by rw [rowOf_at]; exact this)
/-- A place, in numbers. -/
theorem at_nat {l : List (List Int)} {q : Ps} (h : At l q) : ∃ (i k : Nat) (hi : i < l.length), q = ((i : Int), (k : Int)) ∧ (l[i].length = 0 ∧ k = 0 ∨ k < l[i].length) := by
  obtain ⟨i, k, rfl, hi, hk, -⟩ := at_index h
  rw [getD_get hi] at hk
  exact ⟨i, k, hi, rfl, hk⟩
theorem vp_nat {l : List (List Int)} {o s : Int} {i k : Nat} (hi : i < l.length) (hk : k < l[i].length) : vp l o s ((i : Int), (k : Int)) = if l[i][k] = o then 1 else if l[i][k] = s then -1 else 0 := by
  have hg := getD_get hi
  rw [vp_get (by rw [hg]; exact hk), hg, getD_int hk]
  rfl
theorem vp_ne {l : List (List Int)} {o s : Int} {q : Ps} (h : At l q) (hv : vp l o s q ≠ 0) : ∃ (i k : Nat) (hi : i < l.length) (hk : k < l[i].length), q = ((i : Int), (k : Int)) := by
  obtain ⟨i, k, hi, rfl, hk⟩ := at_nat h
  have hg := getD_get hi
  rcases hk with ⟨h0, -⟩ | hk
  · exact absurd (vp_empty (by rw [hg]; exact h0) _) hv
  · exact ⟨i, k, hi, hk, rfl⟩
structure BrSt where
  u : Nat
  w : World
set_option maxHeartbeats 8000000 in
theorem law_ObjectBrackets {W : World} {u : Value} {l : List (List Int)} {p : Ps} {cs : List Value} {key : Int} (h : Sl kRow (fun _ => True) W u l) (h' : kPs.R (fun _ => True) W p cs) (hkey : -2147483648 ≤ key ∧ key ≤ 2147483647) :
    CallsR Try.prog 6 #[u, .agg cs.toArray, .int .i32 key] W fun r w' => r = .bool true ∧ Kn W w' := by
  obtain ⟨A, c, rfl, hc, hlf⟩ := h.form
  obtain ⟨rfl, hp⟩ := ps_form h'
  have hlen := hlf.len
  refine calls_enter Try.func6 rfl rfl ?_
  repeat(first|refine o_nil ?_|(refine o_pass (wants_no rfl rfl rfl ?_) rfl ?_;(focus(first|rfl|assumption|(simp;done)|(simp;omega))))|refine o_pass (wants_not rfl rfl rfl) rfl ?_|(refine o_yes (wants_yes rfl rfl rfl ?_) ?_;(focus(first|rfl|assumption|(simp;done)|(simp;omega))))|refine k_region ?_|(apply k_go;(focus(constructor<;>rfl)))|refine d_nil ?_|(apply o_s;(focus(first|(constructor<;>first|rfl|omega)|(apply Ri.add3<;>first|rfl|omega)|(apply Ri.sub3<;>first|rfl|omega)|(apply Ri.conv3<;>first|rfl|omega)|(apply Ri.eqb<;>rfl)|(apply Ri.neb<;>rfl)|(apply Ri.pT;(focus rfl);(focus(first|rfl|assumption|(simp;done)|(simp;omega)));(focus rfl))|(apply Ri.pF;(focus rfl);(focus(first|rfl|assumption|(simp;done)|(simp;omega)));(focus rfl))));(focus rfl)))
  refine o_any (e_box rfl) (wants_none rfl) rfl ?_
  rintro _ w1 ⟨g4, rfl, nb3⟩
  have k1 := nb3.kn
  have b3 := nb3.at_
  have g4w := nb3.ge
  clear nb3
  repeat(first|refine o_nil ?_|(refine o_pass (wants_no rfl rfl rfl ?_) rfl ?_;(focus(first|rfl|assumption|(simp;done)|(simp;omega))))|refine o_pass (wants_not rfl rfl rfl) rfl ?_|(refine o_yes (wants_yes rfl rfl rfl ?_) ?_;(focus(first|rfl|assumption|(simp;done)|(simp;omega))))|refine k_region ?_|(apply k_go;(focus(constructor<;>rfl)))|refine d_nil ?_|(apply o_s;(focus(first|(constructor<;>first|rfl|omega)|(apply Ri.add3<;>first|rfl|omega)|(apply Ri.sub3<;>first|rfl|omega)|(apply Ri.conv3<;>first|rfl|omega)|(apply Ri.eqb<;>rfl)|(apply Ri.neb<;>rfl)|(apply Ri.pT;(focus rfl);(focus(first|rfl|assumption|(simp;done)|(simp;omega)));(focus rfl))|(apply Ri.pF;(focus rfl);(focus(first|rfl|assumption|(simp;done)|(simp;omega)));(focus rfl))));(focus rfl)))
  refine o_enter (n_call rfl) (wants_none rfl) rfl ((pairR_calls).mono ?_)
  rintro _ w1 ⟨rfl, rfl⟩
  have hpf := pairOf_facts (key := key)
  have hfk : l ≠ [] → (pairOf key).1 ≠ 0 → findM l p key true = (bracketsM l (clipM l p) (pairOf key).1 (pairOf key).2 true).map fun r => (r.1, r.2, 0) := by
    intro hl0 ho
    obtain ⟨-, -, f1, f2, f3⟩ := hpf ho
    rw [findM_at hl0]
    unfold findAt
    rw [if_neg f1, if_neg f2, if_neg f3, if_neg ho]
  generalize (pairOf key).1 = o at *
  generalize (pairOf key).2 = s at *
  repeat(first|refine o_nil ?_|(refine o_pass (wants_no rfl rfl rfl ?_) rfl ?_;(focus(first|rfl|assumption|(simp;done)|(simp;omega))))|refine o_pass (wants_not rfl rfl rfl) rfl ?_|(refine o_yes (wants_yes rfl rfl rfl ?_) ?_;(focus(first|rfl|assumption|(simp;done)|(simp;omega))))|refine k_region ?_|(apply k_go;(focus(constructor<;>rfl)))|refine d_nil ?_|(apply o_s;(focus(first|(constructor<;>first|rfl|omega)|(apply Ri.add3<;>first|rfl|omega)|(apply Ri.sub3<;>first|rfl|omega)|(apply Ri.conv3<;>first|rfl|omega)|(apply Ri.eqb<;>rfl)|(apply Ri.neb<;>rfl)|(apply Ri.pT;(focus rfl);(focus(first|rfl|assumption|(simp;done)|(simp;omega)));(focus rfl))|(apply Ri.pF;(focus rfl);(focus(first|rfl|assumption|(simp;done)|(simp;omega)));(focus rfl))));(focus rfl)))
  refine o_enter (n_call rfl) (wants_none rfl) rfl ((smallP_calls (k1.sl h)).mono ?_)
  rintro _ w2 ⟨k2, rfl⟩
  have kk2 : Kn W w2 := k1.trans k2
  have c3 := k2.blk b3 id
  clear b3 k1 k2
  cases hs : smallP l with
  | false =>
    repeat(first|refine o_nil ?_|(refine o_pass (wants_no rfl rfl rfl ?_) rfl ?_;(focus(first|rfl|assumption|(simp;done)|(simp;omega))))|refine o_pass (wants_not rfl rfl rfl) rfl ?_|(refine o_yes (wants_yes rfl rfl rfl ?_) ?_;(focus(first|rfl|assumption|(simp;done)|(simp;omega))))|refine k_region ?_|(apply k_go;(focus(constructor<;>rfl)))|refine d_nil ?_|(apply o_s;(focus(first|(constructor<;>first|rfl|omega)|(apply Ri.add3<;>first|rfl|omega)|(apply Ri.sub3<;>first|rfl|omega)|(apply Ri.conv3<;>first|rfl|omega)|(apply Ri.eqb<;>rfl)|(apply Ri.neb<;>rfl)|(apply Ri.pT;(focus rfl);(focus(first|rfl|assumption|(simp;done)|(simp;omega)));(focus rfl))|(apply Ri.pF;(focus rfl);(focus(first|rfl|assumption|(simp;done)|(simp;omega)));(focus rfl))));(focus rfl)))
    refine k_true rfl ?_
    repeat(first|refine o_nil ?_|(refine o_pass (wants_no rfl rfl rfl ?_) rfl ?_;(focus(first|rfl|assumption|(simp;done)|(simp;omega))))|refine o_pass (wants_not rfl rfl rfl) rfl ?_|(refine o_yes (wants_yes rfl rfl rfl ?_) ?_;(focus(first|rfl|assumption|(simp;done)|(simp;omega))))|refine k_region ?_|(apply k_go;(focus(constructor<;>rfl)))|refine d_nil ?_|(apply o_s;(focus(first|(constructor<;>first|rfl|omega)|(apply Ri.add3<;>first|rfl|omega)|(apply Ri.sub3<;>first|rfl|omega)|(apply Ri.conv3<;>first|rfl|omega)|(apply Ri.eqb<;>rfl)|(apply Ri.neb<;>rfl)|(apply Ri.pT;(focus rfl);(focus(first|rfl|assumption|(simp;done)|(simp;omega)));(focus rfl))|(apply Ri.pF;(focus rfl);(focus(first|rfl|assumption|(simp;done)|(simp;omega)));(focus rfl))));(focus rfl)))
    refine o_enter (n_call rfl) (wants_none rfl) rfl ((awake_calls).mono ?_)
    rintro _ w3 ⟨k3, rfl⟩
    repeat(first|refine o_nil ?_|(refine o_pass (wants_no rfl rfl rfl ?_) rfl ?_;(focus(first|rfl|assumption|(simp;done)|(simp;omega))))|refine o_pass (wants_not rfl rfl rfl) rfl ?_|(refine o_yes (wants_yes rfl rfl rfl ?_) ?_;(focus(first|rfl|assumption|(simp;done)|(simp;omega))))|refine k_region ?_|(apply k_go;(focus(constructor<;>rfl)))|refine d_nil ?_|(apply o_s;(focus(first|(constructor<;>first|rfl|omega)|(apply Ri.add3<;>first|rfl|omega)|(apply Ri.sub3<;>first|rfl|omega)|(apply Ri.conv3<;>first|rfl|omega)|(apply Ri.eqb<;>rfl)|(apply Ri.neb<;>rfl)|(apply Ri.pT;(focus rfl);(focus(first|rfl|assumption|(simp;done)|(simp;omega)));(focus rfl))|(apply Ri.pF;(focus rfl);(focus(first|rfl|assumption|(simp;done)|(simp;omega)));(focus rfl))));(focus rfl)))
    exact k_ret1 rfl rfl ⟨rfl, kk2.trans k3⟩
  | true =>
  have hs0 := small_room hs
  by_cases ho : o = 0
  · repeat(first|refine o_nil ?_|(refine o_pass (wants_no rfl rfl rfl ?_) rfl ?_;(focus(first|rfl|assumption|(simp;done)|(simp;omega))))|refine o_pass (wants_not rfl rfl rfl) rfl ?_|(refine o_yes (wants_yes rfl rfl rfl ?_) ?_;(focus(first|rfl|assumption|(simp;done)|(simp;omega))))|refine k_region ?_|(apply k_go;(focus(constructor<;>rfl)))|refine d_nil ?_|(apply o_s;(focus(first|(constructor<;>first|rfl|omega)|(apply Ri.add3<;>first|rfl|omega)|(apply Ri.sub3<;>first|rfl|omega)|(apply Ri.conv3<;>first|rfl|omega)|(apply Ri.eqb<;>rfl)|(apply Ri.neb<;>rfl)|(apply Ri.pT;(focus rfl);(focus(first|rfl|assumption|(simp;done)|(simp;omega)));(focus rfl))|(apply Ri.pF;(focus rfl);(focus(first|rfl|assumption|(simp;done)|(simp;omega)));(focus rfl))));(focus rfl)))
    refine k_yes rfl ho ?_
    repeat(first|refine o_nil ?_|(refine o_pass (wants_no rfl rfl rfl ?_) rfl ?_;(focus(first|rfl|assumption|(simp;done)|(simp;omega))))|refine o_pass (wants_not rfl rfl rfl) rfl ?_|(refine o_yes (wants_yes rfl rfl rfl ?_) ?_;(focus(first|rfl|assumption|(simp;done)|(simp;omega))))|refine k_region ?_|(apply k_go;(focus(constructor<;>rfl)))|refine d_nil ?_|(apply o_s;(focus(first|(constructor<;>first|rfl|omega)|(apply Ri.add3<;>first|rfl|omega)|(apply Ri.sub3<;>first|rfl|omega)|(apply Ri.conv3<;>first|rfl|omega)|(apply Ri.eqb<;>rfl)|(apply Ri.neb<;>rfl)|(apply Ri.pT;(focus rfl);(focus(first|rfl|assumption|(simp;done)|(simp;omega)));(focus rfl))|(apply Ri.pF;(focus rfl);(focus(first|rfl|assumption|(simp;done)|(simp;omega)));(focus rfl))));(focus rfl)))
    refine o_enter (n_call rfl) (wants_none rfl) rfl ((awake_calls).mono ?_)
    rintro _ w3 ⟨k3, rfl⟩
    repeat(first|refine o_nil ?_|(refine o_pass (wants_no rfl rfl rfl ?_) rfl ?_;(focus(first|rfl|assumption|(simp;done)|(simp;omega))))|refine o_pass (wants_not rfl rfl rfl) rfl ?_|(refine o_yes (wants_yes rfl rfl rfl ?_) ?_;(focus(first|rfl|assumption|(simp;done)|(simp;omega))))|refine k_region ?_|(apply k_go;(focus(constructor<;>rfl)))|refine d_nil ?_|(apply o_s;(focus(first|(constructor<;>first|rfl|omega)|(apply Ri.add3<;>first|rfl|omega)|(apply Ri.sub3<;>first|rfl|omega)|(apply Ri.conv3<;>first|rfl|omega)|(apply Ri.eqb<;>rfl)|(apply Ri.neb<;>rfl)|(apply Ri.pT;(focus rfl);(focus(first|rfl|assumption|(simp;done)|(simp;omega)));(focus rfl))|(apply Ri.pF;(focus rfl);(focus(first|rfl|assumption|(simp;done)|(simp;omega)));(focus rfl))));(focus rfl)))
    exact k_ret1 rfl rfl ⟨rfl, kk2.trans k3⟩
  obtain ⟨hsn, hos, -⟩ := hpf ho
  repeat(first|refine o_nil ?_|(refine o_pass (wants_no rfl rfl rfl ?_) rfl ?_;(focus(first|rfl|assumption|(simp;done)|(simp;omega))))|refine o_pass (wants_not rfl rfl rfl) rfl ?_|(refine o_yes (wants_yes rfl rfl rfl ?_) ?_;(focus(first|rfl|assumption|(simp;done)|(simp;omega))))|refine k_region ?_|(apply k_go;(focus(constructor<;>rfl)))|refine d_nil ?_|(apply o_s;(focus(first|(constructor<;>first|rfl|omega)|(apply Ri.add3<;>first|rfl|omega)|(apply Ri.sub3<;>first|rfl|omega)|(apply Ri.conv3<;>first|rfl|omega)|(apply Ri.eqb<;>rfl)|(apply Ri.neb<;>rfl)|(apply Ri.pT;(focus rfl);(focus(first|rfl|assumption|(simp;done)|(simp;omega)));(focus rfl))|(apply Ri.pF;(focus rfl);(focus(first|rfl|assumption|(simp;done)|(simp;omega)));(focus rfl))));(focus rfl)))
  refine k_no rfl ho ?_
  repeat(first|refine o_nil ?_|(refine o_pass (wants_no rfl rfl rfl ?_) rfl ?_;(focus(first|rfl|assumption|(simp;done)|(simp;omega))))|refine o_pass (wants_not rfl rfl rfl) rfl ?_|(refine o_yes (wants_yes rfl rfl rfl ?_) ?_;(focus(first|rfl|assumption|(simp;done)|(simp;omega))))|refine k_region ?_|(apply k_go;(focus(constructor<;>rfl)))|refine d_nil ?_|(apply o_s;(focus(first|(constructor<;>first|rfl|omega)|(apply Ri.add3<;>first|rfl|omega)|(apply Ri.sub3<;>first|rfl|omega)|(apply Ri.conv3<;>first|rfl|omega)|(apply Ri.eqb<;>rfl)|(apply Ri.neb<;>rfl)|(apply Ri.pT;(focus rfl);(focus(first|rfl|assumption|(simp;done)|(simp;omega)));(focus rfl))|(apply Ri.pF;(focus rfl);(focus(first|rfl|assumption|(simp;done)|(simp;omega)));(focus rfl))));(focus rfl)))
  refine o_still (r_loadA (cs := [.int .i64 p.1, .int .i64 p.2]) rfl rfl (blk_all c3)) (wants_none rfl) rfl ?_
  repeat(first|refine o_nil ?_|(refine o_pass (wants_no rfl rfl rfl ?_) rfl ?_;(focus(first|rfl|assumption|(simp;done)|(simp;omega))))|refine o_pass (wants_not rfl rfl rfl) rfl ?_|(refine o_yes (wants_yes rfl rfl rfl ?_) ?_;(focus(first|rfl|assumption|(simp;done)|(simp;omega))))|refine k_region ?_|(apply k_go;(focus(constructor<;>rfl)))|refine d_nil ?_|(apply o_s;(focus(first|(constructor<;>first|rfl|omega)|(apply Ri.add3<;>first|rfl|omega)|(apply Ri.sub3<;>first|rfl|omega)|(apply Ri.conv3<;>first|rfl|omega)|(apply Ri.eqb<;>rfl)|(apply Ri.neb<;>rfl)|(apply Ri.pT;(focus rfl);(focus(first|rfl|assumption|(simp;done)|(simp;omega)));(focus rfl))|(apply Ri.pF;(focus rfl);(focus(first|rfl|assumption|(simp;done)|(simp;omega)));(focus rfl))));(focus rfl)))
  refine o_enter (n_call rfl) (wants_none rfl) rfl ((find_any (p := p) (key := key) (around := true) hs0 (kk2.sl h) hp).mono ?_)
  rintro _ w3 ⟨k3, rfl⟩
  obtain ⟨a, b, k, ok, hv, hf, -⟩ := findV_parts (findM l p key true)
  rw [hv]
  repeat(first|refine o_nil ?_|(refine o_pass (wants_no rfl rfl rfl ?_) rfl ?_;(focus(first|rfl|assumption|(simp;done)|(simp;omega))))|refine o_pass (wants_not rfl rfl rfl) rfl ?_|(refine o_yes (wants_yes rfl rfl rfl ?_) ?_;(focus(first|rfl|assumption|(simp;done)|(simp;omega))))|refine k_region ?_|(apply k_go;(focus(constructor<;>rfl)))|refine d_nil ?_|(apply o_s;(focus(first|(constructor<;>first|rfl|omega)|(apply Ri.add3<;>first|rfl|omega)|(apply Ri.sub3<;>first|rfl|omega)|(apply Ri.conv3<;>first|rfl|omega)|(apply Ri.eqb<;>rfl)|(apply Ri.neb<;>rfl)|(apply Ri.pT;(focus rfl);(focus(first|rfl|assumption|(simp;done)|(simp;omega)));(focus rfl))|(apply Ri.pF;(focus rfl);(focus(first|rfl|assumption|(simp;done)|(simp;omega)));(focus rfl))));(focus rfl)))
  refine o_any (e_alloc) (wants_none rfl) rfl ?_
  rintro _ w4 ⟨g9, rfl, na⟩
  refine o_any (e_alloc) (wants_none rfl) rfl ?_
  rintro _ w5 ⟨g10, rfl, nd⟩
  have ya := nd.kn.blk na.at_ id
  have yd := nd.at_
  have x1 := na.ge
  have x2 := nd.ge
  have x3 := na.lt
  have x4 := (kk2.trans k3).size
  have x5 := blk_lt (k3.blk c3 id)
  refine o_unit (u_storeA (new := [.int .i64 a.1, .int .i64 a.2]) rfl rfl rfl (by simp [Value.oneCell']) rfl ya (Nat.le_refl 2)) (wants_none rfl) rfl ?_
  rintro w6 hwa
  refine o_unit (u_storeA (new := [.int .i64 b.1, .int .i64 b.2]) rfl rfl rfl (by simp [Value.oneCell']) rfl (hwa.kp.blk yd (by omega)) (Nat.le_refl 2)) (wants_none rfl) rfl ?_
  rintro w7 hwb
  have xa : w7.heap[g9]? = some (cl [.int .i64 a.1, .int .i64 a.2] 24) := hwb.kp.blk hwa.at_ (by omega)
  have xb : w7.heap[g10]? = some (cl [.int .i64 b.1, .int .i64 b.2] 24) := hwb.at_
  have kk7 : Kn W w7 := Kp.then (Kp.then (((kk2.trans k3).trans na.kn).trans nd.kn) hwa.kp (fun _ h => h) fun i hi he => by omega) hwb.kp (fun _ h => h) fun i hi he => by omega
  have c7 := hwb.kp.blk (hwa.kp.blk (nd.kn.blk (na.kn.blk (k3.blk c3 id) id) id) (by omega)) (by omega)
  have hne4 : g4 < g9 ∧ g9 < g10 := by omega
  clear hwa hwb na nd ya yd x1 x2 x3 x4 x5 k3 c3 kk2 hv
  cases ok with
  | false =>
    repeat(first|refine o_nil ?_|(refine o_pass (wants_no rfl rfl rfl ?_) rfl ?_;(focus(first|rfl|assumption|(simp;done)|(simp;omega))))|refine o_pass (wants_not rfl rfl rfl) rfl ?_|(refine o_yes (wants_yes rfl rfl rfl ?_) ?_;(focus(first|rfl|assumption|(simp;done)|(simp;omega))))|refine k_region ?_|(apply k_go;(focus(constructor<;>rfl)))|refine d_nil ?_|(apply o_s;(focus(first|(constructor<;>first|rfl|omega)|(apply Ri.add3<;>first|rfl|omega)|(apply Ri.sub3<;>first|rfl|omega)|(apply Ri.conv3<;>first|rfl|omega)|(apply Ri.eqb<;>rfl)|(apply Ri.neb<;>rfl)|(apply Ri.pT;(focus rfl);(focus(first|rfl|assumption|(simp;done)|(simp;omega)));(focus rfl))|(apply Ri.pF;(focus rfl);(focus(first|rfl|assumption|(simp;done)|(simp;omega)));(focus rfl))));(focus rfl)))
    refine k_true rfl ?_
    repeat(first|refine o_nil ?_|(refine o_pass (wants_no rfl rfl rfl ?_) rfl ?_;(focus(first|rfl|assumption|(simp;done)|(simp;omega))))|refine o_pass (wants_not rfl rfl rfl) rfl ?_|(refine o_yes (wants_yes rfl rfl rfl ?_) ?_;(focus(first|rfl|assumption|(simp;done)|(simp;omega))))|refine k_region ?_|(apply k_go;(focus(constructor<;>rfl)))|refine d_nil ?_|(apply o_s;(focus(first|(constructor<;>first|rfl|omega)|(apply Ri.add3<;>first|rfl|omega)|(apply Ri.sub3<;>first|rfl|omega)|(apply Ri.conv3<;>first|rfl|omega)|(apply Ri.eqb<;>rfl)|(apply Ri.neb<;>rfl)|(apply Ri.pT;(focus rfl);(focus(first|rfl|assumption|(simp;done)|(simp;omega)));(focus rfl))|(apply Ri.pF;(focus rfl);(focus(first|rfl|assumption|(simp;done)|(simp;omega)));(focus rfl))));(focus rfl)))
    refine o_enter (n_call rfl) (wants_none rfl) rfl ((awake_calls).mono ?_)
    rintro _ wz ⟨kz, rfl⟩
    repeat(first|refine o_nil ?_|(refine o_pass (wants_no rfl rfl rfl ?_) rfl ?_;(focus(first|rfl|assumption|(simp;done)|(simp;omega))))|refine o_pass (wants_not rfl rfl rfl) rfl ?_|(refine o_yes (wants_yes rfl rfl rfl ?_) ?_;(focus(first|rfl|assumption|(simp;done)|(simp;omega))))|refine k_region ?_|(apply k_go;(focus(constructor<;>rfl)))|refine d_nil ?_|(apply o_s;(focus(first|(constructor<;>first|rfl|omega)|(apply Ri.add3<;>first|rfl|omega)|(apply Ri.sub3<;>first|rfl|omega)|(apply Ri.conv3<;>first|rfl|omega)|(apply Ri.eqb<;>rfl)|(apply Ri.neb<;>rfl)|(apply Ri.pT;(focus rfl);(focus(first|rfl|assumption|(simp;done)|(simp;omega)));(focus rfl))|(apply Ri.pF;(focus rfl);(focus(first|rfl|assumption|(simp;done)|(simp;omega)));(focus rfl))));(focus rfl)))
    exact k_ret1 rfl rfl ⟨rfl, kk7.trans kz⟩
  | true =>
  have hfm := hf rfl
  have hl0 : l ≠ [] := by rintro rfl; rw [find_none] at hfm; cases hfm
  have hat := clip_at (p := p) hl0
  have hin := clip_in (p := p) hs0 hl0
  have hwi := (find_wi (p := p) (key := key) hs0).1 a b k hfm
  rw [hfk hl0 ho] at hfm
  have hbm : bracketsM l (clipM l p) o s true = some (a, b) ∧ k = 0 := by
    cases hr : bracketsM l (clipM l p) o s true with
    | none => rw [hr] at hfm; simp at hfm
    | some r =>
      rw [hr] at hfm
      simp only [Option.map_some, Option.some.injEq, Prod.mk.injEq] at hfm
      exact ⟨by rw [← hfm.1, ← hfm.2.1], hfm.2.2.symm⟩
  obtain ⟨hbm, rfl⟩ := hbm
  repeat(first|refine o_nil ?_|(refine o_pass (wants_no rfl rfl rfl ?_) rfl ?_;(focus(first|rfl|assumption|(simp;done)|(simp;omega))))|refine o_pass (wants_not rfl rfl rfl) rfl ?_|(refine o_yes (wants_yes rfl rfl rfl ?_) ?_;(focus(first|rfl|assumption|(simp;done)|(simp;omega))))|refine k_region ?_|(apply k_go;(focus(constructor<;>rfl)))|refine d_nil ?_|(apply o_s;(focus(first|(constructor<;>first|rfl|omega)|(apply Ri.add3<;>first|rfl|omega)|(apply Ri.sub3<;>first|rfl|omega)|(apply Ri.conv3<;>first|rfl|omega)|(apply Ri.eqb<;>rfl)|(apply Ri.neb<;>rfl)|(apply Ri.pT;(focus rfl);(focus(first|rfl|assumption|(simp;done)|(simp;omega)));(focus rfl))|(apply Ri.pF;(focus rfl);(focus(first|rfl|assumption|(simp;done)|(simp;omega)));(focus rfl))));(focus rfl)))
  refine k_false rfl ?_
  repeat(first|refine o_nil ?_|(refine o_pass (wants_no rfl rfl rfl ?_) rfl ?_;(focus(first|rfl|assumption|(simp;done)|(simp;omega))))|refine o_pass (wants_not rfl rfl rfl) rfl ?_|(refine o_yes (wants_yes rfl rfl rfl ?_) ?_;(focus(first|rfl|assumption|(simp;done)|(simp;omega))))|refine k_region ?_|(apply k_go;(focus(constructor<;>rfl)))|refine d_nil ?_|(apply o_s;(focus(first|(constructor<;>first|rfl|omega)|(apply Ri.add3<;>first|rfl|omega)|(apply Ri.sub3<;>first|rfl|omega)|(apply Ri.conv3<;>first|rfl|omega)|(apply Ri.eqb<;>rfl)|(apply Ri.neb<;>rfl)|(apply Ri.pT;(focus rfl);(focus(first|rfl|assumption|(simp;done)|(simp;omega)));(focus rfl))|(apply Ri.pF;(focus rfl);(focus(first|rfl|assumption|(simp;done)|(simp;omega)));(focus rfl))));(focus rfl)))
  refine o_still (r_loadA (cs := [.int .i64 p.1, .int .i64 p.2]) rfl rfl (blk_all c7)) (wants_none rfl) rfl ?_
  refine o_enter (n_call rfl) (wants_none rfl) rfl ((clipR_calls (p := p) (kk7.sl h) hp).mono ?_)
  rintro _ w8 ⟨k8, rfl⟩
  generalize clipM l p = q at *
  obtain ⟨X, Y, hL⟩ := at_lies hat
  obtain ⟨r, hr, hnear⟩ := brackets_near ho hsn hos hin hat hL
  rw [hbm] at hr
  obtain ⟨ia, ib, rfl⟩ : ∃ ia ib, r = some (ia, ib) := by
    match r, hr with
    | some (ia, ib), _ => exact ⟨ia, ib, rfl⟩
    | none, hr => exact hr.elim
  obtain ⟨pa, pb⟩ := hr
  obtain ⟨⟨hmt, hat1, hat2⟩, -⟩ := hnear
  have pq := lies_get hL
  have na1 : aheadM q a = false := by rw [places_ahead pq pa]; exact decide_eq_false (by omega)
  have nb1 : aheadM b q = false := by rw [places_ahead pb pq]; exact decide_eq_false (by omega)
  have hab := hmt.ab
  have hva : vp l o s a = 1 := by
    have e1 := sumP_succ (o := o) (s := s) pa
    have e2 := vp_lo l o s a
    have e3 := hmt.in_ (ia + 1) (by omega) (by omega)
    omega
  have hvb : vp l o s b = -1 := by
    have e1 := sumP_succ (o := o) (s := s) pb
    have e2 := vp_lo l o s b
    have e3 := hmt.in_ ib (by omega) (Nat.le_refl _)
    have e4 := hmt.end_
    omega
  clear hL hat1 hat2 pq hfm hfk hpf hf
  generalize X.length = tt at *
  refine o_unit (u_storeA (new := [.int .i64 q.1, .int .i64 q.2]) rfl rfl rfl (by simp [Value.oneCell']) rfl (k8.blk c7 id) (Nat.le_refl 2)) (wants_none rfl) rfl ?_
  rintro w9 hw9
  have d4 : w9.heap[g4]? = some (cl [.int .i64 q.1, .int .i64 q.2] 24) := hw9.at_
  have da := hw9.kp.blk (k8.blk xa id) (by omega)
  have db := hw9.kp.blk (k8.blk xb id) (by omega)
  have kk9 : Kn W w9 := Kp.then (kk7.trans k8) hw9.kp (fun _ h => h) fun i hi he => by omega
  clear hw9 k8 xa xb c7 kk7
  have row : ∀ j, (hj : j < l.length) → ∃ A1 c1, Sl kRune (fun _ => True) W (.slice A1 l[j].length c1) l[j] ∧ l[j].length ≤ 140737488355328 ∧ ∃ ad0, A = some ad0 ∧ W.cell? (ad0.add (j * 1)) = some (.slice A1 l[j].length c1) := by
    intro j hj
    obtain ⟨ad, cs, rfl, ⟨v1, rfl, hrow⟩, hcell⟩ := h.at_ (List.getElem?_eq_getElem hj)
    obtain ⟨A1, c1, rfl, hc1, hf1⟩ := hrow.form
    exact ⟨A1, c1, hrow, hf1.len, ad, rfl, hcell 0 _ rfl⟩
  have rune : ∀ i k, (hi : i < l.length) → (hk : k < l[i].length) → ∃ ad0 A1 c1, A = some ad0 ∧ W.cell? (ad0.add (i * 1)) = some (.slice (some A1) l[i].length c1) ∧ W.cell? (A1.add (k * 1)) = some (.int .i32 l[i][k]) := by
    intro i k hi hk
    obtain ⟨A1, c1, hrow, hle, ad0, rfl, hc0⟩ := row i hi
    obtain ⟨ad2, cs2, rfl, ⟨rfl, -⟩, hcell2⟩ := hrow.at_ (List.getElem?_eq_getElem hk)
    exact ⟨ad0, ad2, c1, rfl, hc0, hcell2 0 _ rfl⟩
  obtain ⟨ai, ak, hai, hak, rfl⟩ := vp_ne hwi.fst (by rw [hva]; decide)
  obtain ⟨bi, bk, hbi, hbk, rfl⟩ := vp_ne hwi.snd (by rw [hvb]; decide)
  have hao : l[ai][ak] = o := by
    rw [vp_nat hai hak] at hva
    by_cases he : l[ai][ak] = o
    · exact he
    · rw [if_neg he] at hva; split at hva <;> simp at hva
  have hbs : l[bi][bk] = s := by
    rw [vp_nat hbi hbk] at hvb
    by_cases he : l[bi][bk] = o
    · rw [if_pos he] at hvb; simp at hvb
    · rw [if_neg he] at hvb
      by_cases he2 : l[bi][bk] = s
      · exact he2
      · rw [if_neg he2] at hvb; simp at hvb
  obtain ⟨ad0, A1, c1, rfl, ra1, ra2⟩ := rune ai ak hai hak
  obtain ⟨ad0', A2, c2, hAA, rb1, rb2⟩ := rune bi bk hbi hbk
  cases hAA
  rw [hao] at ra2
  rw [hbs] at rb2
  have hla := (row ai hai)
  have q9a0 : w9.cell? ⟨g9, 0, none⟩ = some (.int .i64 ai) := blk_cell da
  have q9a1 : w9.cell? ⟨g9, 1, none⟩ = some (.int .i64 ak) := blk_cell da
  have q9b0 : w9.cell? ⟨g10, 0, none⟩ = some (.int .i64 bi) := blk_cell db
  have q9b1 : w9.cell? ⟨g10, 1, none⟩ = some (.int .i64 bk) := blk_cell db
  have hz1 : decide ((l[ai].length : Int) = 0) = false := decide_eq_false (by omega)
  have hz2 : decide ((l[bi].length : Int) = 0) = false := decide_eq_false (by omega)
  have hl1 : l[ai].length ≤ runesM l := runes_le _ (List.getElem_mem hai)
  have hl2 : l[bi].length ≤ runesM l := runes_le _ (List.getElem_mem hbi)
  repeat(first|refine o_nil ?_|(refine o_pass (wants_no rfl rfl rfl ?_) rfl ?_;(focus(first|rfl|assumption|(simp;done)|(simp;omega))))|refine o_pass (wants_not rfl rfl rfl) rfl ?_|(refine o_yes (wants_yes rfl rfl rfl ?_) ?_;(focus(first|rfl|assumption|(simp;done)|(simp;omega))))|refine k_region ?_|(apply k_go;(focus(constructor<;>rfl)))|refine d_nil ?_|(apply o_s;(focus(first|(constructor<;>first|rfl|omega)|(apply Ri.add3<;>first|rfl|omega)|(apply Ri.sub3<;>first|rfl|omega)|(apply Ri.conv3<;>first|rfl|omega)|(apply Ri.eqb<;>rfl)|(apply Ri.neb<;>rfl)|(apply Ri.pT;(focus rfl);(focus(first|rfl|assumption|(simp;done)|(simp;omega)));(focus rfl))|(apply Ri.pF;(focus rfl);(focus(first|rfl|assumption|(simp;done)|(simp;omega)));(focus rfl))));(focus rfl)))
  refine k_draw [(0, 0), (1, 0), (2, 0), (3, 0), (4, 0), (5, 1), (6, 0), (7, 0), (8, 0), (9, 0), (10, 1), (11, 0), (12, 0), (13, 0), (14, 0), (16, 0), (15, 1), (17, 0), (18, 0), (19, 0), (20, 0), (21, 0), (23, 0), (22, 1), (24, 0), (25, 0), (26, 0), (27, 0), (28, 0), (29, 0), (30, 0), (31, 0), (32, 0), (33, 0), (34, 0), (35, 0), (36, 0), (37, 0), (38, 0), (39, 0), (40, 0), (41, 0), (42, 0), (43, 0), (44, 0), (45, 0), (46, 0), (47, 0), (48, 0), (49, 0), (50, 0), (51, 0), (52, 0), (53, 0), (54, 0), (55, 0), (56, 0), (57, 0), (58, 0), (59, 0), (60, 0), (61, 0), (62, 0), (63, 0), (64, 0), (65, 0), (66, 0), (67, 0), (68, 0), (69, 0)] (by kernel_rfl) (by kernel_rfl) rfl (by kernel_rfl) ?_
  repeat(first|refine d_nil ?_|(refine d_open rfl ?_;first|((first|refine x_pass (wants_no rfl rfl rfl ?_) rfl ?_ ?_|refine x_passNow (wants_no rfl rfl rfl ?_) rfl ?_ ?_);(focus(first|rfl|assumption|(simp;done)|(simp;omega)));(focus(first|exact St.refl _|assumption)))|((first|refine x_pass (wants_not rfl rfl rfl) rfl ?_ ?_|refine x_passNow (wants_not rfl rfl rfl) rfl ?_ ?_);(focus(first|exact St.refl _|assumption)))|((first|apply x_s|apply x_n);(focus(first|(constructor<;>first|rfl|omega)|(apply Ri.add3<;>first|rfl|omega)|(apply Ri.sub3<;>first|rfl|omega)|(apply Ri.conv3<;>first|rfl|omega)|(apply Ri.eqb<;>rfl)|(apply Ri.neb<;>rfl)|(apply Ri.pT;(focus rfl);(focus(first|rfl|assumption|(simp;done)|(simp;omega)));(focus rfl))|(apply Ri.pF;(focus rfl);(focus(first|rfl|assumption|(simp;done)|(simp;omega)));(focus rfl))));(focus(first|exact wants_none rfl|exact wants_yes rfl rfl rfl (by first|rfl|assumption|(simp;done)|(simp;omega))));(focus rfl);(focus(first|exact St.refl _|assumption)))))
  refine d_open rfl ?_; refine x_still (r_loadA (cs := [.int .i64 q.1, .int .i64 q.2]) rfl rfl (blk_all d4)) (wants_yes rfl rfl rfl (by first | rfl | assumption | (simp; done) | (simp; omega))) rfl (by first | exact St.refl _ | assumption) ?_
  refine d_open rfl ?_; refine x_still (r_loadA (cs := [.int .i64 ai, .int .i64 ak]) rfl rfl (blk_all da)) (wants_yes rfl rfl rfl (by first | rfl | assumption | (simp; done) | (simp; omega))) rfl (by first | exact St.refl _ | assumption) ?_
  refine d_open rfl ?_; refine x_enter (n_call rfl) (wants_yes rfl rfl rfl (by first | rfl | assumption | (simp; done) | (simp; omega))) rfl ((ahead_calls (p := q) (q := ((ai : Int), (ak : Int)))).mono ?_)
  rintro _ wa ⟨ka, rfl⟩
  have sa := ka.st
  refine .inl ⟨sa, ?_⟩
  rw [na1]
  repeat(first|refine d_nil ?_|(refine d_open rfl ?_;first|((first|refine x_pass (wants_no rfl rfl rfl ?_) rfl ?_ ?_|refine x_passNow (wants_no rfl rfl rfl ?_) rfl ?_ ?_);(focus(first|rfl|assumption|(simp;done)|(simp;omega)));(focus(first|exact St.refl _|assumption)))|((first|refine x_pass (wants_not rfl rfl rfl) rfl ?_ ?_|refine x_passNow (wants_not rfl rfl rfl) rfl ?_ ?_);(focus(first|exact St.refl _|assumption)))|((first|apply x_s|apply x_n);(focus(first|(constructor<;>first|rfl|omega)|(apply Ri.add3<;>first|rfl|omega)|(apply Ri.sub3<;>first|rfl|omega)|(apply Ri.conv3<;>first|rfl|omega)|(apply Ri.eqb<;>rfl)|(apply Ri.neb<;>rfl)|(apply Ri.pT;(focus rfl);(focus(first|rfl|assumption|(simp;done)|(simp;omega)));(focus rfl))|(apply Ri.pF;(focus rfl);(focus(first|rfl|assumption|(simp;done)|(simp;omega)));(focus rfl))));(focus(first|exact wants_none rfl|exact wants_yes rfl rfl rfl (by first|rfl|assumption|(simp;done)|(simp;omega))));(focus rfl);(focus(first|exact St.refl _|assumption)))))
  refine d_open rfl ?_; refine x_still (r_loadA (cs := [.int .i64 bi, .int .i64 bk]) rfl rfl (blk_all db)) (wants_yes rfl rfl rfl (by first | rfl | assumption | (simp; done) | (simp; omega))) rfl (by first | exact St.refl _ | assumption) ?_
  refine d_open rfl ?_; refine x_still (r_loadA (cs := [.int .i64 q.1, .int .i64 q.2]) rfl rfl (blk_all d4)) (wants_yes rfl rfl rfl (by first | rfl | assumption | (simp; done) | (simp; omega))) rfl (by first | exact St.refl _ | assumption) ?_
  refine d_open rfl ?_; refine x_enter (n_call rfl) (wants_yes rfl rfl rfl (by first | rfl | assumption | (simp; done) | (simp; omega))) rfl ((ahead_calls (p := ((bi : Int), (bk : Int))) (q := q)).mono ?_)
  rintro _ wb ⟨kb, rfl⟩
  have kab : Kn w9 wb := ka.trans kb
  have sb := kab.st
  refine .inl ⟨sb, ?_⟩
  rw [nb1]
  repeat(first|refine d_nil ?_|(refine d_open rfl ?_;first|((first|refine x_pass (wants_no rfl rfl rfl ?_) rfl ?_ ?_|refine x_passNow (wants_no rfl rfl rfl ?_) rfl ?_ ?_);(focus(first|rfl|assumption|(simp;done)|(simp;omega)));(focus(first|exact St.refl _|assumption)))|((first|refine x_pass (wants_not rfl rfl rfl) rfl ?_ ?_|refine x_passNow (wants_not rfl rfl rfl) rfl ?_ ?_);(focus(first|exact St.refl _|assumption)))|((first|apply x_s|apply x_n);(focus(first|(constructor<;>first|rfl|omega)|(apply Ri.add3<;>first|rfl|omega)|(apply Ri.sub3<;>first|rfl|omega)|(apply Ri.conv3<;>first|rfl|omega)|(apply Ri.eqb<;>rfl)|(apply Ri.neb<;>rfl)|(apply Ri.pT;(focus rfl);(focus(first|rfl|assumption|(simp;done)|(simp;omega)));(focus rfl))|(apply Ri.pF;(focus rfl);(focus(first|rfl|assumption|(simp;done)|(simp;omega)));(focus rfl))));(focus(first|exact wants_none rfl|exact wants_yes rfl rfl rfl (by first|rfl|assumption|(simp;done)|(simp;omega))));(focus rfl);(focus(first|exact St.refl _|assumption)))))
  refine d_open rfl ?_; refine x_still (r_loadA (cs := [.int .i64 ai, .int .i64 ak]) rfl rfl (blk_all da)) (wants_yes rfl rfl rfl (by first | rfl | assumption | (simp; done) | (simp; omega))) rfl (by first | exact St.refl _ | assumption) ?_
  repeat(first|refine d_nil ?_|(refine d_open rfl ?_;first|((first|refine x_pass (wants_no rfl rfl rfl ?_) rfl ?_ ?_|refine x_passNow (wants_no rfl rfl rfl ?_) rfl ?_ ?_);(focus(first|rfl|assumption|(simp;done)|(simp;omega)));(focus(first|exact St.refl _|assumption)))|((first|refine x_pass (wants_not rfl rfl rfl) rfl ?_ ?_|refine x_passNow (wants_not rfl rfl rfl) rfl ?_ ?_);(focus(first|exact St.refl _|assumption)))|((first|apply x_s|apply x_n);(focus(first|(constructor<;>first|rfl|omega)|(apply Ri.add3<;>first|rfl|omega)|(apply Ri.sub3<;>first|rfl|omega)|(apply Ri.conv3<;>first|rfl|omega)|(apply Ri.eqb<;>rfl)|(apply Ri.neb<;>rfl)|(apply Ri.pT;(focus rfl);(focus(first|rfl|assumption|(simp;done)|(simp;omega)));(focus rfl))|(apply Ri.pF;(focus rfl);(focus(first|rfl|assumption|(simp;done)|(simp;omega)));(focus rfl))));(focus(first|exact wants_none rfl|exact wants_yes rfl rfl rfl (by first|rfl|assumption|(simp;done)|(simp;omega))));(focus rfl);(focus(first|exact St.refl _|assumption)))))
  refine d_open rfl ?_; refine x_still (r_loadA (cs := [.int .i64 ai, .int .i64 ak]) rfl rfl (blk_all da)) (wants_yes rfl rfl rfl (by first | rfl | assumption | (simp; done) | (simp; omega))) rfl (by first | exact St.refl _ | assumption) ?_
  repeat(first|refine d_nil ?_|(refine d_open rfl ?_;first|((first|refine x_pass (wants_no rfl rfl rfl ?_) rfl ?_ ?_|refine x_passNow (wants_no rfl rfl rfl ?_) rfl ?_ ?_);(focus(first|rfl|assumption|(simp;done)|(simp;omega)));(focus(first|exact St.refl _|assumption)))|((first|refine x_pass (wants_not rfl rfl rfl) rfl ?_ ?_|refine x_passNow (wants_not rfl rfl rfl) rfl ?_ ?_);(focus(first|exact St.refl _|assumption)))|((first|apply x_s|apply x_n);(focus(first|(constructor<;>first|rfl|omega)|(apply Ri.add3<;>first|rfl|omega)|(apply Ri.sub3<;>first|rfl|omega)|(apply Ri.conv3<;>first|rfl|omega)|(apply Ri.eqb<;>rfl)|(apply Ri.neb<;>rfl)|(apply Ri.pT;(focus rfl);(focus(first|rfl|assumption|(simp;done)|(simp;omega)));(focus rfl))|(apply Ri.pF;(focus rfl);(focus(first|rfl|assumption|(simp;done)|(simp;omega)));(focus rfl))));(focus(first|exact wants_none rfl|exact wants_yes rfl rfl rfl (by first|rfl|assumption|(simp;done)|(simp;omega))));(focus rfl);(focus(first|exact St.refl _|assumption)))))
  refine d_open rfl ?_; refine x_enter (n_call rfl) (wants_yes rfl rfl rfl (by first | rfl | assumption | (simp; done) | (simp; omega))) rfl ((clipR_calls (p := ((ai : Int), (ak : Int))) (Kn.sl (kk9.trans kab) h) (at_64 hs0 hwi.fst)).mono ?_)
  rintro _ wc ⟨kc, rfl⟩
  have kac : Kn w9 wc := kab.trans kc
  have sc := kac.st
  refine .inl ⟨sc, ?_⟩
  rw [at_clip hwi.fst]
  refine d_open rfl ?_; refine x_still (r_ne2 rfl rfl) (wants_yes rfl rfl rfl (by first | rfl | assumption | (simp; done) | (simp; omega))) rfl (by first | exact St.refl _ | assumption) ?_
  repeat(first|refine d_nil ?_|(refine d_open rfl ?_;first|((first|refine x_pass (wants_no rfl rfl rfl ?_) rfl ?_ ?_|refine x_passNow (wants_no rfl rfl rfl ?_) rfl ?_ ?_);(focus(first|rfl|assumption|(simp;done)|(simp;omega)));(focus(first|exact St.refl _|assumption)))|((first|refine x_pass (wants_not rfl rfl rfl) rfl ?_ ?_|refine x_passNow (wants_not rfl rfl rfl) rfl ?_ ?_);(focus(first|exact St.refl _|assumption)))|((first|apply x_s|apply x_n);(focus(first|(constructor<;>first|rfl|omega)|(apply Ri.add3<;>first|rfl|omega)|(apply Ri.sub3<;>first|rfl|omega)|(apply Ri.conv3<;>first|rfl|omega)|(apply Ri.eqb<;>rfl)|(apply Ri.neb<;>rfl)|(apply Ri.pT;(focus rfl);(focus(first|rfl|assumption|(simp;done)|(simp;omega)));(focus rfl))|(apply Ri.pF;(focus rfl);(focus(first|rfl|assumption|(simp;done)|(simp;omega)));(focus rfl))));(focus(first|exact wants_none rfl|exact wants_yes rfl rfl rfl (by first|rfl|assumption|(simp;done)|(simp;omega))));(focus rfl);(focus(first|exact St.refl _|assumption)))))
  refine d_open rfl ?_; refine x_still (r_loadA (cs := [.int .i64 bi, .int .i64 bk]) rfl rfl (blk_all db)) (wants_yes rfl rfl rfl (by first | rfl | assumption | (simp; done) | (simp; omega))) rfl (by first | exact St.refl _ | assumption) ?_
  repeat(first|refine d_nil ?_|(refine d_open rfl ?_;first|((first|refine x_pass (wants_no rfl rfl rfl ?_) rfl ?_ ?_|refine x_passNow (wants_no rfl rfl rfl ?_) rfl ?_ ?_);(focus(first|rfl|assumption|(simp;done)|(simp;omega)));(focus(first|exact St.refl _|assumption)))|((first|refine x_pass (wants_not rfl rfl rfl) rfl ?_ ?_|refine x_passNow (wants_not rfl rfl rfl) rfl ?_ ?_);(focus(first|exact St.refl _|assumption)))|((first|apply x_s|apply x_n);(focus(first|(constructor<;>first|rfl|omega)|(apply Ri.add3<;>first|rfl|omega)|(apply Ri.sub3<;>first|rfl|omega)|(apply Ri.conv3<;>first|rfl|omega)|(apply Ri.eqb<;>rfl)|(apply Ri.neb<;>rfl)|(apply Ri.pT;(focus rfl);(focus(first|rfl|assumption|(simp;done)|(simp;omega)));(focus rfl))|(apply Ri.pF;(focus rfl);(focus(first|rfl|assumption|(simp;done)|(simp;omega)));(focus rfl))));(focus(first|exact wants_none rfl|exact wants_yes rfl rfl rfl (by first|rfl|assumption|(simp;done)|(simp;omega))));(focus rfl);(focus(first|exact St.refl _|assumption)))))
  refine d_open rfl ?_; refine x_still (r_loadA (cs := [.int .i64 bi, .int .i64 bk]) rfl rfl (blk_all db)) (wants_yes rfl rfl rfl (by first | rfl | assumption | (simp; done) | (simp; omega))) rfl (by first | exact St.refl _ | assumption) ?_
  repeat(first|refine d_nil ?_|(refine d_open rfl ?_;first|((first|refine x_pass (wants_no rfl rfl rfl ?_) rfl ?_ ?_|refine x_passNow (wants_no rfl rfl rfl ?_) rfl ?_ ?_);(focus(first|rfl|assumption|(simp;done)|(simp;omega)));(focus(first|exact St.refl _|assumption)))|((first|refine x_pass (wants_not rfl rfl rfl) rfl ?_ ?_|refine x_passNow (wants_not rfl rfl rfl) rfl ?_ ?_);(focus(first|exact St.refl _|assumption)))|((first|apply x_s|apply x_n);(focus(first|(constructor<;>first|rfl|omega)|(apply Ri.add3<;>first|rfl|omega)|(apply Ri.sub3<;>first|rfl|omega)|(apply Ri.conv3<;>first|rfl|omega)|(apply Ri.eqb<;>rfl)|(apply Ri.neb<;>rfl)|(apply Ri.pT;(focus rfl);(focus(first|rfl|assumption|(simp;done)|(simp;omega)));(focus rfl))|(apply Ri.pF;(focus rfl);(focus(first|rfl|assumption|(simp;done)|(simp;omega)));(focus rfl))));(focus(first|exact wants_none rfl|exact wants_yes rfl rfl rfl (by first|rfl|assumption|(simp;done)|(simp;omega))));(focus rfl);(focus(first|exact St.refl _|assumption)))))
  refine d_open rfl ?_; refine x_enter (n_call rfl) (wants_yes rfl rfl rfl (by first | rfl | assumption | (simp; done) | (simp; omega))) rfl ((clipR_calls (p := ((bi : Int), (bk : Int))) (Kn.sl (kk9.trans kac) h) (at_64 hs0 hwi.snd)).mono ?_)
  rintro _ wd ⟨kd, rfl⟩
  have kad : Kn w9 wd := kac.trans kd
  have sd := kad.st
  refine .inl ⟨sd, ?_⟩
  rw [at_clip hwi.snd]
  refine d_open rfl ?_; refine x_still (r_ne2 rfl rfl) (wants_yes rfl rfl rfl (by first | rfl | assumption | (simp; done) | (simp; omega))) rfl (by first | exact St.refl _ | assumption) ?_
  repeat(first|refine d_nil ?_|(refine d_open rfl ?_;first|((first|refine x_pass (wants_no rfl rfl rfl ?_) rfl ?_ ?_|refine x_passNow (wants_no rfl rfl rfl ?_) rfl ?_ ?_);(focus(first|rfl|assumption|(simp;done)|(simp;omega)));(focus(first|exact St.refl _|assumption)))|((first|refine x_pass (wants_not rfl rfl rfl) rfl ?_ ?_|refine x_passNow (wants_not rfl rfl rfl) rfl ?_ ?_);(focus(first|exact St.refl _|assumption)))|((first|apply x_s|apply x_n);(focus(first|(constructor<;>first|rfl|omega)|(apply Ri.add3<;>first|rfl|omega)|(apply Ri.sub3<;>first|rfl|omega)|(apply Ri.conv3<;>first|rfl|omega)|(apply Ri.eqb<;>rfl)|(apply Ri.neb<;>rfl)|(apply Ri.pT;(focus rfl);(focus(first|rfl|assumption|(simp;done)|(simp;omega)));(focus rfl))|(apply Ri.pF;(focus rfl);(focus(first|rfl|assumption|(simp;done)|(simp;omega)));(focus rfl))));(focus(first|exact wants_none rfl|exact wants_yes rfl rfl rfl (by first|rfl|assumption|(simp;done)|(simp;omega))));(focus rfl);(focus(first|exact St.refl _|assumption)))))
  refine d_open rfl ?_; refine x_still (r_load rfl q9a0) (wants_yes rfl rfl rfl (by first | rfl | assumption | (simp; done) | (simp; omega))) rfl (by first | exact St.refl _ | assumption) ?_
  refine d_open rfl ?_; refine x_still (r_index rfl rfl rfl (by omega) (by omega)) (wants_yes rfl rfl rfl (by first | rfl | assumption | (simp; done) | (simp; omega))) rfl (by first | exact St.refl _ | assumption) ?_
  refine d_open rfl ?_; refine x_still (r_load rfl (by rw [Int.toNat_natCast]; exact kk9.cell (p := ad0.add (ai * 1)) ra1 id)) (wants_yes rfl rfl rfl (by first | rfl | assumption | (simp; done) | (simp; omega))) rfl (by first | exact St.refl _ | assumption) ?_
  repeat(first|refine d_nil ?_|(refine d_open rfl ?_;first|((first|refine x_pass (wants_no rfl rfl rfl ?_) rfl ?_ ?_|refine x_passNow (wants_no rfl rfl rfl ?_) rfl ?_ ?_);(focus(first|rfl|assumption|(simp;done)|(simp;omega)));(focus(first|exact St.refl _|assumption)))|((first|refine x_pass (wants_not rfl rfl rfl) rfl ?_ ?_|refine x_passNow (wants_not rfl rfl rfl) rfl ?_ ?_);(focus(first|exact St.refl _|assumption)))|((first|apply x_s|apply x_n);(focus(first|(constructor<;>first|rfl|omega)|(apply Ri.add3<;>first|rfl|omega)|(apply Ri.sub3<;>first|rfl|omega)|(apply Ri.conv3<;>first|rfl|omega)|(apply Ri.eqb<;>rfl)|(apply Ri.neb<;>rfl)|(apply Ri.pT;(focus rfl);(focus(first|rfl|assumption|(simp;done)|(simp;omega)));(focus rfl))|(apply Ri.pF;(focus rfl);(focus(first|rfl|assumption|(simp;done)|(simp;omega)));(focus rfl))));(focus(first|exact wants_none rfl|exact wants_yes rfl rfl rfl (by first|rfl|assumption|(simp;done)|(simp;omega))));(focus rfl);(focus(first|exact St.refl _|assumption)))))
  refine d_open rfl ?_; refine x_still (r_load rfl q9b0) (wants_yes rfl rfl rfl (by first | rfl | assumption | (simp; done) | (simp; omega))) rfl (by first | exact St.refl _ | assumption) ?_
  refine d_open rfl ?_; refine x_still (r_index rfl rfl rfl (by omega) (by omega)) (wants_yes rfl rfl rfl (by first | rfl | assumption | (simp; done) | (simp; omega))) rfl (by first | exact St.refl _ | assumption) ?_
  refine d_open rfl ?_; refine x_still (r_load rfl (by rw [Int.toNat_natCast]; exact kk9.cell (p := ad0.add (bi * 1)) rb1 id)) (wants_yes rfl rfl rfl (by first | rfl | assumption | (simp; done) | (simp; omega))) rfl (by first | exact St.refl _ | assumption) ?_
  repeat(first|refine d_nil ?_|(refine d_open rfl ?_;first|((first|refine x_pass (wants_no rfl rfl rfl ?_) rfl ?_ ?_|refine x_passNow (wants_no rfl rfl rfl ?_) rfl ?_ ?_);(focus(first|rfl|assumption|(simp;done)|(simp;omega)));(focus(first|exact St.refl _|assumption)))|((first|refine x_pass (wants_not rfl rfl rfl) rfl ?_ ?_|refine x_passNow (wants_not rfl rfl rfl) rfl ?_ ?_);(focus(first|exact St.refl _|assumption)))|((first|apply x_s|apply x_n);(focus(first|(constructor<;>first|rfl|omega)|(apply Ri.add3<;>first|rfl|omega)|(apply Ri.sub3<;>first|rfl|omega)|(apply Ri.conv3<;>first|rfl|omega)|(apply Ri.eqb<;>rfl)|(apply Ri.neb<;>rfl)|(apply Ri.pT;(focus rfl);(focus(first|rfl|assumption|(simp;done)|(simp;omega)));(focus rfl))|(apply Ri.pF;(focus rfl);(focus(first|rfl|assumption|(simp;done)|(simp;omega)));(focus rfl))));(focus(first|exact wants_none rfl|exact wants_yes rfl rfl rfl (by first|rfl|assumption|(simp;done)|(simp;omega))));(focus rfl);(focus(first|exact St.refl _|assumption)))))
  refine d_open rfl ?_; refine x_still (r_load rfl q9a0) (wants_yes rfl rfl rfl (by first | rfl | assumption | (simp; done) | (simp; omega))) rfl (by first | exact St.refl _ | assumption) ?_
  refine d_open rfl ?_; refine x_still (r_index rfl rfl rfl (by omega) (by omega)) (wants_yes rfl rfl rfl (by first | rfl | assumption | (simp; done) | (simp; omega))) rfl (by first | exact St.refl _ | assumption) ?_
  refine d_open rfl ?_; refine x_still (r_load rfl (by rw [Int.toNat_natCast]; exact kk9.cell (p := ad0.add (ai * 1)) ra1 id)) (wants_yes rfl rfl rfl (by first | rfl | assumption | (simp; done) | (simp; omega))) rfl (by first | exact St.refl _ | assumption) ?_
  repeat(first|refine d_nil ?_|(refine d_open rfl ?_;first|((first|refine x_pass (wants_no rfl rfl rfl ?_) rfl ?_ ?_|refine x_passNow (wants_no rfl rfl rfl ?_) rfl ?_ ?_);(focus(first|rfl|assumption|(simp;done)|(simp;omega)));(focus(first|exact St.refl _|assumption)))|((first|refine x_pass (wants_not rfl rfl rfl) rfl ?_ ?_|refine x_passNow (wants_not rfl rfl rfl) rfl ?_ ?_);(focus(first|exact St.refl _|assumption)))|((first|apply x_s|apply x_n);(focus(first|(constructor<;>first|rfl|omega)|(apply Ri.add3<;>first|rfl|omega)|(apply Ri.sub3<;>first|rfl|omega)|(apply Ri.conv3<;>first|rfl|omega)|(apply Ri.eqb<;>rfl)|(apply Ri.neb<;>rfl)|(apply Ri.pT;(focus rfl);(focus(first|rfl|assumption|(simp;done)|(simp;omega)));(focus rfl))|(apply Ri.pF;(focus rfl);(focus(first|rfl|assumption|(simp;done)|(simp;omega)));(focus rfl))));(focus(first|exact wants_none rfl|exact wants_yes rfl rfl rfl (by first|rfl|assumption|(simp;done)|(simp;omega))));(focus rfl);(focus(first|exact St.refl _|assumption)))))
  refine d_open rfl ?_; refine x_still (r_load rfl q9a1) (wants_yes rfl rfl rfl (by first | rfl | assumption | (simp; done) | (simp; omega))) rfl (by first | exact St.refl _ | assumption) ?_
  refine d_open rfl ?_; refine x_still (r_index rfl rfl rfl (by omega) (by omega)) (wants_yes rfl rfl rfl (by first | rfl | assumption | (simp; done) | (simp; omega))) rfl (by first | exact St.refl _ | assumption) ?_
  refine d_open rfl ?_; refine x_still (r_load rfl (by rw [Int.toNat_natCast]; exact kk9.cell (p := A1.add (ak * 1)) ra2 id)) (wants_yes rfl rfl rfl (by first | rfl | assumption | (simp; done) | (simp; omega))) rfl (by first | exact St.refl _ | assumption) ?_
  repeat(first|refine d_nil ?_|(refine d_open rfl ?_;first|((first|refine x_pass (wants_no rfl rfl rfl ?_) rfl ?_ ?_|refine x_passNow (wants_no rfl rfl rfl ?_) rfl ?_ ?_);(focus(first|rfl|assumption|(simp;done)|(simp;omega)));(focus(first|exact St.refl _|assumption)))|((first|refine x_pass (wants_not rfl rfl rfl) rfl ?_ ?_|refine x_passNow (wants_not rfl rfl rfl) rfl ?_ ?_);(focus(first|exact St.refl _|assumption)))|((first|apply x_s|apply x_n);(focus(first|(constructor<;>first|rfl|omega)|(apply Ri.add3<;>first|rfl|omega)|(apply Ri.sub3<;>first|rfl|omega)|(apply Ri.conv3<;>first|rfl|omega)|(apply Ri.eqb<;>rfl)|(apply Ri.neb<;>rfl)|(apply Ri.pT;(focus rfl);(focus(first|rfl|assumption|(simp;done)|(simp;omega)));(focus rfl))|(apply Ri.pF;(focus rfl);(focus(first|rfl|assumption|(simp;done)|(simp;omega)));(focus rfl))));(focus(first|exact wants_none rfl|exact wants_yes rfl rfl rfl (by first|rfl|assumption|(simp;done)|(simp;omega))));(focus rfl);(focus(first|exact St.refl _|assumption)))))
  refine d_open rfl ?_; refine x_still (r_load rfl q9b0) (wants_yes rfl rfl rfl (by first | rfl | assumption | (simp; done) | (simp; omega))) rfl (by first | exact St.refl _ | assumption) ?_
  refine d_open rfl ?_; refine x_still (r_index rfl rfl rfl (by omega) (by omega)) (wants_yes rfl rfl rfl (by first | rfl | assumption | (simp; done) | (simp; omega))) rfl (by first | exact St.refl _ | assumption) ?_
  refine d_open rfl ?_; refine x_still (r_load rfl (by rw [Int.toNat_natCast]; exact kk9.cell (p := ad0.add (bi * 1)) rb1 id)) (wants_yes rfl rfl rfl (by first | rfl | assumption | (simp; done) | (simp; omega))) rfl (by first | exact St.refl _ | assumption) ?_
  repeat(first|refine d_nil ?_|(refine d_open rfl ?_;first|((first|refine x_pass (wants_no rfl rfl rfl ?_) rfl ?_ ?_|refine x_passNow (wants_no rfl rfl rfl ?_) rfl ?_ ?_);(focus(first|rfl|assumption|(simp;done)|(simp;omega)));(focus(first|exact St.refl _|assumption)))|((first|refine x_pass (wants_not rfl rfl rfl) rfl ?_ ?_|refine x_passNow (wants_not rfl rfl rfl) rfl ?_ ?_);(focus(first|exact St.refl _|assumption)))|((first|apply x_s|apply x_n);(focus(first|(constructor<;>first|rfl|omega)|(apply Ri.add3<;>first|rfl|omega)|(apply Ri.sub3<;>first|rfl|omega)|(apply Ri.conv3<;>first|rfl|omega)|(apply Ri.eqb<;>rfl)|(apply Ri.neb<;>rfl)|(apply Ri.pT;(focus rfl);(focus(first|rfl|assumption|(simp;done)|(simp;omega)));(focus rfl))|(apply Ri.pF;(focus rfl);(focus(first|rfl|assumption|(simp;done)|(simp;omega)));(focus rfl))));(focus(first|exact wants_none rfl|exact wants_yes rfl rfl rfl (by first|rfl|assumption|(simp;done)|(simp;omega))));(focus rfl);(focus(first|exact St.refl _|assumption)))))
  refine d_open rfl ?_; refine x_still (r_load rfl q9b1) (wants_yes rfl rfl rfl (by first | rfl | assumption | (simp; done) | (simp; omega))) rfl (by first | exact St.refl _ | assumption) ?_
  refine d_open rfl ?_; refine x_still (r_index rfl rfl rfl (by omega) (by omega)) (wants_yes rfl rfl rfl (by first | rfl | assumption | (simp; done) | (simp; omega))) rfl (by first | exact St.refl _ | assumption) ?_
  refine d_open rfl ?_; refine x_still (r_load rfl (by rw [Int.toNat_natCast]; exact kk9.cell (p := A2.add (bk * 1)) rb2 id)) (wants_yes rfl rfl rfl (by first | rfl | assumption | (simp; done) | (simp; omega))) rfl (by first | exact St.refl _ | assumption) ?_
  repeat(first|refine d_nil ?_|(refine d_open rfl ?_;first|((first|refine x_pass (wants_no rfl rfl rfl ?_) rfl ?_ ?_|refine x_passNow (wants_no rfl rfl rfl ?_) rfl ?_ ?_);(focus(first|rfl|assumption|(simp;done)|(simp;omega)));(focus(first|exact St.refl _|assumption)))|((first|refine x_pass (wants_not rfl rfl rfl) rfl ?_ ?_|refine x_passNow (wants_not rfl rfl rfl) rfl ?_ ?_);(focus(first|exact St.refl _|assumption)))|((first|apply x_s|apply x_n);(focus(first|(constructor<;>first|rfl|omega)|(apply Ri.add3<;>first|rfl|omega)|(apply Ri.sub3<;>first|rfl|omega)|(apply Ri.conv3<;>first|rfl|omega)|(apply Ri.eqb<;>rfl)|(apply Ri.neb<;>rfl)|(apply Ri.pT;(focus rfl);(focus(first|rfl|assumption|(simp;done)|(simp;omega)));(focus rfl))|(apply Ri.pF;(focus rfl);(focus(first|rfl|assumption|(simp;done)|(simp;omega)));(focus rfl))));(focus(first|exact wants_none rfl|exact wants_yes rfl rfl rfl (by first|rfl|assumption|(simp;done)|(simp;omega))));(focus rfl);(focus(first|exact St.refl _|assumption)))))
  refine k_no rfl (by simp) ?_
  repeat(first|refine o_nil ?_|(refine o_pass (wants_no rfl rfl rfl ?_) rfl ?_;(focus(first|rfl|assumption|(simp;done)|(simp;omega))))|refine o_pass (wants_not rfl rfl rfl) rfl ?_|(refine o_yes (wants_yes rfl rfl rfl ?_) ?_;(focus(first|rfl|assumption|(simp;done)|(simp;omega))))|refine k_region ?_|(apply k_go;(focus(constructor<;>rfl)))|refine d_nil ?_|(apply o_s;(focus(first|(constructor<;>first|rfl|omega)|(apply Ri.add3<;>first|rfl|omega)|(apply Ri.sub3<;>first|rfl|omega)|(apply Ri.conv3<;>first|rfl|omega)|(apply Ri.eqb<;>rfl)|(apply Ri.neb<;>rfl)|(apply Ri.pT;(focus rfl);(focus(first|rfl|assumption|(simp;done)|(simp;omega)));(focus rfl))|(apply Ri.pF;(focus rfl);(focus(first|rfl|assumption|(simp;done)|(simp;omega)));(focus rfl))));(focus rfl)))
  have kkd : Kn W wd := kk9.trans kad
  refine o_enter (n_call rfl) (wants_none rfl) rfl ((places_calls (Kn.sl kkd h) hs0).mono ?_)
  rintro _ we ⟨ke, Ae, ce, rfl, hOe⟩
  have kke : Kn W we := kkd.trans ke
  have fa := (kad.trans ke).blk da id
  have fb := (kad.trans ke).blk db id
  have hSe := hOe.sl
  have hPl := hSe.len_eq.2.2.len
  clear hOe ke kkd kad kac kab kd kc kb ka sa sb sc sd da db d4
  repeat(first|refine o_nil ?_|(refine o_pass (wants_no rfl rfl rfl ?_) rfl ?_;(focus(first|rfl|assumption|(simp;done)|(simp;omega))))|refine o_pass (wants_not rfl rfl rfl) rfl ?_|(refine o_yes (wants_yes rfl rfl rfl ?_) ?_;(focus(first|rfl|assumption|(simp;done)|(simp;omega))))|refine k_region ?_|(apply k_go;(focus(constructor<;>rfl)))|refine d_nil ?_|(apply o_s;(focus(first|(constructor<;>first|rfl|omega)|(apply Ri.add3<;>first|rfl|omega)|(apply Ri.sub3<;>first|rfl|omega)|(apply Ri.conv3<;>first|rfl|omega)|(apply Ri.eqb<;>rfl)|(apply Ri.neb<;>rfl)|(apply Ri.pT;(focus rfl);(focus(first|rfl|assumption|(simp;done)|(simp;omega)));(focus rfl))|(apply Ri.pF;(focus rfl);(focus(first|rfl|assumption|(simp;done)|(simp;omega)));(focus rfl))));(focus rfl)))
  have hS := fun {j : Nat} {q' : Ps} (hq : (placesTo l l.length)[j]? = some q') => sumP_succ (o := o) (s := s) hq
  have hpl2 : ∀ q' ∈ placesTo l l.length, At l q' := fun q' hq => places_at hq
  have hSlo : ∀ j, j ≤ (placesTo l l.length).length → -(j : Int) ≤ sumP l o s j ∧ sumP l o s j ≤ j := by
    intro j
    induction j with
    | zero => intro _; show -0 ≤ (0 : Int) ∧ (0 : Int) ≤ 0; omega
    | succ j ih =>
      intro hj
      have := hS (List.getElem?_eq_getElem (show j < (placesTo l l.length).length by omega))
      have e2 := vp_lo l o s ((placesTo l l.length)[j]'(by omega))
      have := ih (by omega)
      omega
  have hab2 : ∀ {j : Nat} {q' : Ps}, (placesTo l l.length)[j]? = some q' → aheadM q' ((ai : Int), (ak : Int)) = decide (j < ia) ∧ aheadM ((bi : Int), (bk : Int)) q' = decide (ib < j) := fun hq => ⟨places_ahead hq pa, places_ahead pb hq⟩
  generalize hP : placesTo l l.length = P at *
  generalize sumP l o s = S at *
  refine k_while (S := BrSt) (fun st => P.length - st.u) (fun st => [(0, .slice (some ad0) l.length c), (7, .int .i32 o), (8, .int .i32 s), (9, .pointer (some ⟨g9, 0, none⟩)), (10, .pointer (some ⟨g10, 0, none⟩)), (13, .slice Ae P.length ce), (14, .int .i64 (if st.u ≤ ia then 0 else if st.u ≤ ib + 1 then S st.u - S ia else 0)), (15, .int .i64 st.u)])
    (fun st wr => wr = st.w ∧ Kn we st.w ∧ st.u ≤ P.length) ⟨0, we⟩ (by repeat (first | exact SubB.nil | refine SubB.cons rfl ?_)) ⟨rfl, Kp.refl _ _, Nat.zero_le _⟩ ?_
  rintro ⟨u, w0⟩ wr ⟨rfl, hkn, hu⟩ ih
  simp only at hkn hu ih ⊢
  have hmN := hmt.bN
  repeat(first|refine o_nil ?_|(refine o_pass (wants_no rfl rfl rfl ?_) rfl ?_;(focus(first|rfl|assumption|(simp;done)|(simp;omega))))|refine o_pass (wants_not rfl rfl rfl) rfl ?_|(refine o_yes (wants_yes rfl rfl rfl ?_) ?_;(focus(first|rfl|assumption|(simp;done)|(simp;omega))))|refine k_region ?_|(apply k_go;(focus(constructor<;>rfl)))|refine d_nil ?_|(apply o_s;(focus(first|(constructor<;>first|rfl|omega)|(apply Ri.add3<;>first|rfl|omega)|(apply Ri.sub3<;>first|rfl|omega)|(apply Ri.conv3<;>first|rfl|omega)|(apply Ri.eqb<;>rfl)|(apply Ri.neb<;>rfl)|(apply Ri.pT;(focus rfl);(focus(first|rfl|assumption|(simp;done)|(simp;omega)));(focus rfl))|(apply Ri.pF;(focus rfl);(focus(first|rfl|assumption|(simp;done)|(simp;omega)));(focus rfl))));(focus rfl)))
  refine k_ite rfl (fun hlt => ?_) (fun hge => ?_)
  case refine_2 =>
    obtain rfl : u = P.length := by omega
    have hz : (if P.length ≤ ia then 0 else if P.length ≤ ib + 1 then S P.length - S ia else 0) = 0 := by
      rw [if_neg (by omega)]
      by_cases he : P.length ≤ ib + 1
      · rw [if_pos he, show P.length = ib + 1 by omega, hmt.end_]; omega
      · rw [if_neg he]
    rw [hz]
    repeat(first|refine o_nil ?_|(refine o_pass (wants_no rfl rfl rfl ?_) rfl ?_;(focus(first|rfl|assumption|(simp;done)|(simp;omega))))|refine o_pass (wants_not rfl rfl rfl) rfl ?_|(refine o_yes (wants_yes rfl rfl rfl ?_) ?_;(focus(first|rfl|assumption|(simp;done)|(simp;omega))))|refine k_region ?_|(apply k_go;(focus(constructor<;>rfl)))|refine d_nil ?_|(apply o_s;(focus(first|(constructor<;>first|rfl|omega)|(apply Ri.add3<;>first|rfl|omega)|(apply Ri.sub3<;>first|rfl|omega)|(apply Ri.conv3<;>first|rfl|omega)|(apply Ri.eqb<;>rfl)|(apply Ri.neb<;>rfl)|(apply Ri.pT;(focus rfl);(focus(first|rfl|assumption|(simp;done)|(simp;omega)));(focus rfl))|(apply Ri.pF;(focus rfl);(focus(first|rfl|assumption|(simp;done)|(simp;omega)));(focus rfl))));(focus rfl)))
    refine o_enter (n_call rfl) (wants_none rfl) rfl ((awake_calls).mono ?_)
    rintro _ wz ⟨kz, rfl⟩
    repeat(first|refine o_nil ?_|(refine o_pass (wants_no rfl rfl rfl ?_) rfl ?_;(focus(first|rfl|assumption|(simp;done)|(simp;omega))))|refine o_pass (wants_not rfl rfl rfl) rfl ?_|(refine o_yes (wants_yes rfl rfl rfl ?_) ?_;(focus(first|rfl|assumption|(simp;done)|(simp;omega))))|refine k_region ?_|(apply k_go;(focus(constructor<;>rfl)))|refine d_nil ?_|(apply o_s;(focus(first|(constructor<;>first|rfl|omega)|(apply Ri.add3<;>first|rfl|omega)|(apply Ri.sub3<;>first|rfl|omega)|(apply Ri.conv3<;>first|rfl|omega)|(apply Ri.eqb<;>rfl)|(apply Ri.neb<;>rfl)|(apply Ri.pT;(focus rfl);(focus(first|rfl|assumption|(simp;done)|(simp;omega)));(focus rfl))|(apply Ri.pF;(focus rfl);(focus(first|rfl|assumption|(simp;done)|(simp;omega)));(focus rfl))));(focus rfl)))
    exact k_ret1 rfl rfl ⟨rfl, (kke.trans hkn).trans kz⟩
  have hul : u < P.length := by omega
  obtain ⟨q', hq'⟩ : ∃ q', P[u]? = some q' := ⟨_, List.getElem?_eq_getElem hul⟩
  obtain ⟨ha1, ha2⟩ := hab2 hq'
  have hSu := hS hq'
  have hb1 := hSlo u (by omega)
  have hb2 := hSlo ia (by omega)
  have hb3 := hSlo (u + 1) (by omega)
  obtain ⟨i, k, hi, hqe, hk⟩ := at_nat (hpl2 q' (List.mem_of_getElem? hq'))
  subst hqe
  have hre : vp l o s ((i : Int), (k : Int)) = 0 ∨ k < l[i].length := by
    rcases hk with ⟨h0, -⟩ | hk
    · exact .inl (vp_empty (by rw [getD_get hi]; exact h0) _)
    · exact .inr hk
  obtain ⟨Aw, ri, hrow, hrl, ad0', hAA, hr0⟩ := row i hi
  cases hAA
  obtain ⟨adP, csP, rfl, ⟨cx, cy, rfl, ⟨rfl, -⟩, ⟨rfl, -⟩⟩, hcP⟩ := hSe.at_ hq'
  have kq : Kn W wr := kke.trans hkn
  have hNu : ∀ n, n = (if u ≤ ia then 0 else if u ≤ ib + 1 then S u - S ia else 0) → -100000 ≤ n ∧ n ≤ 100000 := by
    intro n hn
    have : P.length ≤ 4000 := (by rw [← hP]; exact Nat.le_trans (placesTo_le l.length (Nat.le_refl _)) (by rw [List.take_length]; exact hs0))
    rw [hn]
    split
    · omega
    · split <;> omega
  have go : ∀ wx, Kn we wx → ∀ n, n = (if u + 1 ≤ ia then 0 else if u + 1 ≤ ib + 1 then S (u + 1) - S ia else 0) → ∀ σ', SubB σ' [(0, .slice (some ad0) l.length c), (7, .int .i32 o), (8, .int .i32 s), (9, .pointer (some ⟨g9, 0, none⟩)), (10, .pointer (some ⟨g10, 0, none⟩)), (13, .slice (some adP) P.length ce), (14, .int .i64 n), (15, .int .i64 ((u : Int) + 1))] → _ :=
    fun wx kx n hn σ' hs => ih ⟨u + 1, wx⟩ wx ⟨rfl, kx, by show u + 1 ≤ _; omega⟩ (by show P.length - (u + 1) < P.length - u; omega) σ' (by rw [← hn]; exact hs)
  have hnn := hNu _ rfl
  have hstep : vp l o s ((i : Int), (k : Int)) = 0 ∨ u < ia ∨ ib < u → (if u ≤ ia then (0 : Int) else if u ≤ ib + 1 then S u - S ia else 0) = (if u + 1 ≤ ia then 0 else if u + 1 ≤ ib + 1 then S (u + 1) - S ia else 0) := by
    intro hh
    have he := hmt.end_
    by_cases h1 : u < ia
    · rw [if_pos (show u ≤ ia by omega), if_pos (show u + 1 ≤ ia by omega)]
    · by_cases h2 : u = ia
      · subst h2
        have h0 : vp l o s ((i : Int), (k : Int)) = 0 := by omega
        rw [if_pos (Nat.le_refl _), if_neg (show ¬ u + 1 ≤ u by omega), if_pos (show u + 1 ≤ ib + 1 by omega)]
        omega
      · rw [if_neg (show ¬ u ≤ ia by omega), if_neg (show ¬ u + 1 ≤ ia by omega)]
        by_cases h3 : u ≤ ib
        · rw [if_pos (show u ≤ ib + 1 by omega), if_pos (show u + 1 ≤ ib + 1 by omega)]; omega
        · rw [if_neg (show ¬ u + 1 ≤ ib + 1 by omega)]
          by_cases h4 : u ≤ ib + 1
          · rw [if_pos h4, show u = ib + 1 by omega, he]; omega
          · rw [if_neg h4]
  have hin2 : ia ≤ u → u ≤ ib → (if u ≤ ia then (0 : Int) else if u ≤ ib + 1 then S u - S ia else 0) = S u - S ia ∧ (if u + 1 ≤ ia then (0 : Int) else if u + 1 ≤ ib + 1 then S (u + 1) - S ia else 0) = S (u + 1) - S ia := by
    intro h1 h2
    refine ⟨?_, by rw [if_neg (show ¬ u + 1 ≤ ia by omega), if_pos (show u + 1 ≤ ib + 1 by omega)]⟩
    by_cases h3 : u = ia
    · subst h3; rw [if_pos (Nat.le_refl _)]; omega
    · rw [if_neg (show ¬ u ≤ ia by omega), if_pos (show u ≤ ib + 1 by omega)]
  generalize (if u ≤ ia then (0 : Int) else if u ≤ ib + 1 then S u - S ia else 0) = n at *
  generalize hn1 : (if u + 1 ≤ ia then (0 : Int) else if u + 1 ≤ ib + 1 then S (u + 1) - S ia else 0) = n1 at *
  repeat(first|refine o_nil ?_|(refine o_pass (wants_no rfl rfl rfl ?_) rfl ?_;(focus(first|rfl|assumption|(simp;done)|(simp;omega))))|refine o_pass (wants_not rfl rfl rfl) rfl ?_|(refine o_yes (wants_yes rfl rfl rfl ?_) ?_;(focus(first|rfl|assumption|(simp;done)|(simp;omega))))|refine k_region ?_|(apply k_go;(focus(constructor<;>rfl)))|refine d_nil ?_|(apply o_s;(focus(first|(constructor<;>first|rfl|omega)|(apply Ri.add3<;>first|rfl|omega)|(apply Ri.sub3<;>first|rfl|omega)|(apply Ri.conv3<;>first|rfl|omega)|(apply Ri.eqb<;>rfl)|(apply Ri.neb<;>rfl)|(apply Ri.pT;(focus rfl);(focus(first|rfl|assumption|(simp;done)|(simp;omega)));(focus rfl))|(apply Ri.pF;(focus rfl);(focus(first|rfl|assumption|(simp;done)|(simp;omega)));(focus rfl))));(focus rfl)))
  refine o_still (r_index rfl rfl rfl (by omega) (by omega)) (wants_none rfl) rfl ?_
  refine o_still (r_loadA (cs := [.int .i64 i, .int .i64 k]) rfl rfl (by intro j z hz; rw [add_add, Int.toNat_natCast]; exact hkn.cell (hcP j z hz) id)) (wants_none rfl) rfl ?_
  refine o_any (e_alloc) (wants_none rfl) rfl ?_
  rintro _ wr1 ⟨g16, rfl, n16⟩
  refine o_unit (u_storeA (new := [.int .i64 i, .int .i64 k]) rfl rfl rfl (by simp [Value.oneCell']) rfl n16.at_ (Nat.le_refl 2)) (wants_none rfl) rfl ?_
  rintro wr2 hwr2
  have e16 := n16.ge
  have kr2 : Kn we wr2 := Kp.then (hkn.trans n16.kn) hwr2.kp (fun _ h => h) fun i hi he => by have := hkn.size; omega
  have b16 : wr2.heap[g16]? = some (cl [.int .i64 i, .int .i64 k] 24) := hwr2.at_
  clear hwr2 n16 e16
  have fa2 := kr2.blk fa id
  have fb2 := kr2.blk fb id
  repeat(first|refine o_nil ?_|(refine o_pass (wants_no rfl rfl rfl ?_) rfl ?_;(focus(first|rfl|assumption|(simp;done)|(simp;omega))))|refine o_pass (wants_not rfl rfl rfl) rfl ?_|(refine o_yes (wants_yes rfl rfl rfl ?_) ?_;(focus(first|rfl|assumption|(simp;done)|(simp;omega))))|refine k_region ?_|(apply k_go;(focus(constructor<;>rfl)))|refine d_nil ?_|(apply o_s;(focus(first|(constructor<;>first|rfl|omega)|(apply Ri.add3<;>first|rfl|omega)|(apply Ri.sub3<;>first|rfl|omega)|(apply Ri.conv3<;>first|rfl|omega)|(apply Ri.eqb<;>rfl)|(apply Ri.neb<;>rfl)|(apply Ri.pT;(focus rfl);(focus(first|rfl|assumption|(simp;done)|(simp;omega)));(focus rfl))|(apply Ri.pF;(focus rfl);(focus(first|rfl|assumption|(simp;done)|(simp;omega)));(focus rfl))));(focus rfl)))
  refine o_still (r_loadA (cs := [.int .i64 i, .int .i64 k]) rfl rfl (blk_all b16)) (wants_none rfl) rfl ?_
  refine o_still (r_loadA (cs := [.int .i64 ai, .int .i64 ak]) rfl rfl (blk_all fa2)) (wants_none rfl) rfl ?_
  refine o_enter (n_call rfl) (wants_none rfl) rfl ((ahead_calls (p := ((i : Int), (k : Int))) (q := ((ai : Int), (ak : Int)))).mono ?_)
  rintro _ wr3 ⟨k3, rfl⟩
  rw [ha1]
  have kr3 : Kn we wr3 := kr2.trans k3
  have b163 := k3.blk b16 id
  by_cases hu1 : u < ia
  · rw [decide_eq_true hu1]
    repeat(first|refine o_nil ?_|(refine o_pass (wants_no rfl rfl rfl ?_) rfl ?_;(focus(first|rfl|assumption|(simp;done)|(simp;omega))))|refine o_pass (wants_not rfl rfl rfl) rfl ?_|(refine o_yes (wants_yes rfl rfl rfl ?_) ?_;(focus(first|rfl|assumption|(simp;done)|(simp;omega))))|refine k_region ?_|(apply k_go;(focus(constructor<;>rfl)))|refine d_nil ?_|(apply o_s;(focus(first|(constructor<;>first|rfl|omega)|(apply Ri.add3<;>first|rfl|omega)|(apply Ri.sub3<;>first|rfl|omega)|(apply Ri.conv3<;>first|rfl|omega)|(apply Ri.eqb<;>rfl)|(apply Ri.neb<;>rfl)|(apply Ri.pT;(focus rfl);(focus(first|rfl|assumption|(simp;done)|(simp;omega)));(focus rfl))|(apply Ri.pF;(focus rfl);(focus(first|rfl|assumption|(simp;done)|(simp;omega)));(focus rfl))));(focus rfl)))
    refine k_true rfl ?_
    repeat(first|refine o_nil ?_|(refine o_pass (wants_no rfl rfl rfl ?_) rfl ?_;(focus(first|rfl|assumption|(simp;done)|(simp;omega))))|refine o_pass (wants_not rfl rfl rfl) rfl ?_|(refine o_yes (wants_yes rfl rfl rfl ?_) ?_;(focus(first|rfl|assumption|(simp;done)|(simp;omega))))|refine k_region ?_|(apply k_go;(focus(constructor<;>rfl)))|refine d_nil ?_|(apply o_s;(focus(first|(constructor<;>first|rfl|omega)|(apply Ri.add3<;>first|rfl|omega)|(apply Ri.sub3<;>first|rfl|omega)|(apply Ri.conv3<;>first|rfl|omega)|(apply Ri.eqb<;>rfl)|(apply Ri.neb<;>rfl)|(apply Ri.pT;(focus rfl);(focus(first|rfl|assumption|(simp;done)|(simp;omega)));(focus rfl))|(apply Ri.pF;(focus rfl);(focus(first|rfl|assumption|(simp;done)|(simp;omega)));(focus rfl))));(focus rfl)))
    exact go wr3 kr3 _ (hstep (.inr (.inl hu1))) _ (by repeat (first | exact SubB.nil | refine SubB.cons rfl ?_))
  rw [decide_eq_false hu1]
  repeat(first|refine o_nil ?_|(refine o_pass (wants_no rfl rfl rfl ?_) rfl ?_;(focus(first|rfl|assumption|(simp;done)|(simp;omega))))|refine o_pass (wants_not rfl rfl rfl) rfl ?_|(refine o_yes (wants_yes rfl rfl rfl ?_) ?_;(focus(first|rfl|assumption|(simp;done)|(simp;omega))))|refine k_region ?_|(apply k_go;(focus(constructor<;>rfl)))|refine d_nil ?_|(apply o_s;(focus(first|(constructor<;>first|rfl|omega)|(apply Ri.add3<;>first|rfl|omega)|(apply Ri.sub3<;>first|rfl|omega)|(apply Ri.conv3<;>first|rfl|omega)|(apply Ri.eqb<;>rfl)|(apply Ri.neb<;>rfl)|(apply Ri.pT;(focus rfl);(focus(first|rfl|assumption|(simp;done)|(simp;omega)));(focus rfl))|(apply Ri.pF;(focus rfl);(focus(first|rfl|assumption|(simp;done)|(simp;omega)));(focus rfl))));(focus rfl)))
  refine o_still (r_loadA (cs := [.int .i64 bi, .int .i64 bk]) rfl rfl (blk_all (k3.blk fb2 id))) (wants_none rfl) rfl ?_
  refine o_still (r_loadA (cs := [.int .i64 i, .int .i64 k]) rfl rfl (blk_all b163)) (wants_yes rfl rfl rfl (by first | rfl | assumption | (simp; done) | (simp; omega))) rfl ?_
  refine o_enter (n_call rfl) (wants_yes rfl rfl rfl (by first | rfl | assumption | (simp; done) | (simp; omega))) rfl ((ahead_calls (p := ((bi : Int), (bk : Int))) (q := ((i : Int), (k : Int)))).mono ?_)
  rintro _ wr4 ⟨k4, rfl⟩
  rw [ha2]
  have kr4 : Kn we wr4 := kr3.trans k4
  have b164 := k4.blk b163 id
  by_cases hu2 : ib < u
  · rw [decide_eq_true hu2]
    repeat(first|refine o_nil ?_|(refine o_pass (wants_no rfl rfl rfl ?_) rfl ?_;(focus(first|rfl|assumption|(simp;done)|(simp;omega))))|refine o_pass (wants_not rfl rfl rfl) rfl ?_|(refine o_yes (wants_yes rfl rfl rfl ?_) ?_;(focus(first|rfl|assumption|(simp;done)|(simp;omega))))|refine k_region ?_|(apply k_go;(focus(constructor<;>rfl)))|refine d_nil ?_|(apply o_s;(focus(first|(constructor<;>first|rfl|omega)|(apply Ri.add3<;>first|rfl|omega)|(apply Ri.sub3<;>first|rfl|omega)|(apply Ri.conv3<;>first|rfl|omega)|(apply Ri.eqb<;>rfl)|(apply Ri.neb<;>rfl)|(apply Ri.pT;(focus rfl);(focus(first|rfl|assumption|(simp;done)|(simp;omega)));(focus rfl))|(apply Ri.pF;(focus rfl);(focus(first|rfl|assumption|(simp;done)|(simp;omega)));(focus rfl))));(focus rfl)))
    refine k_true rfl ?_
    repeat(first|refine o_nil ?_|(refine o_pass (wants_no rfl rfl rfl ?_) rfl ?_;(focus(first|rfl|assumption|(simp;done)|(simp;omega))))|refine o_pass (wants_not rfl rfl rfl) rfl ?_|(refine o_yes (wants_yes rfl rfl rfl ?_) ?_;(focus(first|rfl|assumption|(simp;done)|(simp;omega))))|refine k_region ?_|(apply k_go;(focus(constructor<;>rfl)))|refine d_nil ?_|(apply o_s;(focus(first|(constructor<;>first|rfl|omega)|(apply Ri.add3<;>first|rfl|omega)|(apply Ri.sub3<;>first|rfl|omega)|(apply Ri.conv3<;>first|rfl|omega)|(apply Ri.eqb<;>rfl)|(apply Ri.neb<;>rfl)|(apply Ri.pT;(focus rfl);(focus(first|rfl|assumption|(simp;done)|(simp;omega)));(focus rfl))|(apply Ri.pF;(focus rfl);(focus(first|rfl|assumption|(simp;done)|(simp;omega)));(focus rfl))));(focus rfl)))
    exact go wr4 kr4 _ (hstep (.inr (.inr hu2))) _ (by repeat (first | exact SubB.nil | refine SubB.cons rfl ?_))
  rw [decide_eq_false hu2]
  obtain ⟨hn2, hn3⟩ := hin2 (by omega) (by omega)
  have q0 : wr4.cell? ⟨g16, 0, none⟩ = some (.int .i64 i) := blk_cell b164
  have q1 : wr4.cell? ⟨g16, 1, none⟩ = some (.int .i64 k) := blk_cell b164
  have r0 : wr4.cell? (ad0.add (i * 1)) = some (.slice Aw l[i].length ri) := (kke.trans kr4).cell (p := ad0.add (i * 1)) hr0 id
  repeat(first|refine o_nil ?_|(refine o_pass (wants_no rfl rfl rfl ?_) rfl ?_;(focus(first|rfl|assumption|(simp;done)|(simp;omega))))|refine o_pass (wants_not rfl rfl rfl) rfl ?_|(refine o_yes (wants_yes rfl rfl rfl ?_) ?_;(focus(first|rfl|assumption|(simp;done)|(simp;omega))))|refine k_region ?_|(apply k_go;(focus(constructor<;>rfl)))|refine d_nil ?_|(apply o_s;(focus(first|(constructor<;>first|rfl|omega)|(apply Ri.add3<;>first|rfl|omega)|(apply Ri.sub3<;>first|rfl|omega)|(apply Ri.conv3<;>first|rfl|omega)|(apply Ri.eqb<;>rfl)|(apply Ri.neb<;>rfl)|(apply Ri.pT;(focus rfl);(focus(first|rfl|assumption|(simp;done)|(simp;omega)));(focus rfl))|(apply Ri.pF;(focus rfl);(focus(first|rfl|assumption|(simp;done)|(simp;omega)));(focus rfl))));(focus rfl)))
  refine o_still (r_load rfl q0) (wants_none rfl) rfl ?_
  refine o_still (r_index rfl rfl rfl (by omega) (by omega)) (wants_yes rfl rfl rfl (by first | rfl | assumption | (simp; done) | (simp; omega))) rfl ?_
  refine o_still (r_load rfl (by rw [Int.toNat_natCast]; exact r0)) (wants_yes rfl rfl rfl (by first | rfl | assumption | (simp; done) | (simp; omega))) rfl ?_
  repeat(first|refine o_nil ?_|(refine o_pass (wants_no rfl rfl rfl ?_) rfl ?_;(focus(first|rfl|assumption|(simp;done)|(simp;omega))))|refine o_pass (wants_not rfl rfl rfl) rfl ?_|(refine o_yes (wants_yes rfl rfl rfl ?_) ?_;(focus(first|rfl|assumption|(simp;done)|(simp;omega))))|refine k_region ?_|(apply k_go;(focus(constructor<;>rfl)))|refine d_nil ?_|(apply o_s;(focus(first|(constructor<;>first|rfl|omega)|(apply Ri.add3<;>first|rfl|omega)|(apply Ri.sub3<;>first|rfl|omega)|(apply Ri.conv3<;>first|rfl|omega)|(apply Ri.eqb<;>rfl)|(apply Ri.neb<;>rfl)|(apply Ri.pT;(focus rfl);(focus(first|rfl|assumption|(simp;done)|(simp;omega)));(focus rfl))|(apply Ri.pF;(focus rfl);(focus(first|rfl|assumption|(simp;done)|(simp;omega)));(focus rfl))));(focus rfl)))
  by_cases hx0 : l[i].length = 0
  · refine k_yes rfl (by omega) ?_
    repeat(first|refine o_nil ?_|(refine o_pass (wants_no rfl rfl rfl ?_) rfl ?_;(focus(first|rfl|assumption|(simp;done)|(simp;omega))))|refine o_pass (wants_not rfl rfl rfl) rfl ?_|(refine o_yes (wants_yes rfl rfl rfl ?_) ?_;(focus(first|rfl|assumption|(simp;done)|(simp;omega))))|refine k_region ?_|(apply k_go;(focus(constructor<;>rfl)))|refine d_nil ?_|(apply o_s;(focus(first|(constructor<;>first|rfl|omega)|(apply Ri.add3<;>first|rfl|omega)|(apply Ri.sub3<;>first|rfl|omega)|(apply Ri.conv3<;>first|rfl|omega)|(apply Ri.eqb<;>rfl)|(apply Ri.neb<;>rfl)|(apply Ri.pT;(focus rfl);(focus(first|rfl|assumption|(simp;done)|(simp;omega)));(focus rfl))|(apply Ri.pF;(focus rfl);(focus(first|rfl|assumption|(simp;done)|(simp;omega)));(focus rfl))));(focus rfl)))
    exact go wr4 kr4 _ (hstep (.inl (hre.resolve_right (by omega)))) _ (by repeat (first | exact SubB.nil | refine SubB.cons rfl ?_))
  refine k_no rfl (by omega) ?_
  have hkl : k < l[i].length := by omega
  have hvn := vp_nat (o := o) (s := s) hi hkl
  obtain ⟨ad2, cs2, rfl, ⟨rfl, -⟩, hcell2⟩ := hrow.at_ (List.getElem?_eq_getElem hkl)
  have rr : wr4.cell? (ad2.add (k * 1)) = some (.int .i32 l[i][k]) := (kke.trans kr4).cell (p := ad2.add (k * 1)) (hcell2 0 _ rfl) id
  have hin3 : u < ib → 1 ≤ n1 := fun h => by have := hmt.in_ (u + 1) (by omega) (by omega); omega
  have hend3 : u = ib → n1 = 0 ∧ i = bi ∧ k = bk := by
    rintro rfl
    have he := hmt.end_
    rw [pb] at hq'
    simp only [Option.some.injEq, Prod.mk.injEq] at hq'
    omega
  have fin : ∀ σ', SubB σ' [(0, .slice (some ad0) l.length c), (7, .int .i32 o), (8, .int .i32 s), (9, .pointer (some ⟨g9, 0, none⟩)), (10, .pointer (some ⟨g10, 0, none⟩)), (13, .slice (some adP) P.length ce), (14, .int .i64 n1), (15, .int .i64 (u : Int)), (16, .pointer (some ⟨g16, 0, none⟩))] →
      WK Try.prog Try.f6 [.code (bodyC Try.f6 [1, 1, 1, 1, 1, 1, 1, 1, 1, 0, 1, 0, 0, 1, 0, 0, 1, 1, 1, 1]), .inBlock 1, .code (bodyC Try.f6 [1, 1, 1, 1, 1, 1, 1, 1, 1, 0, 1, 0, 0, 1, 1]), .inLoop (bodyC Try.f6 [1, 1, 1, 1, 1, 1, 1, 1, 1, 0, 1, 0, 0]), .inBlock 0, .code (bodyC Try.f6 [1, 1, 1, 1, 1, 1, 1, 1, 1, 1])] σ' wr4 fun r w' => r = .bool true ∧ Kn W w' := by
    intro σ' hs
    refine WK.sub (Sub.mk hs) ?_
    clear hs σ'
    repeat(first|refine o_nil ?_|(refine o_pass (wants_no rfl rfl rfl ?_) rfl ?_;(focus(first|rfl|assumption|(simp;done)|(simp;omega))))|refine o_pass (wants_not rfl rfl rfl) rfl ?_|(refine o_yes (wants_yes rfl rfl rfl ?_) ?_;(focus(first|rfl|assumption|(simp;done)|(simp;omega))))|refine k_region ?_|(apply k_go;(focus(constructor<;>rfl)))|refine d_nil ?_|(apply o_s;(focus(first|(constructor<;>first|rfl|omega)|(apply Ri.add3<;>first|rfl|omega)|(apply Ri.sub3<;>first|rfl|omega)|(apply Ri.conv3<;>first|rfl|omega)|(apply Ri.eqb<;>rfl)|(apply Ri.neb<;>rfl)|(apply Ri.pT;(focus rfl);(focus(first|rfl|assumption|(simp;done)|(simp;omega)));(focus rfl))|(apply Ri.pF;(focus rfl);(focus(first|rfl|assumption|(simp;done)|(simp;omega)));(focus rfl))));(focus rfl)))
    by_cases hub : u = ib
    · obtain ⟨hn0, rfl, rfl⟩ := hend3 hub
      have hn00 : ¬ n1 < 0 := by omega
      repeat(first|refine o_nil ?_|(refine o_pass (wants_no rfl rfl rfl ?_) rfl ?_;(focus(first|rfl|assumption|(simp;done)|(simp;omega))))|refine o_pass (wants_not rfl rfl rfl) rfl ?_|(refine o_yes (wants_yes rfl rfl rfl ?_) ?_;(focus(first|rfl|assumption|(simp;done)|(simp;omega))))|refine k_region ?_|(apply k_go;(focus(constructor<;>rfl)))|refine d_nil ?_|(apply o_s;(focus(first|(constructor<;>first|rfl|omega)|(apply Ri.add3<;>first|rfl|omega)|(apply Ri.sub3<;>first|rfl|omega)|(apply Ri.conv3<;>first|rfl|omega)|(apply Ri.eqb<;>rfl)|(apply Ri.neb<;>rfl)|(apply Ri.pT;(focus rfl);(focus(first|rfl|assumption|(simp;done)|(simp;omega)));(focus rfl))|(apply Ri.pF;(focus rfl);(focus(first|rfl|assumption|(simp;done)|(simp;omega)));(focus rfl))));(focus rfl)))
      refine o_still (r_loadA (cs := [.int .i64 i, .int .i64 k]) rfl rfl (blk_all b164)) (wants_none rfl) rfl ?_
      refine o_still (r_loadA (cs := [.int .i64 i, .int .i64 k]) rfl rfl (blk_all (k4.blk (k3.blk fb2 id) id))) (wants_yes rfl rfl rfl (by first | rfl | assumption | (simp; done) | (simp; omega))) rfl ?_
      refine o_still (r_ne2 rfl rfl) (wants_yes rfl rfl rfl (by first | rfl | assumption | (simp; done) | (simp; omega))) rfl ?_
      repeat(first|refine o_nil ?_|(refine o_pass (wants_no rfl rfl rfl ?_) rfl ?_;(focus(first|rfl|assumption|(simp;done)|(simp;omega))))|refine o_pass (wants_not rfl rfl rfl) rfl ?_|(refine o_yes (wants_yes rfl rfl rfl ?_) ?_;(focus(first|rfl|assumption|(simp;done)|(simp;omega))))|refine k_region ?_|(apply k_go;(focus(constructor<;>rfl)))|refine d_nil ?_|(apply o_s;(focus(first|(constructor<;>first|rfl|omega)|(apply Ri.add3<;>first|rfl|omega)|(apply Ri.sub3<;>first|rfl|omega)|(apply Ri.conv3<;>first|rfl|omega)|(apply Ri.eqb<;>rfl)|(apply Ri.neb<;>rfl)|(apply Ri.pT;(focus rfl);(focus(first|rfl|assumption|(simp;done)|(simp;omega)));(focus rfl))|(apply Ri.pF;(focus rfl);(focus(first|rfl|assumption|(simp;done)|(simp;omega)));(focus rfl))));(focus rfl)))
      refine k_no rfl (by simp) ?_
      repeat(first|refine o_nil ?_|(refine o_pass (wants_no rfl rfl rfl ?_) rfl ?_;(focus(first|rfl|assumption|(simp;done)|(simp;omega))))|refine o_pass (wants_not rfl rfl rfl) rfl ?_|(refine o_yes (wants_yes rfl rfl rfl ?_) ?_;(focus(first|rfl|assumption|(simp;done)|(simp;omega))))|refine k_region ?_|(apply k_go;(focus(constructor<;>rfl)))|refine d_nil ?_|(apply o_s;(focus(first|(constructor<;>first|rfl|omega)|(apply Ri.add3<;>first|rfl|omega)|(apply Ri.sub3<;>first|rfl|omega)|(apply Ri.conv3<;>first|rfl|omega)|(apply Ri.eqb<;>rfl)|(apply Ri.neb<;>rfl)|(apply Ri.pT;(focus rfl);(focus(first|rfl|assumption|(simp;done)|(simp;omega)));(focus rfl))|(apply Ri.pF;(focus rfl);(focus(first|rfl|assumption|(simp;done)|(simp;omega)));(focus rfl))));(focus rfl)))
      exact go wr4 kr4 n1 rfl _ (by repeat (first | exact SubB.nil | refine SubB.cons rfl ?_))
    · have hn0 := hin3 (by omega)
      have hn00 : ¬ n1 < 0 := by omega
      have hn01 : ¬ n1 = 0 := by omega
      repeat(first|refine o_nil ?_|(refine o_pass (wants_no rfl rfl rfl ?_) rfl ?_;(focus(first|rfl|assumption|(simp;done)|(simp;omega))))|refine o_pass (wants_not rfl rfl rfl) rfl ?_|(refine o_yes (wants_yes rfl rfl rfl ?_) ?_;(focus(first|rfl|assumption|(simp;done)|(simp;omega))))|refine k_region ?_|(apply k_go;(focus(constructor<;>rfl)))|refine d_nil ?_|(apply o_s;(focus(first|(constructor<;>first|rfl|omega)|(apply Ri.add3<;>first|rfl|omega)|(apply Ri.sub3<;>first|rfl|omega)|(apply Ri.conv3<;>first|rfl|omega)|(apply Ri.eqb<;>rfl)|(apply Ri.neb<;>rfl)|(apply Ri.pT;(focus rfl);(focus(first|rfl|assumption|(simp;done)|(simp;omega)));(focus rfl))|(apply Ri.pF;(focus rfl);(focus(first|rfl|assumption|(simp;done)|(simp;omega)));(focus rfl))));(focus rfl)))
      refine k_false rfl ?_
      repeat(first|refine o_nil ?_|(refine o_pass (wants_no rfl rfl rfl ?_) rfl ?_;(focus(first|rfl|assumption|(simp;done)|(simp;omega))))|refine o_pass (wants_not rfl rfl rfl) rfl ?_|(refine o_yes (wants_yes rfl rfl rfl ?_) ?_;(focus(first|rfl|assumption|(simp;done)|(simp;omega))))|refine k_region ?_|(apply k_go;(focus(constructor<;>rfl)))|refine d_nil ?_|(apply o_s;(focus(first|(constructor<;>first|rfl|omega)|(apply Ri.add3<;>first|rfl|omega)|(apply Ri.sub3<;>first|rfl|omega)|(apply Ri.conv3<;>first|rfl|omega)|(apply Ri.eqb<;>rfl)|(apply Ri.neb<;>rfl)|(apply Ri.pT;(focus rfl);(focus(first|rfl|assumption|(simp;done)|(simp;omega)));(focus rfl))|(apply Ri.pF;(focus rfl);(focus(first|rfl|assumption|(simp;done)|(simp;omega)));(focus rfl))));(focus rfl)))
      exact go wr4 kr4 n1 rfl _ (by repeat (first | exact SubB.nil | refine SubB.cons rfl ?_))
  have mid : ∀ m, (l[i][k] = s → n1 = m - 1) → (¬ l[i][k] = s → n1 = m) → -200000 ≤ m ∧ m ≤ 200000 → ∀ σ', SubB σ' [(0, .slice (some ad0) l.length c), (7, .int .i32 o), (8, .int .i32 s), (9, .pointer (some ⟨g9, 0, none⟩)), (10, .pointer (some ⟨g10, 0, none⟩)), (13, .slice (some adP) P.length ce), (14, .int .i64 m), (15, .int .i64 (u : Int)), (16, .pointer (some ⟨g16, 0, none⟩))] →
      WK Try.prog Try.f6 [.code (bodyC Try.f6 [1, 1, 1, 1, 1, 1, 1, 1, 1, 0, 1, 0, 0, 1, 0, 0, 1, 1, 1]), .inBlock 1, .code (bodyC Try.f6 [1, 1, 1, 1, 1, 1, 1, 1, 1, 0, 1, 0, 0, 1, 1]), .inLoop (bodyC Try.f6 [1, 1, 1, 1, 1, 1, 1, 1, 1, 0, 1, 0, 0]), .inBlock 0, .code (bodyC Try.f6 [1, 1, 1, 1, 1, 1, 1, 1, 1, 1])] σ' wr4 fun r w' => r = .bool true ∧ Kn W w' := by
    intro m hm1 hm2 hm3 σ' hs
    refine WK.sub (Sub.mk hs) ?_
    clear hs σ'
    repeat(first|refine o_nil ?_|(refine o_pass (wants_no rfl rfl rfl ?_) rfl ?_;(focus(first|rfl|assumption|(simp;done)|(simp;omega))))|refine o_pass (wants_not rfl rfl rfl) rfl ?_|(refine o_yes (wants_yes rfl rfl rfl ?_) ?_;(focus(first|rfl|assumption|(simp;done)|(simp;omega))))|refine k_region ?_|(apply k_go;(focus(constructor<;>rfl)))|refine d_nil ?_|(apply o_s;(focus(first|(constructor<;>first|rfl|omega)|(apply Ri.add3<;>first|rfl|omega)|(apply Ri.sub3<;>first|rfl|omega)|(apply Ri.conv3<;>first|rfl|omega)|(apply Ri.eqb<;>rfl)|(apply Ri.neb<;>rfl)|(apply Ri.pT;(focus rfl);(focus(first|rfl|assumption|(simp;done)|(simp;omega)));(focus rfl))|(apply Ri.pF;(focus rfl);(focus(first|rfl|assumption|(simp;done)|(simp;omega)));(focus rfl))));(focus rfl)))
    refine k_draw [(0, 0), (1, 0), (2, 0), (3, 0), (4, 0), (5, 0), (6, 0), (7, 0), (8, 0), (9, 0), (10, 0)] (by kernel_rfl) (by kernel_rfl) rfl (by kernel_rfl) ?_
    repeat(first|refine d_nil ?_|(refine d_open rfl ?_;first|((first|refine x_pass (wants_no rfl rfl rfl ?_) rfl ?_ ?_|refine x_passNow (wants_no rfl rfl rfl ?_) rfl ?_ ?_);(focus(first|rfl|assumption|(simp;done)|(simp;omega)));(focus(first|exact St.refl _|assumption)))|((first|refine x_pass (wants_not rfl rfl rfl) rfl ?_ ?_|refine x_passNow (wants_not rfl rfl rfl) rfl ?_ ?_);(focus(first|exact St.refl _|assumption)))|((first|apply x_s|apply x_n);(focus(first|(constructor<;>first|rfl|omega)|(apply Ri.add3<;>first|rfl|omega)|(apply Ri.sub3<;>first|rfl|omega)|(apply Ri.conv3<;>first|rfl|omega)|(apply Ri.eqb<;>rfl)|(apply Ri.neb<;>rfl)|(apply Ri.pT;(focus rfl);(focus(first|rfl|assumption|(simp;done)|(simp;omega)));(focus rfl))|(apply Ri.pF;(focus rfl);(focus(first|rfl|assumption|(simp;done)|(simp;omega)));(focus rfl))));(focus(first|exact wants_none rfl|exact wants_yes rfl rfl rfl (by first|rfl|assumption|(simp;done)|(simp;omega))));(focus rfl);(focus(first|exact St.refl _|assumption)))))
    refine d_open rfl ?_; refine x_still (r_load rfl q0) (wants_none rfl) rfl (by first | exact St.refl _ | assumption) ?_
    refine d_open rfl ?_; refine x_still (r_index rfl rfl rfl (by omega) (by omega)) (wants_none rfl) rfl (by first | exact St.refl _ | assumption) ?_
    refine d_open rfl ?_; refine x_still (r_load rfl (by rw [Int.toNat_natCast]; exact r0)) (wants_none rfl) rfl (by first | exact St.refl _ | assumption) ?_
    repeat(first|refine d_nil ?_|(refine d_open rfl ?_;first|((first|refine x_pass (wants_no rfl rfl rfl ?_) rfl ?_ ?_|refine x_passNow (wants_no rfl rfl rfl ?_) rfl ?_ ?_);(focus(first|rfl|assumption|(simp;done)|(simp;omega)));(focus(first|exact St.refl _|assumption)))|((first|refine x_pass (wants_not rfl rfl rfl) rfl ?_ ?_|refine x_passNow (wants_not rfl rfl rfl) rfl ?_ ?_);(focus(first|exact St.refl _|assumption)))|((first|apply x_s|apply x_n);(focus(first|(constructor<;>first|rfl|omega)|(apply Ri.add3<;>first|rfl|omega)|(apply Ri.sub3<;>first|rfl|omega)|(apply Ri.conv3<;>first|rfl|omega)|(apply Ri.eqb<;>rfl)|(apply Ri.neb<;>rfl)|(apply Ri.pT;(focus rfl);(focus(first|rfl|assumption|(simp;done)|(simp;omega)));(focus rfl))|(apply Ri.pF;(focus rfl);(focus(first|rfl|assumption|(simp;done)|(simp;omega)));(focus rfl))));(focus(first|exact wants_none rfl|exact wants_yes rfl rfl rfl (by first|rfl|assumption|(simp;done)|(simp;omega))));(focus rfl);(focus(first|exact St.refl _|assumption)))))
    refine d_open rfl ?_; refine x_still (r_load rfl q1) (wants_none rfl) rfl (by first | exact St.refl _ | assumption) ?_
    refine d_open rfl ?_; refine x_still (r_index rfl rfl rfl (by omega) (by omega)) (wants_none rfl) rfl (by first | exact St.refl _ | assumption) ?_
    refine d_open rfl ?_; refine x_still (r_load rfl (by rw [Int.toNat_natCast]; exact rr)) (wants_none rfl) rfl (by first | exact St.refl _ | assumption) ?_
    repeat(first|refine d_nil ?_|(refine d_open rfl ?_;first|((first|refine x_pass (wants_no rfl rfl rfl ?_) rfl ?_ ?_|refine x_passNow (wants_no rfl rfl rfl ?_) rfl ?_ ?_);(focus(first|rfl|assumption|(simp;done)|(simp;omega)));(focus(first|exact St.refl _|assumption)))|((first|refine x_pass (wants_not rfl rfl rfl) rfl ?_ ?_|refine x_passNow (wants_not rfl rfl rfl) rfl ?_ ?_);(focus(first|exact St.refl _|assumption)))|((first|apply x_s|apply x_n);(focus(first|(constructor<;>first|rfl|omega)|(apply Ri.add3<;>first|rfl|omega)|(apply Ri.sub3<;>first|rfl|omega)|(apply Ri.conv3<;>first|rfl|omega)|(apply Ri.eqb<;>rfl)|(apply Ri.neb<;>rfl)|(apply Ri.pT;(focus rfl);(focus(first|rfl|assumption|(simp;done)|(simp;omega)));(focus rfl))|(apply Ri.pF;(focus rfl);(focus(first|rfl|assumption|(simp;done)|(simp;omega)));(focus rfl))));(focus(first|exact wants_none rfl|exact wants_yes rfl rfl rfl (by first|rfl|assumption|(simp;done)|(simp;omega))));(focus rfl);(focus(first|exact St.refl _|assumption)))))
    by_cases he : l[i][k] = s
    · refine k_yes rfl he ?_
      refine k_region ?_
      refine o_still (r_move rfl) (wants_none rfl) rfl ?_
      refine o_still (r_sub rfl rfl (by omega) (by omega)) (wants_none rfl) rfl ?_
      refine o_still (r_assign rfl) (wants_none rfl) rfl ?_
      refine o_nil ?_
      rw [← hm1 he]
      exact fin _ (by repeat (first | exact SubB.nil | refine SubB.cons rfl ?_))
    · refine k_no rfl he ?_
      refine k_skip ?_
      rw [← hm2 he]
      exact fin _ (by repeat (first | exact SubB.nil | refine SubB.cons rfl ?_))
  repeat(first|refine o_nil ?_|(refine o_pass (wants_no rfl rfl rfl ?_) rfl ?_;(focus(first|rfl|assumption|(simp;done)|(simp;omega))))|refine o_pass (wants_not rfl rfl rfl) rfl ?_|(refine o_yes (wants_yes rfl rfl rfl ?_) ?_;(focus(first|rfl|assumption|(simp;done)|(simp;omega))))|refine k_region ?_|(apply k_go;(focus(constructor<;>rfl)))|refine d_nil ?_|(apply o_s;(focus(first|(constructor<;>first|rfl|omega)|(apply Ri.add3<;>first|rfl|omega)|(apply Ri.sub3<;>first|rfl|omega)|(apply Ri.conv3<;>first|rfl|omega)|(apply Ri.eqb<;>rfl)|(apply Ri.neb<;>rfl)|(apply Ri.pT;(focus rfl);(focus(first|rfl|assumption|(simp;done)|(simp;omega)));(focus rfl))|(apply Ri.pF;(focus rfl);(focus(first|rfl|assumption|(simp;done)|(simp;omega)));(focus rfl))));(focus rfl)))
  refine k_draw [(0, 0), (1, 0), (2, 0), (3, 0), (4, 0), (5, 0), (6, 0), (7, 0), (8, 0), (9, 0), (10, 0)] (by kernel_rfl) (by kernel_rfl) rfl (by kernel_rfl) ?_
  repeat(first|refine d_nil ?_|(refine d_open rfl ?_;first|((first|refine x_pass (wants_no rfl rfl rfl ?_) rfl ?_ ?_|refine x_passNow (wants_no rfl rfl rfl ?_) rfl ?_ ?_);(focus(first|rfl|assumption|(simp;done)|(simp;omega)));(focus(first|exact St.refl _|assumption)))|((first|refine x_pass (wants_not rfl rfl rfl) rfl ?_ ?_|refine x_passNow (wants_not rfl rfl rfl) rfl ?_ ?_);(focus(first|exact St.refl _|assumption)))|((first|apply x_s|apply x_n);(focus(first|(constructor<;>first|rfl|omega)|(apply Ri.add3<;>first|rfl|omega)|(apply Ri.sub3<;>first|rfl|omega)|(apply Ri.conv3<;>first|rfl|omega)|(apply Ri.eqb<;>rfl)|(apply Ri.neb<;>rfl)|(apply Ri.pT;(focus rfl);(focus(first|rfl|assumption|(simp;done)|(simp;omega)));(focus rfl))|(apply Ri.pF;(focus rfl);(focus(first|rfl|assumption|(simp;done)|(simp;omega)));(focus rfl))));(focus(first|exact wants_none rfl|exact wants_yes rfl rfl rfl (by first|rfl|assumption|(simp;done)|(simp;omega))));(focus rfl);(focus(first|exact St.refl _|assumption)))))
  refine d_open rfl ?_; refine x_still (r_load rfl q0) (wants_none rfl) rfl (by first | exact St.refl _ | assumption) ?_
  refine d_open rfl ?_; refine x_still (r_index rfl rfl rfl (by omega) (by omega)) (wants_none rfl) rfl (by first | exact St.refl _ | assumption) ?_
  refine d_open rfl ?_; refine x_still (r_load rfl (by rw [Int.toNat_natCast]; exact r0)) (wants_none rfl) rfl (by first | exact St.refl _ | assumption) ?_
  repeat(first|refine d_nil ?_|(refine d_open rfl ?_;first|((first|refine x_pass (wants_no rfl rfl rfl ?_) rfl ?_ ?_|refine x_passNow (wants_no rfl rfl rfl ?_) rfl ?_ ?_);(focus(first|rfl|assumption|(simp;done)|(simp;omega)));(focus(first|exact St.refl _|assumption)))|((first|refine x_pass (wants_not rfl rfl rfl) rfl ?_ ?_|refine x_passNow (wants_not rfl rfl rfl) rfl ?_ ?_);(focus(first|exact St.refl _|assumption)))|((first|apply x_s|apply x_n);(focus(first|(constructor<;>first|rfl|omega)|(apply Ri.add3<;>first|rfl|omega)|(apply Ri.sub3<;>first|rfl|omega)|(apply Ri.conv3<;>first|rfl|omega)|(apply Ri.eqb<;>rfl)|(apply Ri.neb<;>rfl)|(apply Ri.pT;(focus rfl);(focus(first|rfl|assumption|(simp;done)|(simp;omega)));(focus rfl))|(apply Ri.pF;(focus rfl);(focus(first|rfl|assumption|(simp;done)|(simp;omega)));(focus rfl))));(focus(first|exact wants_none rfl|exact wants_yes rfl rfl rfl (by first|rfl|assumption|(simp;done)|(simp;omega))));(focus rfl);(focus(first|exact St.refl _|assumption)))))
  refine d_open rfl ?_; refine x_still (r_load rfl q1) (wants_none rfl) rfl (by first | exact St.refl _ | assumption) ?_
  refine d_open rfl ?_; refine x_still (r_index rfl rfl rfl (by omega) (by omega)) (wants_none rfl) rfl (by first | exact St.refl _ | assumption) ?_
  refine d_open rfl ?_; refine x_still (r_load rfl (by rw [Int.toNat_natCast]; exact rr)) (wants_none rfl) rfl (by first | exact St.refl _ | assumption) ?_
  repeat(first|refine d_nil ?_|(refine d_open rfl ?_;first|((first|refine x_pass (wants_no rfl rfl rfl ?_) rfl ?_ ?_|refine x_passNow (wants_no rfl rfl rfl ?_) rfl ?_ ?_);(focus(first|rfl|assumption|(simp;done)|(simp;omega)));(focus(first|exact St.refl _|assumption)))|((first|refine x_pass (wants_not rfl rfl rfl) rfl ?_ ?_|refine x_passNow (wants_not rfl rfl rfl) rfl ?_ ?_);(focus(first|exact St.refl _|assumption)))|((first|apply x_s|apply x_n);(focus(first|(constructor<;>first|rfl|omega)|(apply Ri.add3<;>first|rfl|omega)|(apply Ri.sub3<;>first|rfl|omega)|(apply Ri.conv3<;>first|rfl|omega)|(apply Ri.eqb<;>rfl)|(apply Ri.neb<;>rfl)|(apply Ri.pT;(focus rfl);(focus(first|rfl|assumption|(simp;done)|(simp;omega)));(focus rfl))|(apply Ri.pF;(focus rfl);(focus(first|rfl|assumption|(simp;done)|(simp;omega)));(focus rfl))));(focus(first|exact wants_none rfl|exact wants_yes rfl rfl rfl (by first|rfl|assumption|(simp;done)|(simp;omega))));(focus rfl);(focus(first|exact St.refl _|assumption)))))
  by_cases he : l[i][k] = o
  · rw [if_pos he] at hvn
    have hes : ¬ l[i][k] = s := by rw [he]; exact hos
    refine k_yes rfl he ?_
    refine k_region ?_
    refine o_still (r_move rfl) (wants_none rfl) rfl ?_
    refine o_still (r_add rfl rfl (by omega) (by omega)) (wants_none rfl) rfl ?_
    refine o_still (r_assign rfl) (wants_none rfl) rfl ?_
    refine o_nil ?_
    exact mid (n + 1) (fun h => absurd h hes) (fun _ => by omega) (by omega) _ (by repeat (first | exact SubB.nil | refine SubB.cons rfl ?_))
  · rw [if_neg he] at hvn
    refine k_no rfl he ?_
    refine k_skip ?_
    refine mid n (fun h => ?_) (fun h => ?_) (by omega) _ (by repeat (first | exact SubB.nil | refine SubB.cons rfl ?_))
    · rw [if_pos h] at hvn; omega
    · rw [if_neg h] at hvn; omega
end Go.Ink
