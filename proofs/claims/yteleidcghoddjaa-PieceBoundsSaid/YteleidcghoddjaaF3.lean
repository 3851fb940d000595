/-
  piece.Table's Insert.
-/
import Derived.Test.YteleidcghoddjaaF2
set_option linter.unusedVariables false
set_option linter.unusedSimpArgs false
namespace Go.Ink
open Go Go.Proofs

section
variable {D : Nat → Prop} {g : Nat} {w w' : World} {T : Tab} {vs vr vv : Value}
/-- Store and row are others. -/
theorem IsTabP.put (h : IsTabP D g w T vs vr vv) {w2 : World} {st : List Int} {row : List Span} {vs2 vr2 : Value} (hk : Kp (fun k => k = g ∨ vs.ownBlock = some k) w w2) (hb : w2.heap[g]? = some (.cells #[vs2, vr2, vv, .int .i64 (tot row)] 54 (0, 0)))
    (hs : Ow kRune (fun k => grownD D w k ∧ k ≠ g) (fun _ => False) w2 vs2 st) (hsb : vs2.ownBlock = vs.ownBlock ∨ ∃ q, vs2.ownBlock = some q ∧ w.heap.size ≤ q)
    (hr : Sl kSpan (rowD D w g vs2 vv) w2 vr2 row) (hok : SpOK st row) (hoks : ∀ r ∈ T.saved, SpOK st r) (h1 : st.length ≤ 1099511627776) (h2 : tot row ≤ 65536) :
    Kp D w w2 ∧ IsTabP (grownD D w) g w2 { T with store := st, row := row } vs2 vr2 vv := by
  refine ⟨hk.mono fun i _ hi => ?_, .inl h.ge, hb, hs, ?_, hr, hok, hoks, h1, h.small.2.1, h2⟩
  · rcases hi with rfl | hi
    · exact h.ge
    · exact (h.st.block i hi).1.1
  · have hv : ∀ k, (D k ∧ k ≠ g ∧ vs.ownBlock ≠ some k) → k < w.heap.size → grownD D w k ∧ k ≠ g ∧ vs2.ownBlock ≠ some k := by
      rintro k ⟨h3, h4, h5⟩ hl
      refine ⟨.inl h3, h4, fun he => ?_⟩
      rcases hsb with hsb | ⟨q, hq, hge⟩
      · exact h5 (hsb ▸ he)
      · rw [hq] at he
        cases he
        omega
    exact Kp.ow hk (h.sv.mono (G' := fun k => (grownD D w k ∧ k ≠ g ∧ vs2.ownBlock ≠ some k) ∧ k ≠ g ∧ vs.ownBlock ≠ some k) (F' := fun k => (grownD D w k ∧ k ≠ g ∧ vs2.ownBlock ≠ some k) ∧ k ≠ g ∧ vs.ownBlock ≠ some k) (fun k hk hl => ⟨hv k hk hl, hk.2⟩) fun k hk hl => ⟨hv k hk hl, hk.2⟩) (fun k hk he => he.elim hk.2.1 hk.2.2) (fun k hk he => he.elim hk.2.1 hk.2.2) |>.mono (fun k hk _ => hk.1) fun k hk _ => hk.1
theorem IsTabP.kn (h : IsTabP D g w T vs vr vv) (hk : Kn w w') : IsTabP D g w' T vs vr vv :=
  ⟨h.ge, hk.blk h.hb id, Kn.ow hk h.st, Kn.ow hk h.sv, Kn.sl hk h.row, h.ok, h.oks, h.small⟩
theorem IsTabP.tab (h : IsTabP D g w T vs vr vv) : IsTab D g w T := ⟨vs, vr, vv, h⟩
def insM (T : Tab) (a : Int) (xs : List Int) : Tab × Int :=
  if a < 0 ∨ tot T.row < a then (T, 2) else if 65536 - tot T.row < xs.length then (T, 3) else if xs = [] then (T, 0)
  else ({ T with store := T.store ++ xs, row := ((cutM T.row a).1.take (cutM T.row a).2 ++ [((T.store.length : Int), (xs.length : Int))]) ++ (cutM T.row a).1.drop (cutM T.row a).2 }, 0)
theorem TabQ.then {w2 : World} {T2 : Tab} {x u : Value} (hk : Kp D w w2) (h : TabQ (grownD D w) g w2 T2 x u w') : TabQ D g w T2 x u w' := by
  obtain ⟨h1, h2, h3⟩ := h
  have hz := hk.size
  refine ⟨Kp.then hk h1 (fun _ h => h) (fun i hi h => h.elim id fun h => by omega), h2.mono fun k hk _ => ?_, h3⟩
  rcases hk with (hk | hk) | hk
  · exact .inl hk
  · exact .inr hk
  · exact .inr (by omega)
set_option maxHeartbeats 2000000 in
theorem ins_calls {F : Nat → Prop} {v : Value} {xs : List Int} {a : Int} (h : IsTab D g w T) (ha : -9223372036854775808 ≤ a ∧ a ≤ 9223372036854775807) (hv : Sl kRune F w v xs) (hF : ∀ k, F k → k < w.heap.size → ¬ D k) (hst : T.store.length + xs.length ≤ 1099511627776) :
    CallsR Try.prog 16 #[.pointer (some ⟨g, 0, none⟩), .int .i64 a, v] w (TabQ D g w (insM T a xs).1 (.int .i64 (insM T a xs).2)) := by
  have hT0 := h
  obtain ⟨vs, vr, vv, hT⟩ := h
  obtain ⟨A, c, rfl, hc, hl⟩ := hv.form
  have hlen := hl.len
  have hsm := hT.small
  have ht0 := hT.ok.tot_nonneg
  have c3 : w.cell? ⟨g, 3, none⟩ = some (.int .i64 (tot T.row)) := blk_cell hT.hb
  refine calls_enter Try.func16 rfl rfl ?_
  repeat(first|refine o_nil ?_|(refine o_pass (wants_no rfl rfl rfl ?_) rfl ?_;(focus(first|rfl|assumption|(simp;done)|(simp;omega))))|refine o_pass (wants_not rfl rfl rfl) rfl ?_|(refine o_yes (wants_yes rfl rfl rfl ?_) ?_;(focus(first|rfl|assumption|(simp;done)|(simp;omega))))|refine k_region ?_|(apply k_go;(focus(constructor<;>rfl)))|refine d_nil ?_|(apply o_s;(focus(first|(constructor<;>first|rfl|omega)|(apply Ri.add3<;>first|rfl|omega)|(apply Ri.sub3<;>first|rfl|omega)|(apply Ri.eqb<;>rfl)|(apply Ri.neb<;>rfl)|(apply Ri.pT;(focus rfl);(focus(first|rfl|assumption|(simp;done)|(simp;omega)));(focus rfl))|(apply Ri.pF;(focus rfl);(focus(first|rfl|assumption|(simp;done)|(simp;omega)));(focus rfl))));(focus rfl)))
  refine k_false rfl ?_
  have same : ∀ e : Int, insM T a xs = (T, e) → TabQ D g w (insM T a xs).1 (.int .i64 (insM T a xs).2) (.int .i64 e) w := fun e he => ⟨Kp.refl _ _, by rw [he]; exact hT0.grow, by rw [he]⟩
  by_cases hr : a < 0 ∨ tot T.row < a
  · have he : insM T a xs = (T, 2) := by unfold insM; rw [if_pos hr]
    by_cases hr1 : a < 0
    · repeat(first|refine o_nil ?_|(refine o_pass (wants_no rfl rfl rfl ?_) rfl ?_;(focus(first|rfl|assumption|(simp;done)|(simp;omega))))|refine o_pass (wants_not rfl rfl rfl) rfl ?_|(refine o_yes (wants_yes rfl rfl rfl ?_) ?_;(focus(first|rfl|assumption|(simp;done)|(simp;omega))))|refine k_region ?_|(apply k_go;(focus(constructor<;>rfl)))|refine d_nil ?_|(apply o_s;(focus(first|(constructor<;>first|rfl|omega)|(apply Ri.add3<;>first|rfl|omega)|(apply Ri.sub3<;>first|rfl|omega)|(apply Ri.eqb<;>rfl)|(apply Ri.neb<;>rfl)|(apply Ri.pT;(focus rfl);(focus(first|rfl|assumption|(simp;done)|(simp;omega)));(focus rfl))|(apply Ri.pF;(focus rfl);(focus(first|rfl|assumption|(simp;done)|(simp;omega)));(focus rfl))));(focus rfl)))
      refine k_true rfl ?_
      repeat(first|refine o_nil ?_|(refine o_pass (wants_no rfl rfl rfl ?_) rfl ?_;(focus(first|rfl|assumption|(simp;done)|(simp;omega))))|refine o_pass (wants_not rfl rfl rfl) rfl ?_|(refine o_yes (wants_yes rfl rfl rfl ?_) ?_;(focus(first|rfl|assumption|(simp;done)|(simp;omega))))|refine k_region ?_|(apply k_go;(focus(constructor<;>rfl)))|refine d_nil ?_|(apply o_s;(focus(first|(constructor<;>first|rfl|omega)|(apply Ri.add3<;>first|rfl|omega)|(apply Ri.sub3<;>first|rfl|omega)|(apply Ri.eqb<;>rfl)|(apply Ri.neb<;>rfl)|(apply Ri.pT;(focus rfl);(focus(first|rfl|assumption|(simp;done)|(simp;omega)));(focus rfl))|(apply Ri.pF;(focus rfl);(focus(first|rfl|assumption|(simp;done)|(simp;omega)));(focus rfl))));(focus rfl)))
      exact k_ret1 rfl rfl (same 2 he)
    · repeat(first|refine o_nil ?_|(refine o_pass (wants_no rfl rfl rfl ?_) rfl ?_;(focus(first|rfl|assumption|(simp;done)|(simp;omega))))|refine o_pass (wants_not rfl rfl rfl) rfl ?_|(refine o_yes (wants_yes rfl rfl rfl ?_) ?_;(focus(first|rfl|assumption|(simp;done)|(simp;omega))))|refine k_region ?_|(apply k_go;(focus(constructor<;>rfl)))|refine d_nil ?_|(apply o_s;(focus(first|(constructor<;>first|rfl|omega)|(apply Ri.add3<;>first|rfl|omega)|(apply Ri.sub3<;>first|rfl|omega)|(apply Ri.eqb<;>rfl)|(apply Ri.neb<;>rfl)|(apply Ri.pT;(focus rfl);(focus(first|rfl|assumption|(simp;done)|(simp;omega)));(focus rfl))|(apply Ri.pF;(focus rfl);(focus(first|rfl|assumption|(simp;done)|(simp;omega)));(focus rfl))));(focus rfl)))
      refine o_still (r_load rfl c3) (wants_none rfl) rfl ?_
      repeat(first|refine o_nil ?_|(refine o_pass (wants_no rfl rfl rfl ?_) rfl ?_;(focus(first|rfl|assumption|(simp;done)|(simp;omega))))|refine o_pass (wants_not rfl rfl rfl) rfl ?_|(refine o_yes (wants_yes rfl rfl rfl ?_) ?_;(focus(first|rfl|assumption|(simp;done)|(simp;omega))))|refine k_region ?_|(apply k_go;(focus(constructor<;>rfl)))|refine d_nil ?_|(apply o_s;(focus(first|(constructor<;>first|rfl|omega)|(apply Ri.add3<;>first|rfl|omega)|(apply Ri.sub3<;>first|rfl|omega)|(apply Ri.eqb<;>rfl)|(apply Ri.neb<;>rfl)|(apply Ri.pT;(focus rfl);(focus(first|rfl|assumption|(simp;done)|(simp;omega)));(focus rfl))|(apply Ri.pF;(focus rfl);(focus(first|rfl|assumption|(simp;done)|(simp;omega)));(focus rfl))));(focus rfl)))
      refine k_yes rfl (by omega) ?_
      repeat(first|refine o_nil ?_|(refine o_pass (wants_no rfl rfl rfl ?_) rfl ?_;(focus(first|rfl|assumption|(simp;done)|(simp;omega))))|refine o_pass (wants_not rfl rfl rfl) rfl ?_|(refine o_yes (wants_yes rfl rfl rfl ?_) ?_;(focus(first|rfl|assumption|(simp;done)|(simp;omega))))|refine k_region ?_|(apply k_go;(focus(constructor<;>rfl)))|refine d_nil ?_|(apply o_s;(focus(first|(constructor<;>first|rfl|omega)|(apply Ri.add3<;>first|rfl|omega)|(apply Ri.sub3<;>first|rfl|omega)|(apply Ri.eqb<;>rfl)|(apply Ri.neb<;>rfl)|(apply Ri.pT;(focus rfl);(focus(first|rfl|assumption|(simp;done)|(simp;omega)));(focus rfl))|(apply Ri.pF;(focus rfl);(focus(first|rfl|assumption|(simp;done)|(simp;omega)));(focus rfl))));(focus rfl)))
      exact k_ret1 rfl rfl (same 2 he)
  have h0 : 0 ≤ a := by omega
  have h1 : a ≤ tot T.row := by omega
  repeat(first|refine o_nil ?_|(refine o_pass (wants_no rfl rfl rfl ?_) rfl ?_;(focus(first|rfl|assumption|(simp;done)|(simp;omega))))|refine o_pass (wants_not rfl rfl rfl) rfl ?_|(refine o_yes (wants_yes rfl rfl rfl ?_) ?_;(focus(first|rfl|assumption|(simp;done)|(simp;omega))))|refine k_region ?_|(apply k_go;(focus(constructor<;>rfl)))|refine d_nil ?_|(apply o_s;(focus(first|(constructor<;>first|rfl|omega)|(apply Ri.add3<;>first|rfl|omega)|(apply Ri.sub3<;>first|rfl|omega)|(apply Ri.eqb<;>rfl)|(apply Ri.neb<;>rfl)|(apply Ri.pT;(focus rfl);(focus(first|rfl|assumption|(simp;done)|(simp;omega)));(focus rfl))|(apply Ri.pF;(focus rfl);(focus(first|rfl|assumption|(simp;done)|(simp;omega)));(focus rfl))));(focus rfl)))
  refine o_still (r_load rfl c3) (wants_none rfl) rfl ?_
  repeat(first|refine o_nil ?_|(refine o_pass (wants_no rfl rfl rfl ?_) rfl ?_;(focus(first|rfl|assumption|(simp;done)|(simp;omega))))|refine o_pass (wants_not rfl rfl rfl) rfl ?_|(refine o_yes (wants_yes rfl rfl rfl ?_) ?_;(focus(first|rfl|assumption|(simp;done)|(simp;omega))))|refine k_region ?_|(apply k_go;(focus(constructor<;>rfl)))|refine d_nil ?_|(apply o_s;(focus(first|(constructor<;>first|rfl|omega)|(apply Ri.add3<;>first|rfl|omega)|(apply Ri.sub3<;>first|rfl|omega)|(apply Ri.eqb<;>rfl)|(apply Ri.neb<;>rfl)|(apply Ri.pT;(focus rfl);(focus(first|rfl|assumption|(simp;done)|(simp;omega)));(focus rfl))|(apply Ri.pF;(focus rfl);(focus(first|rfl|assumption|(simp;done)|(simp;omega)));(focus rfl))));(focus rfl)))
  refine k_no rfl (by omega) ?_
  repeat(first|refine o_nil ?_|(refine o_pass (wants_no rfl rfl rfl ?_) rfl ?_;(focus(first|rfl|assumption|(simp;done)|(simp;omega))))|refine o_pass (wants_not rfl rfl rfl) rfl ?_|(refine o_yes (wants_yes rfl rfl rfl ?_) ?_;(focus(first|rfl|assumption|(simp;done)|(simp;omega))))|refine k_region ?_|(apply k_go;(focus(constructor<;>rfl)))|refine d_nil ?_|(apply o_s;(focus(first|(constructor<;>first|rfl|omega)|(apply Ri.add3<;>first|rfl|omega)|(apply Ri.sub3<;>first|rfl|omega)|(apply Ri.eqb<;>rfl)|(apply Ri.neb<;>rfl)|(apply Ri.pT;(focus rfl);(focus(first|rfl|assumption|(simp;done)|(simp;omega)));(focus rfl))|(apply Ri.pF;(focus rfl);(focus(first|rfl|assumption|(simp;done)|(simp;omega)));(focus rfl))));(focus rfl)))
  refine o_still (r_load rfl c3) (wants_none rfl) rfl ?_
  repeat(first|refine o_nil ?_|(refine o_pass (wants_no rfl rfl rfl ?_) rfl ?_;(focus(first|rfl|assumption|(simp;done)|(simp;omega))))|refine o_pass (wants_not rfl rfl rfl) rfl ?_|(refine o_yes (wants_yes rfl rfl rfl ?_) ?_;(focus(first|rfl|assumption|(simp;done)|(simp;omega))))|refine k_region ?_|(apply k_go;(focus(constructor<;>rfl)))|refine d_nil ?_|(apply o_s;(focus(first|(constructor<;>first|rfl|omega)|(apply Ri.add3<;>first|rfl|omega)|(apply Ri.sub3<;>first|rfl|omega)|(apply Ri.eqb<;>rfl)|(apply Ri.neb<;>rfl)|(apply Ri.pT;(focus rfl);(focus(first|rfl|assumption|(simp;done)|(simp;omega)));(focus rfl))|(apply Ri.pF;(focus rfl);(focus(first|rfl|assumption|(simp;done)|(simp;omega)));(focus rfl))));(focus rfl)))
  by_cases hf : 65536 - tot T.row < xs.length
  · have he : insM T a xs = (T, 3) := by unfold insM; rw [if_neg hr, if_pos hf]
    refine k_yes rfl (by omega) ?_
    repeat(first|refine o_nil ?_|(refine o_pass (wants_no rfl rfl rfl ?_) rfl ?_;(focus(first|rfl|assumption|(simp;done)|(simp;omega))))|refine o_pass (wants_not rfl rfl rfl) rfl ?_|(refine o_yes (wants_yes rfl rfl rfl ?_) ?_;(focus(first|rfl|assumption|(simp;done)|(simp;omega))))|refine k_region ?_|(apply k_go;(focus(constructor<;>rfl)))|refine d_nil ?_|(apply o_s;(focus(first|(constructor<;>first|rfl|omega)|(apply Ri.add3<;>first|rfl|omega)|(apply Ri.sub3<;>first|rfl|omega)|(apply Ri.eqb<;>rfl)|(apply Ri.neb<;>rfl)|(apply Ri.pT;(focus rfl);(focus(first|rfl|assumption|(simp;done)|(simp;omega)));(focus rfl))|(apply Ri.pF;(focus rfl);(focus(first|rfl|assumption|(simp;done)|(simp;omega)));(focus rfl))));(focus rfl)))
    exact k_ret1 rfl rfl (same 3 he)
  refine k_no rfl (by omega) ?_
  repeat(first|refine o_nil ?_|(refine o_pass (wants_no rfl rfl rfl ?_) rfl ?_;(focus(first|rfl|assumption|(simp;done)|(simp;omega))))|refine o_pass (wants_not rfl rfl rfl) rfl ?_|(refine o_yes (wants_yes rfl rfl rfl ?_) ?_;(focus(first|rfl|assumption|(simp;done)|(simp;omega))))|refine k_region ?_|(apply k_go;(focus(constructor<;>rfl)))|refine d_nil ?_|(apply o_s;(focus(first|(constructor<;>first|rfl|omega)|(apply Ri.add3<;>first|rfl|omega)|(apply Ri.sub3<;>first|rfl|omega)|(apply Ri.eqb<;>rfl)|(apply Ri.neb<;>rfl)|(apply Ri.pT;(focus rfl);(focus(first|rfl|assumption|(simp;done)|(simp;omega)));(focus rfl))|(apply Ri.pF;(focus rfl);(focus(first|rfl|assumption|(simp;done)|(simp;omega)));(focus rfl))));(focus rfl)))
  by_cases hn : xs = []
  · have he : insM T a xs = (T, 0) := by unfold insM; rw [if_neg hr, if_neg hf, if_pos hn]
    refine k_yes rfl (by rw [hn]; rfl) ?_
    repeat(first|refine o_nil ?_|(refine o_pass (wants_no rfl rfl rfl ?_) rfl ?_;(focus(first|rfl|assumption|(simp;done)|(simp;omega))))|refine o_pass (wants_not rfl rfl rfl) rfl ?_|(refine o_yes (wants_yes rfl rfl rfl ?_) ?_;(focus(first|rfl|assumption|(simp;done)|(simp;omega))))|refine k_region ?_|(apply k_go;(focus(constructor<;>rfl)))|refine d_nil ?_|(apply o_s;(focus(first|(constructor<;>first|rfl|omega)|(apply Ri.add3<;>first|rfl|omega)|(apply Ri.sub3<;>first|rfl|omega)|(apply Ri.eqb<;>rfl)|(apply Ri.neb<;>rfl)|(apply Ri.pT;(focus rfl);(focus(first|rfl|assumption|(simp;done)|(simp;omega)));(focus rfl))|(apply Ri.pF;(focus rfl);(focus(first|rfl|assumption|(simp;done)|(simp;omega)));(focus rfl))));(focus rfl)))
    exact k_ret1 rfl rfl (same 0 he)
  refine k_no rfl (by have := List.length_pos_iff.2 hn; omega) ?_
  repeat(first|refine o_nil ?_|(refine o_pass (wants_no rfl rfl rfl ?_) rfl ?_;(focus(first|rfl|assumption|(simp;done)|(simp;omega))))|refine o_pass (wants_not rfl rfl rfl) rfl ?_|(refine o_yes (wants_yes rfl rfl rfl ?_) ?_;(focus(first|rfl|assumption|(simp;done)|(simp;omega))))|refine k_region ?_|(apply k_go;(focus(constructor<;>rfl)))|refine d_nil ?_|(apply o_s;(focus(first|(constructor<;>first|rfl|omega)|(apply Ri.add3<;>first|rfl|omega)|(apply Ri.sub3<;>first|rfl|omega)|(apply Ri.eqb<;>rfl)|(apply Ri.neb<;>rfl)|(apply Ri.pT;(focus rfl);(focus(first|rfl|assumption|(simp;done)|(simp;omega)));(focus rfl))|(apply Ri.pF;(focus rfl);(focus(first|rfl|assumption|(simp;done)|(simp;omega)));(focus rfl))));(focus rfl)))
  refine o_enter (n_call rfl) (wants_none rfl) rfl ((cut_calls hT0 h0 h1).mono ?_)
  rintro _ w2 ⟨hk2, hT2, rfl⟩
  obtain ⟨hci, hc2, hc3⟩ := cutM_le T.row a
  have htot := tot_cutM hT.ok h0 h1
  have hok2 := cut_ok (at_ := a) hT.ok h0
  have hgoal : insM T a xs = ({ T with store := T.store ++ xs, row := ((cutM T.row a).1.take (cutM T.row a).2 ++ [((T.store.length : Int), (xs.length : Int))]) ++ (cutM T.row a).1.drop (cutM T.row a).2 }, 0) := by unfold insM; rw [if_neg hr, if_neg hf, if_neg hn]
  have hrl := row_len hT.ok
  rw [hgoal]
  clear hgoal same hr hT0
  generalize (cutM T.row a).1 = row2 at *
  generalize (cutM T.row a).2 = i at *
  have hv2 : Sl kRune (fun k => F k ∧ k < w.heap.size) w2 (.slice A xs.length c) xs := Kp.sl hk2 (hv.mono fun k hk hl => ⟨hk, hl⟩) fun k hk => hF k hk.1 hk.2
  obtain ⟨vs2, vr2, vv2, h2⟩ := hT2
  obtain ⟨B, cB, rfl, _⟩ := h2.st.form
  obtain ⟨R, cR, rfl, hcR, _⟩ := h2.row.form
  simp only at hcR
  have hg2 := blk_lt h2.hb
  have d0 : w2.cell? ⟨g, 0, none⟩ = some (.slice B T.store.length cB) := blk_cell h2.hb
  have d1 : w2.cell? ⟨g, 1, none⟩ = some (.slice R row2.length cR) := blk_cell h2.hb
  repeat(first|refine o_nil ?_|(refine o_pass (wants_no rfl rfl rfl ?_) rfl ?_;(focus(first|rfl|assumption|(simp;done)|(simp;omega))))|refine o_pass (wants_not rfl rfl rfl) rfl ?_|(refine o_yes (wants_yes rfl rfl rfl ?_) ?_;(focus(first|rfl|assumption|(simp;done)|(simp;omega))))|refine k_region ?_|(apply k_go;(focus(constructor<;>rfl)))|refine d_nil ?_|(apply o_s;(focus(first|(constructor<;>first|rfl|omega)|(apply Ri.add3<;>first|rfl|omega)|(apply Ri.sub3<;>first|rfl|omega)|(apply Ri.eqb<;>rfl)|(apply Ri.neb<;>rfl)|(apply Ri.pT;(focus rfl);(focus(first|rfl|assumption|(simp;done)|(simp;omega)));(focus rfl))|(apply Ri.pF;(focus rfl);(focus(first|rfl|assumption|(simp;done)|(simp;omega)));(focus rfl))));(focus rfl)))
  refine o_still (r_load rfl d0) (wants_none rfl) rfl ?_
  refine o_still (r_len rfl) (wants_none rfl) rfl ?_
  refine o_still (r_move rfl) (wants_none rfl) rfl ?_
  refine o_still (r_len rfl) (wants_none rfl) rfl ?_
  refine o_still (r_build (c := #[.int .i64 T.store.length, .int .i64 xs.length]) rfl rfl) (wants_none rfl) rfl ?_
  refine o_any (e_alloc) (wants_none rfl) rfl ?_
  rintro _ w3 ⟨g3, rfl, nb3⟩
  refine o_unit (u_storeA rfl rfl rfl (by simp [Value.oneCell']) rfl nb3.at_ (Nat.le_refl 2)) (wants_none rfl) rfl ?_
  rintro w4 hw4
  have e3 := nb3.ge
  have l3 := nb3.lt
  have k4 : Kn w2 w4 := Kp.then nb3.kn hw4.kp (fun _ h => h) (fun k hk he => by omega)
  have z2 := hk2.size
  have z3 := nb3.kn.size
  have z34 := hw4.kp.size
  have z4 := k4.size
  have h4 := h2.kn k4
  have b4 := hw4.at_
  have f0 : w4.cell? ⟨g3, 0, none⟩ = some (.int .i64 T.store.length) := blk_cell b4
  have f1 : w4.cell? ⟨g3, 1, none⟩ = some (.int .i64 xs.length) := blk_cell b4
  repeat(first|refine o_nil ?_|(refine o_pass (wants_no rfl rfl rfl ?_) rfl ?_;(focus(first|rfl|assumption|(simp;done)|(simp;omega))))|refine o_pass (wants_not rfl rfl rfl) rfl ?_|(refine o_yes (wants_yes rfl rfl rfl ?_) ?_;(focus(first|rfl|assumption|(simp;done)|(simp;omega))))|refine k_region ?_|(apply k_go;(focus(constructor<;>rfl)))|refine d_nil ?_|(apply o_s;(focus(first|(constructor<;>first|rfl|omega)|(apply Ri.add3<;>first|rfl|omega)|(apply Ri.sub3<;>first|rfl|omega)|(apply Ri.eqb<;>rfl)|(apply Ri.neb<;>rfl)|(apply Ri.pT;(focus rfl);(focus(first|rfl|assumption|(simp;done)|(simp;omega)));(focus rfl))|(apply Ri.pF;(focus rfl);(focus(first|rfl|assumption|(simp;done)|(simp;omega)));(focus rfl))));(focus rfl)))
  refine o_still (r_load rfl (k4.cell d0 id)) (wants_none rfl) rfl ?_
  repeat(first|refine o_nil ?_|(refine o_pass (wants_no rfl rfl rfl ?_) rfl ?_;(focus(first|rfl|assumption|(simp;done)|(simp;omega))))|refine o_pass (wants_not rfl rfl rfl) rfl ?_|(refine o_yes (wants_yes rfl rfl rfl ?_) ?_;(focus(first|rfl|assumption|(simp;done)|(simp;omega))))|refine k_region ?_|(apply k_go;(focus(constructor<;>rfl)))|refine d_nil ?_|(apply o_s;(focus(first|(constructor<;>first|rfl|omega)|(apply Ri.add3<;>first|rfl|omega)|(apply Ri.sub3<;>first|rfl|omega)|(apply Ri.eqb<;>rfl)|(apply Ri.neb<;>rfl)|(apply Ri.pT;(focus rfl);(focus(first|rfl|assumption|(simp;done)|(simp;omega)));(focus rfl))|(apply Ri.pF;(focus rfl);(focus(first|rfl|assumption|(simp;done)|(simp;omega)));(focus rfl))));(focus rfl)))
  refine o_any (e_append2 (d := kRune) rfl rfl h4.st (k4.sl hv2) (by
    intro k hk he
    have h5 := (h4.st.block k he).1.1
    rcases h5 with h5 | h5
    · exact hF k hk.1 hk.2 h5
    · have := hk.2; omega) (by show (T.store.length + xs.length) * 4 ≤ 140737488355328; omega) rfl rfl rfl) (wants_none rfl) rfl ?_
  rintro v5 w5 hA
  obtain ⟨B5, c5, rfl, _⟩ := hA.ow.form
  have b5 := hA.kp.blk h4.hb (fun he => (h4.st.block g he).1.2 rfl)
  have z5 := hA.kp.size
  repeat(first|refine o_nil ?_|(refine o_pass (wants_no rfl rfl rfl ?_) rfl ?_;(focus(first|rfl|assumption|(simp;done)|(simp;omega))))|refine o_pass (wants_not rfl rfl rfl) rfl ?_|(refine o_yes (wants_yes rfl rfl rfl ?_) ?_;(focus(first|rfl|assumption|(simp;done)|(simp;omega))))|refine k_region ?_|(apply k_go;(focus(constructor<;>rfl)))|refine d_nil ?_|(apply o_s;(focus(first|(constructor<;>first|rfl|omega)|(apply Ri.add3<;>first|rfl|omega)|(apply Ri.sub3<;>first|rfl|omega)|(apply Ri.eqb<;>rfl)|(apply Ri.neb<;>rfl)|(apply Ri.pT;(focus rfl);(focus(first|rfl|assumption|(simp;done)|(simp;omega)));(focus rfl))|(apply Ri.pF;(focus rfl);(focus(first|rfl|assumption|(simp;done)|(simp;omega)));(focus rfl))));(focus rfl)))
  refine o_unit (u_store (i := 0) rfl rfl rfl (by simp only [add_plain, Nat.zero_add, Nat.add_zero]) b5 (show 0 < 4 by decide)) (wants_none rfl) rfl ?_
  rintro w6 hw6
  have z6 := hw6.kp.size
  have hk6 : Kp (fun k => k = g ∨ (Value.slice B T.store.length cB).ownBlock = some k) w4 w6 := Kp.then hA.kp hw6.kp (fun _ h => .inr h) (fun _ _ h => .inl h)
  have hr6 := Kp.sl hk6 h4.row (fun k hk he => he.elim hk.2.1 hk.2.2.1)
  replace hr6 : Sl kSpan (fun k => grownD D w k ∧ k ≠ g ∧ (Value.slice B T.store.length cB).ownBlock ≠ some k ∧ vv2.ownBlock ≠ some k) w6 (.slice R row2.length cR) row2 := hr6
  have d16 : w6.cell? ⟨g, 1, none⟩ = some (.slice R row2.length cR) := blk_cell hw6.at_
  have hn3 : ¬ (g3 = g ∨ (Value.slice B T.store.length cB).ownBlock = some g3) := by
    rintro (he | he)
    · omega
    · have := (h2.st.block g3 he).2; omega
  have f06 := hk6.cell f0 hn3
  have f16 := hk6.cell f1 hn3
  repeat(first|refine o_nil ?_|(refine o_pass (wants_no rfl rfl rfl ?_) rfl ?_;(focus(first|rfl|assumption|(simp;done)|(simp;omega))))|refine o_pass (wants_not rfl rfl rfl) rfl ?_|(refine o_yes (wants_yes rfl rfl rfl ?_) ?_;(focus(first|rfl|assumption|(simp;done)|(simp;omega))))|refine k_region ?_|(apply k_go;(focus(constructor<;>rfl)))|refine d_nil ?_|(apply o_s;(focus(first|(constructor<;>first|rfl|omega)|(apply Ri.add3<;>first|rfl|omega)|(apply Ri.sub3<;>first|rfl|omega)|(apply Ri.eqb<;>rfl)|(apply Ri.neb<;>rfl)|(apply Ri.pT;(focus rfl);(focus(first|rfl|assumption|(simp;done)|(simp;omega)));(focus rfl))|(apply Ri.pF;(focus rfl);(focus(first|rfl|assumption|(simp;done)|(simp;omega)));(focus rfl))));(focus rfl)))
  refine k_draw [(0, 0), (1, 0), (2, 0), (3, 0), (4, 0), (5, 0), (6, 0), (7, 0), (8, 1), (9, 1), (10, 0)] (by kernel_rfl) (by kernel_rfl) rfl (by kernel_rfl) ?_
  repeat(first|refine d_nil ?_|(refine d_open rfl ?_;first|((first|refine x_pass (wants_no rfl rfl rfl ?_) rfl ?_ ?_|refine x_passNow (wants_no rfl rfl rfl ?_) rfl ?_ ?_);(focus(first|rfl|assumption|(simp;done)|(simp;omega)));(focus(first|exact St.refl _|assumption)))|((first|refine x_pass (wants_not rfl rfl rfl) rfl ?_ ?_|refine x_passNow (wants_not rfl rfl rfl) rfl ?_ ?_);(focus(first|exact St.refl _|assumption)))|((first|apply x_s|apply x_n);(focus(first|(constructor<;>first|rfl|omega)|(apply Ri.add3<;>first|rfl|omega)|(apply Ri.sub3<;>first|rfl|omega)|(apply Ri.eqb<;>rfl)|(apply Ri.neb<;>rfl)|(apply Ri.pT;(focus rfl);(focus(first|rfl|assumption|(simp;done)|(simp;omega)));(focus rfl))|(apply Ri.pF;(focus rfl);(focus(first|rfl|assumption|(simp;done)|(simp;omega)));(focus rfl))));(focus(first|exact wants_none rfl|exact wants_yes rfl rfl rfl (by first|rfl|assumption|(simp;done)|(simp;omega))));(focus rfl);(focus(first|exact St.refl _|assumption)))))
  refine d_open rfl ?_; refine x_still (r_load rfl d16) (wants_none rfl) rfl (by first | exact St.refl _ | assumption) ?_
  repeat(first|refine d_nil ?_|(refine d_open rfl ?_;first|((first|refine x_pass (wants_no rfl rfl rfl ?_) rfl ?_ ?_|refine x_passNow (wants_no rfl rfl rfl ?_) rfl ?_ ?_);(focus(first|rfl|assumption|(simp;done)|(simp;omega)));(focus(first|exact St.refl _|assumption)))|((first|refine x_pass (wants_not rfl rfl rfl) rfl ?_ ?_|refine x_passNow (wants_not rfl rfl rfl) rfl ?_ ?_);(focus(first|exact St.refl _|assumption)))|((first|apply x_s|apply x_n);(focus(first|(constructor<;>first|rfl|omega)|(apply Ri.add3<;>first|rfl|omega)|(apply Ri.sub3<;>first|rfl|omega)|(apply Ri.eqb<;>rfl)|(apply Ri.neb<;>rfl)|(apply Ri.pT;(focus rfl);(focus(first|rfl|assumption|(simp;done)|(simp;omega)));(focus rfl))|(apply Ri.pF;(focus rfl);(focus(first|rfl|assumption|(simp;done)|(simp;omega)));(focus rfl))));(focus(first|exact wants_none rfl|exact wants_yes rfl rfl rfl (by first|rfl|assumption|(simp;done)|(simp;omega))));(focus rfl);(focus(first|exact St.refl _|assumption)))))
  refine d_open rfl ?_; refine x_still (r_slice rfl 0 i i ⟨_, rfl⟩ ⟨_, rfl⟩ rfl (by omega) (by omega) (by omega)) (wants_none rfl) rfl (by first | exact St.refl _ | assumption) ?_
  refine d_open rfl ?_; refine x_still (r_loadA (cs := [.int .i64 T.store.length, .int .i64 xs.length]) rfl rfl (by
    intro j u hu
    match j, hu with
    | 0, hu => cases hu; exact f06
    | 1, hu => cases hu; exact f16)) (wants_none rfl) rfl (by first | exact St.refl _ | assumption) ?_
  refine d_open rfl ?_; refine x_any (e_one (z := .agg #[.int .i64 0, .int .i64 0]) (sz := 2) rfl rfl rfl (by decide)) (wants_none rfl) rfl ?_
  rintro _ w7 ⟨g7, rfl, nb7⟩
  refine .inl ⟨nb7.kn.st, ?_⟩
  have hst7 := nb7.kn.st
  refine d_open rfl ?_; refine x_any (e_append_full (d := kSpan) rfl rfl (nb7.kn.sl (hr6.cutV (l := 0) (hi := i) (m := i) (by omega) (by omega) (by omega) (by omega))) (sl_blk (F := fun k => k = g7) (xs := [((T.store.length : Int), (xs.length : Int))]) (cells := [.int .i64 T.store.length, .int .i64 xs.length]) nb7.at_ ⟨_, [], rfl, span_R (by omega) (by omega), rfl⟩ rfl (show 1 * 16 ≤ 140737488355328 by decide)) (by simp only [List.length_take, List.length_drop]; show (min i _ - 0 + 1) * 16 ≤ 140737488355328; omega) rfl rfl rfl) (wants_none rfl) rfl ?_
  rintro v8 w8 ⟨k8, h8⟩
  replace h8 := h8.resolve_left (fun h => List.cons_ne_nil _ _ h.1)
  have k68 : Kn w6 w8 := nb7.kn.trans k8
  have z7 := nb7.kn.size
  rw [List.drop_zero] at h8
  have hO8 : Ow kSpan (noB w6) (fun _ => False) w8 v8 (row2.take i ++ [((T.store.length : Int), (xs.length : Int))]) := (h8.sc (F' := fun _ => False)).mono (fun k hk _ => by simp only [noB]; omega) (fun _ h _ => h)
  obtain ⟨A8, c8, rfl, _⟩ := hO8.form
  refine .inl ⟨k68.st, ?_⟩
  have hst8 := k68.st
  repeat(first|refine d_nil ?_|(refine d_open rfl ?_;first|((first|refine x_pass (wants_no rfl rfl rfl ?_) rfl ?_ ?_|refine x_passNow (wants_no rfl rfl rfl ?_) rfl ?_ ?_);(focus(first|rfl|assumption|(simp;done)|(simp;omega)));(focus(first|exact St.refl _|assumption)))|((first|refine x_pass (wants_not rfl rfl rfl) rfl ?_ ?_|refine x_passNow (wants_not rfl rfl rfl) rfl ?_ ?_);(focus(first|exact St.refl _|assumption)))|((first|apply x_s|apply x_n);(focus(first|(constructor<;>first|rfl|omega)|(apply Ri.add3<;>first|rfl|omega)|(apply Ri.sub3<;>first|rfl|omega)|(apply Ri.eqb<;>rfl)|(apply Ri.neb<;>rfl)|(apply Ri.pT;(focus rfl);(focus(first|rfl|assumption|(simp;done)|(simp;omega)));(focus rfl))|(apply Ri.pF;(focus rfl);(focus(first|rfl|assumption|(simp;done)|(simp;omega)));(focus rfl))));(focus(first|exact wants_none rfl|exact wants_yes rfl rfl rfl (by first|rfl|assumption|(simp;done)|(simp;omega))));(focus rfl);(focus(first|exact St.refl _|assumption)))))
  repeat(first|refine o_nil ?_|(refine o_pass (wants_no rfl rfl rfl ?_) rfl ?_;(focus(first|rfl|assumption|(simp;done)|(simp;omega))))|refine o_pass (wants_not rfl rfl rfl) rfl ?_|(refine o_yes (wants_yes rfl rfl rfl ?_) ?_;(focus(first|rfl|assumption|(simp;done)|(simp;omega))))|refine k_region ?_|(apply k_go;(focus(constructor<;>rfl)))|refine d_nil ?_|(apply o_s;(focus(first|(constructor<;>first|rfl|omega)|(apply Ri.add3<;>first|rfl|omega)|(apply Ri.sub3<;>first|rfl|omega)|(apply Ri.eqb<;>rfl)|(apply Ri.neb<;>rfl)|(apply Ri.pT;(focus rfl);(focus(first|rfl|assumption|(simp;done)|(simp;omega)));(focus rfl))|(apply Ri.pF;(focus rfl);(focus(first|rfl|assumption|(simp;done)|(simp;omega)));(focus rfl))));(focus rfl)))
  refine o_still (r_load rfl (k68.cell d16 id)) (wants_none rfl) rfl ?_
  repeat(first|refine o_nil ?_|(refine o_pass (wants_no rfl rfl rfl ?_) rfl ?_;(focus(first|rfl|assumption|(simp;done)|(simp;omega))))|refine o_pass (wants_not rfl rfl rfl) rfl ?_|(refine o_yes (wants_yes rfl rfl rfl ?_) ?_;(focus(first|rfl|assumption|(simp;done)|(simp;omega))))|refine k_region ?_|(apply k_go;(focus(constructor<;>rfl)))|refine d_nil ?_|(apply o_s;(focus(first|(constructor<;>first|rfl|omega)|(apply Ri.add3<;>first|rfl|omega)|(apply Ri.sub3<;>first|rfl|omega)|(apply Ri.eqb<;>rfl)|(apply Ri.neb<;>rfl)|(apply Ri.pT;(focus rfl);(focus(first|rfl|assumption|(simp;done)|(simp;omega)));(focus rfl))|(apply Ri.pF;(focus rfl);(focus(first|rfl|assumption|(simp;done)|(simp;omega)));(focus rfl))));(focus rfl)))
  refine o_still (r_slice rfl i row2.length cR rfl ⟨rfl, rfl⟩ ⟨_, rfl⟩ (by omega) (by omega) (by omega)) (wants_none rfl) rfl ?_
  refine o_any (e_append2 (d := kSpan) rfl rfl hO8 ((k68.sl hr6.old).cutV (l := i) (hi := row2.length) (m := cR) (by omega) (by omega) (by omega) (by omega)) (by
    intro k hk he
    have := (hO8.block k he).1
    simp only [noB] at this
    omega) (by simp only [List.length_append, List.length_take, List.length_drop]; show (min i _ + 1 + _) * 16 ≤ 140737488355328; omega) rfl rfl rfl) (wants_none rfl) rfl ?_
  rintro v9 w9 hA9
  obtain ⟨k9, hO9⟩ := app_next k68 hO8 hA9
  obtain ⟨A9, c9, rfl, _⟩ := hO9.form
  rw [List.take_length] at hO9 ⊢
  have z9 := k9.size
  repeat(first|refine o_nil ?_|(refine o_pass (wants_no rfl rfl rfl ?_) rfl ?_;(focus(first|rfl|assumption|(simp;done)|(simp;omega))))|refine o_pass (wants_not rfl rfl rfl) rfl ?_|(refine o_yes (wants_yes rfl rfl rfl ?_) ?_;(focus(first|rfl|assumption|(simp;done)|(simp;omega))))|refine k_region ?_|(apply k_go;(focus(constructor<;>rfl)))|refine d_nil ?_|(apply o_s;(focus(first|(constructor<;>first|rfl|omega)|(apply Ri.add3<;>first|rfl|omega)|(apply Ri.sub3<;>first|rfl|omega)|(apply Ri.eqb<;>rfl)|(apply Ri.neb<;>rfl)|(apply Ri.pT;(focus rfl);(focus(first|rfl|assumption|(simp;done)|(simp;omega)));(focus rfl))|(apply Ri.pF;(focus rfl);(focus(first|rfl|assumption|(simp;done)|(simp;omega)));(focus rfl))));(focus rfl)))
  refine o_unit (u_store (i := 1) rfl rfl rfl (by simp only [add_plain, Nat.zero_add, Nat.add_zero]) (k9.blk hw6.at_ id) (show 1 < 4 by decide)) (wants_none rfl) rfl ?_
  rintro w10 hw10
  repeat(first|refine o_nil ?_|(refine o_pass (wants_no rfl rfl rfl ?_) rfl ?_;(focus(first|rfl|assumption|(simp;done)|(simp;omega))))|refine o_pass (wants_not rfl rfl rfl) rfl ?_|(refine o_yes (wants_yes rfl rfl rfl ?_) ?_;(focus(first|rfl|assumption|(simp;done)|(simp;omega))))|refine k_region ?_|(apply k_go;(focus(constructor<;>rfl)))|refine d_nil ?_|(apply o_s;(focus(first|(constructor<;>first|rfl|omega)|(apply Ri.add3<;>first|rfl|omega)|(apply Ri.sub3<;>first|rfl|omega)|(apply Ri.eqb<;>rfl)|(apply Ri.neb<;>rfl)|(apply Ri.pT;(focus rfl);(focus(first|rfl|assumption|(simp;done)|(simp;omega)));(focus rfl))|(apply Ri.pF;(focus rfl);(focus(first|rfl|assumption|(simp;done)|(simp;omega)));(focus rfl))));(focus rfl)))
  have d310 : w10.cell? ⟨g, 3, none⟩ = some (.int .i64 (tot row2)) := blk_cell hw10.at_
  refine o_still (r_load rfl d310) (wants_none rfl) rfl ?_
  repeat(first|refine o_nil ?_|(refine o_pass (wants_no rfl rfl rfl ?_) rfl ?_;(focus(first|rfl|assumption|(simp;done)|(simp;omega))))|refine o_pass (wants_not rfl rfl rfl) rfl ?_|(refine o_yes (wants_yes rfl rfl rfl ?_) ?_;(focus(first|rfl|assumption|(simp;done)|(simp;omega))))|refine k_region ?_|(apply k_go;(focus(constructor<;>rfl)))|refine d_nil ?_|(apply o_s;(focus(first|(constructor<;>first|rfl|omega)|(apply Ri.add3<;>first|rfl|omega)|(apply Ri.sub3<;>first|rfl|omega)|(apply Ri.eqb<;>rfl)|(apply Ri.neb<;>rfl)|(apply Ri.pT;(focus rfl);(focus(first|rfl|assumption|(simp;done)|(simp;omega)));(focus rfl))|(apply Ri.pF;(focus rfl);(focus(first|rfl|assumption|(simp;done)|(simp;omega)));(focus rfl))));(focus rfl)))
  refine o_unit (u_store (i := 3) rfl rfl rfl (by simp only [add_plain, Nat.zero_add, Nat.add_zero]) hw10.at_ (show 3 < 4 by decide)) (wants_none rfl) rfl ?_
  rintro w11 hw11
  repeat(first|refine o_nil ?_|(refine o_pass (wants_no rfl rfl rfl ?_) rfl ?_;(focus(first|rfl|assumption|(simp;done)|(simp;omega))))|refine o_pass (wants_not rfl rfl rfl) rfl ?_|(refine o_yes (wants_yes rfl rfl rfl ?_) ?_;(focus(first|rfl|assumption|(simp;done)|(simp;omega))))|refine k_region ?_|(apply k_go;(focus(constructor<;>rfl)))|refine d_nil ?_|(apply o_s;(focus(first|(constructor<;>first|rfl|omega)|(apply Ri.add3<;>first|rfl|omega)|(apply Ri.sub3<;>first|rfl|omega)|(apply Ri.eqb<;>rfl)|(apply Ri.neb<;>rfl)|(apply Ri.pT;(focus rfl);(focus(first|rfl|assumption|(simp;done)|(simp;omega)));(focus rfl))|(apply Ri.pF;(focus rfl);(focus(first|rfl|assumption|(simp;done)|(simp;omega)));(focus rfl))));(focus rfl)))
  have htt : tot ((row2.take i ++ [((T.store.length : Int), (xs.length : Int))]) ++ row2.drop i) = tot row2 + xs.length := by
    have := tot_append (row2.take i) (row2.drop i)
    rw [List.take_append_drop] at this
    rw [tot_append, tot_append, tot_cons, tot_nil]
    simp only
    omega
  have hpos := List.length_pos_iff.2 hn
  have hq := h4.put (st := T.store ++ xs) (row := (row2.take i ++ [((T.store.length : Int), (xs.length : Int))]) ++ row2.drop i) (Kp.then (Kp.then (Kp.then hk6 k9 (fun _ h => h) (fun _ _ h => h.elim)) hw10.kp (fun _ h => h) (fun _ _ h => .inl h)) hw11.kp (fun _ h => h) (fun _ _ h => .inl h))
    (by rw [htt]; exact hw11.at_)
    (Kp.ow hw11.kp (Kp.ow hw10.kp (Kn.ow k9 (Kp.ow hw6.kp (((hA.ow.sc (F' := fun _ => False)).mono (G' := fun k => grownD (grownD D w) w4 k ∧ k ≠ g) (F' := fun _ => False) (fun k hk hl => ?_) fun _ h _ => h)) (fun k hk => hk.2) fun _ h => h.elim)) (fun k hk => hk.2) fun _ h => h.elim) (fun k hk => hk.2) fun _ h => h.elim)
    hA.blk
    ((Kp.ow hw11.kp (Kp.ow hw10.kp (hO9.mono (G' := rowD (grownD D w) w4 g _ vv2) (F' := fun _ => False) (fun k hk hl => ?_) fun _ h _ => h) (fun k hk => hk.2.1) fun _ h => h.elim) (fun k hk => hk.2.1) fun _ h => h.elim).slF (fun _ h => h) fun _ h => h.elim)
    ?_ ?_ ?_ ?_
  · have hkk := hk2
    refine k_ret1 rfl rfl (TabQ.then hk2 ⟨?_, ?_, rfl⟩)
    · exact Kp.then (k4.kp (S := grownD D w)) hq.1 (fun _ h => h) (fun _ _ h => h)
    · exact hq.2.tab.mono fun k hk _ => hk.elim .inl fun hk => .inr (by omega)
  · rcases hk with hk | hk
    · exact ⟨.inl hk.1, hk.2⟩
    · exact ⟨.inr hk, by omega⟩
  · simp only [noB] at hk
    refine ⟨.inr (by omega), by omega, fun he => ?_, fun he => ?_⟩
    · have := (hA.ow.block k he).2; omega
    · have := (h4.sv.block k he).2; omega
  · refine SpOK.append (SpOK.append (fun s hs => ?_) (fun s hs => ?_)) (fun s hs => ?_)
    · exact hok2.grow s (List.mem_of_mem_take hs)
    · obtain rfl : s = ((T.store.length : Int), (xs.length : Int)) := by simpa using hs
      simp only [List.length_append]
      omega
    · exact hok2.grow s (List.mem_of_mem_drop hs)
  · exact fun r hr => (hT.oks r hr).grow
  · rw [List.length_append]; exact hst
  · rw [htt]; omega
end
end Go.Ink
