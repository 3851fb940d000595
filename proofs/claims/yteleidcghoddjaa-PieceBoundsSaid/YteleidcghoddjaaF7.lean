/-
  piece.Table's Save, Back.
-/
import Derived.Test.YteleidcghoddjaaF6
import Derived.Test.YteleidcghoddjaaCpy
set_option linter.unusedVariables false
set_option linter.unusedSimpArgs false
namespace Go.Ink
open Go Go.Proofs

section
variable {D : Nat → Prop} {g : Nat} {w w' : World} {T : Tab} {vs vr vv : Value}
theorem IsTabP.mono {D' : Nat → Prop} (h : IsTabP D g w T vs vr vv) (hd : ∀ k, D k → k < w.heap.size → D' k) : IsTabP D' g w T vs vr vv :=
  ⟨hd g h.ge (blk_lt h.hb), h.hb, h.st.mono (fun k hk hl => ⟨hd k hk.1 hl, hk.2⟩) (fun k hk _ => hk), h.sv.mono (fun k hk hl => ⟨hd k hk.1 hl, hk.2⟩) (fun k hk hl => ⟨hd k hk.1 hl, hk.2⟩), h.row.mono (fun k hk hl => ⟨hd k hk.1 hl, hk.2⟩), h.ok, h.oks, h.small⟩
/-- What is remembered is another. -/
theorem IsTabP.putS (h : IsTabP D g w T vs vr vv) {w2 : World} {sv : List (List Span)} {vv2 : Value} (hk : Kp (fun k => k = g ∨ vv.ownBlock = some k) w w2) (hb : w2.heap[g]? = some (.cells #[vs, vr, vv2, .int .i64 (tot T.row)] 54 (0, 0)))
    (hs : Ow kSpans (fun k => grownD D w k ∧ k ≠ g ∧ vs.ownBlock ≠ some k) (fun k => grownD D w k ∧ k ≠ g ∧ vs.ownBlock ≠ some k) w2 vv2 sv) (hsb : vv2.ownBlock = vv.ownBlock ∨ ∃ q, vv2.ownBlock = some q ∧ w.heap.size ≤ q)
    (hok : ∀ r ∈ sv, SpOK T.store r) (h2 : sv.length ≤ 1099511627776) :
    Kp D w w2 ∧ IsTabP (grownD D w) g w2 { T with saved := sv } vs vr vv2 := by
  refine ⟨hk.mono fun i _ hi => ?_, .inl h.ge, hb, ?_, hs, ?_, h.ok, hok, h.small.1, h2, h.small.2.2⟩
  · rcases hi with rfl | hi
    · exact h.ge
    · exact (h.sv.block i hi).1.1
  · exact ((h.st.mono (G' := fun k => grownD D w k ∧ k ≠ g) (F' := fun _ => False) (fun k hk _ => ⟨.inl hk.1, hk.2⟩) fun _ h _ => h).keep fun k hv => hk.block k (h.st.block k hv).2 fun he => by
      rcases he with rfl | he
      · exact (h.st.block k hv).1.2 rfl
      · exact (h.sv.block k he).1.2.2 hv)
  · have hv : ∀ k, (D k ∧ k ≠ g ∧ vs.ownBlock ≠ some k ∧ vv.ownBlock ≠ some k) → k < w.heap.size → rowD D w g vs vv2 k := by
      rintro k ⟨h3, h4, h5, h6⟩ hl
      refine ⟨.inl h3, h4, h5, fun he => ?_⟩
      rcases hsb with hsb | ⟨q, hq, hge⟩
      · exact h6 (hsb ▸ he)
      · rw [hq] at he
        cases he
        omega
    exact (Kp.sl hk (h.row.mono (F' := fun k => rowD D w g vs vv2 k ∧ k ≠ g ∧ vv.ownBlock ≠ some k) fun k hk hl => ⟨hv k hk hl, hk.2.1, hk.2.2.2⟩) fun k hk he => he.elim hk.2.1 hk.2.2).mono fun k hk _ => hk.1
def saveM (T : Tab) : Tab × Int := ({ T with saved := T.saved ++ [T.row] }, T.saved.length + 1)
set_option maxHeartbeats 1000000 in
theorem save_calls (h : IsTab D g w T) (hsv : T.saved.length < 1099511627776) :
    CallsR Try.prog 19 #[.pointer (some ⟨g, 0, none⟩)] w (TabQ D g w (saveM T).1 (.int .i64 (saveM T).2)) := by
  have hT0 := h
  obtain ⟨vs, vr, vv, hT⟩ := h
  have hsm := hT.small
  have hrl := row_len hT.ok
  obtain ⟨R, cR, rfl, hcR, hlR⟩ := hT.row.form
  obtain ⟨V, cV, rfl, hcV, _⟩ := hT.sv.form
  have m1 : w.cell? ⟨g, 1, none⟩ = some (.slice R T.row.length cR) := blk_cell hT.hb
  have m2 : w.cell? ⟨g, 2, none⟩ = some (.slice V T.saved.length cV) := blk_cell hT.hb
  refine calls_enter Try.func19 rfl rfl ?_
  repeat(first|refine o_nil ?_|(refine o_pass (wants_no rfl rfl rfl ?_) rfl ?_;(focus(first|rfl|assumption|(simp;done)|(simp;omega))))|refine o_pass (wants_not rfl rfl rfl) rfl ?_|(refine o_yes (wants_yes rfl rfl rfl ?_) ?_;(focus(first|rfl|assumption|(simp;done)|(simp;omega))))|refine k_region ?_|(apply k_go;(focus(constructor<;>rfl)))|refine d_nil ?_|(apply o_s;(focus(first|(constructor<;>first|rfl|omega)|(apply Ri.add3<;>first|rfl|omega)|(apply Ri.sub3<;>first|rfl|omega)|(apply Ri.eqb<;>rfl)|(apply Ri.neb<;>rfl)|(apply Ri.pT;(focus rfl);(focus(first|rfl|assumption|(simp;done)|(simp;omega)));(focus rfl))|(apply Ri.pF;(focus rfl);(focus(first|rfl|assumption|(simp;done)|(simp;omega)));(focus rfl))));(focus rfl)))
  refine k_false rfl ?_
  repeat(first|refine o_nil ?_|(refine o_pass (wants_no rfl rfl rfl ?_) rfl ?_;(focus(first|rfl|assumption|(simp;done)|(simp;omega))))|refine o_pass (wants_not rfl rfl rfl) rfl ?_|(refine o_yes (wants_yes rfl rfl rfl ?_) ?_;(focus(first|rfl|assumption|(simp;done)|(simp;omega))))|refine k_region ?_|(apply k_go;(focus(constructor<;>rfl)))|refine d_nil ?_|(apply o_s;(focus(first|(constructor<;>first|rfl|omega)|(apply Ri.add3<;>first|rfl|omega)|(apply Ri.sub3<;>first|rfl|omega)|(apply Ri.eqb<;>rfl)|(apply Ri.neb<;>rfl)|(apply Ri.pT;(focus rfl);(focus(first|rfl|assumption|(simp;done)|(simp;omega)));(focus rfl))|(apply Ri.pF;(focus rfl);(focus(first|rfl|assumption|(simp;done)|(simp;omega)));(focus rfl))));(focus rfl)))
  refine o_still (r_load rfl m1) (wants_none rfl) rfl ?_
  repeat(first|refine o_nil ?_|(refine o_pass (wants_no rfl rfl rfl ?_) rfl ?_;(focus(first|rfl|assumption|(simp;done)|(simp;omega))))|refine o_pass (wants_not rfl rfl rfl) rfl ?_|(refine o_yes (wants_yes rfl rfl rfl ?_) ?_;(focus(first|rfl|assumption|(simp;done)|(simp;omega))))|refine k_region ?_|(apply k_go;(focus(constructor<;>rfl)))|refine d_nil ?_|(apply o_s;(focus(first|(constructor<;>first|rfl|omega)|(apply Ri.add3<;>first|rfl|omega)|(apply Ri.sub3<;>first|rfl|omega)|(apply Ri.eqb<;>rfl)|(apply Ri.neb<;>rfl)|(apply Ri.pT;(focus rfl);(focus(first|rfl|assumption|(simp;done)|(simp;omega)));(focus rfl))|(apply Ri.pF;(focus rfl);(focus(first|rfl|assumption|(simp;done)|(simp;omega)));(focus rfl))));(focus rfl)))
  refine o_any (e_make (l := T.row.length) (c := T.row.length) rfl rfl (by omega) (by omega) (by unfold maxLen; omega)) (wants_none rfl) rfl ?_
  rintro _ w1 ⟨g1, rfl, nb1⟩
  repeat(first|refine o_nil ?_|(refine o_pass (wants_no rfl rfl rfl ?_) rfl ?_;(focus(first|rfl|assumption|(simp;done)|(simp;omega))))|refine o_pass (wants_not rfl rfl rfl) rfl ?_|(refine o_yes (wants_yes rfl rfl rfl ?_) ?_;(focus(first|rfl|assumption|(simp;done)|(simp;omega))))|refine k_region ?_|(apply k_go;(focus(constructor<;>rfl)))|refine d_nil ?_|(apply o_s;(focus(first|(constructor<;>first|rfl|omega)|(apply Ri.add3<;>first|rfl|omega)|(apply Ri.sub3<;>first|rfl|omega)|(apply Ri.eqb<;>rfl)|(apply Ri.neb<;>rfl)|(apply Ri.pT;(focus rfl);(focus(first|rfl|assumption|(simp;done)|(simp;omega)));(focus rfl))|(apply Ri.pF;(focus rfl);(focus(first|rfl|assumption|(simp;done)|(simp;omega)));(focus rfl))));(focus rfl)))
  refine o_still (r_load rfl (nb1.kn.cell m1 id)) (wants_none rfl) rfl ?_
  have hszc : (madeCells (Value.cells (.agg #[.int .i64 0, .int .i64 0])) (T.row.length * 2)).size = T.row.length * 2 := size_madeCells ..
  refine o_any (e_copy (d := kSpan) rfl rfl (nb1.kn.sl hT.row) (Nat.le_refl _) nb1.at_ (by rw [hszc]; show 0 + T.row.length * 2 ≤ _; omega) rfl) (wants_none rfl) rfl ?_
  rintro _ w2 ⟨rfl, cells, hE, hw2⟩
  have hcl : cells.length = T.row.length * 2 := hE.len
  have hb2 := hw2.at_
  rw [List.take_zero, List.nil_append, List.drop_of_length_le (by rw [Array.length_toList, hszc]; omega), List.append_nil] at hb2
  have e1 := nb1.ge
  have l1 := nb1.lt
  have k2 : Kn w w2 := Kp.then nb1.kn hw2.kp (fun _ h => h) (fun i hi he => by omega)
  have hrow : Sl kSpan (noB w) w2 (.slice (some ⟨g1, 0, none⟩) T.row.length T.row.length) T.row := sl_blk hb2 (hE.sc) e1 hlR
  repeat(first|refine o_nil ?_|(refine o_pass (wants_no rfl rfl rfl ?_) rfl ?_;(focus(first|rfl|assumption|(simp;done)|(simp;omega))))|refine o_pass (wants_not rfl rfl rfl) rfl ?_|(refine o_yes (wants_yes rfl rfl rfl ?_) ?_;(focus(first|rfl|assumption|(simp;done)|(simp;omega))))|refine k_region ?_|(apply k_go;(focus(constructor<;>rfl)))|refine d_nil ?_|(apply o_s;(focus(first|(constructor<;>first|rfl|omega)|(apply Ri.add3<;>first|rfl|omega)|(apply Ri.sub3<;>first|rfl|omega)|(apply Ri.eqb<;>rfl)|(apply Ri.neb<;>rfl)|(apply Ri.pT;(focus rfl);(focus(first|rfl|assumption|(simp;done)|(simp;omega)));(focus rfl))|(apply Ri.pF;(focus rfl);(focus(first|rfl|assumption|(simp;done)|(simp;omega)));(focus rfl))));(focus rfl)))
  refine o_still (r_load rfl (k2.cell m2 id)) (wants_none rfl) rfl ?_
  repeat(first|refine o_nil ?_|(refine o_pass (wants_no rfl rfl rfl ?_) rfl ?_;(focus(first|rfl|assumption|(simp;done)|(simp;omega))))|refine o_pass (wants_not rfl rfl rfl) rfl ?_|(refine o_yes (wants_yes rfl rfl rfl ?_) ?_;(focus(first|rfl|assumption|(simp;done)|(simp;omega))))|refine k_region ?_|(apply k_go;(focus(constructor<;>rfl)))|refine d_nil ?_|(apply o_s;(focus(first|(constructor<;>first|rfl|omega)|(apply Ri.add3<;>first|rfl|omega)|(apply Ri.sub3<;>first|rfl|omega)|(apply Ri.eqb<;>rfl)|(apply Ri.neb<;>rfl)|(apply Ri.pT;(focus rfl);(focus(first|rfl|assumption|(simp;done)|(simp;omega)));(focus rfl))|(apply Ri.pF;(focus rfl);(focus(first|rfl|assumption|(simp;done)|(simp;omega)));(focus rfl))));(focus rfl)))
  refine o_any (e_one (z := .slice none 0 0) (sz := 1) rfl rfl rfl (by decide)) (wants_none rfl) rfl ?_
  rintro _ w3 ⟨g3, rfl, nb3⟩
  have k3 : Kn w w3 := k2.trans nb3.kn
  have z2 := k2.size
  have e3 := nb3.ge
  have h3 : IsTabP (grownD D w) g w3 T vs (.slice R T.row.length cR) (.slice V T.saved.length cV) := (hT.mono fun k hk _ => .inl hk).kn k3
  refine o_any (e_append2 (d := kSpans) rfl rfl h3.sv (sl_blk (d := kSpans) (F := noB w) (xs := [T.row]) (cells := [.slice (some ⟨g1, 0, none⟩) T.row.length T.row.length]) nb3.at_ ⟨_, [], rfl, ⟨_, rfl, nb3.kn.sl hrow⟩, rfl⟩ (by simp only [noB]; omega) (show 1 * 24 ≤ 140737488355328 by decide)) (by
    intro k hk he
    have := (hT.sv.block k he).2
    simp only [noB] at hk
    omega) (by show (T.saved.length + 1) * 24 ≤ 140737488355328; omega) rfl rfl rfl) (wants_none rfl) rfl ?_
  rintro v4 w4 hA
  obtain ⟨A4, c4, rfl, _⟩ := hA.ow.form
  have b4 := hA.kp.blk h3.hb (fun he => (h3.sv.block g he).1.2.1 rfl)
  have z3 := k3.size
  have hg := blk_lt hT.hb
  repeat(first|refine o_nil ?_|(refine o_pass (wants_no rfl rfl rfl ?_) rfl ?_;(focus(first|rfl|assumption|(simp;done)|(simp;omega))))|refine o_pass (wants_not rfl rfl rfl) rfl ?_|(refine o_yes (wants_yes rfl rfl rfl ?_) ?_;(focus(first|rfl|assumption|(simp;done)|(simp;omega))))|refine k_region ?_|(apply k_go;(focus(constructor<;>rfl)))|refine d_nil ?_|(apply o_s;(focus(first|(constructor<;>first|rfl|omega)|(apply Ri.add3<;>first|rfl|omega)|(apply Ri.sub3<;>first|rfl|omega)|(apply Ri.eqb<;>rfl)|(apply Ri.neb<;>rfl)|(apply Ri.pT;(focus rfl);(focus(first|rfl|assumption|(simp;done)|(simp;omega)));(focus rfl))|(apply Ri.pF;(focus rfl);(focus(first|rfl|assumption|(simp;done)|(simp;omega)));(focus rfl))));(focus rfl)))
  refine o_unit (u_store (i := 2) rfl rfl rfl (by simp only [add_plain, Nat.zero_add, Nat.add_zero]) b4 (show 2 < 4 by decide)) (wants_none rfl) rfl ?_
  rintro w5 hw5
  repeat(first|refine o_nil ?_|(refine o_pass (wants_no rfl rfl rfl ?_) rfl ?_;(focus(first|rfl|assumption|(simp;done)|(simp;omega))))|refine o_pass (wants_not rfl rfl rfl) rfl ?_|(refine o_yes (wants_yes rfl rfl rfl ?_) ?_;(focus(first|rfl|assumption|(simp;done)|(simp;omega))))|refine k_region ?_|(apply k_go;(focus(constructor<;>rfl)))|refine d_nil ?_|(apply o_s;(focus(first|(constructor<;>first|rfl|omega)|(apply Ri.add3<;>first|rfl|omega)|(apply Ri.sub3<;>first|rfl|omega)|(apply Ri.eqb<;>rfl)|(apply Ri.neb<;>rfl)|(apply Ri.pT;(focus rfl);(focus(first|rfl|assumption|(simp;done)|(simp;omega)));(focus rfl))|(apply Ri.pF;(focus rfl);(focus(first|rfl|assumption|(simp;done)|(simp;omega)));(focus rfl))));(focus rfl)))
  have m25 : w5.cell? ⟨g, 2, none⟩ = some (.slice A4 (T.saved ++ [T.row]).length c4) := blk_cell hw5.at_
  refine o_still (r_load rfl m25) (wants_none rfl) rfl ?_
  repeat(first|refine o_nil ?_|(refine o_pass (wants_no rfl rfl rfl ?_) rfl ?_;(focus(first|rfl|assumption|(simp;done)|(simp;omega))))|refine o_pass (wants_not rfl rfl rfl) rfl ?_|(refine o_yes (wants_yes rfl rfl rfl ?_) ?_;(focus(first|rfl|assumption|(simp;done)|(simp;omega))))|refine k_region ?_|(apply k_go;(focus(constructor<;>rfl)))|refine d_nil ?_|(apply o_s;(focus(first|(constructor<;>first|rfl|omega)|(apply Ri.add3<;>first|rfl|omega)|(apply Ri.sub3<;>first|rfl|omega)|(apply Ri.eqb<;>rfl)|(apply Ri.neb<;>rfl)|(apply Ri.pT;(focus rfl);(focus(first|rfl|assumption|(simp;done)|(simp;omega)));(focus rfl))|(apply Ri.pF;(focus rfl);(focus(first|rfl|assumption|(simp;done)|(simp;omega)));(focus rfl))));(focus rfl)))
  have hnew : ∀ k, w.heap.size ≤ k → grownD (grownD D w) w3 k ∧ k ≠ g ∧ vs.ownBlock ≠ some k := fun k hk => ⟨.inl (.inr hk), by omega, fun he => by
    have := (hT.st.block k he).2; omega⟩
  have hq := h3.putS (sv := T.saved ++ [T.row]) (Kp.then hA.kp hw5.kp (fun _ h => .inr h) (fun _ _ h => .inl h)) hw5.at_
    (Kp.ow hw5.kp (hA.ow.mono (G' := fun k => grownD (grownD D w) w3 k ∧ k ≠ g ∧ vs.ownBlock ≠ some k) (F' := fun k => grownD (grownD D w) w3 k ∧ k ≠ g ∧ vs.ownBlock ≠ some k) (fun k hk hl => hk.elim (fun hk => ⟨.inl hk.1, hk.2⟩) fun hk => hnew k (by omega)) (fun k hk hl => hk.elim (fun hk => ⟨.inl hk.1, hk.2⟩) fun hk => hnew k hk)) (fun k hk => hk.2.1) (fun k hk => hk.2.1)) hA.blk ?_ (by simp; omega)
  · exact k_ret1 rfl rfl (TabQ.then k3.kp ⟨hq.1, hq.2.tab, by simp [saveM]⟩)
  · intro r hr
    rcases List.mem_append.1 hr with hr | hr
    · exact hT.oks r hr
    · obtain rfl : r = T.row := by simpa using hr
      exact hT.ok
def backM (T : Tab) (id : Int) : Tab × Int := if id < 1 ∨ T.saved.length < id then (T, 4) else ({ T with row := T.saved.getD (id - 1).toNat [] }, 0)
set_option maxHeartbeats 1000000 in
theorem back_calls {id : Int} (h : IsTab D g w T) (ha : -9223372036854775808 ≤ id ∧ id ≤ 9223372036854775807) (hsv : ∀ r ∈ T.saved, tot r ≤ 65536) :
    CallsR Try.prog 20 #[.pointer (some ⟨g, 0, none⟩), .int .i64 id] w (TabQ D g w (backM T id).1 (.int .i64 (backM T id).2)) := by
  have hT0 := h
  obtain ⟨vs, vr, vv, hT⟩ := h
  have hsm := hT.small
  obtain ⟨V, cV, rfl, hcV, _⟩ := hT.sv.form
  have m2 : w.cell? ⟨g, 2, none⟩ = some (.slice V T.saved.length cV) := blk_cell hT.hb
  have same : ∀ e : Int, backM T id = (T, e) → TabQ D g w (backM T id).1 (.int .i64 (backM T id).2) (.int .i64 e) w := fun e he => ⟨Kp.refl _ _, by rw [he]; exact hT0.grow, by rw [he]⟩
  refine calls_enter Try.func20 rfl rfl ?_
  repeat(first|refine o_nil ?_|(refine o_pass (wants_no rfl rfl rfl ?_) rfl ?_;(focus(first|rfl|assumption|(simp;done)|(simp;omega))))|refine o_pass (wants_not rfl rfl rfl) rfl ?_|(refine o_yes (wants_yes rfl rfl rfl ?_) ?_;(focus(first|rfl|assumption|(simp;done)|(simp;omega))))|refine k_region ?_|(apply k_go;(focus(constructor<;>rfl)))|refine d_nil ?_|(apply o_s;(focus(first|(constructor<;>first|rfl|omega)|(apply Ri.add3<;>first|rfl|omega)|(apply Ri.sub3<;>first|rfl|omega)|(apply Ri.eqb<;>rfl)|(apply Ri.neb<;>rfl)|(apply Ri.pT;(focus rfl);(focus(first|rfl|assumption|(simp;done)|(simp;omega)));(focus rfl))|(apply Ri.pF;(focus rfl);(focus(first|rfl|assumption|(simp;done)|(simp;omega)));(focus rfl))));(focus rfl)))
  refine k_false rfl ?_
  by_cases h1 : id < 1
  · have he : backM T id = (T, 4) := by unfold backM; rw [if_pos (.inl h1)]
    repeat(first|refine o_nil ?_|(refine o_pass (wants_no rfl rfl rfl ?_) rfl ?_;(focus(first|rfl|assumption|(simp;done)|(simp;omega))))|refine o_pass (wants_not rfl rfl rfl) rfl ?_|(refine o_yes (wants_yes rfl rfl rfl ?_) ?_;(focus(first|rfl|assumption|(simp;done)|(simp;omega))))|refine k_region ?_|(apply k_go;(focus(constructor<;>rfl)))|refine d_nil ?_|(apply o_s;(focus(first|(constructor<;>first|rfl|omega)|(apply Ri.add3<;>first|rfl|omega)|(apply Ri.sub3<;>first|rfl|omega)|(apply Ri.eqb<;>rfl)|(apply Ri.neb<;>rfl)|(apply Ri.pT;(focus rfl);(focus(first|rfl|assumption|(simp;done)|(simp;omega)));(focus rfl))|(apply Ri.pF;(focus rfl);(focus(first|rfl|assumption|(simp;done)|(simp;omega)));(focus rfl))));(focus rfl)))
    refine k_true rfl ?_
    repeat(first|refine o_nil ?_|(refine o_pass (wants_no rfl rfl rfl ?_) rfl ?_;(focus(first|rfl|assumption|(simp;done)|(simp;omega))))|refine o_pass (wants_not rfl rfl rfl) rfl ?_|(refine o_yes (wants_yes rfl rfl rfl ?_) ?_;(focus(first|rfl|assumption|(simp;done)|(simp;omega))))|refine k_region ?_|(apply k_go;(focus(constructor<;>rfl)))|refine d_nil ?_|(apply o_s;(focus(first|(constructor<;>first|rfl|omega)|(apply Ri.add3<;>first|rfl|omega)|(apply Ri.sub3<;>first|rfl|omega)|(apply Ri.eqb<;>rfl)|(apply Ri.neb<;>rfl)|(apply Ri.pT;(focus rfl);(focus(first|rfl|assumption|(simp;done)|(simp;omega)));(focus rfl))|(apply Ri.pF;(focus rfl);(focus(first|rfl|assumption|(simp;done)|(simp;omega)));(focus rfl))));(focus rfl)))
    exact k_ret1 rfl rfl (same _ he)
  by_cases h2 : T.saved.length < id
  · have he : backM T id = (T, 4) := by unfold backM; rw [if_pos (.inr h2)]
    repeat(first|refine o_nil ?_|(refine o_pass (wants_no rfl rfl rfl ?_) rfl ?_;(focus(first|rfl|assumption|(simp;done)|(simp;omega))))|refine o_pass (wants_not rfl rfl rfl) rfl ?_|(refine o_yes (wants_yes rfl rfl rfl ?_) ?_;(focus(first|rfl|assumption|(simp;done)|(simp;omega))))|refine k_region ?_|(apply k_go;(focus(constructor<;>rfl)))|refine d_nil ?_|(apply o_s;(focus(first|(constructor<;>first|rfl|omega)|(apply Ri.add3<;>first|rfl|omega)|(apply Ri.sub3<;>first|rfl|omega)|(apply Ri.eqb<;>rfl)|(apply Ri.neb<;>rfl)|(apply Ri.pT;(focus rfl);(focus(first|rfl|assumption|(simp;done)|(simp;omega)));(focus rfl))|(apply Ri.pF;(focus rfl);(focus(first|rfl|assumption|(simp;done)|(simp;omega)));(focus rfl))));(focus rfl)))
    refine o_still (r_load rfl m2) (wants_none rfl) rfl ?_
    repeat(first|refine o_nil ?_|(refine o_pass (wants_no rfl rfl rfl ?_) rfl ?_;(focus(first|rfl|assumption|(simp;done)|(simp;omega))))|refine o_pass (wants_not rfl rfl rfl) rfl ?_|(refine o_yes (wants_yes rfl rfl rfl ?_) ?_;(focus(first|rfl|assumption|(simp;done)|(simp;omega))))|refine k_region ?_|(apply k_go;(focus(constructor<;>rfl)))|refine d_nil ?_|(apply o_s;(focus(first|(constructor<;>first|rfl|omega)|(apply Ri.add3<;>first|rfl|omega)|(apply Ri.sub3<;>first|rfl|omega)|(apply Ri.eqb<;>rfl)|(apply Ri.neb<;>rfl)|(apply Ri.pT;(focus rfl);(focus(first|rfl|assumption|(simp;done)|(simp;omega)));(focus rfl))|(apply Ri.pF;(focus rfl);(focus(first|rfl|assumption|(simp;done)|(simp;omega)));(focus rfl))));(focus rfl)))
    refine k_yes rfl (by omega) ?_
    repeat(first|refine o_nil ?_|(refine o_pass (wants_no rfl rfl rfl ?_) rfl ?_;(focus(first|rfl|assumption|(simp;done)|(simp;omega))))|refine o_pass (wants_not rfl rfl rfl) rfl ?_|(refine o_yes (wants_yes rfl rfl rfl ?_) ?_;(focus(first|rfl|assumption|(simp;done)|(simp;omega))))|refine k_region ?_|(apply k_go;(focus(constructor<;>rfl)))|refine d_nil ?_|(apply o_s;(focus(first|(constructor<;>first|rfl|omega)|(apply Ri.add3<;>first|rfl|omega)|(apply Ri.sub3<;>first|rfl|omega)|(apply Ri.eqb<;>rfl)|(apply Ri.neb<;>rfl)|(apply Ri.pT;(focus rfl);(focus(first|rfl|assumption|(simp;done)|(simp;omega)));(focus rfl))|(apply Ri.pF;(focus rfl);(focus(first|rfl|assumption|(simp;done)|(simp;omega)));(focus rfl))));(focus rfl)))
    exact k_ret1 rfl rfl (same _ he)
  obtain ⟨j, hj⟩ : ∃ j : Nat, id = (j : Int) + 1 := ⟨(id - 1).toNat, by omega⟩
  subst hj
  have hjl : j < T.saved.length := by omega
  have he : backM T ((j : Int) + 1) = ({ T with row := T.saved[j] }, 0) := by
    unfold backM
    rw [if_neg (by omega), show ((j : Int) + 1 - 1).toNat = j from by omega, List.getD_eq_getElem?_getD, List.getElem?_eq_getElem hjl]
    rfl
  rw [he]
  have hokr := hT.oks T.saved[j] (List.getElem_mem hjl)
  have htr := hsv T.saved[j] (List.getElem_mem hjl)
  obtain ⟨ad, cs, hAd, ⟨vrow, rfl, hrow⟩, hcell⟩ := hT.sv.sl.at_ (List.getElem?_eq_getElem hjl)
  subst hAd
  have htn := hokr.tot_nonneg
  clear same he hsv
  generalize T.saved[j] = row at *
  have hrl := row_len hokr
  obtain ⟨R, cR, rfl, hcR, hlR⟩ := hrow.form
  repeat(first|refine o_nil ?_|(refine o_pass (wants_no rfl rfl rfl ?_) rfl ?_;(focus(first|rfl|assumption|(simp;done)|(simp;omega))))|refine o_pass (wants_not rfl rfl rfl) rfl ?_|(refine o_yes (wants_yes rfl rfl rfl ?_) ?_;(focus(first|rfl|assumption|(simp;done)|(simp;omega))))|refine k_region ?_|(apply k_go;(focus(constructor<;>rfl)))|refine d_nil ?_|(apply o_s;(focus(first|(constructor<;>first|rfl|omega)|(apply Ri.add3<;>first|rfl|omega)|(apply Ri.sub3<;>first|rfl|omega)|(apply Ri.eqb<;>rfl)|(apply Ri.neb<;>rfl)|(apply Ri.pT;(focus rfl);(focus(first|rfl|assumption|(simp;done)|(simp;omega)));(focus rfl))|(apply Ri.pF;(focus rfl);(focus(first|rfl|assumption|(simp;done)|(simp;omega)));(focus rfl))));(focus rfl)))
  refine o_still (r_load rfl m2) (wants_none rfl) rfl ?_
  repeat(first|refine o_nil ?_|(refine o_pass (wants_no rfl rfl rfl ?_) rfl ?_;(focus(first|rfl|assumption|(simp;done)|(simp;omega))))|refine o_pass (wants_not rfl rfl rfl) rfl ?_|(refine o_yes (wants_yes rfl rfl rfl ?_) ?_;(focus(first|rfl|assumption|(simp;done)|(simp;omega))))|refine k_region ?_|(apply k_go;(focus(constructor<;>rfl)))|refine d_nil ?_|(apply o_s;(focus(first|(constructor<;>first|rfl|omega)|(apply Ri.add3<;>first|rfl|omega)|(apply Ri.sub3<;>first|rfl|omega)|(apply Ri.eqb<;>rfl)|(apply Ri.neb<;>rfl)|(apply Ri.pT;(focus rfl);(focus(first|rfl|assumption|(simp;done)|(simp;omega)));(focus rfl))|(apply Ri.pF;(focus rfl);(focus(first|rfl|assumption|(simp;done)|(simp;omega)));(focus rfl))));(focus rfl)))
  refine k_no rfl (by omega) ?_
  repeat(first|refine o_nil ?_|(refine o_pass (wants_no rfl rfl rfl ?_) rfl ?_;(focus(first|rfl|assumption|(simp;done)|(simp;omega))))|refine o_pass (wants_not rfl rfl rfl) rfl ?_|(refine o_yes (wants_yes rfl rfl rfl ?_) ?_;(focus(first|rfl|assumption|(simp;done)|(simp;omega))))|refine k_region ?_|(apply k_go;(focus(constructor<;>rfl)))|refine d_nil ?_|(apply o_s;(focus(first|(constructor<;>first|rfl|omega)|(apply Ri.add3<;>first|rfl|omega)|(apply Ri.sub3<;>first|rfl|omega)|(apply Ri.eqb<;>rfl)|(apply Ri.neb<;>rfl)|(apply Ri.pT;(focus rfl);(focus(first|rfl|assumption|(simp;done)|(simp;omega)));(focus rfl))|(apply Ri.pF;(focus rfl);(focus(first|rfl|assumption|(simp;done)|(simp;omega)));(focus rfl))));(focus rfl)))
  refine o_still (r_load rfl m2) (wants_none rfl) rfl ?_
  repeat(first|refine o_nil ?_|(refine o_pass (wants_no rfl rfl rfl ?_) rfl ?_;(focus(first|rfl|assumption|(simp;done)|(simp;omega))))|refine o_pass (wants_not rfl rfl rfl) rfl ?_|(refine o_yes (wants_yes rfl rfl rfl ?_) ?_;(focus(first|rfl|assumption|(simp;done)|(simp;omega))))|refine k_region ?_|(apply k_go;(focus(constructor<;>rfl)))|refine d_nil ?_|(apply o_s;(focus(first|(constructor<;>first|rfl|omega)|(apply Ri.add3<;>first|rfl|omega)|(apply Ri.sub3<;>first|rfl|omega)|(apply Ri.eqb<;>rfl)|(apply Ri.neb<;>rfl)|(apply Ri.pT;(focus rfl);(focus(first|rfl|assumption|(simp;done)|(simp;omega)));(focus rfl))|(apply Ri.pF;(focus rfl);(focus(first|rfl|assumption|(simp;done)|(simp;omega)));(focus rfl))));(focus rfl)))
  refine o_still (r_index rfl rfl rfl (by omega) (by omega)) (wants_none rfl) rfl ?_
  refine o_still (r_load rfl (by rw [show ((j : Int) + 1 - 1).toNat = j from by omega]; exact hcell 0 _ rfl)) (wants_none rfl) rfl ?_
  have hO : Ow kSpan (noB w) (fun _ => False) w (.slice none 0 0) [] := Ow.nil _ _ _ _
  refine o_any (e_append2 (d := kSpan) rfl rfl hO hrow (by intro k hk he; simp [Value.ownBlock] at he) (by show (0 + row.length) * 16 ≤ 140737488355328; omega) rfl rfl rfl) (wants_none rfl) rfl ?_
  rintro v1 w1 hA
  obtain ⟨k1, hO1⟩ := app_next (Kp.refl _ _) hO hA
  rw [List.nil_append] at hO1
  obtain ⟨A1, c1, rfl, _⟩ := hO1.form
  have z1 := k1.size
  have hg := blk_lt hT.hb
  repeat(first|refine o_nil ?_|(refine o_pass (wants_no rfl rfl rfl ?_) rfl ?_;(focus(first|rfl|assumption|(simp;done)|(simp;omega))))|refine o_pass (wants_not rfl rfl rfl) rfl ?_|(refine o_yes (wants_yes rfl rfl rfl ?_) ?_;(focus(first|rfl|assumption|(simp;done)|(simp;omega))))|refine k_region ?_|(apply k_go;(focus(constructor<;>rfl)))|refine d_nil ?_|(apply o_s;(focus(first|(constructor<;>first|rfl|omega)|(apply Ri.add3<;>first|rfl|omega)|(apply Ri.sub3<;>first|rfl|omega)|(apply Ri.eqb<;>rfl)|(apply Ri.neb<;>rfl)|(apply Ri.pT;(focus rfl);(focus(first|rfl|assumption|(simp;done)|(simp;omega)));(focus rfl))|(apply Ri.pF;(focus rfl);(focus(first|rfl|assumption|(simp;done)|(simp;omega)));(focus rfl))));(focus rfl)))
  refine o_unit (u_store (i := 1) rfl rfl rfl (by simp only [add_plain, Nat.zero_add, Nat.add_zero]) (k1.blk hT.hb id) (show 1 < 4 by decide)) (wants_none rfl) rfl ?_
  rintro w2 hw2
  repeat(first|refine o_nil ?_|(refine o_pass (wants_no rfl rfl rfl ?_) rfl ?_;(focus(first|rfl|assumption|(simp;done)|(simp;omega))))|refine o_pass (wants_not rfl rfl rfl) rfl ?_|(refine o_yes (wants_yes rfl rfl rfl ?_) ?_;(focus(first|rfl|assumption|(simp;done)|(simp;omega))))|refine k_region ?_|(apply k_go;(focus(constructor<;>rfl)))|refine d_nil ?_|(apply o_s;(focus(first|(constructor<;>first|rfl|omega)|(apply Ri.add3<;>first|rfl|omega)|(apply Ri.sub3<;>first|rfl|omega)|(apply Ri.eqb<;>rfl)|(apply Ri.neb<;>rfl)|(apply Ri.pT;(focus rfl);(focus(first|rfl|assumption|(simp;done)|(simp;omega)));(focus rfl))|(apply Ri.pF;(focus rfl);(focus(first|rfl|assumption|(simp;done)|(simp;omega)));(focus rfl))));(focus rfl)))
  refine o_unit (u_store (i := 3) rfl rfl rfl (by simp only [add_plain, Nat.zero_add, Nat.add_zero]) hw2.at_ (show 3 < 4 by decide)) (wants_none rfl) rfl ?_
  rintro w3 hw3
  have m13 : w3.cell? ⟨g, 1, none⟩ = some (.slice A1 row.length c1) := blk_cell hw3.at_
  have kp3 : Kp (fun k => k = g) w w3 := Kp.then (Kp.then k1 hw2.kp (fun _ h => h.elim) (fun _ _ h => h)) hw3.kp (fun _ h => h) (fun _ _ h => h)
  have hs1 : Sl kSpan (noB w) w1 (.slice A1 row.length c1) row := hO1.slF (fun _ h => h) (fun _ h => h.elim)
  have hng : ∀ k, noB w k → ¬ k = g := fun k hk => by simp only [noB] at hk; omega
  have hs3 := Kp.sl hw3.kp (Kp.sl hw2.kp hs1 hng) hng
  repeat(first|refine o_nil ?_|(refine o_pass (wants_no rfl rfl rfl ?_) rfl ?_;(focus(first|rfl|assumption|(simp;done)|(simp;omega))))|refine o_pass (wants_not rfl rfl rfl) rfl ?_|(refine o_yes (wants_yes rfl rfl rfl ?_) ?_;(focus(first|rfl|assumption|(simp;done)|(simp;omega))))|refine k_region ?_|(apply k_go;(focus(constructor<;>rfl)))|refine d_nil ?_|(apply o_s;(focus(first|(constructor<;>first|rfl|omega)|(apply Ri.add3<;>first|rfl|omega)|(apply Ri.sub3<;>first|rfl|omega)|(apply Ri.eqb<;>rfl)|(apply Ri.neb<;>rfl)|(apply Ri.pT;(focus rfl);(focus(first|rfl|assumption|(simp;done)|(simp;omega)));(focus rfl))|(apply Ri.pF;(focus rfl);(focus(first|rfl|assumption|(simp;done)|(simp;omega)));(focus rfl))));(focus rfl)))
  refine o_still (r_load rfl m13) (wants_none rfl) rfl ?_
  repeat(first|refine o_nil ?_|(refine o_pass (wants_no rfl rfl rfl ?_) rfl ?_;(focus(first|rfl|assumption|(simp;done)|(simp;omega))))|refine o_pass (wants_not rfl rfl rfl) rfl ?_|(refine o_yes (wants_yes rfl rfl rfl ?_) ?_;(focus(first|rfl|assumption|(simp;done)|(simp;omega))))|refine k_region ?_|(apply k_go;(focus(constructor<;>rfl)))|refine d_nil ?_|(apply o_s;(focus(first|(constructor<;>first|rfl|omega)|(apply Ri.add3<;>first|rfl|omega)|(apply Ri.sub3<;>first|rfl|omega)|(apply Ri.eqb<;>rfl)|(apply Ri.neb<;>rfl)|(apply Ri.pT;(focus rfl);(focus(first|rfl|assumption|(simp;done)|(simp;omega)));(focus rfl))|(apply Ri.pF;(focus rfl);(focus(first|rfl|assumption|(simp;done)|(simp;omega)));(focus rfl))));(focus rfl)))
  refine k_while (fun i => row.length - i) (fun i : Nat => [(0, .pointer (some ⟨g, 0, none⟩)), (38, .slice A1 row.length c1), (39, .int .i64 row.length), (40, .int .i64 i)])
    (fun i wr => i ≤ row.length ∧ Kp (fun k => k = g) w wr ∧ wr.heap[g]? = some (.cells #[vs, .slice A1 row.length c1, .slice (some ad) T.saved.length cV, .int .i64 (tot (row.take i))] 54 (0, 0)) ∧ Sl kSpan (noB w) wr (.slice A1 row.length c1) row)
    0 (by repeat (first | exact SubB.nil | refine SubB.cons rfl ?_)) ⟨Nat.zero_le _, kp3, hw3.at_, hs3⟩ ?_
  rintro i wr ⟨hi, hkp, hb, hs⟩ ih
  repeat(first|refine o_nil ?_|(refine o_pass (wants_no rfl rfl rfl ?_) rfl ?_;(focus(first|rfl|assumption|(simp;done)|(simp;omega))))|refine o_pass (wants_not rfl rfl rfl) rfl ?_|(refine o_yes (wants_yes rfl rfl rfl ?_) ?_;(focus(first|rfl|assumption|(simp;done)|(simp;omega))))|refine k_region ?_|(apply k_go;(focus(constructor<;>rfl)))|refine d_nil ?_|(apply o_s;(focus(first|(constructor<;>first|rfl|omega)|(apply Ri.add3<;>first|rfl|omega)|(apply Ri.sub3<;>first|rfl|omega)|(apply Ri.eqb<;>rfl)|(apply Ri.neb<;>rfl)|(apply Ri.pT;(focus rfl);(focus(first|rfl|assumption|(simp;done)|(simp;omega)));(focus rfl))|(apply Ri.pF;(focus rfl);(focus(first|rfl|assumption|(simp;done)|(simp;omega)));(focus rfl))));(focus rfl)))
  refine k_ite rfl (fun hlt => ?_) (fun hge => ?_)
  · have hlt' : i < row.length := by omega
    have hso := hokr row[i] (List.getElem_mem hlt')
    obtain ⟨bd, cs2, rfl, hR, hcell2⟩ := hs.at_ (List.getElem?_eq_getElem hlt')
    obtain ⟨d1, d2, rfl, ⟨rfl, ha1, ha2⟩, ⟨rfl, ha3, ha4⟩⟩ := hR
    have htt : tot (row.take (i + 1)) = tot (row.take i) + row[i].2 := by
      rw [List.take_succ_eq_append_getElem hlt', tot_append, tot_cons, tot_nil]; omega
    have ht0 : 0 ≤ tot (row.take i) := SpOK.tot_nonneg (st := T.store) fun y hy => hokr y (List.mem_of_mem_take hy)
    have ht1 : tot (row.take (i + 1)) ≤ tot row := by
      have h4 := tot_append (row.take (i + 1)) (row.drop (i + 1))
      rw [List.take_append_drop] at h4
      have : 0 ≤ tot (row.drop (i + 1)) := SpOK.tot_nonneg (st := T.store) fun y hy => hokr y (List.mem_of_mem_drop hy)
      omega
    generalize row[i] = s at *
    repeat(first|refine o_nil ?_|(refine o_pass (wants_no rfl rfl rfl ?_) rfl ?_;(focus(first|rfl|assumption|(simp;done)|(simp;omega))))|refine o_pass (wants_not rfl rfl rfl) rfl ?_|(refine o_yes (wants_yes rfl rfl rfl ?_) ?_;(focus(first|rfl|assumption|(simp;done)|(simp;omega))))|refine k_region ?_|(apply k_go;(focus(constructor<;>rfl)))|refine d_nil ?_|(apply o_s;(focus(first|(constructor<;>first|rfl|omega)|(apply Ri.add3<;>first|rfl|omega)|(apply Ri.sub3<;>first|rfl|omega)|(apply Ri.eqb<;>rfl)|(apply Ri.neb<;>rfl)|(apply Ri.pT;(focus rfl);(focus(first|rfl|assumption|(simp;done)|(simp;omega)));(focus rfl))|(apply Ri.pF;(focus rfl);(focus(first|rfl|assumption|(simp;done)|(simp;omega)));(focus rfl))));(focus rfl)))
    refine o_still (r_index rfl rfl rfl (by omega) (by omega)) (wants_none rfl) rfl ?_
    refine o_still (r_loadA (cs := [.int .i64 s.1, .int .i64 s.2]) rfl rfl (by
      intro j u hu
      rw [Int.toNat_natCast, add_add]
      exact hcell2 j u hu)) (wants_none rfl) rfl ?_
    refine o_any (e_alloc) (wants_none rfl) rfl ?_
    rintro _ w4 ⟨g4, rfl, nb4⟩
    refine o_unit (u_storeA rfl rfl rfl (by simp [Value.oneCell']) rfl nb4.at_ (Nat.le_refl 2)) (wants_none rfl) rfl ?_
    rintro w5 hw5
    have e4 := nb4.ge
    have zr := hkp.size
    have k5 : Kn wr w5 := Kp.then nb4.kn hw5.kp (fun _ h => h) (fun i hi he => by omega)
    have b5 := k5.blk hb id
    have f1 : w5.cell? ⟨g4, 1, none⟩ = some (.int .i64 s.2) := blk_cell hw5.at_
    have n5 : w5.cell? ⟨g, 3, none⟩ = some (.int .i64 (tot (row.take i))) := blk_cell b5
    repeat(first|refine o_nil ?_|(refine o_pass (wants_no rfl rfl rfl ?_) rfl ?_;(focus(first|rfl|assumption|(simp;done)|(simp;omega))))|refine o_pass (wants_not rfl rfl rfl) rfl ?_|(refine o_yes (wants_yes rfl rfl rfl ?_) ?_;(focus(first|rfl|assumption|(simp;done)|(simp;omega))))|refine k_region ?_|(apply k_go;(focus(constructor<;>rfl)))|refine d_nil ?_|(apply o_s;(focus(first|(constructor<;>first|rfl|omega)|(apply Ri.add3<;>first|rfl|omega)|(apply Ri.sub3<;>first|rfl|omega)|(apply Ri.eqb<;>rfl)|(apply Ri.neb<;>rfl)|(apply Ri.pT;(focus rfl);(focus(first|rfl|assumption|(simp;done)|(simp;omega)));(focus rfl))|(apply Ri.pF;(focus rfl);(focus(first|rfl|assumption|(simp;done)|(simp;omega)));(focus rfl))));(focus rfl)))
    refine k_draw [(0, 0), (1, 0), (2, 0), (3, 0), (4, 0), (5, 0), (6, 0), (7, 0), (8, 0), (9, 1)] (by kernel_rfl) (by kernel_rfl) rfl (by kernel_rfl) ?_
    repeat(first|refine d_nil ?_|(refine d_open rfl ?_;first|((first|refine x_pass (wants_no rfl rfl rfl ?_) rfl ?_ ?_|refine x_passNow (wants_no rfl rfl rfl ?_) rfl ?_ ?_);(focus(first|rfl|assumption|(simp;done)|(simp;omega)));(focus(first|exact St.refl _|assumption)))|((first|refine x_pass (wants_not rfl rfl rfl) rfl ?_ ?_|refine x_passNow (wants_not rfl rfl rfl) rfl ?_ ?_);(focus(first|exact St.refl _|assumption)))|((first|apply x_s|apply x_n);(focus(first|(constructor<;>first|rfl|omega)|(apply Ri.add3<;>first|rfl|omega)|(apply Ri.sub3<;>first|rfl|omega)|(apply Ri.eqb<;>rfl)|(apply Ri.neb<;>rfl)|(apply Ri.pT;(focus rfl);(focus(first|rfl|assumption|(simp;done)|(simp;omega)));(focus rfl))|(apply Ri.pF;(focus rfl);(focus(first|rfl|assumption|(simp;done)|(simp;omega)));(focus rfl))));(focus(first|exact wants_none rfl|exact wants_yes rfl rfl rfl (by first|rfl|assumption|(simp;done)|(simp;omega))));(focus rfl);(focus(first|exact St.refl _|assumption)))))
    refine d_open rfl ?_; refine x_still (r_load rfl n5) (wants_none rfl) rfl (by first | exact St.refl _ | assumption) ?_
    repeat(first|refine d_nil ?_|(refine d_open rfl ?_;first|((first|refine x_pass (wants_no rfl rfl rfl ?_) rfl ?_ ?_|refine x_passNow (wants_no rfl rfl rfl ?_) rfl ?_ ?_);(focus(first|rfl|assumption|(simp;done)|(simp;omega)));(focus(first|exact St.refl _|assumption)))|((first|refine x_pass (wants_not rfl rfl rfl) rfl ?_ ?_|refine x_passNow (wants_not rfl rfl rfl) rfl ?_ ?_);(focus(first|exact St.refl _|assumption)))|((first|apply x_s|apply x_n);(focus(first|(constructor<;>first|rfl|omega)|(apply Ri.add3<;>first|rfl|omega)|(apply Ri.sub3<;>first|rfl|omega)|(apply Ri.eqb<;>rfl)|(apply Ri.neb<;>rfl)|(apply Ri.pT;(focus rfl);(focus(first|rfl|assumption|(simp;done)|(simp;omega)));(focus rfl))|(apply Ri.pF;(focus rfl);(focus(first|rfl|assumption|(simp;done)|(simp;omega)));(focus rfl))));(focus(first|exact wants_none rfl|exact wants_yes rfl rfl rfl (by first|rfl|assumption|(simp;done)|(simp;omega))));(focus rfl);(focus(first|exact St.refl _|assumption)))))
    refine d_open rfl ?_; refine x_still (r_load rfl f1) (wants_none rfl) rfl (by first | exact St.refl _ | assumption) ?_
    repeat(first|refine d_nil ?_|(refine d_open rfl ?_;first|((first|refine x_pass (wants_no rfl rfl rfl ?_) rfl ?_ ?_|refine x_passNow (wants_no rfl rfl rfl ?_) rfl ?_ ?_);(focus(first|rfl|assumption|(simp;done)|(simp;omega)));(focus(first|exact St.refl _|assumption)))|((first|refine x_pass (wants_not rfl rfl rfl) rfl ?_ ?_|refine x_passNow (wants_not rfl rfl rfl) rfl ?_ ?_);(focus(first|exact St.refl _|assumption)))|((first|apply x_s|apply x_n);(focus(first|(constructor<;>first|rfl|omega)|(apply Ri.add3<;>first|rfl|omega)|(apply Ri.sub3<;>first|rfl|omega)|(apply Ri.eqb<;>rfl)|(apply Ri.neb<;>rfl)|(apply Ri.pT;(focus rfl);(focus(first|rfl|assumption|(simp;done)|(simp;omega)));(focus rfl))|(apply Ri.pF;(focus rfl);(focus(first|rfl|assumption|(simp;done)|(simp;omega)));(focus rfl))));(focus(first|exact wants_none rfl|exact wants_yes rfl rfl rfl (by first|rfl|assumption|(simp;done)|(simp;omega))));(focus rfl);(focus(first|exact St.refl _|assumption)))))
    refine d_open rfl ?_; refine x_unit (u_store (i := 3) rfl rfl rfl (by simp only [add_plain, Nat.zero_add, Nat.add_zero]) b5 (show 3 < 4 by decide)) (wants_none rfl) rfl ?_
    rintro w6 hw6
    refine .inr ⟨(by kernel_rfl), ?_⟩
    repeat(first|refine d_nil ?_|(refine d_open rfl ?_;first|((first|refine x_pass (wants_no rfl rfl rfl ?_) rfl ?_ ?_|refine x_passNow (wants_no rfl rfl rfl ?_) rfl ?_ ?_);(focus(first|rfl|assumption|(simp;done)|(simp;omega)));(focus(first|exact St.refl _|assumption)))|((first|refine x_pass (wants_not rfl rfl rfl) rfl ?_ ?_|refine x_passNow (wants_not rfl rfl rfl) rfl ?_ ?_);(focus(first|exact St.refl _|assumption)))|((first|apply x_s|apply x_n);(focus(first|(constructor<;>first|rfl|omega)|(apply Ri.add3<;>first|rfl|omega)|(apply Ri.sub3<;>first|rfl|omega)|(apply Ri.eqb<;>rfl)|(apply Ri.neb<;>rfl)|(apply Ri.pT;(focus rfl);(focus(first|rfl|assumption|(simp;done)|(simp;omega)));(focus rfl))|(apply Ri.pF;(focus rfl);(focus(first|rfl|assumption|(simp;done)|(simp;omega)));(focus rfl))));(focus(first|exact wants_none rfl|exact wants_yes rfl rfl rfl (by first|rfl|assumption|(simp;done)|(simp;omega))));(focus rfl);(focus(first|exact St.refl _|assumption)))))
    repeat(first|refine o_nil ?_|(refine o_pass (wants_no rfl rfl rfl ?_) rfl ?_;(focus(first|rfl|assumption|(simp;done)|(simp;omega))))|refine o_pass (wants_not rfl rfl rfl) rfl ?_|(refine o_yes (wants_yes rfl rfl rfl ?_) ?_;(focus(first|rfl|assumption|(simp;done)|(simp;omega))))|refine k_region ?_|(apply k_go;(focus(constructor<;>rfl)))|refine d_nil ?_|(apply o_s;(focus(first|(constructor<;>first|rfl|omega)|(apply Ri.add3<;>first|rfl|omega)|(apply Ri.sub3<;>first|rfl|omega)|(apply Ri.eqb<;>rfl)|(apply Ri.neb<;>rfl)|(apply Ri.pT;(focus rfl);(focus(first|rfl|assumption|(simp;done)|(simp;omega)));(focus rfl))|(apply Ri.pF;(focus rfl);(focus(first|rfl|assumption|(simp;done)|(simp;omega)));(focus rfl))));(focus rfl)))
    exact ih (i + 1) w6 ⟨by omega, Kp.then (hkp.trans (k5.kp)) hw6.kp (fun _ h => h) (fun _ _ h => h), by rw [htt]; exact hw6.at_, Kp.sl hw6.kp (k5.sl hs) hng⟩ (by omega) _ (by repeat (first | exact SubB.nil | refine SubB.cons rfl ?_))
  · have hie : i = row.length := by omega
    subst hie
    rw [List.take_length] at hb
    repeat(first|refine o_nil ?_|(refine o_pass (wants_no rfl rfl rfl ?_) rfl ?_;(focus(first|rfl|assumption|(simp;done)|(simp;omega))))|refine o_pass (wants_not rfl rfl rfl) rfl ?_|(refine o_yes (wants_yes rfl rfl rfl ?_) ?_;(focus(first|rfl|assumption|(simp;done)|(simp;omega))))|refine k_region ?_|(apply k_go;(focus(constructor<;>rfl)))|refine d_nil ?_|(apply o_s;(focus(first|(constructor<;>first|rfl|omega)|(apply Ri.add3<;>first|rfl|omega)|(apply Ri.sub3<;>first|rfl|omega)|(apply Ri.eqb<;>rfl)|(apply Ri.neb<;>rfl)|(apply Ri.pT;(focus rfl);(focus(first|rfl|assumption|(simp;done)|(simp;omega)));(focus rfl))|(apply Ri.pF;(focus rfl);(focus(first|rfl|assumption|(simp;done)|(simp;omega)));(focus rfl))));(focus rfl)))
    have hq := hT.turn (row := row) hkp hb (hs.mono fun k hk _ => hT.fresh k hk) hokr htr
    exact k_ret1 rfl rfl ⟨hq.1, hq.2.tab, rfl⟩
end
end Go.Ink
