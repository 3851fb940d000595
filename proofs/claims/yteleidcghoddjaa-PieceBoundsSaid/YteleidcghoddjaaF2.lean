/-
  piece.Table's cut.
-/
import Derived.Test.YteleidcghoddjaaF1
set_option linter.unusedVariables false
set_option linter.unusedSimpArgs false
namespace Go.Ink
open Go Go.Proofs

instance : ScK kSpan := inferInstanceAs (ScK (kPair kI64 kI64))
/-- An append to what was made here. -/
theorem app_next {α : Type} {d : Kd α} [ScK d] {F : Nat → Prop} {w w1 w2 : World} {v v2 : Value} {xs zs : List α} (hk : Kn w w1) (hO : Ow d (noB w) (fun _ => False) w1 v xs) (hA : App d (noB w) F w1 v zs v2 w2) :
    Kn w w2 ∧ Ow d (noB w) (fun _ => False) w2 v2 zs := by
  have hz := hk.size
  refine ⟨Kp.then hk hA.kp (fun _ h => h) (fun i hi he => ?_), (hA.ow.sc (F' := fun _ => False)).mono (fun k hk _ => hk.elim id (fun h => ?_)) (fun _ h _ => h)⟩
  · have := (hO.block i he).1
    simp only [noB] at this
    omega
  · simp only [noB]; omega
section
variable {D : Nat → Prop} {g : Nat} {w w' : World} {T : Tab} {vs vr vv : Value}
/-- Where a table lies behind a call on it. -/
def grownD (D : Nat → Prop) (w : World) : Nat → Prop := fun k => D k ∨ w.heap.size ≤ k
def rowD (D : Nat → Prop) (w : World) (g : Nat) (vs vv : Value) : Nat → Prop := fun k => grownD D w k ∧ k ≠ g ∧ vs.ownBlock ≠ some k ∧ vv.ownBlock ≠ some k
theorem IsTabP.fresh (h : IsTabP D g w T vs vr vv) : ∀ k, w.heap.size ≤ k → rowD D w g vs vv k := by
  intro k hk
  have h1 := blk_lt h.hb
  refine ⟨.inr hk, by omega, fun he => ?_, fun he => ?_⟩
  · have := (h.st.block k he).2; omega
  · have := (h.sv.block k he).2; omega
/-- The row is another one. -/
theorem IsTabP.turn (h : IsTabP D g w T vs vr vv) {w2 : World} {row : List Span} {vr2 : Value} (hk : Kp (fun k => k = g) w w2) (hb : w2.heap[g]? = some (.cells #[vs, vr2, vv, .int .i64 (tot row)] 54 (0, 0)))
    (hr : Sl kSpan (rowD D w g vs vv) w2 vr2 row) (hok : SpOK T.store row) (ht : tot row ≤ 65536) : Kp D w w2 ∧ IsTabP (grownD D w) g w2 { T with row := row } vs vr2 vv := by
  refine ⟨hk.mono fun i _ hi => hi ▸ h.ge, .inl h.ge, hb, ?_, ?_, hr, hok, h.oks, h.small.1, h.small.2.1, ht⟩
  · exact (Kp.ow hk h.st (fun k hk => hk.2) (fun _ h => h.elim)).mono (fun k hk _ => ⟨.inl hk.1, hk.2⟩) (fun _ h _ => h)
  · exact (Kp.ow hk h.sv (fun k hk => hk.2.1) (fun k hk => hk.2.1)).mono (fun k hk _ => ⟨.inl hk.1, hk.2⟩) (fun k hk _ => ⟨.inl hk.1, hk.2⟩)
theorem IsTab.grow (h : IsTab D g w T) : IsTab (grownD D w) g w T := h.mono fun k hk _ => .inl hk
structure CutSt where
  i : Nat
  a : Int
def TabQ (D : Nat → Prop) (g : Nat) (w : World) (T' : Tab) (x : Value) (u : Value) (w' : World) : Prop := Kp D w w' ∧ IsTab (grownD D w) g w' T' ∧ u = x
theorem tot_cutM {st : List Int} {row : List Span} {a : Int} (h : SpOK st row) (h0 : 0 ≤ a) (h1 : a ≤ tot row) : tot (cutM row a).1 = tot row := by
  have h2 := flat_len (cut_ok (at_ := a) h h0)
  have h3 := flat_len h
  rw [(cut_flat h h0 h1).1] at h2
  omega
set_option maxHeartbeats 1000000 in
theorem cut_calls {a : Int} (h : IsTab D g w T) (h0 : 0 ≤ a) (h1 : a ≤ tot T.row) :
    CallsR Try.prog 27 #[.pointer (some ⟨g, 0, none⟩), .int .i64 a] w (TabQ D g w { T with row := (cutM T.row a).1 } (.int .i64 (cutM T.row a).2)) := by
  have hT0 := h
  obtain ⟨vs, vr, vv, hT⟩ := h
  obtain ⟨A, c, rfl, hc, hl⟩ := hT.row.form
  have hlen := row_len hT.ok
  have hsm := hT.small
  have hgl := blk_lt hT.hb
  have c1 : w.cell? ⟨g, 1, none⟩ = some (.slice A T.row.length c) := blk_cell hT.hb
  have hold := hT.row.old
  refine calls_enter Try.func27 rfl rfl ?_
  repeat(first|refine o_nil ?_|(refine o_pass (wants_no rfl rfl rfl ?_) rfl ?_;(focus(first|rfl|assumption|(simp;done)|(simp;omega))))|refine o_pass (wants_not rfl rfl rfl) rfl ?_|(refine o_yes (wants_yes rfl rfl rfl ?_) ?_;(focus(first|rfl|assumption|(simp;done)|(simp;omega))))|refine k_region ?_|(apply k_go;(focus(constructor<;>rfl)))|refine d_nil ?_|(apply o_s;(focus(first|(constructor<;>first|rfl|omega)|(apply Ri.add3<;>first|rfl|omega)|(apply Ri.sub3<;>first|rfl|omega)|(apply Ri.eqb<;>rfl)|(apply Ri.neb<;>rfl)|(apply Ri.pT;(focus rfl);(focus(first|rfl|assumption|(simp;done)|(simp;omega)));(focus rfl))|(apply Ri.pF;(focus rfl);(focus(first|rfl|assumption|(simp;done)|(simp;omega)));(focus rfl))));(focus rfl)))
  refine o_still (r_load rfl c1) (wants_none rfl) rfl ?_
  repeat(first|refine o_nil ?_|(refine o_pass (wants_no rfl rfl rfl ?_) rfl ?_;(focus(first|rfl|assumption|(simp;done)|(simp;omega))))|refine o_pass (wants_not rfl rfl rfl) rfl ?_|(refine o_yes (wants_yes rfl rfl rfl ?_) ?_;(focus(first|rfl|assumption|(simp;done)|(simp;omega))))|refine k_region ?_|(apply k_go;(focus(constructor<;>rfl)))|refine d_nil ?_|(apply o_s;(focus(first|(constructor<;>first|rfl|omega)|(apply Ri.add3<;>first|rfl|omega)|(apply Ri.sub3<;>first|rfl|omega)|(apply Ri.eqb<;>rfl)|(apply Ri.neb<;>rfl)|(apply Ri.pT;(focus rfl);(focus(first|rfl|assumption|(simp;done)|(simp;omega)));(focus rfl))|(apply Ri.pF;(focus rfl);(focus(first|rfl|assumption|(simp;done)|(simp;omega)));(focus rfl))));(focus rfl)))
  refine k_while (S := CutSt) (fun s => T.row.length - s.i) (fun s => [(0, .pointer (some ⟨g, 0, none⟩)), (1, .int .i64 s.a), (11, .slice A T.row.length c), (12, .int .i64 T.row.length), (13, .int .i64 s.i)])
    (fun s wr => s.i ≤ T.row.length ∧ Kn w wr ∧ 0 ≤ s.a ∧ s.a ≤ tot (T.row.drop s.i) ∧ cutM T.row a = (T.row.take s.i ++ (cutM (T.row.drop s.i) s.a).1, s.i + (cutM (T.row.drop s.i) s.a).2)) ⟨0, a⟩ (by repeat (first | exact SubB.nil | refine SubB.cons rfl ?_)) ⟨Nat.zero_le _, Kp.refl _ _, h0, by simpa using h1, by simp⟩ ?_
  rintro ⟨i, b⟩ wr ⟨hi, hkn, hb0, hb1, heq⟩ ih
  simp only at hi hkn hb0 hb1 heq ih ⊢
  repeat(first|refine o_nil ?_|(refine o_pass (wants_no rfl rfl rfl ?_) rfl ?_;(focus(first|rfl|assumption|(simp;done)|(simp;omega))))|refine o_pass (wants_not rfl rfl rfl) rfl ?_|(refine o_yes (wants_yes rfl rfl rfl ?_) ?_;(focus(first|rfl|assumption|(simp;done)|(simp;omega))))|refine k_region ?_|(apply k_go;(focus(constructor<;>rfl)))|refine d_nil ?_|(apply o_s;(focus(first|(constructor<;>first|rfl|omega)|(apply Ri.add3<;>first|rfl|omega)|(apply Ri.sub3<;>first|rfl|omega)|(apply Ri.eqb<;>rfl)|(apply Ri.neb<;>rfl)|(apply Ri.pT;(focus rfl);(focus(first|rfl|assumption|(simp;done)|(simp;omega)));(focus rfl))|(apply Ri.pF;(focus rfl);(focus(first|rfl|assumption|(simp;done)|(simp;omega)));(focus rfl))));(focus rfl)))
  refine k_ite rfl (fun hlt => ?_) (fun hge => ?_)
  · have hlt' : i < T.row.length := by omega
    have hd : T.row.drop i = T.row[i] :: T.row.drop (i + 1) := List.drop_eq_getElem_cons hlt'
    have hso := hT.ok T.row[i] (List.getElem_mem hlt')
    have htd : tot (T.row.drop (i + 1)) ≤ 65536 := by
      have h2 := hT.ok
      rw [← List.take_append_drop (i + 1) T.row] at h2
      have h3 := h2.left.tot_nonneg
      have h4 := tot_append (T.row.take (i + 1)) (T.row.drop (i + 1))
      rw [List.take_append_drop] at h4
      omega
    rw [hd, tot_cons] at hb1
    rw [hd] at heq
    obtain ⟨ad, cs, rfl, hR, hcell⟩ := hold.at_ (List.getElem?_eq_getElem hlt')
    obtain ⟨d1, d2, rfl, ⟨rfl, ha1, ha2⟩, ⟨rfl, ha3, ha4⟩⟩ := hR
    generalize hs : T.row[i] = s at *
    repeat(first|refine o_nil ?_|(refine o_pass (wants_no rfl rfl rfl ?_) rfl ?_;(focus(first|rfl|assumption|(simp;done)|(simp;omega))))|refine o_pass (wants_not rfl rfl rfl) rfl ?_|(refine o_yes (wants_yes rfl rfl rfl ?_) ?_;(focus(first|rfl|assumption|(simp;done)|(simp;omega))))|refine k_region ?_|(apply k_go;(focus(constructor<;>rfl)))|refine d_nil ?_|(apply o_s;(focus(first|(constructor<;>first|rfl|omega)|(apply Ri.add3<;>first|rfl|omega)|(apply Ri.sub3<;>first|rfl|omega)|(apply Ri.eqb<;>rfl)|(apply Ri.neb<;>rfl)|(apply Ri.pT;(focus rfl);(focus(first|rfl|assumption|(simp;done)|(simp;omega)));(focus rfl))|(apply Ri.pF;(focus rfl);(focus(first|rfl|assumption|(simp;done)|(simp;omega)));(focus rfl))));(focus rfl)))
    refine o_still (r_index rfl rfl rfl (by omega) (by omega)) (wants_none rfl) rfl ?_
    refine o_still (r_loadA (cs := [.int .i64 s.1, .int .i64 s.2]) rfl rfl (by
      intro j u hu
      rw [Int.toNat_natCast, add_add]
      exact hkn.cell (hcell j u hu) id)) (wants_none rfl) rfl ?_
    refine o_any (e_alloc) (wants_none rfl) rfl ?_
    rintro _ w2 ⟨g2, rfl, nb2⟩
    repeat(first|refine o_nil ?_|(refine o_pass (wants_no rfl rfl rfl ?_) rfl ?_;(focus(first|rfl|assumption|(simp;done)|(simp;omega))))|refine o_pass (wants_not rfl rfl rfl) rfl ?_|(refine o_yes (wants_yes rfl rfl rfl ?_) ?_;(focus(first|rfl|assumption|(simp;done)|(simp;omega))))|refine k_region ?_|(apply k_go;(focus(constructor<;>rfl)))|refine d_nil ?_|(apply o_s;(focus(first|(constructor<;>first|rfl|omega)|(apply Ri.add3<;>first|rfl|omega)|(apply Ri.sub3<;>first|rfl|omega)|(apply Ri.eqb<;>rfl)|(apply Ri.neb<;>rfl)|(apply Ri.pT;(focus rfl);(focus(first|rfl|assumption|(simp;done)|(simp;omega)));(focus rfl))|(apply Ri.pF;(focus rfl);(focus(first|rfl|assumption|(simp;done)|(simp;omega)));(focus rfl))));(focus rfl)))
    refine o_unit (u_storeA rfl rfl rfl (by simp [Value.oneCell']) rfl nb2.at_ (Nat.le_refl 2)) (wants_none rfl) rfl ?_
    rintro w3 hw3
    have e2 := nb2.ge
    have zr := hkn.size
    have k3 : Kn w w3 := Kp.then (hkn.trans nb2.kn) hw3.kp (fun _ h => h) (fun i hi he => by omega)
    have b3 := hw3.at_
    have f0 : w3.cell? ⟨g2, 0, none⟩ = some (.int .i64 s.1) := blk_cell b3
    have f1 : w3.cell? ⟨g2, 1, none⟩ = some (.int .i64 s.2) := blk_cell b3
    repeat(first|refine o_nil ?_|(refine o_pass (wants_no rfl rfl rfl ?_) rfl ?_;(focus(first|rfl|assumption|(simp;done)|(simp;omega))))|refine o_pass (wants_not rfl rfl rfl) rfl ?_|(refine o_yes (wants_yes rfl rfl rfl ?_) ?_;(focus(first|rfl|assumption|(simp;done)|(simp;omega))))|refine k_region ?_|(apply k_go;(focus(constructor<;>rfl)))|refine d_nil ?_|(apply o_s;(focus(first|(constructor<;>first|rfl|omega)|(apply Ri.add3<;>first|rfl|omega)|(apply Ri.sub3<;>first|rfl|omega)|(apply Ri.eqb<;>rfl)|(apply Ri.neb<;>rfl)|(apply Ri.pT;(focus rfl);(focus(first|rfl|assumption|(simp;done)|(simp;omega)));(focus rfl))|(apply Ri.pF;(focus rfl);(focus(first|rfl|assumption|(simp;done)|(simp;omega)));(focus rfl))));(focus rfl)))
    refine k_ite rfl (fun hz => ?_) (fun hnz => ?_)
    · repeat(first|refine o_nil ?_|(refine o_pass (wants_no rfl rfl rfl ?_) rfl ?_;(focus(first|rfl|assumption|(simp;done)|(simp;omega))))|refine o_pass (wants_not rfl rfl rfl) rfl ?_|(refine o_yes (wants_yes rfl rfl rfl ?_) ?_;(focus(first|rfl|assumption|(simp;done)|(simp;omega))))|refine k_region ?_|(apply k_go;(focus(constructor<;>rfl)))|refine d_nil ?_|(apply o_s;(focus(first|(constructor<;>first|rfl|omega)|(apply Ri.add3<;>first|rfl|omega)|(apply Ri.sub3<;>first|rfl|omega)|(apply Ri.eqb<;>rfl)|(apply Ri.neb<;>rfl)|(apply Ri.pT;(focus rfl);(focus(first|rfl|assumption|(simp;done)|(simp;omega)));(focus rfl))|(apply Ri.pF;(focus rfl);(focus(first|rfl|assumption|(simp;done)|(simp;omega)));(focus rfl))));(focus rfl)))
      refine k_ret1 rfl rfl ⟨Kn.kp k3, ?_, ?_⟩
      · have : (cutM T.row a).1 = T.row := by
          rw [heq, hz]
          simp only [cutM, if_true]
          rw [← hd, List.take_append_drop]
        rw [this]
        exact (hT0.kn k3).mono fun k hk _ => .inl hk
      · rw [heq, hz]; simp [cutM]
    · have hbs := hT.ok s (hs ▸ List.getElem_mem hlt')
      repeat(first|refine o_nil ?_|(refine o_pass (wants_no rfl rfl rfl ?_) rfl ?_;(focus(first|rfl|assumption|(simp;done)|(simp;omega))))|refine o_pass (wants_not rfl rfl rfl) rfl ?_|(refine o_yes (wants_yes rfl rfl rfl ?_) ?_;(focus(first|rfl|assumption|(simp;done)|(simp;omega))))|refine k_region ?_|(apply k_go;(focus(constructor<;>rfl)))|refine d_nil ?_|(apply o_s;(focus(first|(constructor<;>first|rfl|omega)|(apply Ri.add3<;>first|rfl|omega)|(apply Ri.sub3<;>first|rfl|omega)|(apply Ri.eqb<;>rfl)|(apply Ri.neb<;>rfl)|(apply Ri.pT;(focus rfl);(focus(first|rfl|assumption|(simp;done)|(simp;omega)));(focus rfl))|(apply Ri.pF;(focus rfl);(focus(first|rfl|assumption|(simp;done)|(simp;omega)));(focus rfl))));(focus rfl)))
      refine o_still (r_load rfl f1) (wants_none rfl) rfl ?_
      repeat(first|refine o_nil ?_|(refine o_pass (wants_no rfl rfl rfl ?_) rfl ?_;(focus(first|rfl|assumption|(simp;done)|(simp;omega))))|refine o_pass (wants_not rfl rfl rfl) rfl ?_|(refine o_yes (wants_yes rfl rfl rfl ?_) ?_;(focus(first|rfl|assumption|(simp;done)|(simp;omega))))|refine k_region ?_|(apply k_go;(focus(constructor<;>rfl)))|refine d_nil ?_|(apply o_s;(focus(first|(constructor<;>first|rfl|omega)|(apply Ri.add3<;>first|rfl|omega)|(apply Ri.sub3<;>first|rfl|omega)|(apply Ri.eqb<;>rfl)|(apply Ri.neb<;>rfl)|(apply Ri.pT;(focus rfl);(focus(first|rfl|assumption|(simp;done)|(simp;omega)));(focus rfl))|(apply Ri.pF;(focus rfl);(focus(first|rfl|assumption|(simp;done)|(simp;omega)));(focus rfl))));(focus rfl)))
      refine k_ite rfl (fun hlt2 => ?_) (fun hge2 => ?_)
      · have hce : cutM T.row a = (T.row.take i ++ (s.1, b) :: (s.1 + b, s.2 - b) :: T.row.drop (i + 1), i + 1) := by
          rw [heq]
          simp only [cutM]
          rw [if_neg hnz, if_pos hlt2]
        have c13 : w3.cell? ⟨g, 1, none⟩ = some (.slice (some ad) T.row.length c) := k3.cell c1 id
        repeat(first|refine o_nil ?_|(refine o_pass (wants_no rfl rfl rfl ?_) rfl ?_;(focus(first|rfl|assumption|(simp;done)|(simp;omega))))|refine o_pass (wants_not rfl rfl rfl) rfl ?_|(refine o_yes (wants_yes rfl rfl rfl ?_) ?_;(focus(first|rfl|assumption|(simp;done)|(simp;omega))))|refine k_region ?_|(apply k_go;(focus(constructor<;>rfl)))|refine d_nil ?_|(apply o_s;(focus(first|(constructor<;>first|rfl|omega)|(apply Ri.add3<;>first|rfl|omega)|(apply Ri.sub3<;>first|rfl|omega)|(apply Ri.eqb<;>rfl)|(apply Ri.neb<;>rfl)|(apply Ri.pT;(focus rfl);(focus(first|rfl|assumption|(simp;done)|(simp;omega)));(focus rfl))|(apply Ri.pF;(focus rfl);(focus(first|rfl|assumption|(simp;done)|(simp;omega)));(focus rfl))));(focus rfl)))
        refine o_still (r_load rfl c13) (wants_none rfl) rfl ?_
        repeat(first|refine o_nil ?_|(refine o_pass (wants_no rfl rfl rfl ?_) rfl ?_;(focus(first|rfl|assumption|(simp;done)|(simp;omega))))|refine o_pass (wants_not rfl rfl rfl) rfl ?_|(refine o_yes (wants_yes rfl rfl rfl ?_) ?_;(focus(first|rfl|assumption|(simp;done)|(simp;omega))))|refine k_region ?_|(apply k_go;(focus(constructor<;>rfl)))|refine d_nil ?_|(apply o_s;(focus(first|(constructor<;>first|rfl|omega)|(apply Ri.add3<;>first|rfl|omega)|(apply Ri.sub3<;>first|rfl|omega)|(apply Ri.eqb<;>rfl)|(apply Ri.neb<;>rfl)|(apply Ri.pT;(focus rfl);(focus(first|rfl|assumption|(simp;done)|(simp;omega)));(focus rfl))|(apply Ri.pF;(focus rfl);(focus(first|rfl|assumption|(simp;done)|(simp;omega)));(focus rfl))));(focus rfl)))
        refine o_any (e_make (l := 0) (c := T.row.length + 1) rfl (int_eq (by omega)) (by omega) (by omega) (by unfold maxLen; omega)) (wants_none rfl) rfl ?_
        rintro _ w4 ⟨g4, rfl, nb4⟩
        have k4 : Kn w w4 := k3.trans nb4.kn
        have z3 := k3.size
        have e4 := nb4.ge
        have hO4 : Ow kSpan (noB w) (fun _ => False) w4 (.slice (some ⟨g4, 0, none⟩) 0 (T.row.length + 1)) [] := ow_made (w := w3) (n := 0) (zx := (0, 0)) (span_R (by decide) (by decide)) nb4 (by omega) (by unfold maxLen; omega) (Fits.zero _) (by simp only [noB]; omega)
        have h4 := k4.sl hold
        have c14 := k4.cell c1 id
        repeat(first|refine o_nil ?_|(refine o_pass (wants_no rfl rfl rfl ?_) rfl ?_;(focus(first|rfl|assumption|(simp;done)|(simp;omega))))|refine o_pass (wants_not rfl rfl rfl) rfl ?_|(refine o_yes (wants_yes rfl rfl rfl ?_) ?_;(focus(first|rfl|assumption|(simp;done)|(simp;omega))))|refine k_region ?_|(apply k_go;(focus(constructor<;>rfl)))|refine d_nil ?_|(apply o_s;(focus(first|(constructor<;>first|rfl|omega)|(apply Ri.add3<;>first|rfl|omega)|(apply Ri.sub3<;>first|rfl|omega)|(apply Ri.eqb<;>rfl)|(apply Ri.neb<;>rfl)|(apply Ri.pT;(focus rfl);(focus(first|rfl|assumption|(simp;done)|(simp;omega)));(focus rfl))|(apply Ri.pF;(focus rfl);(focus(first|rfl|assumption|(simp;done)|(simp;omega)));(focus rfl))));(focus rfl)))
        refine o_still (r_load rfl c14) (wants_none rfl) rfl ?_
        repeat(first|refine o_nil ?_|(refine o_pass (wants_no rfl rfl rfl ?_) rfl ?_;(focus(first|rfl|assumption|(simp;done)|(simp;omega))))|refine o_pass (wants_not rfl rfl rfl) rfl ?_|(refine o_yes (wants_yes rfl rfl rfl ?_) ?_;(focus(first|rfl|assumption|(simp;done)|(simp;omega))))|refine k_region ?_|(apply k_go;(focus(constructor<;>rfl)))|refine d_nil ?_|(apply o_s;(focus(first|(constructor<;>first|rfl|omega)|(apply Ri.add3<;>first|rfl|omega)|(apply Ri.sub3<;>first|rfl|omega)|(apply Ri.eqb<;>rfl)|(apply Ri.neb<;>rfl)|(apply Ri.pT;(focus rfl);(focus(first|rfl|assumption|(simp;done)|(simp;omega)));(focus rfl))|(apply Ri.pF;(focus rfl);(focus(first|rfl|assumption|(simp;done)|(simp;omega)));(focus rfl))));(focus rfl)))
        refine o_still (r_slice rfl 0 i c rfl ⟨_, rfl⟩ rfl (by omega) (by omega) (by omega)) (wants_none rfl) rfl ?_
        refine o_any (e_append2 (d := kSpan) rfl rfl hO4 (h4.cutV (l := 0) (hi := i) (m := c) (by omega) (by omega) (by omega) (by omega)) (by
          intro k hk he
          have := (hO4.block k he).1
          simp only [noB] at this
          omega) (by show (0 + _) * 16 ≤ 140737488355328; simp; omega) rfl rfl rfl) (wants_none rfl) rfl ?_
        rintro v5 w5 hA5
        obtain ⟨k5, hO5⟩ := app_next k4 hO4 hA5
        rw [List.drop_zero, List.nil_append] at hO5
        obtain ⟨A5, cc5, rfl, _⟩ := hO5.form
        have l2 := nb2.lt
        have z23 := hw3.kp.size
        have z4 := nb4.kn.size
        have hne4 : ∀ n c, ¬ (Value.slice (some ⟨g4, 0, none⟩) n c).ownBlock = some g2 := fun n c he => by
          simp only [Value.ownBlock, Option.map_some, Option.some.injEq] at he
          omega
        have f05 := hA5.kp.cell (nb4.kn.cell f0 id) (hne4 _ _)
        have f15 := hA5.kp.cell (nb4.kn.cell f1 id) (hne4 _ _)
        repeat(first|refine o_nil ?_|(refine o_pass (wants_no rfl rfl rfl ?_) rfl ?_;(focus(first|rfl|assumption|(simp;done)|(simp;omega))))|refine o_pass (wants_not rfl rfl rfl) rfl ?_|(refine o_yes (wants_yes rfl rfl rfl ?_) ?_;(focus(first|rfl|assumption|(simp;done)|(simp;omega))))|refine k_region ?_|(apply k_go;(focus(constructor<;>rfl)))|refine d_nil ?_|(apply o_s;(focus(first|(constructor<;>first|rfl|omega)|(apply Ri.add3<;>first|rfl|omega)|(apply Ri.sub3<;>first|rfl|omega)|(apply Ri.eqb<;>rfl)|(apply Ri.neb<;>rfl)|(apply Ri.pT;(focus rfl);(focus(first|rfl|assumption|(simp;done)|(simp;omega)));(focus rfl))|(apply Ri.pF;(focus rfl);(focus(first|rfl|assumption|(simp;done)|(simp;omega)));(focus rfl))));(focus rfl)))
        refine o_still (r_load rfl f05) (wants_none rfl) rfl ?_
        refine o_still (r_move rfl) (wants_none rfl) rfl ?_
        refine o_still (r_build (c := #[.int .i64 s.1, .int .i64 b]) rfl rfl) (wants_none rfl) rfl ?_
        repeat(first|refine o_nil ?_|(refine o_pass (wants_no rfl rfl rfl ?_) rfl ?_;(focus(first|rfl|assumption|(simp;done)|(simp;omega))))|refine o_pass (wants_not rfl rfl rfl) rfl ?_|(refine o_yes (wants_yes rfl rfl rfl ?_) ?_;(focus(first|rfl|assumption|(simp;done)|(simp;omega))))|refine k_region ?_|(apply k_go;(focus(constructor<;>rfl)))|refine d_nil ?_|(apply o_s;(focus(first|(constructor<;>first|rfl|omega)|(apply Ri.add3<;>first|rfl|omega)|(apply Ri.sub3<;>first|rfl|omega)|(apply Ri.eqb<;>rfl)|(apply Ri.neb<;>rfl)|(apply Ri.pT;(focus rfl);(focus(first|rfl|assumption|(simp;done)|(simp;omega)));(focus rfl))|(apply Ri.pF;(focus rfl);(focus(first|rfl|assumption|(simp;done)|(simp;omega)));(focus rfl))));(focus rfl)))
        refine o_still (r_load rfl f05) (wants_none rfl) rfl ?_
        repeat(first|refine o_nil ?_|(refine o_pass (wants_no rfl rfl rfl ?_) rfl ?_;(focus(first|rfl|assumption|(simp;done)|(simp;omega))))|refine o_pass (wants_not rfl rfl rfl) rfl ?_|(refine o_yes (wants_yes rfl rfl rfl ?_) ?_;(focus(first|rfl|assumption|(simp;done)|(simp;omega))))|refine k_region ?_|(apply k_go;(focus(constructor<;>rfl)))|refine d_nil ?_|(apply o_s;(focus(first|(constructor<;>first|rfl|omega)|(apply Ri.add3<;>first|rfl|omega)|(apply Ri.sub3<;>first|rfl|omega)|(apply Ri.eqb<;>rfl)|(apply Ri.neb<;>rfl)|(apply Ri.pT;(focus rfl);(focus(first|rfl|assumption|(simp;done)|(simp;omega)));(focus rfl))|(apply Ri.pF;(focus rfl);(focus(first|rfl|assumption|(simp;done)|(simp;omega)));(focus rfl))));(focus rfl)))
        refine o_still (r_load rfl f15) (wants_none rfl) rfl ?_
        refine o_still (r_move rfl) (wants_none rfl) rfl ?_
        refine o_still (r_sub rfl rfl (by omega) (by omega)) (wants_none rfl) rfl ?_
        refine o_still (r_build (c := #[.int .i64 (s.1 + b), .int .i64 (s.2 - b)]) rfl rfl) (wants_none rfl) rfl ?_
        refine o_any (e_lit (qs := [(0, .agg #[.int .i64 s.1, .int .i64 b]), (1, .agg #[.int .i64 (s.1 + b), .int .i64 (s.2 - b)])]) (cells := #[.int .i64 s.1, .int .i64 b, .int .i64 (s.1 + b), .int .i64 (s.2 - b)]) rfl (by decide) (by kernel_rfl)) (wants_none rfl) rfl ?_
        rintro _ w6 ⟨g6, rfl, nb6⟩
        have e6 := nb6.ge
        have z5 := k5.size
        have k6 := k5.trans nb6.kn
        have hO6 := Kn.ow nb6.kn hO5
        have hb5 := hO5.block
        refine o_any (e_append2 (d := kSpan) rfl rfl hO6 (sl_blk (F := fun k => k = g6) (xs := [(s.1, b), (s.1 + b, s.2 - b)]) nb6.at_ ⟨_, _, rfl, span_R (by omega) (by omega), _, _, rfl, span_R (by omega) (by omega), rfl⟩ rfl (show 2 * 16 ≤ 140737488355328 by decide)) (by
          rintro k rfl he
          have := (hb5 _ he).2
          omega) (by simp only [List.length_take]; show (min i T.row.length + 2) * 16 ≤ 140737488355328; omega) rfl rfl rfl) (wants_none rfl) rfl ?_
        rintro v7 w7 hA7
        obtain ⟨k7, hO7⟩ := app_next k6 hO6 hA7
        obtain ⟨A7, cc7, rfl, _⟩ := hO7.form
        have h7 := k7.sl hold
        repeat(first|refine o_nil ?_|(refine o_pass (wants_no rfl rfl rfl ?_) rfl ?_;(focus(first|rfl|assumption|(simp;done)|(simp;omega))))|refine o_pass (wants_not rfl rfl rfl) rfl ?_|(refine o_yes (wants_yes rfl rfl rfl ?_) ?_;(focus(first|rfl|assumption|(simp;done)|(simp;omega))))|refine k_region ?_|(apply k_go;(focus(constructor<;>rfl)))|refine d_nil ?_|(apply o_s;(focus(first|(constructor<;>first|rfl|omega)|(apply Ri.add3<;>first|rfl|omega)|(apply Ri.sub3<;>first|rfl|omega)|(apply Ri.eqb<;>rfl)|(apply Ri.neb<;>rfl)|(apply Ri.pT;(focus rfl);(focus(first|rfl|assumption|(simp;done)|(simp;omega)));(focus rfl))|(apply Ri.pF;(focus rfl);(focus(first|rfl|assumption|(simp;done)|(simp;omega)));(focus rfl))));(focus rfl)))
        refine o_still (r_load rfl (k7.cell c1 id)) (wants_none rfl) rfl ?_
        repeat(first|refine o_nil ?_|(refine o_pass (wants_no rfl rfl rfl ?_) rfl ?_;(focus(first|rfl|assumption|(simp;done)|(simp;omega))))|refine o_pass (wants_not rfl rfl rfl) rfl ?_|(refine o_yes (wants_yes rfl rfl rfl ?_) ?_;(focus(first|rfl|assumption|(simp;done)|(simp;omega))))|refine k_region ?_|(apply k_go;(focus(constructor<;>rfl)))|refine d_nil ?_|(apply o_s;(focus(first|(constructor<;>first|rfl|omega)|(apply Ri.add3<;>first|rfl|omega)|(apply Ri.sub3<;>first|rfl|omega)|(apply Ri.eqb<;>rfl)|(apply Ri.neb<;>rfl)|(apply Ri.pT;(focus rfl);(focus(first|rfl|assumption|(simp;done)|(simp;omega)));(focus rfl))|(apply Ri.pF;(focus rfl);(focus(first|rfl|assumption|(simp;done)|(simp;omega)));(focus rfl))));(focus rfl)))
        refine o_still (r_slice rfl (i + 1) T.row.length c rfl ⟨rfl, rfl⟩ ⟨_, rfl⟩ (by omega) (by omega) (by omega)) (wants_none rfl) rfl ?_
        refine o_any (e_append2 (d := kSpan) rfl rfl hO7 (h7.cutV (l := i + 1) (hi := T.row.length) (m := c) (by omega) (by omega) (by omega) (by omega)) (by
          intro k hk he
          have := (hO7.block k he).1
          simp only [noB] at this
          omega) (by simp only [List.length_append, List.length_drop, List.length_take]; show (min i T.row.length + 2 + _) * 16 ≤ 140737488355328; omega) rfl rfl rfl) (wants_none rfl) rfl ?_
        rintro v8 w8 hA8
        obtain ⟨k8, hO8⟩ := app_next k7 hO7 hA8
        obtain ⟨A8, cc8, rfl, _⟩ := hO8.form
        have hrow : (T.row.take i ++ [(s.1, b), (s.1 + b, s.2 - b)]) ++ (T.row.take T.row.length).drop (i + 1) = (cutM T.row a).1 := by
          rw [hce, List.take_length]; simp
        rw [hrow] at hO8 ⊢
        repeat(first|refine o_nil ?_|(refine o_pass (wants_no rfl rfl rfl ?_) rfl ?_;(focus(first|rfl|assumption|(simp;done)|(simp;omega))))|refine o_pass (wants_not rfl rfl rfl) rfl ?_|(refine o_yes (wants_yes rfl rfl rfl ?_) ?_;(focus(first|rfl|assumption|(simp;done)|(simp;omega))))|refine k_region ?_|(apply k_go;(focus(constructor<;>rfl)))|refine d_nil ?_|(apply o_s;(focus(first|(constructor<;>first|rfl|omega)|(apply Ri.add3<;>first|rfl|omega)|(apply Ri.sub3<;>first|rfl|omega)|(apply Ri.eqb<;>rfl)|(apply Ri.neb<;>rfl)|(apply Ri.pT;(focus rfl);(focus(first|rfl|assumption|(simp;done)|(simp;omega)));(focus rfl))|(apply Ri.pF;(focus rfl);(focus(first|rfl|assumption|(simp;done)|(simp;omega)));(focus rfl))));(focus rfl)))
        refine o_unit (u_store (i := 1) rfl rfl rfl (by simp only [add_plain, Nat.zero_add, Nat.add_zero]) (k8.blk hT.hb id) (show 1 < 4 by decide)) (wants_none rfl) rfl ?_
        rintro w9 hw9
        repeat(first|refine o_nil ?_|(refine o_pass (wants_no rfl rfl rfl ?_) rfl ?_;(focus(first|rfl|assumption|(simp;done)|(simp;omega))))|refine o_pass (wants_not rfl rfl rfl) rfl ?_|(refine o_yes (wants_yes rfl rfl rfl ?_) ?_;(focus(first|rfl|assumption|(simp;done)|(simp;omega))))|refine k_region ?_|(apply k_go;(focus(constructor<;>rfl)))|refine d_nil ?_|(apply o_s;(focus(first|(constructor<;>first|rfl|omega)|(apply Ri.add3<;>first|rfl|omega)|(apply Ri.sub3<;>first|rfl|omega)|(apply Ri.eqb<;>rfl)|(apply Ri.neb<;>rfl)|(apply Ri.pT;(focus rfl);(focus(first|rfl|assumption|(simp;done)|(simp;omega)));(focus rfl))|(apply Ri.pF;(focus rfl);(focus(first|rfl|assumption|(simp;done)|(simp;omega)));(focus rfl))));(focus rfl)))
        have hb9 := hw9.at_
        have hq := hT.turn (row := (cutM T.row a).1) (Kp.then k8 hw9.kp (fun _ h => h.elim) (fun i _ h => h)) (by rw [tot_cutM hT.ok h0 h1]; exact hb9) ((Kp.ow hw9.kp (hO8.mono (G' := rowD D w g vs vv) (F' := fun _ => False) (fun k hk _ => hT.fresh k hk) fun _ h _ => h) (fun k hk => hk.2.1) (fun _ h => h.elim)).slF (fun _ h => h) fun _ h => h.elim) (cut_ok hT.ok h0) (by rw [tot_cutM hT.ok h0 h1]; omega)
        exact k_ret1 rfl rfl ⟨hq.1, ⟨_, _, _, hq.2⟩, by rw [hce]; rfl⟩
      · repeat(first|refine o_nil ?_|(refine o_pass (wants_no rfl rfl rfl ?_) rfl ?_;(focus(first|rfl|assumption|(simp;done)|(simp;omega))))|refine o_pass (wants_not rfl rfl rfl) rfl ?_|(refine o_yes (wants_yes rfl rfl rfl ?_) ?_;(focus(first|rfl|assumption|(simp;done)|(simp;omega))))|refine k_region ?_|(apply k_go;(focus(constructor<;>rfl)))|refine d_nil ?_|(apply o_s;(focus(first|(constructor<;>first|rfl|omega)|(apply Ri.add3<;>first|rfl|omega)|(apply Ri.sub3<;>first|rfl|omega)|(apply Ri.eqb<;>rfl)|(apply Ri.neb<;>rfl)|(apply Ri.pT;(focus rfl);(focus(first|rfl|assumption|(simp;done)|(simp;omega)));(focus rfl))|(apply Ri.pF;(focus rfl);(focus(first|rfl|assumption|(simp;done)|(simp;omega)));(focus rfl))));(focus rfl)))
        refine o_still (r_load rfl f1) (wants_none rfl) rfl ?_
        repeat(first|refine o_nil ?_|(refine o_pass (wants_no rfl rfl rfl ?_) rfl ?_;(focus(first|rfl|assumption|(simp;done)|(simp;omega))))|refine o_pass (wants_not rfl rfl rfl) rfl ?_|(refine o_yes (wants_yes rfl rfl rfl ?_) ?_;(focus(first|rfl|assumption|(simp;done)|(simp;omega))))|refine k_region ?_|(apply k_go;(focus(constructor<;>rfl)))|refine d_nil ?_|(apply o_s;(focus(first|(constructor<;>first|rfl|omega)|(apply Ri.add3<;>first|rfl|omega)|(apply Ri.sub3<;>first|rfl|omega)|(apply Ri.eqb<;>rfl)|(apply Ri.neb<;>rfl)|(apply Ri.pT;(focus rfl);(focus(first|rfl|assumption|(simp;done)|(simp;omega)));(focus rfl))|(apply Ri.pF;(focus rfl);(focus(first|rfl|assumption|(simp;done)|(simp;omega)));(focus rfl))));(focus rfl)))
        refine ih ⟨i + 1, b - s.2⟩ w3 ⟨by show i + 1 ≤ _; omega, k3, by show 0 ≤ b - s.2; omega, by show b - s.2 ≤ tot (T.row.drop (i + 1)); omega, ?_⟩ (by show T.row.length - (i + 1) < T.row.length - i; omega) _ (by repeat (first | exact SubB.nil | refine SubB.cons rfl ?_))
        show _ = (T.row.take (i + 1) ++ _, i + 1 + _)
        rw [heq]
        simp only [cutM]
        rw [if_neg hnz, if_neg hge2, List.take_succ_eq_append_getElem hlt', hs]
        simp only [List.append_assoc, List.cons_append, List.nil_append, Prod.mk.injEq, true_and]
        omega
  · have hie : i = T.row.length := by omega
    repeat(first|refine o_nil ?_|(refine o_pass (wants_no rfl rfl rfl ?_) rfl ?_;(focus(first|rfl|assumption|(simp;done)|(simp;omega))))|refine o_pass (wants_not rfl rfl rfl) rfl ?_|(refine o_yes (wants_yes rfl rfl rfl ?_) ?_;(focus(first|rfl|assumption|(simp;done)|(simp;omega))))|refine k_region ?_|(apply k_go;(focus(constructor<;>rfl)))|refine d_nil ?_|(apply o_s;(focus(first|(constructor<;>first|rfl|omega)|(apply Ri.add3<;>first|rfl|omega)|(apply Ri.sub3<;>first|rfl|omega)|(apply Ri.eqb<;>rfl)|(apply Ri.neb<;>rfl)|(apply Ri.pT;(focus rfl);(focus(first|rfl|assumption|(simp;done)|(simp;omega)));(focus rfl))|(apply Ri.pF;(focus rfl);(focus(first|rfl|assumption|(simp;done)|(simp;omega)));(focus rfl))));(focus rfl)))
    refine o_still (r_load rfl (hkn.cell c1 id)) (wants_none rfl) rfl ?_
    repeat(first|refine o_nil ?_|(refine o_pass (wants_no rfl rfl rfl ?_) rfl ?_;(focus(first|rfl|assumption|(simp;done)|(simp;omega))))|refine o_pass (wants_not rfl rfl rfl) rfl ?_|(refine o_yes (wants_yes rfl rfl rfl ?_) ?_;(focus(first|rfl|assumption|(simp;done)|(simp;omega))))|refine k_region ?_|(apply k_go;(focus(constructor<;>rfl)))|refine d_nil ?_|(apply o_s;(focus(first|(constructor<;>first|rfl|omega)|(apply Ri.add3<;>first|rfl|omega)|(apply Ri.sub3<;>first|rfl|omega)|(apply Ri.eqb<;>rfl)|(apply Ri.neb<;>rfl)|(apply Ri.pT;(focus rfl);(focus(first|rfl|assumption|(simp;done)|(simp;omega)));(focus rfl))|(apply Ri.pF;(focus rfl);(focus(first|rfl|assumption|(simp;done)|(simp;omega)));(focus rfl))));(focus rfl)))
    rw [hie, List.drop_length, List.take_length] at heq
    simp only [cutM, List.append_nil, Nat.add_zero] at heq
    refine k_ret1 rfl rfl ⟨Kn.kp hkn, ?_, by rw [heq]⟩
    rw [heq]
    exact (hT0.kn hkn).mono fun k hk _ => .inl hk
end
end Go.Ink
