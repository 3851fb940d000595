/-
  inkhornlaw03.do: a deed with both tables.
-/
import Derived.Test.YteleidcghoddjaaF10
import Derived.Test.YteleidcghoddjaaDrq
set_option linter.unusedVariables false
set_option linter.unusedSimpArgs false
namespace Go.Ink
open Go Go.Proofs

section
variable {b : Bool} {W w w' w2 : World} {g h : Nat} {T T' : Tab} {L L' xs : List Int} {S S' : List (List Int)} {D E F : Nat → Prop} {x u : Value} {d : Deed} {v : Value}
/-- Both tables behind a call; what stood then and is theirs now was theirs. -/
def DuoN (b : Bool) (W : World) (D E : Nat → Prop) (w : World) (g h : Nat) (w' : World) (T : Tab) (L : List Int) (S : List (List Int)) : Prop := ∃ D' E', DuoP b W D' E' g h w' T L S ∧ ∀ k, k < w.heap.size → D' k ∨ E' k → D k ∨ E k
def DoQ (b : Bool) (W : World) (D E : Nat → Prop) (g h : Nat) (w : World) (T : Tab) (S : List (List Int)) (d : Deed) (u : Value) (w' : World) : Prop :=
  (∃ c, u = .bool c ∧ (b = true → c = true)) ∧ Kp (fun k => D k ∨ E k) w w' ∧ ∃ T' L' S', DuoN b W D E w g h w' T' L' S' ∧ T'.store.length ≤ T.store.length + 2000 ∧ T'.saved.length ≤ T.saved.length + 1 ∧ (d.kind ≠ 3 → T'.saved = T.saved ∧ S' = S) ∧ ∀ r, SpOK T.store r → flat T'.store r = flat T.store r
/-- Elements left to be told, those ahead of them overwritten. -/
theorem drop_set {ys : List Int} {i : Nat} (q : Int) : (ys.set i q).drop (i + 1) = ys.drop (i + 1) := by
  rw [List.drop_set_of_lt (by omega)]
theorem DuoP.both (hd : DuoP b W D E g h w T L S) (hW : W.heap.size ≤ w.heap.size) {y : Value} (hq : TabQ D g w T' x u w2) (hr : RefQ E h w2 L' S' y v w') (hrel : b = true → Rel T' L' S') : Kp (fun k => D k ∨ E k) w w' ∧ DuoN b W D E w g h w' T' L' S' := by
  obtain ⟨hk4, hT4, _⟩ := hq
  obtain ⟨hk6, hR6, _⟩ := hr
  have z4 := hk4.size
  have z6 := hk6.size
  have hDw : ∀ k, D k → k < w.heap.size := fun k hk => (hd.dd k hk).2
  have hEw : ∀ k, E k → k < w.heap.size := fun k hk => (hd.ee k hk).2
  have hDW : ∀ k, D k → W.heap.size ≤ k := fun k hk => (hd.dd k hk).1
  have hEW : ∀ k, E k → W.heap.size ≤ k := fun k hk => (hd.ee k hk).1
  refine ⟨Kp.then hk4 hk6 (fun _ h => .inl h) fun k _ hk => .inr hk, fun k => grownD D w k ∧ k < w2.heap.size, fun k => grownD E w2 k ∧ k < w'.heap.size, ⟨?_, ?_, ?_, (hT4.mono (D' := fun k => grownD D w k ∧ k < w2.heap.size) fun k hk hl => ⟨hk, hl⟩).kp hk6 ?_, hR6.mono fun k hk hl => ⟨hk, hl⟩, hrel⟩, ?_⟩
  · rintro k ⟨hk, hl⟩
    exact ⟨hk.elim (hDW k) fun h => by omega, by omega⟩
  · rintro k ⟨hk, hl⟩
    exact ⟨hk.elim (hEW k) fun h => by omega, hl⟩
  · rintro k ⟨hk, hl⟩ ⟨hk', hl'⟩
    rcases hk with hk | hk <;> rcases hk' with hk' | hk'
    · exact hd.de k hk hk'
    · have := hDw k hk; omega
    · have := hEw k hk'; omega
    · omega
  · rintro k ⟨hk, hl⟩ hke
    rcases hk with hk | hk
    · exact hd.de k hk hke
    · have := hEw k hke; omega
  · intro k hk hk'
    rcases hk' with ⟨h1 | h1, _⟩ | ⟨h1 | h1, _⟩
    · exact .inl h1
    · omega
    · exact .inr h1
    · omega
set_option maxHeartbeats 4000000 in
theorem do_calls (hbk : b = true ∨ d.kind < 2) (hsS : S.length ≤ 549755813888) (hsT : ∀ r ∈ T.saved, tot r ≤ 65536) (hd : DuoP b W D E g h w T L S) (hW : W.heap.size ≤ w.heap.size) (hl : Sl kRune F w v d.l) (hF : ∀ k, F k → k < W.heap.size) (hz : d.l.length ≤ 2000) (hst : T.store.length ≤ 549755813888) (hsv : T.saved.length ≤ 549755813888)
    (hk1 : -9223372036854775808 ≤ d.kind ∧ d.kind ≤ 9223372036854775807) (hk2 : -9223372036854775808 ≤ d.at_ ∧ d.at_ ≤ 9223372036854775807) (hk3 : -9223372036854775808 ≤ d.n ∧ d.n ≤ 9223372036854775807) :
    CallsR Try.prog 11 #[.pointer (some ⟨g, 0, none⟩), .pointer (some ⟨h, 0, none⟩), .agg #[.int .i64 d.kind, .int .i64 d.at_, .int .i64 d.n, v]] w (DoQ b W D E g h w T S d) := by
  obtain ⟨A, c, rfl, hc, hlf⟩ := hl.form
  have hok := hd.t.ok
  refine calls_enter Try.func11 rfl rfl ?_
  repeat(first|refine o_nil ?_|(refine o_pass (wants_no rfl rfl rfl ?_) rfl ?_;(focus(first|rfl|assumption|(simp;done)|(simp;omega))))|refine o_pass (wants_not rfl rfl rfl) rfl ?_|(refine o_yes (wants_yes rfl rfl rfl ?_) ?_;(focus(first|rfl|assumption|(simp;done)|(simp;omega))))|refine k_region ?_|(apply k_go;(focus(constructor<;>rfl)))|refine d_nil ?_|(apply o_s;(focus(first|(constructor<;>first|rfl|omega)|(apply Ri.add3<;>first|rfl|omega)|(apply Ri.sub3<;>first|rfl|omega)|(apply Ri.eqb<;>rfl)|(apply Ri.neb<;>rfl)|(apply Ri.pT;(focus rfl);(focus(first|rfl|assumption|(simp;done)|(simp;omega)));(focus rfl))|(apply Ri.pF;(focus rfl);(focus(first|rfl|assumption|(simp;done)|(simp;omega)));(focus rfl))));(focus rfl)))
  refine o_any (e_box rfl) (wants_none rfl) rfl ?_
  rintro _ w1 ⟨gb, rfl, nb⟩
  have b1 := nb.at_
  have eb := nb.ge
  have lb := nb.lt
  have z1 := nb.kn.size
  have f0 : w1.cell? ⟨gb, 0, none⟩ = some (.int .i64 d.kind) := blk_cell b1
  have f1 : w1.cell? ⟨gb, 1, none⟩ = some (.int .i64 d.at_) := blk_cell b1
  have f2 : w1.cell? ⟨gb, 2, none⟩ = some (.int .i64 d.n) := blk_cell b1
  have f3 : w1.cell? ⟨gb, 3, none⟩ = some (.slice A d.l.length c) := blk_cell b1
  have hd1 := hd.kn nb.kn
  have hl1 := nb.kn.sl hl
  have hDw : ∀ k, D k → k < w.heap.size := fun k hk => (hd.dd k hk).2
  have hEw : ∀ k, E k → k < w.heap.size := fun k hk => (hd.ee k hk).2
  have hDW : ∀ k, D k → W.heap.size ≤ k := fun k hk => (hd.dd k hk).1
  have hEW : ∀ k, E k → W.heap.size ≤ k := fun k hk => (hd.ee k hk).1
  repeat(first|refine o_nil ?_|(refine o_pass (wants_no rfl rfl rfl ?_) rfl ?_;(focus(first|rfl|assumption|(simp;done)|(simp;omega))))|refine o_pass (wants_not rfl rfl rfl) rfl ?_|(refine o_yes (wants_yes rfl rfl rfl ?_) ?_;(focus(first|rfl|assumption|(simp;done)|(simp;omega))))|refine k_region ?_|(apply k_go;(focus(constructor<;>rfl)))|refine d_nil ?_|(apply o_s;(focus(first|(constructor<;>first|rfl|omega)|(apply Ri.add3<;>first|rfl|omega)|(apply Ri.sub3<;>first|rfl|omega)|(apply Ri.eqb<;>rfl)|(apply Ri.neb<;>rfl)|(apply Ri.pT;(focus rfl);(focus(first|rfl|assumption|(simp;done)|(simp;omega)));(focus rfl))|(apply Ri.pF;(focus rfl);(focus(first|rfl|assumption|(simp;done)|(simp;omega)));(focus rfl))));(focus rfl)))
  refine o_still (r_load rfl f0) (wants_none rfl) rfl ?_
  repeat(first|refine o_nil ?_|(refine o_pass (wants_no rfl rfl rfl ?_) rfl ?_;(focus(first|rfl|assumption|(simp;done)|(simp;omega))))|refine o_pass (wants_not rfl rfl rfl) rfl ?_|(refine o_yes (wants_yes rfl rfl rfl ?_) ?_;(focus(first|rfl|assumption|(simp;done)|(simp;omega))))|refine k_region ?_|(apply k_go;(focus(constructor<;>rfl)))|refine d_nil ?_|(apply o_s;(focus(first|(constructor<;>first|rfl|omega)|(apply Ri.add3<;>first|rfl|omega)|(apply Ri.sub3<;>first|rfl|omega)|(apply Ri.eqb<;>rfl)|(apply Ri.neb<;>rfl)|(apply Ri.pT;(focus rfl);(focus(first|rfl|assumption|(simp;done)|(simp;omega)));(focus rfl))|(apply Ri.pF;(focus rfl);(focus(first|rfl|assumption|(simp;done)|(simp;omega)));(focus rfl))));(focus rfl)))
  by_cases c0 : d.kind = 0
  · refine k_yes rfl c0 ?_
    repeat(first|refine o_nil ?_|(refine o_pass (wants_no rfl rfl rfl ?_) rfl ?_;(focus(first|rfl|assumption|(simp;done)|(simp;omega))))|refine o_pass (wants_not rfl rfl rfl) rfl ?_|(refine o_yes (wants_yes rfl rfl rfl ?_) ?_;(focus(first|rfl|assumption|(simp;done)|(simp;omega))))|refine k_region ?_|(apply k_go;(focus(constructor<;>rfl)))|refine d_nil ?_|(apply o_s;(focus(first|(constructor<;>first|rfl|omega)|(apply Ri.add3<;>first|rfl|omega)|(apply Ri.sub3<;>first|rfl|omega)|(apply Ri.eqb<;>rfl)|(apply Ri.neb<;>rfl)|(apply Ri.pT;(focus rfl);(focus(first|rfl|assumption|(simp;done)|(simp;omega)));(focus rfl))|(apply Ri.pF;(focus rfl);(focus(first|rfl|assumption|(simp;done)|(simp;omega)));(focus rfl))));(focus rfl)))
    refine o_any (e_lit0) (wants_none rfl) rfl ?_
    rintro _ w2 ⟨g2, rfl, nb2⟩
    have hO2 : Ow kRune (noB w1) (fun _ => False) w2 (.slice (some ⟨g2, 0, none⟩) 0 0) [] := ow_lit0 nb2 nb2.ge
    repeat(first|refine o_nil ?_|(refine o_pass (wants_no rfl rfl rfl ?_) rfl ?_;(focus(first|rfl|assumption|(simp;done)|(simp;omega))))|refine o_pass (wants_not rfl rfl rfl) rfl ?_|(refine o_yes (wants_yes rfl rfl rfl ?_) ?_;(focus(first|rfl|assumption|(simp;done)|(simp;omega))))|refine k_region ?_|(apply k_go;(focus(constructor<;>rfl)))|refine d_nil ?_|(apply o_s;(focus(first|(constructor<;>first|rfl|omega)|(apply Ri.add3<;>first|rfl|omega)|(apply Ri.sub3<;>first|rfl|omega)|(apply Ri.eqb<;>rfl)|(apply Ri.neb<;>rfl)|(apply Ri.pT;(focus rfl);(focus(first|rfl|assumption|(simp;done)|(simp;omega)));(focus rfl))|(apply Ri.pF;(focus rfl);(focus(first|rfl|assumption|(simp;done)|(simp;omega)));(focus rfl))));(focus rfl)))
    refine o_still (r_load rfl (nb2.kn.cell f3 id)) (wants_none rfl) rfl ?_
    refine o_any (e_append2 (d := kRune) rfl rfl hO2 (nb2.kn.sl hl1.old) (by
      intro k hk he
      have := (hO2.block k he).1
      simp only [noB] at this
      omega) (by show (0 + d.l.length) * 4 ≤ 140737488355328; omega) rfl rfl rfl) (wants_none rfl) rfl ?_
    rintro v3 w3 hA3
    obtain ⟨k3, hO3⟩ := app_next nb2.kn hO2 hA3
    rw [List.nil_append] at hO3
    obtain ⟨A3, c3, rfl, _⟩ := hO3.form
    have z3 := k3.size
    have hd3 := hd1.kn k3
    repeat(first|refine o_nil ?_|(refine o_pass (wants_no rfl rfl rfl ?_) rfl ?_;(focus(first|rfl|assumption|(simp;done)|(simp;omega))))|refine o_pass (wants_not rfl rfl rfl) rfl ?_|(refine o_yes (wants_yes rfl rfl rfl ?_) ?_;(focus(first|rfl|assumption|(simp;done)|(simp;omega))))|refine k_region ?_|(apply k_go;(focus(constructor<;>rfl)))|refine d_nil ?_|(apply o_s;(focus(first|(constructor<;>first|rfl|omega)|(apply Ri.add3<;>first|rfl|omega)|(apply Ri.sub3<;>first|rfl|omega)|(apply Ri.eqb<;>rfl)|(apply Ri.neb<;>rfl)|(apply Ri.pT;(focus rfl);(focus(first|rfl|assumption|(simp;done)|(simp;omega)));(focus rfl))|(apply Ri.pF;(focus rfl);(focus(first|rfl|assumption|(simp;done)|(simp;omega)));(focus rfl))));(focus rfl)))
    refine o_still (r_load rfl (k3.cell f1 id)) (wants_none rfl) rfl ?_
    repeat(first|refine o_nil ?_|(refine o_pass (wants_no rfl rfl rfl ?_) rfl ?_;(focus(first|rfl|assumption|(simp;done)|(simp;omega))))|refine o_pass (wants_not rfl rfl rfl) rfl ?_|(refine o_yes (wants_yes rfl rfl rfl ?_) ?_;(focus(first|rfl|assumption|(simp;done)|(simp;omega))))|refine k_region ?_|(apply k_go;(focus(constructor<;>rfl)))|refine d_nil ?_|(apply o_s;(focus(first|(constructor<;>first|rfl|omega)|(apply Ri.add3<;>first|rfl|omega)|(apply Ri.sub3<;>first|rfl|omega)|(apply Ri.eqb<;>rfl)|(apply Ri.neb<;>rfl)|(apply Ri.pT;(focus rfl);(focus(first|rfl|assumption|(simp;done)|(simp;omega)));(focus rfl))|(apply Ri.pF;(focus rfl);(focus(first|rfl|assumption|(simp;done)|(simp;omega)));(focus rfl))));(focus rfl)))
    refine o_enter (n_call rfl) (wants_none rfl) rfl ((ins_calls (F := noB w1) hd3.t hk2 (hO3.slF (fun _ h => h) fun _ h => h.elim) (fun k hk hkl hkd => by have := hDw k hkd; simp only [noB] at hk; omega) (by omega)).mono ?_)
    rintro _ w4 ⟨hk4, hT4, rfl⟩
    have z4 := hk4.size
    have hO4 : Ow kRune (fun k => w1.heap.size ≤ k ∧ k < w3.heap.size) (fun _ => False) w4 (.slice A3 d.l.length c3) d.l := Kp.ow hk4 (hO3.mono (fun k hk hl => ⟨hk, hl⟩) fun _ h _ => h) (fun k hk hkd => by have := hDw k hkd; omega) fun _ h => h.elim
    have nbD : ¬ D gb := fun hkd => by have := hDw gb hkd; omega
    have f14 := hk4.cell (k3.cell f1 id) nbD
    have f34 := hk4.cell (k3.cell f3 id) nbD
    obtain ⟨hsz, hsa, hkf⟩ := ins_keeps (a := d.at_) (xs := d.l) hok.1
    have hrel := fun hb => rel_ins (a := d.at_) (xs := d.l) (hd.rel hb) hok.1 hok.2.1
    repeat(first|refine o_nil ?_|(refine o_pass (wants_no rfl rfl rfl ?_) rfl ?_;(focus(first|rfl|assumption|(simp;done)|(simp;omega))))|refine o_pass (wants_not rfl rfl rfl) rfl ?_|(refine o_yes (wants_yes rfl rfl rfl ?_) ?_;(focus(first|rfl|assumption|(simp;done)|(simp;omega))))|refine k_region ?_|(apply k_go;(focus(constructor<;>rfl)))|refine d_nil ?_|(apply o_s;(focus(first|(constructor<;>first|rfl|omega)|(apply Ri.add3<;>first|rfl|omega)|(apply Ri.sub3<;>first|rfl|omega)|(apply Ri.eqb<;>rfl)|(apply Ri.neb<;>rfl)|(apply Ri.pT;(focus rfl);(focus(first|rfl|assumption|(simp;done)|(simp;omega)));(focus rfl))|(apply Ri.pF;(focus rfl);(focus(first|rfl|assumption|(simp;done)|(simp;omega)));(focus rfl))));(focus rfl)))
    refine k_while (fun i => d.l.length - i) (fun i : Nat => [(0, .pointer (some ⟨g, 0, none⟩)), (1, .pointer (some ⟨h, 0, none⟩)), (5, .pointer (some ⟨gb, 0, none⟩)), (7, .slice A3 d.l.length c3), (8, .int .i64 (insM T d.at_ d.l).2), (9, .int .i64 i)])
      (fun i wr => i ≤ d.l.length ∧ Kp (fun k => w1.heap.size ≤ k ∧ k < w3.heap.size) w4 wr ∧ ∃ ys : List Int, ys.length = d.l.length ∧ Ow kRune (fun k => w1.heap.size ≤ k ∧ k < w3.heap.size) (fun _ => False) wr (.slice A3 d.l.length c3) ys)
      0 (by repeat (first | exact SubB.nil | refine SubB.cons rfl ?_)) ⟨Nat.zero_le _, Kp.refl _ _, d.l, rfl, hO4⟩ ?_
    rintro i wr ⟨hi, hkr, ys, hys, hOr⟩ ih
    repeat(first|refine o_nil ?_|(refine o_pass (wants_no rfl rfl rfl ?_) rfl ?_;(focus(first|rfl|assumption|(simp;done)|(simp;omega))))|refine o_pass (wants_not rfl rfl rfl) rfl ?_|(refine o_yes (wants_yes rfl rfl rfl ?_) ?_;(focus(first|rfl|assumption|(simp;done)|(simp;omega))))|refine k_region ?_|(apply k_go;(focus(constructor<;>rfl)))|refine d_nil ?_|(apply o_s;(focus(first|(constructor<;>first|rfl|omega)|(apply Ri.add3<;>first|rfl|omega)|(apply Ri.sub3<;>first|rfl|omega)|(apply Ri.eqb<;>rfl)|(apply Ri.neb<;>rfl)|(apply Ri.pT;(focus rfl);(focus(first|rfl|assumption|(simp;done)|(simp;omega)));(focus rfl))|(apply Ri.pF;(focus rfl);(focus(first|rfl|assumption|(simp;done)|(simp;omega)));(focus rfl))));(focus rfl)))
    refine k_ite rfl (fun hlt => ?_) (fun hge => ?_)
    · have hlt' : i < ys.length := by omega
      obtain ⟨ad, cs, hAd, _, _⟩ := hOr.sl.at_ (List.getElem?_eq_getElem hlt')
      subst hAd
      repeat(first|refine o_nil ?_|(refine o_pass (wants_no rfl rfl rfl ?_) rfl ?_;(focus(first|rfl|assumption|(simp;done)|(simp;omega))))|refine o_pass (wants_not rfl rfl rfl) rfl ?_|(refine o_yes (wants_yes rfl rfl rfl ?_) ?_;(focus(first|rfl|assumption|(simp;done)|(simp;omega))))|refine k_region ?_|(apply k_go;(focus(constructor<;>rfl)))|refine d_nil ?_|(apply o_s;(focus(first|(constructor<;>first|rfl|omega)|(apply Ri.add3<;>first|rfl|omega)|(apply Ri.sub3<;>first|rfl|omega)|(apply Ri.eqb<;>rfl)|(apply Ri.neb<;>rfl)|(apply Ri.pT;(focus rfl);(focus(first|rfl|assumption|(simp;done)|(simp;omega)));(focus rfl))|(apply Ri.pF;(focus rfl);(focus(first|rfl|assumption|(simp;done)|(simp;omega)));(focus rfl))));(focus rfl)))
      refine o_still (r_index rfl rfl rfl (by omega) (by omega)) (wants_none rfl) rfl ?_
      refine o_unit (u_set (d := kRune) (j := i) (q := 7) rfl rfl hOr hlt' ⟨rfl, by decide, by decide⟩ rfl) (wants_none rfl) rfl ?_
      rintro w5 ⟨hk5, hO5⟩
      repeat(first|refine o_nil ?_|(refine o_pass (wants_no rfl rfl rfl ?_) rfl ?_;(focus(first|rfl|assumption|(simp;done)|(simp;omega))))|refine o_pass (wants_not rfl rfl rfl) rfl ?_|(refine o_yes (wants_yes rfl rfl rfl ?_) ?_;(focus(first|rfl|assumption|(simp;done)|(simp;omega))))|refine k_region ?_|(apply k_go;(focus(constructor<;>rfl)))|refine d_nil ?_|(apply o_s;(focus(first|(constructor<;>first|rfl|omega)|(apply Ri.add3<;>first|rfl|omega)|(apply Ri.sub3<;>first|rfl|omega)|(apply Ri.eqb<;>rfl)|(apply Ri.neb<;>rfl)|(apply Ri.pT;(focus rfl);(focus(first|rfl|assumption|(simp;done)|(simp;omega)));(focus rfl))|(apply Ri.pF;(focus rfl);(focus(first|rfl|assumption|(simp;done)|(simp;omega)));(focus rfl))));(focus rfl)))
      exact ih (i + 1) w5 ⟨by omega, Kp.then hkr hk5 (fun _ h => h) (fun k hk he => by subst he; exact (hOr.block _ (by simp [Value.ownBlock])).1), ys.set i 7, by simpa using hys, hO5⟩ (by omega) _ (by repeat (first | exact SubB.nil | refine SubB.cons rfl ?_))
    · repeat(first|refine o_nil ?_|(refine o_pass (wants_no rfl rfl rfl ?_) rfl ?_;(focus(first|rfl|assumption|(simp;done)|(simp;omega))))|refine o_pass (wants_not rfl rfl rfl) rfl ?_|(refine o_yes (wants_yes rfl rfl rfl ?_) ?_;(focus(first|rfl|assumption|(simp;done)|(simp;omega))))|refine k_region ?_|(apply k_go;(focus(constructor<;>rfl)))|refine d_nil ?_|(apply o_s;(focus(first|(constructor<;>first|rfl|omega)|(apply Ri.add3<;>first|rfl|omega)|(apply Ri.sub3<;>first|rfl|omega)|(apply Ri.eqb<;>rfl)|(apply Ri.neb<;>rfl)|(apply Ri.pT;(focus rfl);(focus(first|rfl|assumption|(simp;done)|(simp;omega)));(focus rfl))|(apply Ri.pF;(focus rfl);(focus(first|rfl|assumption|(simp;done)|(simp;omega)));(focus rfl))));(focus rfl)))
      refine o_still (r_load rfl (hkr.cell f14 (by show ¬ (w1.heap.size ≤ gb ∧ _); omega))) (wants_none rfl) rfl ?_
      repeat(first|refine o_nil ?_|(refine o_pass (wants_no rfl rfl rfl ?_) rfl ?_;(focus(first|rfl|assumption|(simp;done)|(simp;omega))))|refine o_pass (wants_not rfl rfl rfl) rfl ?_|(refine o_yes (wants_yes rfl rfl rfl ?_) ?_;(focus(first|rfl|assumption|(simp;done)|(simp;omega))))|refine k_region ?_|(apply k_go;(focus(constructor<;>rfl)))|refine d_nil ?_|(apply o_s;(focus(first|(constructor<;>first|rfl|omega)|(apply Ri.add3<;>first|rfl|omega)|(apply Ri.sub3<;>first|rfl|omega)|(apply Ri.eqb<;>rfl)|(apply Ri.neb<;>rfl)|(apply Ri.pT;(focus rfl);(focus(first|rfl|assumption|(simp;done)|(simp;omega)));(focus rfl))|(apply Ri.pF;(focus rfl);(focus(first|rfl|assumption|(simp;done)|(simp;omega)));(focus rfl))));(focus rfl)))
      refine o_still (r_load rfl (hkr.cell f34 (by show ¬ (w1.heap.size ≤ gb ∧ _); omega))) (wants_none rfl) rfl ?_
      have zr := hkr.size
      have hRr : IsRef E h wr L S := ((hd3.r.kp hk4 fun k hk hkd => hd.de k hkd hk).kp hkr fun k hk hkm => by have := hEw k hk; omega)
      have hlr : Sl kRune F wr (.slice A d.l.length c) d.l := Kp.sl hkr (Kp.sl hk4 (k3.sl hl1) fun k hk hkd => by have := hF k hk; have := hDW k hkd; omega) fun k hk hkm => by have := hF k hk; omega
      refine o_enter (n_call rfl) (wants_none rfl) rfl ((refins_calls (a := d.at_) hRr hk2 hlr).mono ?_)
      rintro _ w6 ⟨hk6, hR6, rfl⟩
      have z6 := hk6.size
      have hTr : IsTab (grownD D w3) g wr (insM T d.at_ d.l).1 := hT4.kp hkr fun k hk hkm => hk.elim (fun h => by have := hDw k h; omega) fun h => by omega
      have hT6 : IsTab (fun k => grownD D w3 k ∧ k < wr.heap.size) g w6 (insM T d.at_ d.l).1 := (hTr.mono (D' := fun k => grownD D w3 k ∧ k < wr.heap.size) fun k hk hl => ⟨hk, hl⟩).kp hk6 fun k hk hke => hk.1.elim (fun h => hd.de k h hke) fun h => by have := hEw k hke; omega
      repeat(first|refine o_nil ?_|(refine o_pass (wants_no rfl rfl rfl ?_) rfl ?_;(focus(first|rfl|assumption|(simp;done)|(simp;omega))))|refine o_pass (wants_not rfl rfl rfl) rfl ?_|(refine o_yes (wants_yes rfl rfl rfl ?_) ?_;(focus(first|rfl|assumption|(simp;done)|(simp;omega))))|refine k_region ?_|(apply k_go;(focus(constructor<;>rfl)))|refine d_nil ?_|(apply o_s;(focus(first|(constructor<;>first|rfl|omega)|(apply Ri.add3<;>first|rfl|omega)|(apply Ri.sub3<;>first|rfl|omega)|(apply Ri.eqb<;>rfl)|(apply Ri.neb<;>rfl)|(apply Ri.pT;(focus rfl);(focus(first|rfl|assumption|(simp;done)|(simp;omega)));(focus rfl))|(apply Ri.pF;(focus rfl);(focus(first|rfl|assumption|(simp;done)|(simp;omega)));(focus rfl))));(focus rfl)))
      refine k_ret1 rfl rfl ⟨⟨_, rfl, fun hb => by rw [(hrel hb).2.1]; simp⟩, ?_, _, _, _, ⟨_, _, ⟨?_, ?_, ?_, hT6, hR6.mono (D' := fun k => grownD E wr k ∧ k < w6.heap.size) fun k hk hl => ⟨hk, hl⟩, fun hb => (hrel hb).1⟩, ?_⟩, by omega, by rw [hsa]; omega, fun _ => ⟨hsa, rfl⟩, hkf⟩
      · refine Kp.then (Kp.then (Kp.then (nb.kn.trans k3) hk4 (T := fun k => D k ∨ E k) (fun _ h => h.elim) fun k _ hk => .inl hk) hkr (fun _ h => h) fun k _ hk => by omega) hk6 (fun _ h => h) fun k _ hk => .inr hk
      · rintro k ⟨hk, hl⟩
        exact ⟨hk.elim (hDW k) fun h => by omega, by omega⟩
      · rintro k ⟨hk, hl⟩
        exact ⟨hk.elim (hEW k) fun h => by omega, hl⟩
      · rintro k ⟨hk, hl⟩ ⟨hk', hl'⟩
        rcases hk with hk | hk <;> rcases hk' with hk' | hk'
        · exact hd.de k hk hk'
        · have := hDw k hk; omega
        · have := hEw k hk'; omega
        · omega
      · intro k hk hk'
        rcases hk' with ⟨h1 | h1, _⟩ | ⟨h1 | h1, _⟩
        · exact .inl h1
        · omega
        · exact .inr h1
        · omega
  refine k_no rfl c0 ?_
  repeat(first|refine o_nil ?_|(refine o_pass (wants_no rfl rfl rfl ?_) rfl ?_;(focus(first|rfl|assumption|(simp;done)|(simp;omega))))|refine o_pass (wants_not rfl rfl rfl) rfl ?_|(refine o_yes (wants_yes rfl rfl rfl ?_) ?_;(focus(first|rfl|assumption|(simp;done)|(simp;omega))))|refine k_region ?_|(apply k_go;(focus(constructor<;>rfl)))|refine d_nil ?_|(apply o_s;(focus(first|(constructor<;>first|rfl|omega)|(apply Ri.add3<;>first|rfl|omega)|(apply Ri.sub3<;>first|rfl|omega)|(apply Ri.eqb<;>rfl)|(apply Ri.neb<;>rfl)|(apply Ri.pT;(focus rfl);(focus(first|rfl|assumption|(simp;done)|(simp;omega)));(focus rfl))|(apply Ri.pF;(focus rfl);(focus(first|rfl|assumption|(simp;done)|(simp;omega)));(focus rfl))));(focus rfl)))
  have hW1 : W.heap.size ≤ w1.heap.size := by omega
  have knW : Kp (fun k => D k ∨ E k) w w1 := nb.kn.kp
  have q2n : ∀ {w6 : World} {T' : Tab} {L' : List Int} {S' : List (List Int)}, DuoN b W D E w1 g h w6 T' L' S' → DuoN b W D E w g h w6 T' L' S' := fun ⟨D', E', h1, h2⟩ => ⟨D', E', h1, fun k hk => h2 k (by omega)⟩
  have nbQ : ¬ (D gb ∨ E gb) := fun h => h.elim (fun h => by have := hDw gb h; omega) fun h => by have := hEw gb h; omega
  by_cases c1 : d.kind = 1
  · refine k_yes rfl c1 ?_
    repeat(first|refine o_nil ?_|(refine o_pass (wants_no rfl rfl rfl ?_) rfl ?_;(focus(first|rfl|assumption|(simp;done)|(simp;omega))))|refine o_pass (wants_not rfl rfl rfl) rfl ?_|(refine o_yes (wants_yes rfl rfl rfl ?_) ?_;(focus(first|rfl|assumption|(simp;done)|(simp;omega))))|refine k_region ?_|(apply k_go;(focus(constructor<;>rfl)))|refine d_nil ?_|(apply o_s;(focus(first|(constructor<;>first|rfl|omega)|(apply Ri.add3<;>first|rfl|omega)|(apply Ri.sub3<;>first|rfl|omega)|(apply Ri.eqb<;>rfl)|(apply Ri.neb<;>rfl)|(apply Ri.pT;(focus rfl);(focus(first|rfl|assumption|(simp;done)|(simp;omega)));(focus rfl))|(apply Ri.pF;(focus rfl);(focus(first|rfl|assumption|(simp;done)|(simp;omega)));(focus rfl))));(focus rfl)))
    refine k_drawQ (fun k => D k ∨ E k) [(0, 0), (1, 0), (2, 0), (3, 0), (4, 0), (6, 0), (7, 0), (8, 0), (9, 0), (10, 0), (5, 1), (11, 1), (12, 0), (13, 0)] (by kernel_rfl) (by kernel_rfl) rfl (by kernel_rfl) ?_
    repeat(first|refine q_nil ?_|(refine q_open rfl ?_;first|((first|refine q_pass (wants_no rfl rfl rfl ?_) rfl ?_ ?_|refine q_passNow (wants_no rfl rfl rfl ?_) rfl ?_ ?_);(focus(first|rfl|assumption|(simp;done)|(simp;omega)));(focus(first|exact StQ.refl _ _|assumption)))|((first|refine q_pass (wants_not rfl rfl rfl) rfl ?_ ?_|refine q_passNow (wants_not rfl rfl rfl) rfl ?_ ?_);(focus(first|exact StQ.refl _ _|assumption)))|((first|apply q_s|apply q_n);(focus(first|(constructor<;>first|rfl|omega)|(apply Ri.add3<;>first|rfl|omega)|(apply Ri.sub3<;>first|rfl|omega)|(apply Ri.eqb<;>rfl)|(apply Ri.neb<;>rfl)|(apply Ri.pT;(focus rfl);(focus(first|rfl|assumption|(simp;done)|(simp;omega)));(focus rfl))|(apply Ri.pF;(focus rfl);(focus(first|rfl|assumption|(simp;done)|(simp;omega)));(focus rfl))));(focus(first|exact wants_none rfl|exact wants_yes rfl rfl rfl (by first|rfl|assumption|(simp;done)|(simp;omega))));(focus rfl);(focus(first|exact StQ.refl _ _|assumption)))))
    refine q_open rfl ?_; refine q_still (fun _ hq => r_load rfl (hq.cell f1 nbQ)) (wants_none rfl) rfl (by first | exact StQ.refl _ _ | assumption) ?_
    repeat(first|refine q_nil ?_|(refine q_open rfl ?_;first|((first|refine q_pass (wants_no rfl rfl rfl ?_) rfl ?_ ?_|refine q_passNow (wants_no rfl rfl rfl ?_) rfl ?_ ?_);(focus(first|rfl|assumption|(simp;done)|(simp;omega)));(focus(first|exact StQ.refl _ _|assumption)))|((first|refine q_pass (wants_not rfl rfl rfl) rfl ?_ ?_|refine q_passNow (wants_not rfl rfl rfl) rfl ?_ ?_);(focus(first|exact StQ.refl _ _|assumption)))|((first|apply q_s|apply q_n);(focus(first|(constructor<;>first|rfl|omega)|(apply Ri.add3<;>first|rfl|omega)|(apply Ri.sub3<;>first|rfl|omega)|(apply Ri.eqb<;>rfl)|(apply Ri.neb<;>rfl)|(apply Ri.pT;(focus rfl);(focus(first|rfl|assumption|(simp;done)|(simp;omega)));(focus rfl))|(apply Ri.pF;(focus rfl);(focus(first|rfl|assumption|(simp;done)|(simp;omega)));(focus rfl))));(focus(first|exact wants_none rfl|exact wants_yes rfl rfl rfl (by first|rfl|assumption|(simp;done)|(simp;omega))));(focus rfl);(focus(first|exact StQ.refl _ _|assumption)))))
    refine q_open rfl ?_; refine q_still (fun _ hq => r_load rfl (hq.cell f2 nbQ)) (wants_none rfl) rfl (by first | exact StQ.refl _ _ | assumption) ?_
    repeat(first|refine q_nil ?_|(refine q_open rfl ?_;first|((first|refine q_pass (wants_no rfl rfl rfl ?_) rfl ?_ ?_|refine q_passNow (wants_no rfl rfl rfl ?_) rfl ?_ ?_);(focus(first|rfl|assumption|(simp;done)|(simp;omega)));(focus(first|exact StQ.refl _ _|assumption)))|((first|refine q_pass (wants_not rfl rfl rfl) rfl ?_ ?_|refine q_passNow (wants_not rfl rfl rfl) rfl ?_ ?_);(focus(first|exact StQ.refl _ _|assumption)))|((first|apply q_s|apply q_n);(focus(first|(constructor<;>first|rfl|omega)|(apply Ri.add3<;>first|rfl|omega)|(apply Ri.sub3<;>first|rfl|omega)|(apply Ri.eqb<;>rfl)|(apply Ri.neb<;>rfl)|(apply Ri.pT;(focus rfl);(focus(first|rfl|assumption|(simp;done)|(simp;omega)));(focus rfl))|(apply Ri.pF;(focus rfl);(focus(first|rfl|assumption|(simp;done)|(simp;omega)));(focus rfl))));(focus(first|exact wants_none rfl|exact wants_yes rfl rfl rfl (by first|rfl|assumption|(simp;done)|(simp;omega))));(focus rfl);(focus(first|exact StQ.refl _ _|assumption)))))
    refine q_open rfl ?_; refine q_still (fun _ hq => r_load rfl (hq.cell f1 nbQ)) (wants_none rfl) rfl (by first | exact StQ.refl _ _ | assumption) ?_
    repeat(first|refine q_nil ?_|(refine q_open rfl ?_;first|((first|refine q_pass (wants_no rfl rfl rfl ?_) rfl ?_ ?_|refine q_passNow (wants_no rfl rfl rfl ?_) rfl ?_ ?_);(focus(first|rfl|assumption|(simp;done)|(simp;omega)));(focus(first|exact StQ.refl _ _|assumption)))|((first|refine q_pass (wants_not rfl rfl rfl) rfl ?_ ?_|refine q_passNow (wants_not rfl rfl rfl) rfl ?_ ?_);(focus(first|exact StQ.refl _ _|assumption)))|((first|apply q_s|apply q_n);(focus(first|(constructor<;>first|rfl|omega)|(apply Ri.add3<;>first|rfl|omega)|(apply Ri.sub3<;>first|rfl|omega)|(apply Ri.eqb<;>rfl)|(apply Ri.neb<;>rfl)|(apply Ri.pT;(focus rfl);(focus(first|rfl|assumption|(simp;done)|(simp;omega)));(focus rfl))|(apply Ri.pF;(focus rfl);(focus(first|rfl|assumption|(simp;done)|(simp;omega)));(focus rfl))));(focus(first|exact wants_none rfl|exact wants_yes rfl rfl rfl (by first|rfl|assumption|(simp;done)|(simp;omega))));(focus rfl);(focus(first|exact StQ.refl _ _|assumption)))))
    refine q_open rfl ?_; refine q_still (fun _ hq => r_load rfl (hq.cell f2 nbQ)) (wants_none rfl) rfl (by first | exact StQ.refl _ _ | assumption) ?_
    obtain ⟨hsz, hsa⟩ := del_keeps (T := T) (a := d.at_) (n := d.n)
    have hrel := fun hb => rel_del (a := d.at_) (n := d.n) (hd.rel hb) hok.1
    refine q_open rfl ?_; refine q_enter (n_call rfl) (wants_none rfl) rfl ((del_calls hd1.t hk2 hk3).mono ?_)
    rintro _ w4 ⟨hk4, hT4, rfl⟩
    have hs4 : StQ (fun k => D k ∨ E k) w1 w4 := hk4.stq fun k _ hk => .inl hk
    refine .inl ⟨hs4, ?_⟩
    refine q_open rfl ?_; refine q_enter (n_call rfl) (wants_none rfl) rfl ((refdel_calls (a := d.at_) (n := d.n) (hd1.r.kp hk4 fun k hk hkd => hd.de k hkd hk) hk2 hk3).mono ?_)
    rintro _ w6 ⟨hk6, hR6, rfl⟩
    have hs6 : StQ (fun k => D k ∨ E k) w1 w6 := (Kp.then (T := fun k => D k ∨ E k) hk4 hk6 (fun _ h => .inl h) (fun _ _ h => .inr h)).stq fun _ _ h => h
    refine .inl ⟨hs6, ?_⟩
    obtain ⟨q1, q2⟩ := hd1.both (x := .int .i64 0) (u := .int .i64 0) (y := .int .i64 0) (v := .int .i64 0) hW1 ⟨hk4, hT4, rfl⟩ ⟨hk6, hR6, rfl⟩ (fun hb => (hrel hb).1)
    repeat(first|refine q_nil ?_|(refine q_open rfl ?_;first|((first|refine q_pass (wants_no rfl rfl rfl ?_) rfl ?_ ?_|refine q_passNow (wants_no rfl rfl rfl ?_) rfl ?_ ?_);(focus(first|rfl|assumption|(simp;done)|(simp;omega)));(focus(first|exact StQ.refl _ _|assumption)))|((first|refine q_pass (wants_not rfl rfl rfl) rfl ?_ ?_|refine q_passNow (wants_not rfl rfl rfl) rfl ?_ ?_);(focus(first|exact StQ.refl _ _|assumption)))|((first|apply q_s|apply q_n);(focus(first|(constructor<;>first|rfl|omega)|(apply Ri.add3<;>first|rfl|omega)|(apply Ri.sub3<;>first|rfl|omega)|(apply Ri.eqb<;>rfl)|(apply Ri.neb<;>rfl)|(apply Ri.pT;(focus rfl);(focus(first|rfl|assumption|(simp;done)|(simp;omega)));(focus rfl))|(apply Ri.pF;(focus rfl);(focus(first|rfl|assumption|(simp;done)|(simp;omega)));(focus rfl))));(focus(first|exact wants_none rfl|exact wants_yes rfl rfl rfl (by first|rfl|assumption|(simp;done)|(simp;omega))));(focus rfl);(focus(first|exact StQ.refl _ _|assumption)))))
    repeat(first|refine o_nil ?_|(refine o_pass (wants_no rfl rfl rfl ?_) rfl ?_;(focus(first|rfl|assumption|(simp;done)|(simp;omega))))|refine o_pass (wants_not rfl rfl rfl) rfl ?_|(refine o_yes (wants_yes rfl rfl rfl ?_) ?_;(focus(first|rfl|assumption|(simp;done)|(simp;omega))))|refine k_region ?_|(apply k_go;(focus(constructor<;>rfl)))|refine d_nil ?_|(apply o_s;(focus(first|(constructor<;>first|rfl|omega)|(apply Ri.add3<;>first|rfl|omega)|(apply Ri.sub3<;>first|rfl|omega)|(apply Ri.eqb<;>rfl)|(apply Ri.neb<;>rfl)|(apply Ri.pT;(focus rfl);(focus(first|rfl|assumption|(simp;done)|(simp;omega)));(focus rfl))|(apply Ri.pF;(focus rfl);(focus(first|rfl|assumption|(simp;done)|(simp;omega)));(focus rfl))));(focus rfl)))
    exact k_ret1 rfl rfl ⟨⟨_, rfl, fun hb => by rw [(hrel hb).2.1]; simp⟩, knW.trans q1, _, _, _, q2n q2, by rw [hsz]; omega, by rw [hsa]; omega, fun _ => ⟨hsa, rfl⟩, fun r _ => by rw [hsz]⟩
  refine k_no rfl c1 ?_
  repeat(first|refine o_nil ?_|(refine o_pass (wants_no rfl rfl rfl ?_) rfl ?_;(focus(first|rfl|assumption|(simp;done)|(simp;omega))))|refine o_pass (wants_not rfl rfl rfl) rfl ?_|(refine o_yes (wants_yes rfl rfl rfl ?_) ?_;(focus(first|rfl|assumption|(simp;done)|(simp;omega))))|refine k_region ?_|(apply k_go;(focus(constructor<;>rfl)))|refine d_nil ?_|(apply o_s;(focus(first|(constructor<;>first|rfl|omega)|(apply Ri.add3<;>first|rfl|omega)|(apply Ri.sub3<;>first|rfl|omega)|(apply Ri.eqb<;>rfl)|(apply Ri.neb<;>rfl)|(apply Ri.pT;(focus rfl);(focus(first|rfl|assumption|(simp;done)|(simp;omega)));(focus rfl))|(apply Ri.pF;(focus rfl);(focus(first|rfl|assumption|(simp;done)|(simp;omega)));(focus rfl))));(focus rfl)))
  by_cases c2 : d.kind = 2
  · refine k_yes rfl c2 ?_
    have hbt : b = true := hbk.resolve_right (by omega)
    repeat(first|refine o_nil ?_|(refine o_pass (wants_no rfl rfl rfl ?_) rfl ?_;(focus(first|rfl|assumption|(simp;done)|(simp;omega))))|refine o_pass (wants_not rfl rfl rfl) rfl ?_|(refine o_yes (wants_yes rfl rfl rfl ?_) ?_;(focus(first|rfl|assumption|(simp;done)|(simp;omega))))|refine k_region ?_|(apply k_go;(focus(constructor<;>rfl)))|refine d_nil ?_|(apply o_s;(focus(first|(constructor<;>first|rfl|omega)|(apply Ri.add3<;>first|rfl|omega)|(apply Ri.sub3<;>first|rfl|omega)|(apply Ri.eqb<;>rfl)|(apply Ri.neb<;>rfl)|(apply Ri.pT;(focus rfl);(focus(first|rfl|assumption|(simp;done)|(simp;omega)));(focus rfl))|(apply Ri.pF;(focus rfl);(focus(first|rfl|assumption|(simp;done)|(simp;omega)));(focus rfl))));(focus rfl)))
    refine o_still (r_load rfl f1) (wants_none rfl) rfl ?_
    repeat(first|refine o_nil ?_|(refine o_pass (wants_no rfl rfl rfl ?_) rfl ?_;(focus(first|rfl|assumption|(simp;done)|(simp;omega))))|refine o_pass (wants_not rfl rfl rfl) rfl ?_|(refine o_yes (wants_yes rfl rfl rfl ?_) ?_;(focus(first|rfl|assumption|(simp;done)|(simp;omega))))|refine k_region ?_|(apply k_go;(focus(constructor<;>rfl)))|refine d_nil ?_|(apply o_s;(focus(first|(constructor<;>first|rfl|omega)|(apply Ri.add3<;>first|rfl|omega)|(apply Ri.sub3<;>first|rfl|omega)|(apply Ri.eqb<;>rfl)|(apply Ri.neb<;>rfl)|(apply Ri.pT;(focus rfl);(focus(first|rfl|assumption|(simp;done)|(simp;omega)));(focus rfl))|(apply Ri.pF;(focus rfl);(focus(first|rfl|assumption|(simp;done)|(simp;omega)));(focus rfl))));(focus rfl)))
    refine o_still (r_load rfl f2) (wants_none rfl) rfl ?_
    refine o_enter (n_call rfl) (wants_none rfl) rfl ((slice_calls (a := d.at_) (n := d.n) hd1.t hk2 hk3).mono ?_)
    rintro _ w2 ⟨hk2', vA, rfl, hOA⟩
    obtain ⟨A2, c2', rfl, _⟩ := hOA.form
    rw [rel_slice (hd.rel hbt) hok.1] at *
    repeat(first|refine o_nil ?_|(refine o_pass (wants_no rfl rfl rfl ?_) rfl ?_;(focus(first|rfl|assumption|(simp;done)|(simp;omega))))|refine o_pass (wants_not rfl rfl rfl) rfl ?_|(refine o_yes (wants_yes rfl rfl rfl ?_) ?_;(focus(first|rfl|assumption|(simp;done)|(simp;omega))))|refine k_region ?_|(apply k_go;(focus(constructor<;>rfl)))|refine d_nil ?_|(apply o_s;(focus(first|(constructor<;>first|rfl|omega)|(apply Ri.add3<;>first|rfl|omega)|(apply Ri.sub3<;>first|rfl|omega)|(apply Ri.eqb<;>rfl)|(apply Ri.neb<;>rfl)|(apply Ri.pT;(focus rfl);(focus(first|rfl|assumption|(simp;done)|(simp;omega)));(focus rfl))|(apply Ri.pF;(focus rfl);(focus(first|rfl|assumption|(simp;done)|(simp;omega)));(focus rfl))));(focus rfl)))
    refine o_still (r_load rfl (hk2'.cell f1 id)) (wants_none rfl) rfl ?_
    repeat(first|refine o_nil ?_|(refine o_pass (wants_no rfl rfl rfl ?_) rfl ?_;(focus(first|rfl|assumption|(simp;done)|(simp;omega))))|refine o_pass (wants_not rfl rfl rfl) rfl ?_|(refine o_yes (wants_yes rfl rfl rfl ?_) ?_;(focus(first|rfl|assumption|(simp;done)|(simp;omega))))|refine k_region ?_|(apply k_go;(focus(constructor<;>rfl)))|refine d_nil ?_|(apply o_s;(focus(first|(constructor<;>first|rfl|omega)|(apply Ri.add3<;>first|rfl|omega)|(apply Ri.sub3<;>first|rfl|omega)|(apply Ri.eqb<;>rfl)|(apply Ri.neb<;>rfl)|(apply Ri.pT;(focus rfl);(focus(first|rfl|assumption|(simp;done)|(simp;omega)));(focus rfl))|(apply Ri.pF;(focus rfl);(focus(first|rfl|assumption|(simp;done)|(simp;omega)));(focus rfl))));(focus rfl)))
    refine o_still (r_load rfl (hk2'.cell f2 id)) (wants_none rfl) rfl ?_
    have z2 := hk2'.size
    refine o_enter (n_call rfl) (wants_none rfl) rfl ((refslice_calls (a := d.at_) (n := d.n) (hd1.r.kn hk2') hk2 hk3).mono ?_)
    rintro _ w3 ⟨hk3', vB, rfl, hOB⟩
    obtain ⟨A3, c3', rfl, _⟩ := hOB.form
    have z3 := hk3'.size
    have hd3 := (hd1.kn hk2').kn hk3'
    have hOA3 : Ow kRune (fun k => w1.heap.size ≤ k ∧ k < w2.heap.size) (fun _ => False) w3 (.slice A2 (rsliceM L d.at_ d.n).1.length c2') (rsliceM L d.at_ d.n).1 := Kn.ow hk3' (hOA.mono (fun k hk hl => ⟨hk, hl⟩) fun _ h _ => h)
    have hSB : Sl kRune (noB w2) w3 (.slice A3 (rsliceM L d.at_ d.n).1.length c3') (rsliceM L d.at_ d.n).1 := hOB.slF (fun _ h => h) fun _ h => h.elim
    generalize (rsliceM L d.at_ d.n).1 = rs at *
    generalize (rsliceM L d.at_ d.n).2 = er at *
    have hrl := hSB.len_eq.2.2.len
    repeat(first|refine o_nil ?_|(refine o_pass (wants_no rfl rfl rfl ?_) rfl ?_;(focus(first|rfl|assumption|(simp;done)|(simp;omega))))|refine o_pass (wants_not rfl rfl rfl) rfl ?_|(refine o_yes (wants_yes rfl rfl rfl ?_) ?_;(focus(first|rfl|assumption|(simp;done)|(simp;omega))))|refine k_region ?_|(apply k_go;(focus(constructor<;>rfl)))|refine d_nil ?_|(apply o_s;(focus(first|(constructor<;>first|rfl|omega)|(apply Ri.add3<;>first|rfl|omega)|(apply Ri.sub3<;>first|rfl|omega)|(apply Ri.eqb<;>rfl)|(apply Ri.neb<;>rfl)|(apply Ri.pT;(focus rfl);(focus(first|rfl|assumption|(simp;done)|(simp;omega)));(focus rfl))|(apply Ri.pF;(focus rfl);(focus(first|rfl|assumption|(simp;done)|(simp;omega)));(focus rfl))));(focus rfl)))
    refine k_while (fun i => rs.length - i) (fun i : Nat => [(0, .pointer (some ⟨g, 0, none⟩)), (1, .pointer (some ⟨h, 0, none⟩)), (5, .pointer (some ⟨gb, 0, none⟩)), (10, .slice A2 rs.length c2'), (11, .int .i64 er), (12, .slice A3 rs.length c3'), (13, .int .i64 er), (14, .int .i64 i)])
      (fun i wr => i ≤ rs.length ∧ Kp (fun k => w1.heap.size ≤ k ∧ k < w2.heap.size) w3 wr ∧ ∃ ys : List Int, ys.length = rs.length ∧ ys.drop i = rs.drop i ∧ Ow kRune (fun k => w1.heap.size ≤ k ∧ k < w2.heap.size) (fun _ => False) wr (.slice A2 rs.length c2') ys)
      0 (by repeat (first | exact SubB.nil | refine SubB.cons rfl ?_)) ⟨Nat.zero_le _, Kp.refl _ _, rs, rfl, rfl, hOA3⟩ ?_
    rintro i wr ⟨hi, hkr, ys, hys, hdr, hOr⟩ ih
    have hSr := Kp.sl hkr hSB fun k hk hkm => by simp only [noB] at hk; omega
    repeat(first|refine o_nil ?_|(refine o_pass (wants_no rfl rfl rfl ?_) rfl ?_;(focus(first|rfl|assumption|(simp;done)|(simp;omega))))|refine o_pass (wants_not rfl rfl rfl) rfl ?_|(refine o_yes (wants_yes rfl rfl rfl ?_) ?_;(focus(first|rfl|assumption|(simp;done)|(simp;omega))))|refine k_region ?_|(apply k_go;(focus(constructor<;>rfl)))|refine d_nil ?_|(apply o_s;(focus(first|(constructor<;>first|rfl|omega)|(apply Ri.add3<;>first|rfl|omega)|(apply Ri.sub3<;>first|rfl|omega)|(apply Ri.eqb<;>rfl)|(apply Ri.neb<;>rfl)|(apply Ri.pT;(focus rfl);(focus(first|rfl|assumption|(simp;done)|(simp;omega)));(focus rfl))|(apply Ri.pF;(focus rfl);(focus(first|rfl|assumption|(simp;done)|(simp;omega)));(focus rfl))));(focus rfl)))
    refine k_ite rfl (fun hlt => ?_) (fun hge => ?_)
    · have hlt' : i < ys.length := by omega
      have hlt2 : i < rs.length := by omega
      obtain ⟨ad, cs, hAd, ⟨rfl, hq1, hq2⟩, hcell⟩ := hOr.sl.at_ (List.getElem?_eq_getElem hlt')
      obtain ⟨bd, ds, hBd, ⟨rfl, hq3, hq4⟩, hcell'⟩ := hSr.at_ (List.getElem?_eq_getElem hlt2)
      subst hAd
      subst hBd
      have heq : ys[i] = rs[i] := by
        have e1 := List.drop_eq_getElem_cons hlt'
        have e2 := List.drop_eq_getElem_cons hlt2
        rw [hdr, e2] at e1
        exact (List.cons.inj e1).1.symm
      repeat(first|refine o_nil ?_|(refine o_pass (wants_no rfl rfl rfl ?_) rfl ?_;(focus(first|rfl|assumption|(simp;done)|(simp;omega))))|refine o_pass (wants_not rfl rfl rfl) rfl ?_|(refine o_yes (wants_yes rfl rfl rfl ?_) ?_;(focus(first|rfl|assumption|(simp;done)|(simp;omega))))|refine k_region ?_|(apply k_go;(focus(constructor<;>rfl)))|refine d_nil ?_|(apply o_s;(focus(first|(constructor<;>first|rfl|omega)|(apply Ri.add3<;>first|rfl|omega)|(apply Ri.sub3<;>first|rfl|omega)|(apply Ri.eqb<;>rfl)|(apply Ri.neb<;>rfl)|(apply Ri.pT;(focus rfl);(focus(first|rfl|assumption|(simp;done)|(simp;omega)));(focus rfl))|(apply Ri.pF;(focus rfl);(focus(first|rfl|assumption|(simp;done)|(simp;omega)));(focus rfl))));(focus rfl)))
      refine k_draw [(0, 0), (1, 0), (2, 0), (3, 0), (4, 0), (5, 0), (6, 0), (7, 0), (8, 0), (9, 0), (10, 0), (11, 0), (12, 0), (13, 0), (14, 0)] (by kernel_rfl) (by kernel_rfl) rfl (by kernel_rfl) ?_
      repeat(first|refine d_nil ?_|(refine d_open rfl ?_;first|((first|refine x_pass (wants_no rfl rfl rfl ?_) rfl ?_ ?_|refine x_passNow (wants_no rfl rfl rfl ?_) rfl ?_ ?_);(focus(first|rfl|assumption|(simp;done)|(simp;omega)));(focus(first|exact St.refl _|assumption)))|((first|refine x_pass (wants_not rfl rfl rfl) rfl ?_ ?_|refine x_passNow (wants_not rfl rfl rfl) rfl ?_ ?_);(focus(first|exact St.refl _|assumption)))|((first|apply x_s|apply x_n);(focus(first|(constructor<;>first|rfl|omega)|(apply Ri.add3<;>first|rfl|omega)|(apply Ri.sub3<;>first|rfl|omega)|(apply Ri.eqb<;>rfl)|(apply Ri.neb<;>rfl)|(apply Ri.pT;(focus rfl);(focus(first|rfl|assumption|(simp;done)|(simp;omega)));(focus rfl))|(apply Ri.pF;(focus rfl);(focus(first|rfl|assumption|(simp;done)|(simp;omega)));(focus rfl))));(focus(first|exact wants_none rfl|exact wants_yes rfl rfl rfl (by first|rfl|assumption|(simp;done)|(simp;omega))));(focus rfl);(focus(first|exact St.refl _|assumption)))))
      refine d_open rfl ?_; refine x_still (r_index rfl rfl rfl (by omega) (by omega)) (wants_yes rfl rfl rfl (by first | rfl | assumption | (simp; done) | (simp; omega))) rfl (by first | exact St.refl _ | assumption) ?_
      refine d_open rfl ?_; refine x_still (r_load rfl (hcell 0 _ rfl)) (wants_yes rfl rfl rfl (by first | rfl | assumption | (simp; done) | (simp; omega))) rfl (by first | exact St.refl _ | assumption) ?_
      repeat(first|refine d_nil ?_|(refine d_open rfl ?_;first|((first|refine x_pass (wants_no rfl rfl rfl ?_) rfl ?_ ?_|refine x_passNow (wants_no rfl rfl rfl ?_) rfl ?_ ?_);(focus(first|rfl|assumption|(simp;done)|(simp;omega)));(focus(first|exact St.refl _|assumption)))|((first|refine x_pass (wants_not rfl rfl rfl) rfl ?_ ?_|refine x_passNow (wants_not rfl rfl rfl) rfl ?_ ?_);(focus(first|exact St.refl _|assumption)))|((first|apply x_s|apply x_n);(focus(first|(constructor<;>first|rfl|omega)|(apply Ri.add3<;>first|rfl|omega)|(apply Ri.sub3<;>first|rfl|omega)|(apply Ri.eqb<;>rfl)|(apply Ri.neb<;>rfl)|(apply Ri.pT;(focus rfl);(focus(first|rfl|assumption|(simp;done)|(simp;omega)));(focus rfl))|(apply Ri.pF;(focus rfl);(focus(first|rfl|assumption|(simp;done)|(simp;omega)));(focus rfl))));(focus(first|exact wants_none rfl|exact wants_yes rfl rfl rfl (by first|rfl|assumption|(simp;done)|(simp;omega))));(focus rfl);(focus(first|exact St.refl _|assumption)))))
      refine d_open rfl ?_; refine x_still (r_index rfl rfl rfl (by omega) (by omega)) (wants_yes rfl rfl rfl (by first | rfl | assumption | (simp; done) | (simp; omega))) rfl (by first | exact St.refl _ | assumption) ?_
      refine d_open rfl ?_; refine x_still (r_load rfl (hcell' 0 _ rfl)) (wants_yes rfl rfl rfl (by first | rfl | assumption | (simp; done) | (simp; omega))) rfl (by first | exact St.refl _ | assumption) ?_
      repeat(first|refine d_nil ?_|(refine d_open rfl ?_;first|((first|refine x_pass (wants_no rfl rfl rfl ?_) rfl ?_ ?_|refine x_passNow (wants_no rfl rfl rfl ?_) rfl ?_ ?_);(focus(first|rfl|assumption|(simp;done)|(simp;omega)));(focus(first|exact St.refl _|assumption)))|((first|refine x_pass (wants_not rfl rfl rfl) rfl ?_ ?_|refine x_passNow (wants_not rfl rfl rfl) rfl ?_ ?_);(focus(first|exact St.refl _|assumption)))|((first|apply x_s|apply x_n);(focus(first|(constructor<;>first|rfl|omega)|(apply Ri.add3<;>first|rfl|omega)|(apply Ri.sub3<;>first|rfl|omega)|(apply Ri.eqb<;>rfl)|(apply Ri.neb<;>rfl)|(apply Ri.pT;(focus rfl);(focus(first|rfl|assumption|(simp;done)|(simp;omega)));(focus rfl))|(apply Ri.pF;(focus rfl);(focus(first|rfl|assumption|(simp;done)|(simp;omega)));(focus rfl))));(focus(first|exact wants_none rfl|exact wants_yes rfl rfl rfl (by first|rfl|assumption|(simp;done)|(simp;omega))));(focus rfl);(focus(first|exact St.refl _|assumption)))))
      refine k_no rfl (by simp [heq]) ?_
      repeat(first|refine o_nil ?_|(refine o_pass (wants_no rfl rfl rfl ?_) rfl ?_;(focus(first|rfl|assumption|(simp;done)|(simp;omega))))|refine o_pass (wants_not rfl rfl rfl) rfl ?_|(refine o_yes (wants_yes rfl rfl rfl ?_) ?_;(focus(first|rfl|assumption|(simp;done)|(simp;omega))))|refine k_region ?_|(apply k_go;(focus(constructor<;>rfl)))|refine d_nil ?_|(apply o_s;(focus(first|(constructor<;>first|rfl|omega)|(apply Ri.add3<;>first|rfl|omega)|(apply Ri.sub3<;>first|rfl|omega)|(apply Ri.eqb<;>rfl)|(apply Ri.neb<;>rfl)|(apply Ri.pT;(focus rfl);(focus(first|rfl|assumption|(simp;done)|(simp;omega)));(focus rfl))|(apply Ri.pF;(focus rfl);(focus(first|rfl|assumption|(simp;done)|(simp;omega)));(focus rfl))));(focus rfl)))
      refine o_still (r_index rfl rfl rfl (by omega) (by omega)) (wants_none rfl) rfl ?_
      refine o_unit (u_set (d := kRune) (j := i) (q := 7) rfl rfl hOr hlt' ⟨rfl, by decide, by decide⟩ rfl) (wants_none rfl) rfl ?_
      rintro w5 ⟨hk5, hO5⟩
      repeat(first|refine o_nil ?_|(refine o_pass (wants_no rfl rfl rfl ?_) rfl ?_;(focus(first|rfl|assumption|(simp;done)|(simp;omega))))|refine o_pass (wants_not rfl rfl rfl) rfl ?_|(refine o_yes (wants_yes rfl rfl rfl ?_) ?_;(focus(first|rfl|assumption|(simp;done)|(simp;omega))))|refine k_region ?_|(apply k_go;(focus(constructor<;>rfl)))|refine d_nil ?_|(apply o_s;(focus(first|(constructor<;>first|rfl|omega)|(apply Ri.add3<;>first|rfl|omega)|(apply Ri.sub3<;>first|rfl|omega)|(apply Ri.eqb<;>rfl)|(apply Ri.neb<;>rfl)|(apply Ri.pT;(focus rfl);(focus(first|rfl|assumption|(simp;done)|(simp;omega)));(focus rfl))|(apply Ri.pF;(focus rfl);(focus(first|rfl|assumption|(simp;done)|(simp;omega)));(focus rfl))));(focus rfl)))
      exact ih (i + 1) w5 ⟨by omega, Kp.then hkr hk5 (fun _ h => h) (fun k hk he => by subst he; exact (hOr.block _ (by simp [Value.ownBlock])).1), ys.set i 7, by simpa using hys, by
        rw [drop_set]
        have e1 := List.drop_eq_getElem_cons hlt'
        have e2 := List.drop_eq_getElem_cons hlt2
        rw [hdr, e2] at e1
        exact (List.cons.inj e1).2.symm, hO5⟩ (by omega) _ (by repeat (first | exact SubB.nil | refine SubB.cons rfl ?_))
    · repeat(first|refine o_nil ?_|(refine o_pass (wants_no rfl rfl rfl ?_) rfl ?_;(focus(first|rfl|assumption|(simp;done)|(simp;omega))))|refine o_pass (wants_not rfl rfl rfl) rfl ?_|(refine o_yes (wants_yes rfl rfl rfl ?_) ?_;(focus(first|rfl|assumption|(simp;done)|(simp;omega))))|refine k_region ?_|(apply k_go;(focus(constructor<;>rfl)))|refine d_nil ?_|(apply o_s;(focus(first|(constructor<;>first|rfl|omega)|(apply Ri.add3<;>first|rfl|omega)|(apply Ri.sub3<;>first|rfl|omega)|(apply Ri.eqb<;>rfl)|(apply Ri.neb<;>rfl)|(apply Ri.pT;(focus rfl);(focus(first|rfl|assumption|(simp;done)|(simp;omega)));(focus rfl))|(apply Ri.pF;(focus rfl);(focus(first|rfl|assumption|(simp;done)|(simp;omega)));(focus rfl))));(focus rfl)))
      exact k_ret1 rfl rfl ⟨⟨_, rfl, fun _ => by simp⟩, Kp.then (knW.trans (show Kn w1 w3 from hk2'.trans hk3').kp) hkr (fun _ h => h) (fun k _ hk => by omega), _, _, _, ⟨D, E, Duo.kp hd3 hkr fun k hk hkm => hk.elim (fun h => by have := hDw k h; omega) fun h => by have := hEw k h; omega, fun k _ h => h⟩, by omega, by omega, fun _ => ⟨rfl, rfl⟩, fun _ _ => rfl⟩
  refine k_no rfl c2 ?_
  repeat(first|refine o_nil ?_|(refine o_pass (wants_no rfl rfl rfl ?_) rfl ?_;(focus(first|rfl|assumption|(simp;done)|(simp;omega))))|refine o_pass (wants_not rfl rfl rfl) rfl ?_|(refine o_yes (wants_yes rfl rfl rfl ?_) ?_;(focus(first|rfl|assumption|(simp;done)|(simp;omega))))|refine k_region ?_|(apply k_go;(focus(constructor<;>rfl)))|refine d_nil ?_|(apply o_s;(focus(first|(constructor<;>first|rfl|omega)|(apply Ri.add3<;>first|rfl|omega)|(apply Ri.sub3<;>first|rfl|omega)|(apply Ri.eqb<;>rfl)|(apply Ri.neb<;>rfl)|(apply Ri.pT;(focus rfl);(focus(first|rfl|assumption|(simp;done)|(simp;omega)));(focus rfl))|(apply Ri.pF;(focus rfl);(focus(first|rfl|assumption|(simp;done)|(simp;omega)));(focus rfl))));(focus rfl)))
  by_cases c3 : d.kind = 3
  · refine k_yes rfl c3 ?_
    have hrel := fun hb => rel_save (hd.rel hb) hok.2.2
    repeat(first|refine o_nil ?_|(refine o_pass (wants_no rfl rfl rfl ?_) rfl ?_;(focus(first|rfl|assumption|(simp;done)|(simp;omega))))|refine o_pass (wants_not rfl rfl rfl) rfl ?_|(refine o_yes (wants_yes rfl rfl rfl ?_) ?_;(focus(first|rfl|assumption|(simp;done)|(simp;omega))))|refine k_region ?_|(apply k_go;(focus(constructor<;>rfl)))|refine d_nil ?_|(apply o_s;(focus(first|(constructor<;>first|rfl|omega)|(apply Ri.add3<;>first|rfl|omega)|(apply Ri.sub3<;>first|rfl|omega)|(apply Ri.eqb<;>rfl)|(apply Ri.neb<;>rfl)|(apply Ri.pT;(focus rfl);(focus(first|rfl|assumption|(simp;done)|(simp;omega)));(focus rfl))|(apply Ri.pF;(focus rfl);(focus(first|rfl|assumption|(simp;done)|(simp;omega)));(focus rfl))));(focus rfl)))
    refine o_enter (n_call rfl) (wants_none rfl) rfl ((save_calls hd1.t (by omega)).mono ?_)
    rintro _ w4 ⟨hk4, hT4, rfl⟩
    repeat(first|refine o_nil ?_|(refine o_pass (wants_no rfl rfl rfl ?_) rfl ?_;(focus(first|rfl|assumption|(simp;done)|(simp;omega))))|refine o_pass (wants_not rfl rfl rfl) rfl ?_|(refine o_yes (wants_yes rfl rfl rfl ?_) ?_;(focus(first|rfl|assumption|(simp;done)|(simp;omega))))|refine k_region ?_|(apply k_go;(focus(constructor<;>rfl)))|refine d_nil ?_|(apply o_s;(focus(first|(constructor<;>first|rfl|omega)|(apply Ri.add3<;>first|rfl|omega)|(apply Ri.sub3<;>first|rfl|omega)|(apply Ri.eqb<;>rfl)|(apply Ri.neb<;>rfl)|(apply Ri.pT;(focus rfl);(focus(first|rfl|assumption|(simp;done)|(simp;omega)));(focus rfl))|(apply Ri.pF;(focus rfl);(focus(first|rfl|assumption|(simp;done)|(simp;omega)));(focus rfl))));(focus rfl)))
    refine o_enter (n_call rfl) (wants_none rfl) rfl ((refsave_calls (hd1.r.kp hk4 fun k hk hkd => hd.de k hkd hk) (by omega)).mono ?_)
    rintro _ w6 ⟨hk6, hR6, rfl⟩
    obtain ⟨q1, q2⟩ := hd1.both (x := .int .i64 0) (u := .int .i64 0) (y := .int .i64 0) (v := .int .i64 0) hW1 ⟨hk4, hT4, rfl⟩ ⟨hk6, hR6, rfl⟩ (fun hb => (hrel hb).1)
    repeat(first|refine o_nil ?_|(refine o_pass (wants_no rfl rfl rfl ?_) rfl ?_;(focus(first|rfl|assumption|(simp;done)|(simp;omega))))|refine o_pass (wants_not rfl rfl rfl) rfl ?_|(refine o_yes (wants_yes rfl rfl rfl ?_) ?_;(focus(first|rfl|assumption|(simp;done)|(simp;omega))))|refine k_region ?_|(apply k_go;(focus(constructor<;>rfl)))|refine d_nil ?_|(apply o_s;(focus(first|(constructor<;>first|rfl|omega)|(apply Ri.add3<;>first|rfl|omega)|(apply Ri.sub3<;>first|rfl|omega)|(apply Ri.eqb<;>rfl)|(apply Ri.neb<;>rfl)|(apply Ri.pT;(focus rfl);(focus(first|rfl|assumption|(simp;done)|(simp;omega)));(focus rfl))|(apply Ri.pF;(focus rfl);(focus(first|rfl|assumption|(simp;done)|(simp;omega)));(focus rfl))));(focus rfl)))
    exact k_ret1 rfl rfl ⟨⟨_, rfl, fun hb => by rw [(hrel hb).2]; simp⟩, knW.trans q1, _, _, _, q2n q2, by show T.store.length ≤ _; omega, by simp [saveM], fun h => absurd c3 h, fun r _ => rfl⟩
  · refine k_no rfl c3 ?_
    obtain ⟨hsz, hsa⟩ := back_keeps (T := T) (id := d.n)
    have hrel := fun hb => rel_back (id := d.n) (hd.rel hb)
    repeat(first|refine o_nil ?_|(refine o_pass (wants_no rfl rfl rfl ?_) rfl ?_;(focus(first|rfl|assumption|(simp;done)|(simp;omega))))|refine o_pass (wants_not rfl rfl rfl) rfl ?_|(refine o_yes (wants_yes rfl rfl rfl ?_) ?_;(focus(first|rfl|assumption|(simp;done)|(simp;omega))))|refine k_region ?_|(apply k_go;(focus(constructor<;>rfl)))|refine d_nil ?_|(apply o_s;(focus(first|(constructor<;>first|rfl|omega)|(apply Ri.add3<;>first|rfl|omega)|(apply Ri.sub3<;>first|rfl|omega)|(apply Ri.eqb<;>rfl)|(apply Ri.neb<;>rfl)|(apply Ri.pT;(focus rfl);(focus(first|rfl|assumption|(simp;done)|(simp;omega)));(focus rfl))|(apply Ri.pF;(focus rfl);(focus(first|rfl|assumption|(simp;done)|(simp;omega)));(focus rfl))));(focus rfl)))
    refine k_drawQ (fun k => D k ∨ E k) [(0, 0), (1, 0), (2, 0), (4, 0), (5, 0), (6, 0), (3, 1), (7, 1), (8, 0), (9, 0)] (by kernel_rfl) (by kernel_rfl) rfl (by kernel_rfl) ?_
    repeat(first|refine q_nil ?_|(refine q_open rfl ?_;first|((first|refine q_pass (wants_no rfl rfl rfl ?_) rfl ?_ ?_|refine q_passNow (wants_no rfl rfl rfl ?_) rfl ?_ ?_);(focus(first|rfl|assumption|(simp;done)|(simp;omega)));(focus(first|exact StQ.refl _ _|assumption)))|((first|refine q_pass (wants_not rfl rfl rfl) rfl ?_ ?_|refine q_passNow (wants_not rfl rfl rfl) rfl ?_ ?_);(focus(first|exact StQ.refl _ _|assumption)))|((first|apply q_s|apply q_n);(focus(first|(constructor<;>first|rfl|omega)|(apply Ri.add3<;>first|rfl|omega)|(apply Ri.sub3<;>first|rfl|omega)|(apply Ri.eqb<;>rfl)|(apply Ri.neb<;>rfl)|(apply Ri.pT;(focus rfl);(focus(first|rfl|assumption|(simp;done)|(simp;omega)));(focus rfl))|(apply Ri.pF;(focus rfl);(focus(first|rfl|assumption|(simp;done)|(simp;omega)));(focus rfl))));(focus(first|exact wants_none rfl|exact wants_yes rfl rfl rfl (by first|rfl|assumption|(simp;done)|(simp;omega))));(focus rfl);(focus(first|exact StQ.refl _ _|assumption)))))
    refine q_open rfl ?_; refine q_still (fun _ hq => r_load rfl (hq.cell f2 nbQ)) (wants_none rfl) rfl (by first | exact StQ.refl _ _ | assumption) ?_
    repeat(first|refine q_nil ?_|(refine q_open rfl ?_;first|((first|refine q_pass (wants_no rfl rfl rfl ?_) rfl ?_ ?_|refine q_passNow (wants_no rfl rfl rfl ?_) rfl ?_ ?_);(focus(first|rfl|assumption|(simp;done)|(simp;omega)));(focus(first|exact StQ.refl _ _|assumption)))|((first|refine q_pass (wants_not rfl rfl rfl) rfl ?_ ?_|refine q_passNow (wants_not rfl rfl rfl) rfl ?_ ?_);(focus(first|exact StQ.refl _ _|assumption)))|((first|apply q_s|apply q_n);(focus(first|(constructor<;>first|rfl|omega)|(apply Ri.add3<;>first|rfl|omega)|(apply Ri.sub3<;>first|rfl|omega)|(apply Ri.eqb<;>rfl)|(apply Ri.neb<;>rfl)|(apply Ri.pT;(focus rfl);(focus(first|rfl|assumption|(simp;done)|(simp;omega)));(focus rfl))|(apply Ri.pF;(focus rfl);(focus(first|rfl|assumption|(simp;done)|(simp;omega)));(focus rfl))));(focus(first|exact wants_none rfl|exact wants_yes rfl rfl rfl (by first|rfl|assumption|(simp;done)|(simp;omega))));(focus rfl);(focus(first|exact StQ.refl _ _|assumption)))))
    refine q_open rfl ?_; refine q_still (fun _ hq => r_load rfl (hq.cell f2 nbQ)) (wants_none rfl) rfl (by first | exact StQ.refl _ _ | assumption) ?_
    refine q_open rfl ?_; refine q_enter (n_call rfl) (wants_none rfl) rfl ((back_calls hd1.t hk3 hsT).mono ?_)
    rintro _ w4 ⟨hk4, hT4, rfl⟩
    have hs4 : StQ (fun k => D k ∨ E k) w1 w4 := hk4.stq fun k _ hk => .inl hk
    refine .inl ⟨hs4, ?_⟩
    refine q_open rfl ?_; refine q_enter (n_call rfl) (wants_none rfl) rfl ((refback_calls (id := d.n) (hd1.r.kp hk4 fun k hk hkd => hd.de k hkd hk) hk3).mono ?_)
    rintro _ w6 ⟨hk6, hR6, rfl⟩
    have hs6 : StQ (fun k => D k ∨ E k) w1 w6 := (Kp.then (T := fun k => D k ∨ E k) hk4 hk6 (fun _ h => .inl h) (fun _ _ h => .inr h)).stq fun _ _ h => h
    refine .inl ⟨hs6, ?_⟩
    obtain ⟨q1, q2⟩ := hd1.both (x := .int .i64 0) (u := .int .i64 0) (y := .int .i64 0) (v := .int .i64 0) hW1 ⟨hk4, hT4, rfl⟩ ⟨hk6, hR6, rfl⟩ (fun hb => (hrel hb).1)
    repeat(first|refine q_nil ?_|(refine q_open rfl ?_;first|((first|refine q_pass (wants_no rfl rfl rfl ?_) rfl ?_ ?_|refine q_passNow (wants_no rfl rfl rfl ?_) rfl ?_ ?_);(focus(first|rfl|assumption|(simp;done)|(simp;omega)));(focus(first|exact StQ.refl _ _|assumption)))|((first|refine q_pass (wants_not rfl rfl rfl) rfl ?_ ?_|refine q_passNow (wants_not rfl rfl rfl) rfl ?_ ?_);(focus(first|exact StQ.refl _ _|assumption)))|((first|apply q_s|apply q_n);(focus(first|(constructor<;>first|rfl|omega)|(apply Ri.add3<;>first|rfl|omega)|(apply Ri.sub3<;>first|rfl|omega)|(apply Ri.eqb<;>rfl)|(apply Ri.neb<;>rfl)|(apply Ri.pT;(focus rfl);(focus(first|rfl|assumption|(simp;done)|(simp;omega)));(focus rfl))|(apply Ri.pF;(focus rfl);(focus(first|rfl|assumption|(simp;done)|(simp;omega)));(focus rfl))));(focus(first|exact wants_none rfl|exact wants_yes rfl rfl rfl (by first|rfl|assumption|(simp;done)|(simp;omega))));(focus rfl);(focus(first|exact StQ.refl _ _|assumption)))))
    repeat(first|refine o_nil ?_|(refine o_pass (wants_no rfl rfl rfl ?_) rfl ?_;(focus(first|rfl|assumption|(simp;done)|(simp;omega))))|refine o_pass (wants_not rfl rfl rfl) rfl ?_|(refine o_yes (wants_yes rfl rfl rfl ?_) ?_;(focus(first|rfl|assumption|(simp;done)|(simp;omega))))|refine k_region ?_|(apply k_go;(focus(constructor<;>rfl)))|refine d_nil ?_|(apply o_s;(focus(first|(constructor<;>first|rfl|omega)|(apply Ri.add3<;>first|rfl|omega)|(apply Ri.sub3<;>first|rfl|omega)|(apply Ri.eqb<;>rfl)|(apply Ri.neb<;>rfl)|(apply Ri.pT;(focus rfl);(focus(first|rfl|assumption|(simp;done)|(simp;omega)));(focus rfl))|(apply Ri.pF;(focus rfl);(focus(first|rfl|assumption|(simp;done)|(simp;omega)));(focus rfl))));(focus rfl)))
    exact k_ret1 rfl rfl ⟨⟨_, rfl, fun hb => by rw [(hrel hb).2.1]; simp⟩, knW.trans q1, _, _, _, q2n q2, by rw [hsz]; omega, by rw [hsa]; omega, fun _ => ⟨hsa, rfl⟩, fun r _ => by rw [hsz]⟩
end
end Go.Ink
