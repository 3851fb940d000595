/-
  PieceKeeps.
-/
import Derived.Test.YteleidcghoddjaaL2
set_option linter.unusedVariables false
set_option linter.unusedSimpArgs false
namespace Go.Ink
open Go Go.Proofs

theorem kp_step {a b c i : Nat} (h1 : a ≤ b + 2000) (h2 : b ≤ c + 2000 * i) : a ≤ c + 2000 * (i + 1) := by
  generalize 2000 = q at *
  rw [Nat.mul_add]
  omega
theorem kp_skip {b c i : Nat} (h2 : b ≤ c + 2000 * i) : b ≤ c + 2000 * (i + 1) := kp_step (Nat.le_trans (Nat.le_refl _) (Nat.le_add_right _ _)) h2
theorem kp_big {a c k i : Nat} (h1 : a ≤ c + 60000 * k + 2000 * i) (hi : i ≤ 30) : a ≤ c + 60000 * (k + 1) := by
  have h2 : 2000 * i ≤ 2000 * 30 := Nat.mul_le_mul_left _ hi
  rw [Nat.mul_add]
  generalize 2000 * i = q at *
  generalize 60000 * k = r at *
  omega
structure K2St where
  k : Nat
  T : Tab
  L : List Int
section
variable {b : Bool} {W w w' : World} {D E : Nat → Prop} {g h : Nat} {T T' : Tab} {L L' : List Int} {S : List (List Int)} {x u : Value}
theorem DuoP.weak (hd : DuoP b W D E g h w T L S) : DuoP false W D E g h w T L S := ⟨hd.dd, hd.ee, hd.de, hd.t, hd.r, fun h => by cases h⟩
/-- Behind a call on the table alone. -/
theorem DuoP.tabn (hd : DuoP false W D E g h w T L S) (hW : W.heap.size ≤ w.heap.size) (hq : TabQ D g w T' x u w') : DuoN false W D E w g h w' T' L S :=
  ⟨_, _, hd.tab hW hq (fun h => by cases h), fun k hk hk' => hk'.elim (fun h => .inl (h.1.elim id fun h => by omega)) .inr⟩
end
set_option maxHeartbeats 8000000 in
theorem law_PieceKeeps {W : World} {u v v2 : Value} {xs : List Int} {ds ds2 : List Deed} (h : Sl kRune (fun _ => True) W u xs) (h' : Sl kDeed (fun _ => True) W v ds) (h2' : Sl kDeed (fun _ => True) W v2 ds2) :
    CallsR Try.prog 5 #[u, v, v2] W fun r w' => r = .bool true ∧ Kn W w' := by
  obtain ⟨A, c, rfl, hc, hl⟩ := h.form
  obtain ⟨B, c', rfl, hc', hl'⟩ := h'.form
  obtain ⟨B2, c2', rfl, hc2', hl2'⟩ := h2'.form
  have hlen := hl.len
  have hlen' := hl'.len
  have hlen2' := hl2'.len
  have h0 := h.old
  have h0' := h'.old
  have h02' := h2'.old
  refine calls_enter Try.func5 rfl rfl ?_
  repeat(first|refine o_nil ?_|(refine o_pass (wants_no rfl rfl rfl ?_) rfl ?_;(focus(first|rfl|assumption|(simp;done)|(simp;omega))))|refine o_pass (wants_not rfl rfl rfl) rfl ?_|(refine o_yes (wants_yes rfl rfl rfl ?_) ?_;(focus(first|rfl|assumption|(simp;done)|(simp;omega))))|refine k_region ?_|(apply k_go;(focus(constructor<;>rfl)))|refine d_nil ?_|(apply o_s;(focus(first|(constructor<;>first|rfl|omega)|(apply Ri.add3<;>first|rfl|omega)|(apply Ri.sub3<;>first|rfl|omega)|(apply Ri.eqb<;>rfl)|(apply Ri.neb<;>rfl)|(apply Ri.pT;(focus rfl);(focus(first|rfl|assumption|(simp;done)|(simp;omega)));(focus rfl))|(apply Ri.pF;(focus rfl);(focus(first|rfl|assumption|(simp;done)|(simp;omega)));(focus rfl))));(focus rfl)))
  refine k_ite rfl (fun hbig => ?_) (fun hsm => ?_)
  · repeat(first|refine o_nil ?_|(refine o_pass (wants_no rfl rfl rfl ?_) rfl ?_;(focus(first|rfl|assumption|(simp;done)|(simp;omega))))|refine o_pass (wants_not rfl rfl rfl) rfl ?_|(refine o_yes (wants_yes rfl rfl rfl ?_) ?_;(focus(first|rfl|assumption|(simp;done)|(simp;omega))))|refine k_region ?_|(apply k_go;(focus(constructor<;>rfl)))|refine d_nil ?_|(apply o_s;(focus(first|(constructor<;>first|rfl|omega)|(apply Ri.add3<;>first|rfl|omega)|(apply Ri.sub3<;>first|rfl|omega)|(apply Ri.eqb<;>rfl)|(apply Ri.neb<;>rfl)|(apply Ri.pT;(focus rfl);(focus(first|rfl|assumption|(simp;done)|(simp;omega)));(focus rfl))|(apply Ri.pF;(focus rfl);(focus(first|rfl|assumption|(simp;done)|(simp;omega)));(focus rfl))));(focus rfl)))
    exact k_ret1 rfl rfl ⟨rfl, Kp.refl _ _⟩
  repeat(first|refine o_nil ?_|(refine o_pass (wants_no rfl rfl rfl ?_) rfl ?_;(focus(first|rfl|assumption|(simp;done)|(simp;omega))))|refine o_pass (wants_not rfl rfl rfl) rfl ?_|(refine o_yes (wants_yes rfl rfl rfl ?_) ?_;(focus(first|rfl|assumption|(simp;done)|(simp;omega))))|refine k_region ?_|(apply k_go;(focus(constructor<;>rfl)))|refine d_nil ?_|(apply o_s;(focus(first|(constructor<;>first|rfl|omega)|(apply Ri.add3<;>first|rfl|omega)|(apply Ri.sub3<;>first|rfl|omega)|(apply Ri.eqb<;>rfl)|(apply Ri.neb<;>rfl)|(apply Ri.pT;(focus rfl);(focus(first|rfl|assumption|(simp;done)|(simp;omega)));(focus rfl))|(apply Ri.pF;(focus rfl);(focus(first|rfl|assumption|(simp;done)|(simp;omega)));(focus rfl))));(focus rfl)))
  refine o_enter (n_call rfl) (wants_none rfl) rfl ((new_calls h0 (by omega)).mono ?_)
  rintro _ w3 ⟨k3, g, rfl, hT3⟩
  have z3 := k3.size
  repeat(first|refine o_nil ?_|(refine o_pass (wants_no rfl rfl rfl ?_) rfl ?_;(focus(first|rfl|assumption|(simp;done)|(simp;omega))))|refine o_pass (wants_not rfl rfl rfl) rfl ?_|(refine o_yes (wants_yes rfl rfl rfl ?_) ?_;(focus(first|rfl|assumption|(simp;done)|(simp;omega))))|refine k_region ?_|(apply k_go;(focus(constructor<;>rfl)))|refine d_nil ?_|(apply o_s;(focus(first|(constructor<;>first|rfl|omega)|(apply Ri.add3<;>first|rfl|omega)|(apply Ri.sub3<;>first|rfl|omega)|(apply Ri.eqb<;>rfl)|(apply Ri.neb<;>rfl)|(apply Ri.pT;(focus rfl);(focus(first|rfl|assumption|(simp;done)|(simp;omega)));(focus rfl))|(apply Ri.pF;(focus rfl);(focus(first|rfl|assumption|(simp;done)|(simp;omega)));(focus rfl))));(focus rfl)))
  refine o_enter (n_call rfl) (wants_none rfl) rfl ((refnew_calls (k3.sl h0) (by omega)).mono ?_)
  rintro _ w4 ⟨k4, gh, rfl, hR4⟩
  have z4 := k4.size
  have hd4 : DuoP true W (fun k => W.heap.size ≤ k ∧ k < w3.heap.size) (fun k => w3.heap.size ≤ k ∧ k < w4.heap.size) g gh w4 (newM xs) xs [] :=
    ⟨fun k hk => by omega, fun k hk => by omega, fun k hk hk' => by omega, (hT3.mono fun k hk hl => ⟨hk, hl⟩).kn k4, hR4.mono fun k hk hl => ⟨hk, hl⟩, fun _ => rel_new xs⟩
  have kn4 : Kn W w4 := k3.trans k4
  repeat(first|refine o_nil ?_|(refine o_pass (wants_no rfl rfl rfl ?_) rfl ?_;(focus(first|rfl|assumption|(simp;done)|(simp;omega))))|refine o_pass (wants_not rfl rfl rfl) rfl ?_|(refine o_yes (wants_yes rfl rfl rfl ?_) ?_;(focus(first|rfl|assumption|(simp;done)|(simp;omega))))|refine k_region ?_|(apply k_go;(focus(constructor<;>rfl)))|refine d_nil ?_|(apply o_s;(focus(first|(constructor<;>first|rfl|omega)|(apply Ri.add3<;>first|rfl|omega)|(apply Ri.sub3<;>first|rfl|omega)|(apply Ri.eqb<;>rfl)|(apply Ri.neb<;>rfl)|(apply Ri.pT;(focus rfl);(focus(first|rfl|assumption|(simp;done)|(simp;omega)));(focus rfl))|(apply Ri.pF;(focus rfl);(focus(first|rfl|assumption|(simp;done)|(simp;omega)));(focus rfl))));(focus rfl)))
  refine k_false rfl ?_
  repeat(first|refine o_nil ?_|(refine o_pass (wants_no rfl rfl rfl ?_) rfl ?_;(focus(first|rfl|assumption|(simp;done)|(simp;omega))))|refine o_pass (wants_not rfl rfl rfl) rfl ?_|(refine o_yes (wants_yes rfl rfl rfl ?_) ?_;(focus(first|rfl|assumption|(simp;done)|(simp;omega))))|refine k_region ?_|(apply k_go;(focus(constructor<;>rfl)))|refine d_nil ?_|(apply o_s;(focus(first|(constructor<;>first|rfl|omega)|(apply Ri.add3<;>first|rfl|omega)|(apply Ri.sub3<;>first|rfl|omega)|(apply Ri.eqb<;>rfl)|(apply Ri.neb<;>rfl)|(apply Ri.pT;(focus rfl);(focus(first|rfl|assumption|(simp;done)|(simp;omega)));(focus rfl))|(apply Ri.pF;(focus rfl);(focus(first|rfl|assumption|(simp;done)|(simp;omega)));(focus rfl))));(focus rfl)))
  refine k_while (S := PlSt) (fun s => 30 - s.i) (fun s => [(1, .slice B ds.length c'), (2, .slice B2 ds2.length c2'), (7, .pointer (some ⟨g, 0, none⟩)), (8, .pointer (some ⟨gh, 0, none⟩)), (9, .int .i64 s.i)])
    (fun s wr => s.i ≤ ds.length ∧ s.i ≤ 30 ∧ Kn W wr ∧ Duo true W g gh wr s.T s.L [] ∧ s.T.store.length ≤ 2000 + 2000 * s.i ∧ s.T.saved = [])
    ⟨0, newM xs, xs, []⟩ (by repeat (first | exact SubB.nil | refine SubB.cons rfl ?_)) ⟨Nat.zero_le _, by show 0 ≤ 30; decide, kn4, ⟨_, _, hd4⟩, by show xs.length ≤ 2000 + 2000 * 0; omega, rfl⟩ ?_
  rintro ⟨i, T, L, S⟩ wr ⟨hi, hi60, hkn, ⟨D, E, hd⟩, hst, hsv⟩ ih
  simp only at hi hi60 hkn hd hst hsv ih ⊢
  have zr := hkn.size
  by_cases hend : i < ds.length ∧ i < 30
  case pos =>
    obtain ⟨hlt, hlt60⟩ := hend
    obtain ⟨ad, cs, rfl, hR, hcell⟩ := h0'.at_ (List.getElem?_eq_getElem hlt)
    obtain ⟨vl, rfl, hvl, hk1, hk2, hk3⟩ := deed_cells hR
    generalize hdd : ds[i] = d at *
    obtain ⟨Al, cl, rfl, _⟩ := hvl.form
    have g0 : wr.cell? (ad.add (i * 4 + 0)) = some (.int .i64 d.kind) := hkn.cell (hcell 0 _ rfl) id
    have g3 : wr.cell? (ad.add (i * 4 + 3)) = some (.slice Al d.l.length cl) := hkn.cell (hcell 3 _ rfl) id
    have next : ∀ σ', SubB σ' [(1, .slice (some ad) ds.length c'), (2, .slice B2 ds2.length c2'), (7, .pointer (some ⟨g, 0, none⟩)), (8, .pointer (some ⟨gh, 0, none⟩)), (9, .int .i64 ((i : Int) + 1))] → WK Try.prog Try.f5 [.inLoop (bodyC Try.f5 [1, 1, 1, 1, 0, 1, 0, 0]), .inBlock 0, .code (bodyC Try.f5 [1, 1, 1, 1, 1])] σ' wr fun r w' => r = .bool true ∧ Kn W w' :=
      fun σ' hs => ih ⟨i + 1, T, L, S⟩ wr ⟨by show i + 1 ≤ _; omega, by show i + 1 ≤ 30; omega, hkn, ⟨D, E, hd⟩, kp_skip hst, hsv⟩ (by show 30 - (i + 1) < 30 - i; omega) σ' hs
    repeat(first|refine o_nil ?_|(refine o_pass (wants_no rfl rfl rfl ?_) rfl ?_;(focus(first|rfl|assumption|(simp;done)|(simp;omega))))|refine o_pass (wants_not rfl rfl rfl) rfl ?_|(refine o_yes (wants_yes rfl rfl rfl ?_) ?_;(focus(first|rfl|assumption|(simp;done)|(simp;omega))))|refine k_region ?_|(apply k_go;(focus(constructor<;>rfl)))|refine d_nil ?_|(apply o_s;(focus(first|(constructor<;>first|rfl|omega)|(apply Ri.add3<;>first|rfl|omega)|(apply Ri.sub3<;>first|rfl|omega)|(apply Ri.eqb<;>rfl)|(apply Ri.neb<;>rfl)|(apply Ri.pT;(focus rfl);(focus(first|rfl|assumption|(simp;done)|(simp;omega)));(focus rfl))|(apply Ri.pF;(focus rfl);(focus(first|rfl|assumption|(simp;done)|(simp;omega)));(focus rfl))));(focus rfl)))
    refine k_yes rfl (by omega) ?_
    repeat(first|refine o_nil ?_|(refine o_pass (wants_no rfl rfl rfl ?_) rfl ?_;(focus(first|rfl|assumption|(simp;done)|(simp;omega))))|refine o_pass (wants_not rfl rfl rfl) rfl ?_|(refine o_yes (wants_yes rfl rfl rfl ?_) ?_;(focus(first|rfl|assumption|(simp;done)|(simp;omega))))|refine k_region ?_|(apply k_go;(focus(constructor<;>rfl)))|refine d_nil ?_|(apply o_s;(focus(first|(constructor<;>first|rfl|omega)|(apply Ri.add3<;>first|rfl|omega)|(apply Ri.sub3<;>first|rfl|omega)|(apply Ri.eqb<;>rfl)|(apply Ri.neb<;>rfl)|(apply Ri.pT;(focus rfl);(focus(first|rfl|assumption|(simp;done)|(simp;omega)));(focus rfl))|(apply Ri.pF;(focus rfl);(focus(first|rfl|assumption|(simp;done)|(simp;omega)));(focus rfl))));(focus rfl)))
    refine o_still (r_index rfl rfl rfl (by omega) (by omega)) (wants_none rfl) rfl ?_
    repeat(first|refine o_nil ?_|(refine o_pass (wants_no rfl rfl rfl ?_) rfl ?_;(focus(first|rfl|assumption|(simp;done)|(simp;omega))))|refine o_pass (wants_not rfl rfl rfl) rfl ?_|(refine o_yes (wants_yes rfl rfl rfl ?_) ?_;(focus(first|rfl|assumption|(simp;done)|(simp;omega))))|refine k_region ?_|(apply k_go;(focus(constructor<;>rfl)))|refine d_nil ?_|(apply o_s;(focus(first|(constructor<;>first|rfl|omega)|(apply Ri.add3<;>first|rfl|omega)|(apply Ri.sub3<;>first|rfl|omega)|(apply Ri.eqb<;>rfl)|(apply Ri.neb<;>rfl)|(apply Ri.pT;(focus rfl);(focus(first|rfl|assumption|(simp;done)|(simp;omega)));(focus rfl))|(apply Ri.pF;(focus rfl);(focus(first|rfl|assumption|(simp;done)|(simp;omega)));(focus rfl))));(focus rfl)))
    refine o_still (r_load rfl (by rw [add_add]; exact g0)) (wants_none rfl) rfl ?_
    by_cases hkd : d.kind < 2
    case neg =>
      repeat(first|refine o_nil ?_|(refine o_pass (wants_no rfl rfl rfl ?_) rfl ?_;(focus(first|rfl|assumption|(simp;done)|(simp;omega))))|refine o_pass (wants_not rfl rfl rfl) rfl ?_|(refine o_yes (wants_yes rfl rfl rfl ?_) ?_;(focus(first|rfl|assumption|(simp;done)|(simp;omega))))|refine k_region ?_|(apply k_go;(focus(constructor<;>rfl)))|refine d_nil ?_|(apply o_s;(focus(first|(constructor<;>first|rfl|omega)|(apply Ri.add3<;>first|rfl|omega)|(apply Ri.sub3<;>first|rfl|omega)|(apply Ri.eqb<;>rfl)|(apply Ri.neb<;>rfl)|(apply Ri.pT;(focus rfl);(focus(first|rfl|assumption|(simp;done)|(simp;omega)));(focus rfl))|(apply Ri.pF;(focus rfl);(focus(first|rfl|assumption|(simp;done)|(simp;omega)));(focus rfl))));(focus rfl)))
      refine k_false rfl ?_
      repeat(first|refine o_nil ?_|(refine o_pass (wants_no rfl rfl rfl ?_) rfl ?_;(focus(first|rfl|assumption|(simp;done)|(simp;omega))))|refine o_pass (wants_not rfl rfl rfl) rfl ?_|(refine o_yes (wants_yes rfl rfl rfl ?_) ?_;(focus(first|rfl|assumption|(simp;done)|(simp;omega))))|refine k_region ?_|(apply k_go;(focus(constructor<;>rfl)))|refine d_nil ?_|(apply o_s;(focus(first|(constructor<;>first|rfl|omega)|(apply Ri.add3<;>first|rfl|omega)|(apply Ri.sub3<;>first|rfl|omega)|(apply Ri.eqb<;>rfl)|(apply Ri.neb<;>rfl)|(apply Ri.pT;(focus rfl);(focus(first|rfl|assumption|(simp;done)|(simp;omega)));(focus rfl))|(apply Ri.pF;(focus rfl);(focus(first|rfl|assumption|(simp;done)|(simp;omega)));(focus rfl))));(focus rfl)))
      exact next _ (by repeat (first | exact SubB.nil | refine SubB.cons rfl ?_))
    repeat(first|refine o_nil ?_|(refine o_pass (wants_no rfl rfl rfl ?_) rfl ?_;(focus(first|rfl|assumption|(simp;done)|(simp;omega))))|refine o_pass (wants_not rfl rfl rfl) rfl ?_|(refine o_yes (wants_yes rfl rfl rfl ?_) ?_;(focus(first|rfl|assumption|(simp;done)|(simp;omega))))|refine k_region ?_|(apply k_go;(focus(constructor<;>rfl)))|refine d_nil ?_|(apply o_s;(focus(first|(constructor<;>first|rfl|omega)|(apply Ri.add3<;>first|rfl|omega)|(apply Ri.sub3<;>first|rfl|omega)|(apply Ri.eqb<;>rfl)|(apply Ri.neb<;>rfl)|(apply Ri.pT;(focus rfl);(focus(first|rfl|assumption|(simp;done)|(simp;omega)));(focus rfl))|(apply Ri.pF;(focus rfl);(focus(first|rfl|assumption|(simp;done)|(simp;omega)));(focus rfl))));(focus rfl)))
    refine o_still (r_index rfl rfl rfl (by omega) (by omega)) (wants_none rfl) rfl ?_
    repeat(first|refine o_nil ?_|(refine o_pass (wants_no rfl rfl rfl ?_) rfl ?_;(focus(first|rfl|assumption|(simp;done)|(simp;omega))))|refine o_pass (wants_not rfl rfl rfl) rfl ?_|(refine o_yes (wants_yes rfl rfl rfl ?_) ?_;(focus(first|rfl|assumption|(simp;done)|(simp;omega))))|refine k_region ?_|(apply k_go;(focus(constructor<;>rfl)))|refine d_nil ?_|(apply o_s;(focus(first|(constructor<;>first|rfl|omega)|(apply Ri.add3<;>first|rfl|omega)|(apply Ri.sub3<;>first|rfl|omega)|(apply Ri.eqb<;>rfl)|(apply Ri.neb<;>rfl)|(apply Ri.pT;(focus rfl);(focus(first|rfl|assumption|(simp;done)|(simp;omega)));(focus rfl))|(apply Ri.pF;(focus rfl);(focus(first|rfl|assumption|(simp;done)|(simp;omega)));(focus rfl))));(focus rfl)))
    refine o_still (r_load rfl (by rw [add_add]; exact g3)) (wants_none rfl) rfl ?_
    repeat(first|refine o_nil ?_|(refine o_pass (wants_no rfl rfl rfl ?_) rfl ?_;(focus(first|rfl|assumption|(simp;done)|(simp;omega))))|refine o_pass (wants_not rfl rfl rfl) rfl ?_|(refine o_yes (wants_yes rfl rfl rfl ?_) ?_;(focus(first|rfl|assumption|(simp;done)|(simp;omega))))|refine k_region ?_|(apply k_go;(focus(constructor<;>rfl)))|refine d_nil ?_|(apply o_s;(focus(first|(constructor<;>first|rfl|omega)|(apply Ri.add3<;>first|rfl|omega)|(apply Ri.sub3<;>first|rfl|omega)|(apply Ri.eqb<;>rfl)|(apply Ri.neb<;>rfl)|(apply Ri.pT;(focus rfl);(focus(first|rfl|assumption|(simp;done)|(simp;omega)));(focus rfl))|(apply Ri.pF;(focus rfl);(focus(first|rfl|assumption|(simp;done)|(simp;omega)));(focus rfl))));(focus rfl)))
    refine k_ite rfl (fun hok => ?_) (fun hbig => ?_)
    case refine_2 =>
      repeat(first|refine o_nil ?_|(refine o_pass (wants_no rfl rfl rfl ?_) rfl ?_;(focus(first|rfl|assumption|(simp;done)|(simp;omega))))|refine o_pass (wants_not rfl rfl rfl) rfl ?_|(refine o_yes (wants_yes rfl rfl rfl ?_) ?_;(focus(first|rfl|assumption|(simp;done)|(simp;omega))))|refine k_region ?_|(apply k_go;(focus(constructor<;>rfl)))|refine d_nil ?_|(apply o_s;(focus(first|(constructor<;>first|rfl|omega)|(apply Ri.add3<;>first|rfl|omega)|(apply Ri.sub3<;>first|rfl|omega)|(apply Ri.eqb<;>rfl)|(apply Ri.neb<;>rfl)|(apply Ri.pT;(focus rfl);(focus(first|rfl|assumption|(simp;done)|(simp;omega)));(focus rfl))|(apply Ri.pF;(focus rfl);(focus(first|rfl|assumption|(simp;done)|(simp;omega)));(focus rfl))));(focus rfl)))
      exact next _ (by repeat (first | exact SubB.nil | refine SubB.cons rfl ?_))
    repeat(first|refine o_nil ?_|(refine o_pass (wants_no rfl rfl rfl ?_) rfl ?_;(focus(first|rfl|assumption|(simp;done)|(simp;omega))))|refine o_pass (wants_not rfl rfl rfl) rfl ?_|(refine o_yes (wants_yes rfl rfl rfl ?_) ?_;(focus(first|rfl|assumption|(simp;done)|(simp;omega))))|refine k_region ?_|(apply k_go;(focus(constructor<;>rfl)))|refine d_nil ?_|(apply o_s;(focus(first|(constructor<;>first|rfl|omega)|(apply Ri.add3<;>first|rfl|omega)|(apply Ri.sub3<;>first|rfl|omega)|(apply Ri.eqb<;>rfl)|(apply Ri.neb<;>rfl)|(apply Ri.pT;(focus rfl);(focus(first|rfl|assumption|(simp;done)|(simp;omega)));(focus rfl))|(apply Ri.pF;(focus rfl);(focus(first|rfl|assumption|(simp;done)|(simp;omega)));(focus rfl))));(focus rfl)))
    refine o_still (r_index rfl rfl rfl (by omega) (by omega)) (wants_none rfl) rfl ?_
    refine o_still (r_loadA (cs := [.int .i64 d.kind, .int .i64 d.at_, .int .i64 d.n, .slice Al d.l.length cl]) rfl rfl (by
      intro j u hu
      rw [Int.toNat_natCast, add_add]
      exact hkn.cell (hcell j u hu) id)) (wants_none rfl) rfl ?_
    refine o_enter (n_call rfl) (wants_none rfl) rfl ((do_calls (.inl rfl) (by decide) (hd.rel rfl).st hd zr (hkn.sl hvl) (fun k hk => hk) (by omega) (by omega) (by rw [hsv]; decide) hk1 hk2 hk3).mono ?_)
    rintro _ w6 ⟨⟨_, rfl, hc6⟩, hk6, T6, L6, S6, ⟨D6, E6, hd6, _⟩, hst6, _, hs6, _⟩
    obtain ⟨hs6a, rfl⟩ := hs6 (by omega)
    have kn6 : Kn W w6 := Kp.then hkn hk6 (fun _ h => h) fun k hk hkm => hkm.elim (fun h => by have := (hd.dd k h).1; omega) fun h => by have := (hd.ee k h).1; omega
    repeat(first|refine o_nil ?_|(refine o_pass (wants_no rfl rfl rfl ?_) rfl ?_;(focus(first|rfl|assumption|(simp;done)|(simp;omega))))|refine o_pass (wants_not rfl rfl rfl) rfl ?_|(refine o_yes (wants_yes rfl rfl rfl ?_) ?_;(focus(first|rfl|assumption|(simp;done)|(simp;omega))))|refine k_region ?_|(apply k_go;(focus(constructor<;>rfl)))|refine d_nil ?_|(apply o_s;(focus(first|(constructor<;>first|rfl|omega)|(apply Ri.add3<;>first|rfl|omega)|(apply Ri.sub3<;>first|rfl|omega)|(apply Ri.eqb<;>rfl)|(apply Ri.neb<;>rfl)|(apply Ri.pT;(focus rfl);(focus(first|rfl|assumption|(simp;done)|(simp;omega)));(focus rfl))|(apply Ri.pF;(focus rfl);(focus(first|rfl|assumption|(simp;done)|(simp;omega)));(focus rfl))));(focus rfl)))
    exact ih ⟨i + 1, T6, L6, []⟩ w6 ⟨by show i + 1 ≤ _; omega, by show i + 1 ≤ 30; omega, kn6, ⟨D6, E6, hd6⟩, kp_step hst6 hst, hs6a.trans hsv⟩ (by show 30 - (i + 1) < 30 - i; omega) _ (by repeat (first | exact SubB.nil | refine SubB.cons rfl ?_))
  have J : ∀ σ', SubB σ' [(2, .slice B2 ds2.length c2'), (7, .pointer (some ⟨g, 0, none⟩)), (8, .pointer (some ⟨gh, 0, none⟩))] → WK Try.prog Try.f5 [.code (bodyC Try.f5 [1, 1, 1, 1, 1])] σ' wr fun r w' => r = .bool true ∧ Kn W w' := by
    intro σ' hs
    refine WK.sub (Sub.mk hs) ?_
    clear hs σ' ih hend
    have hst0 : T.store.length ≤ 62000 := by omega
    have hrel := hd.rel rfl
    have hokT := hd.t.ok
    have hlL := hrel.len hokT.1
    obtain ⟨vL, vS, hR⟩ := hd.r
    obtain ⟨AL, cL, rfl, _, hlfL⟩ := hR.l.form
    have m0 : wr.cell? ⟨gh, 0, none⟩ = some (.slice AL L.length cL) := blk_cell hR.hb
    have hLs := hR.small.1
    repeat(first|refine o_nil ?_|(refine o_pass (wants_no rfl rfl rfl ?_) rfl ?_;(focus(first|rfl|assumption|(simp;done)|(simp;omega))))|refine o_pass (wants_not rfl rfl rfl) rfl ?_|(refine o_yes (wants_yes rfl rfl rfl ?_) ?_;(focus(first|rfl|assumption|(simp;done)|(simp;omega))))|refine k_region ?_|(apply k_go;(focus(constructor<;>rfl)))|refine d_nil ?_|(apply o_s;(focus(first|(constructor<;>first|rfl|omega)|(apply Ri.add3<;>first|rfl|omega)|(apply Ri.sub3<;>first|rfl|omega)|(apply Ri.eqb<;>rfl)|(apply Ri.neb<;>rfl)|(apply Ri.pT;(focus rfl);(focus(first|rfl|assumption|(simp;done)|(simp;omega)));(focus rfl))|(apply Ri.pF;(focus rfl);(focus(first|rfl|assumption|(simp;done)|(simp;omega)));(focus rfl))));(focus rfl)))
    refine o_any (e_lit0) (wants_none rfl) rfl ?_
    rintro _ w1 ⟨g1, rfl, nb1⟩
    have hO1 : Ow kRune (noB wr) (fun _ => False) w1 (.slice (some ⟨g1, 0, none⟩) 0 0) [] := ow_lit0 nb1 nb1.ge
    repeat(first|refine o_nil ?_|(refine o_pass (wants_no rfl rfl rfl ?_) rfl ?_;(focus(first|rfl|assumption|(simp;done)|(simp;omega))))|refine o_pass (wants_not rfl rfl rfl) rfl ?_|(refine o_yes (wants_yes rfl rfl rfl ?_) ?_;(focus(first|rfl|assumption|(simp;done)|(simp;omega))))|refine k_region ?_|(apply k_go;(focus(constructor<;>rfl)))|refine d_nil ?_|(apply o_s;(focus(first|(constructor<;>first|rfl|omega)|(apply Ri.add3<;>first|rfl|omega)|(apply Ri.sub3<;>first|rfl|omega)|(apply Ri.eqb<;>rfl)|(apply Ri.neb<;>rfl)|(apply Ri.pT;(focus rfl);(focus(first|rfl|assumption|(simp;done)|(simp;omega)));(focus rfl))|(apply Ri.pF;(focus rfl);(focus(first|rfl|assumption|(simp;done)|(simp;omega)));(focus rfl))));(focus rfl)))
    refine o_still (r_load rfl (nb1.kn.cell m0 id)) (wants_none rfl) rfl ?_
    refine o_any (e_append2 (d := kRune) rfl rfl hO1 (nb1.kn.sl hR.l.old) (by
      intro k hk he
      have := (hO1.block k he).1
      simp only [noB] at this
      omega) (by show (0 + L.length) * 4 ≤ 140737488355328; omega) rfl rfl rfl) (wants_none rfl) rfl ?_
    rintro v2 w2 hA2
    obtain ⟨k2, hO2⟩ := app_next nb1.kn hO1 hA2
    rw [List.nil_append] at hO2
    obtain ⟨A2, c2, rfl, _⟩ := hO2.form
    have z2 := k2.size
    have hwant : Sl kRune (fun k => wr.heap.size ≤ k ∧ k < w2.heap.size) w2 (.slice A2 L.length c2) L := hO2.sl.mono fun k hk hl => ⟨hk.resolve_right id, hl⟩
    have hd2 := (hd.kn k2).weak
    repeat(first|refine o_nil ?_|(refine o_pass (wants_no rfl rfl rfl ?_) rfl ?_;(focus(first|rfl|assumption|(simp;done)|(simp;omega))))|refine o_pass (wants_not rfl rfl rfl) rfl ?_|(refine o_yes (wants_yes rfl rfl rfl ?_) ?_;(focus(first|rfl|assumption|(simp;done)|(simp;omega))))|refine k_region ?_|(apply k_go;(focus(constructor<;>rfl)))|refine d_nil ?_|(apply o_s;(focus(first|(constructor<;>first|rfl|omega)|(apply Ri.add3<;>first|rfl|omega)|(apply Ri.sub3<;>first|rfl|omega)|(apply Ri.eqb<;>rfl)|(apply Ri.neb<;>rfl)|(apply Ri.pT;(focus rfl);(focus(first|rfl|assumption|(simp;done)|(simp;omega)));(focus rfl))|(apply Ri.pF;(focus rfl);(focus(first|rfl|assumption|(simp;done)|(simp;omega)));(focus rfl))));(focus rfl)))
    refine o_enter (n_call rfl) (wants_none rfl) rfl ((save_calls hd2.t (by rw [hsv]; decide)).mono ?_)
    rintro _ w5 hq5
    have hkq := hq5.1
    have hqe := hq5.2.2
    subst hqe
    have hW2 : W.heap.size ≤ w2.heap.size := by omega
    obtain ⟨D5, E5, hd5, hn5⟩ := hd2.tabn hW2 hq5
    have z5 := hkq.size
    have kn5 : Kn W w5 := Kp.then (hkn.trans k2) hkq (fun _ h => h) fun k hk hkd => by have := (hd.dd k hkd).1; omega
    have hw5 : Sl kRune (fun k => wr.heap.size ≤ k ∧ k < w2.heap.size) w5 (.slice A2 L.length c2) L := Kp.sl hkq hwant fun k hk hkd => by have := (hd.dd k hkd).2; omega
    have hap5 : ∀ k, (wr.heap.size ≤ k ∧ k < w2.heap.size) → ¬ (D5 k ∨ E5 k) := fun k hk hde => (hn5 k hk.2 hde).elim (fun h => by have := (hd.dd k h).2; omega) fun h => by have := (hd.ee k h).2; omega
    have hid : (saveM T).2 = 1 := by show ((T.saved.length : Int) + 1) = 1; rw [hsv]; rfl
    rw [hid]
    have hsav : (saveM T).1.saved = [T.row] := by show T.saved ++ [T.row] = _; rw [hsv]; rfl
    have hfl : flat (saveM T).1.store T.row = L := hrel.fl
    have hst5 : (saveM T).1.store.length ≤ 62000 := hst0
    generalize (saveM T).1 = T5 at *
    generalize hrow : T.row = row0 at *
    have htr : tot row0 ≤ 65536 := hokT.2.2
    clear hd hrel hd2 hq5 hokT hO1 hO2 hA2 hwant hst hst0 m0 hR
    repeat(first|refine o_nil ?_|(refine o_pass (wants_no rfl rfl rfl ?_) rfl ?_;(focus(first|rfl|assumption|(simp;done)|(simp;omega))))|refine o_pass (wants_not rfl rfl rfl) rfl ?_|(refine o_yes (wants_yes rfl rfl rfl ?_) ?_;(focus(first|rfl|assumption|(simp;done)|(simp;omega))))|refine k_region ?_|(apply k_go;(focus(constructor<;>rfl)))|refine d_nil ?_|(apply o_s;(focus(first|(constructor<;>first|rfl|omega)|(apply Ri.add3<;>first|rfl|omega)|(apply Ri.sub3<;>first|rfl|omega)|(apply Ri.eqb<;>rfl)|(apply Ri.neb<;>rfl)|(apply Ri.pT;(focus rfl);(focus(first|rfl|assumption|(simp;done)|(simp;omega)));(focus rfl))|(apply Ri.pF;(focus rfl);(focus(first|rfl|assumption|(simp;done)|(simp;omega)));(focus rfl))));(focus rfl)))
    refine k_while (S := K2St) (fun s => 2 - s.k) (fun s => [(2, .slice B2 ds2.length c2'), (7, .pointer (some ⟨g, 0, none⟩)), (8, .pointer (some ⟨gh, 0, none⟩)), (10, .slice A2 L.length c2), (11, .int .i64 1), (12, .int .i64 s.k)])
      (fun s wq => s.k ≤ 2 ∧ Kn W wq ∧ (∃ D E, DuoP false W D E g gh wq s.T s.L [] ∧ ∀ k, (wr.heap.size ≤ k ∧ k < w2.heap.size) → ¬ (D k ∨ E k)) ∧ Sl kRune (fun k => wr.heap.size ≤ k ∧ k < w2.heap.size) wq (.slice A2 L.length c2) L ∧ s.T.saved = [row0] ∧ flat s.T.store row0 = L ∧ s.T.store.length ≤ 62000 + 60000 * s.k ∧ w2.heap.size ≤ wq.heap.size)
      ⟨0, T5, L⟩ (by repeat (first | exact SubB.nil | refine SubB.cons rfl ?_)) ⟨by show 0 ≤ 2; decide, kn5, ⟨D5, E5, hd5, hap5⟩, hw5, hsav, hfl, by show T5.store.length ≤ 62000 + 60000 * 0; omega, by omega⟩ ?_
    rintro ⟨k, Tk, Lk⟩ wq ⟨hk2', hknq, ⟨Dk, Ek, hdk, hapk⟩, hwq, hsvk, hflk, hstk, hzk⟩ ih
    simp only at hk2' hknq hdk hapk hwq hsvk hflk hstk hzk ih ⊢
    clear hd5 hap5 hw5 hsav hfl hst5 kn5
    repeat(first|refine o_nil ?_|(refine o_pass (wants_no rfl rfl rfl ?_) rfl ?_;(focus(first|rfl|assumption|(simp;done)|(simp;omega))))|refine o_pass (wants_not rfl rfl rfl) rfl ?_|(refine o_yes (wants_yes rfl rfl rfl ?_) ?_;(focus(first|rfl|assumption|(simp;done)|(simp;omega))))|refine k_region ?_|(apply k_go;(focus(constructor<;>rfl)))|refine d_nil ?_|(apply o_s;(focus(first|(constructor<;>first|rfl|omega)|(apply Ri.add3<;>first|rfl|omega)|(apply Ri.sub3<;>first|rfl|omega)|(apply Ri.eqb<;>rfl)|(apply Ri.neb<;>rfl)|(apply Ri.pT;(focus rfl);(focus(first|rfl|assumption|(simp;done)|(simp;omega)));(focus rfl))|(apply Ri.pF;(focus rfl);(focus(first|rfl|assumption|(simp;done)|(simp;omega)));(focus rfl))));(focus rfl)))
    refine k_ite rfl (fun hk => ?_) (fun hk => ?_)
    case refine_2 =>
      repeat(first|refine o_nil ?_|(refine o_pass (wants_no rfl rfl rfl ?_) rfl ?_;(focus(first|rfl|assumption|(simp;done)|(simp;omega))))|refine o_pass (wants_not rfl rfl rfl) rfl ?_|(refine o_yes (wants_yes rfl rfl rfl ?_) ?_;(focus(first|rfl|assumption|(simp;done)|(simp;omega))))|refine k_region ?_|(apply k_go;(focus(constructor<;>rfl)))|refine d_nil ?_|(apply o_s;(focus(first|(constructor<;>first|rfl|omega)|(apply Ri.add3<;>first|rfl|omega)|(apply Ri.sub3<;>first|rfl|omega)|(apply Ri.eqb<;>rfl)|(apply Ri.neb<;>rfl)|(apply Ri.pT;(focus rfl);(focus(first|rfl|assumption|(simp;done)|(simp;omega)));(focus rfl))|(apply Ri.pF;(focus rfl);(focus(first|rfl|assumption|(simp;done)|(simp;omega)));(focus rfl))));(focus rfl)))
      refine o_enter (n_call rfl) (wants_none rfl) rfl ((awake_calls).mono ?_)
      rintro _ w9 ⟨rfl, hk9⟩
      repeat(first|refine o_nil ?_|(refine o_pass (wants_no rfl rfl rfl ?_) rfl ?_;(focus(first|rfl|assumption|(simp;done)|(simp;omega))))|refine o_pass (wants_not rfl rfl rfl) rfl ?_|(refine o_yes (wants_yes rfl rfl rfl ?_) ?_;(focus(first|rfl|assumption|(simp;done)|(simp;omega))))|refine k_region ?_|(apply k_go;(focus(constructor<;>rfl)))|refine d_nil ?_|(apply o_s;(focus(first|(constructor<;>first|rfl|omega)|(apply Ri.add3<;>first|rfl|omega)|(apply Ri.sub3<;>first|rfl|omega)|(apply Ri.eqb<;>rfl)|(apply Ri.neb<;>rfl)|(apply Ri.pT;(focus rfl);(focus(first|rfl|assumption|(simp;done)|(simp;omega)));(focus rfl))|(apply Ri.pF;(focus rfl);(focus(first|rfl|assumption|(simp;done)|(simp;omega)));(focus rfl))));(focus rfl)))
      exact k_ret1 rfl rfl ⟨rfl, hknq.trans hk9⟩
    repeat(first|refine o_nil ?_|(refine o_pass (wants_no rfl rfl rfl ?_) rfl ?_;(focus(first|rfl|assumption|(simp;done)|(simp;omega))))|refine o_pass (wants_not rfl rfl rfl) rfl ?_|(refine o_yes (wants_yes rfl rfl rfl ?_) ?_;(focus(first|rfl|assumption|(simp;done)|(simp;omega))))|refine k_region ?_|(apply k_go;(focus(constructor<;>rfl)))|refine d_nil ?_|(apply o_s;(focus(first|(constructor<;>first|rfl|omega)|(apply Ri.add3<;>first|rfl|omega)|(apply Ri.sub3<;>first|rfl|omega)|(apply Ri.eqb<;>rfl)|(apply Ri.neb<;>rfl)|(apply Ri.pT;(focus rfl);(focus(first|rfl|assumption|(simp;done)|(simp;omega)));(focus rfl))|(apply Ri.pF;(focus rfl);(focus(first|rfl|assumption|(simp;done)|(simp;omega)));(focus rfl))));(focus rfl)))
    refine k_while (S := PlSt) (fun s => 30 - s.i) (fun s => [(2, .slice B2 ds2.length c2'), (7, .pointer (some ⟨g, 0, none⟩)), (8, .pointer (some ⟨gh, 0, none⟩)), (10, .slice A2 L.length c2), (11, .int .i64 1), (12, .int .i64 k), (13, .int .i64 s.i)])
      (fun s wq => s.i ≤ ds2.length ∧ s.i ≤ 30 ∧ Kn W wq ∧ (∃ D E, DuoP false W D E g gh wq s.T s.L [] ∧ ∀ k, (wr.heap.size ≤ k ∧ k < w2.heap.size) → ¬ (D k ∨ E k)) ∧ Sl kRune (fun k => wr.heap.size ≤ k ∧ k < w2.heap.size) wq (.slice A2 L.length c2) L ∧ s.T.saved = [row0] ∧ flat s.T.store row0 = L ∧ s.T.store.length ≤ 62000 + 60000 * k + 2000 * s.i ∧ w2.heap.size ≤ wq.heap.size)
      ⟨0, Tk, Lk, []⟩ (by repeat (first | exact SubB.nil | refine SubB.cons rfl ?_)) ⟨Nat.zero_le _, by show 0 ≤ 30; decide, hknq, ⟨Dk, Ek, hdk, hapk⟩, hwq, hsvk, hflk, hstk, hzk⟩ ?_
    rintro ⟨i, Ti, Li, Si⟩ wp ⟨hi2, hi30, hknp, ⟨Di, Ei, hdi, hapi⟩, hwp, hsvi, hfli, hsti, hzi⟩ ih2
    simp only at hi2 hi30 hknp hdi hapi hwp hsvi hfli hsti hzi ih2 ⊢
    clear hdk hapk hwq hsvk hflk hstk hzk
    have hokI := hdi.t.ok
    have hr0 : row0 ∈ Ti.saved := by rw [hsvi]; simp
    have hst9 : Ti.store.length ≤ 549755813888 := by omega
    have hts : ∀ r ∈ Ti.saved, tot r ≤ 65536 := by
      rw [hsvi]
      intro r hr
      obtain rfl : r = row0 := by simpa using hr
      exact htr
    by_cases hend : i < ds2.length ∧ i < 30
    case pos =>
      obtain ⟨hlt, hlt60⟩ := hend
      obtain ⟨ad, cs, rfl, hR, hcell⟩ := h02'.at_ (List.getElem?_eq_getElem hlt)
      obtain ⟨vl, rfl, hvl, hk1, hk2, hk3⟩ := deed_cells hR
      generalize hdd : ds2[i] = d at *
      obtain ⟨Al, cl, rfl, _⟩ := hvl.form
      have g0 : wp.cell? (ad.add (i * 4 + 0)) = some (.int .i64 d.kind) := hknp.cell (hcell 0 _ rfl) id
      have g3 : wp.cell? (ad.add (i * 4 + 3)) = some (.slice Al d.l.length cl) := hknp.cell (hcell 3 _ rfl) id
      have next : ∀ σ', SubB σ' [(2, .slice (some ad) ds2.length c2'), (7, .pointer (some ⟨g, 0, none⟩)), (8, .pointer (some ⟨gh, 0, none⟩)), (10, .slice A2 L.length c2), (11, .int .i64 1), (12, .int .i64 k), (13, .int .i64 ((i : Int) + 1))] → WK Try.prog Try.f5 [.inLoop (bodyC Try.f5 [1, 1, 1, 1, 1, 1, 1, 0, 1, 0, 0, 1, 0, 0, 0, 1, 0, 0]), .inBlock 4, .code (bodyC Try.f5 [1, 1, 1, 1, 1, 1, 1, 0, 1, 0, 0, 1, 0, 0, 1]), .inBlock 3, .code (bodyC Try.f5 [1, 1, 1, 1, 1, 1, 1, 0, 1, 0, 0, 1, 1]), .inLoop (bodyC Try.f5 [1, 1, 1, 1, 1, 1, 1, 0, 1, 0, 0]), .inBlock 2, .code (bodyC Try.f5 [1, 1, 1, 1, 1, 1, 1, 1])] σ' wp fun r w' => r = .bool true ∧ Kn W w' :=
        fun σ' hs => ih2 ⟨i + 1, Ti, Li, []⟩ wp ⟨by show i + 1 ≤ _; omega, by show i + 1 ≤ 30; omega, hknp, ⟨Di, Ei, hdi, hapi⟩, hwp, hsvi, hfli, kp_skip hsti, hzi⟩ (by show 30 - (i + 1) < 30 - i; omega) σ' hs
      repeat(first|refine o_nil ?_|(refine o_pass (wants_no rfl rfl rfl ?_) rfl ?_;(focus(first|rfl|assumption|(simp;done)|(simp;omega))))|refine o_pass (wants_not rfl rfl rfl) rfl ?_|(refine o_yes (wants_yes rfl rfl rfl ?_) ?_;(focus(first|rfl|assumption|(simp;done)|(simp;omega))))|refine k_region ?_|(apply k_go;(focus(constructor<;>rfl)))|refine d_nil ?_|(apply o_s;(focus(first|(constructor<;>first|rfl|omega)|(apply Ri.add3<;>first|rfl|omega)|(apply Ri.sub3<;>first|rfl|omega)|(apply Ri.eqb<;>rfl)|(apply Ri.neb<;>rfl)|(apply Ri.pT;(focus rfl);(focus(first|rfl|assumption|(simp;done)|(simp;omega)));(focus rfl))|(apply Ri.pF;(focus rfl);(focus(first|rfl|assumption|(simp;done)|(simp;omega)));(focus rfl))));(focus rfl)))
      refine k_yes rfl (by omega) ?_
      repeat(first|refine o_nil ?_|(refine o_pass (wants_no rfl rfl rfl ?_) rfl ?_;(focus(first|rfl|assumption|(simp;done)|(simp;omega))))|refine o_pass (wants_not rfl rfl rfl) rfl ?_|(refine o_yes (wants_yes rfl rfl rfl ?_) ?_;(focus(first|rfl|assumption|(simp;done)|(simp;omega))))|refine k_region ?_|(apply k_go;(focus(constructor<;>rfl)))|refine d_nil ?_|(apply o_s;(focus(first|(constructor<;>first|rfl|omega)|(apply Ri.add3<;>first|rfl|omega)|(apply Ri.sub3<;>first|rfl|omega)|(apply Ri.eqb<;>rfl)|(apply Ri.neb<;>rfl)|(apply Ri.pT;(focus rfl);(focus(first|rfl|assumption|(simp;done)|(simp;omega)));(focus rfl))|(apply Ri.pF;(focus rfl);(focus(first|rfl|assumption|(simp;done)|(simp;omega)));(focus rfl))));(focus rfl)))
      refine o_still (r_index rfl rfl rfl (by omega) (by omega)) (wants_none rfl) rfl ?_
      repeat(first|refine o_nil ?_|(refine o_pass (wants_no rfl rfl rfl ?_) rfl ?_;(focus(first|rfl|assumption|(simp;done)|(simp;omega))))|refine o_pass (wants_not rfl rfl rfl) rfl ?_|(refine o_yes (wants_yes rfl rfl rfl ?_) ?_;(focus(first|rfl|assumption|(simp;done)|(simp;omega))))|refine k_region ?_|(apply k_go;(focus(constructor<;>rfl)))|refine d_nil ?_|(apply o_s;(focus(first|(constructor<;>first|rfl|omega)|(apply Ri.add3<;>first|rfl|omega)|(apply Ri.sub3<;>first|rfl|omega)|(apply Ri.eqb<;>rfl)|(apply Ri.neb<;>rfl)|(apply Ri.pT;(focus rfl);(focus(first|rfl|assumption|(simp;done)|(simp;omega)));(focus rfl))|(apply Ri.pF;(focus rfl);(focus(first|rfl|assumption|(simp;done)|(simp;omega)));(focus rfl))));(focus rfl)))
      refine o_still (r_load rfl (by rw [add_add]; exact g0)) (wants_none rfl) rfl ?_
      by_cases hkd : d.kind < 2
      case neg =>
        repeat(first|refine o_nil ?_|(refine o_pass (wants_no rfl rfl rfl ?_) rfl ?_;(focus(first|rfl|assumption|(simp;done)|(simp;omega))))|refine o_pass (wants_not rfl rfl rfl) rfl ?_|(refine o_yes (wants_yes rfl rfl rfl ?_) ?_;(focus(first|rfl|assumption|(simp;done)|(simp;omega))))|refine k_region ?_|(apply k_go;(focus(constructor<;>rfl)))|refine d_nil ?_|(apply o_s;(focus(first|(constructor<;>first|rfl|omega)|(apply Ri.add3<;>first|rfl|omega)|(apply Ri.sub3<;>first|rfl|omega)|(apply Ri.eqb<;>rfl)|(apply Ri.neb<;>rfl)|(apply Ri.pT;(focus rfl);(focus(first|rfl|assumption|(simp;done)|(simp;omega)));(focus rfl))|(apply Ri.pF;(focus rfl);(focus(first|rfl|assumption|(simp;done)|(simp;omega)));(focus rfl))));(focus rfl)))
        refine k_false rfl ?_
        repeat(first|refine o_nil ?_|(refine o_pass (wants_no rfl rfl rfl ?_) rfl ?_;(focus(first|rfl|assumption|(simp;done)|(simp;omega))))|refine o_pass (wants_not rfl rfl rfl) rfl ?_|(refine o_yes (wants_yes rfl rfl rfl ?_) ?_;(focus(first|rfl|assumption|(simp;done)|(simp;omega))))|refine k_region ?_|(apply k_go;(focus(constructor<;>rfl)))|refine d_nil ?_|(apply o_s;(focus(first|(constructor<;>first|rfl|omega)|(apply Ri.add3<;>first|rfl|omega)|(apply Ri.sub3<;>first|rfl|omega)|(apply Ri.eqb<;>rfl)|(apply Ri.neb<;>rfl)|(apply Ri.pT;(focus rfl);(focus(first|rfl|assumption|(simp;done)|(simp;omega)));(focus rfl))|(apply Ri.pF;(focus rfl);(focus(first|rfl|assumption|(simp;done)|(simp;omega)));(focus rfl))));(focus rfl)))
        exact next _ (by repeat (first | exact SubB.nil | refine SubB.cons rfl ?_))
      repeat(first|refine o_nil ?_|(refine o_pass (wants_no rfl rfl rfl ?_) rfl ?_;(focus(first|rfl|assumption|(simp;done)|(simp;omega))))|refine o_pass (wants_not rfl rfl rfl) rfl ?_|(refine o_yes (wants_yes rfl rfl rfl ?_) ?_;(focus(first|rfl|assumption|(simp;done)|(simp;omega))))|refine k_region ?_|(apply k_go;(focus(constructor<;>rfl)))|refine d_nil ?_|(apply o_s;(focus(first|(constructor<;>first|rfl|omega)|(apply Ri.add3<;>first|rfl|omega)|(apply Ri.sub3<;>first|rfl|omega)|(apply Ri.eqb<;>rfl)|(apply Ri.neb<;>rfl)|(apply Ri.pT;(focus rfl);(focus(first|rfl|assumption|(simp;done)|(simp;omega)));(focus rfl))|(apply Ri.pF;(focus rfl);(focus(first|rfl|assumption|(simp;done)|(simp;omega)));(focus rfl))));(focus rfl)))
      refine o_still (r_index rfl rfl rfl (by omega) (by omega)) (wants_none rfl) rfl ?_
      repeat(first|refine o_nil ?_|(refine o_pass (wants_no rfl rfl rfl ?_) rfl ?_;(focus(first|rfl|assumption|(simp;done)|(simp;omega))))|refine o_pass (wants_not rfl rfl rfl) rfl ?_|(refine o_yes (wants_yes rfl rfl rfl ?_) ?_;(focus(first|rfl|assumption|(simp;done)|(simp;omega))))|refine k_region ?_|(apply k_go;(focus(constructor<;>rfl)))|refine d_nil ?_|(apply o_s;(focus(first|(constructor<;>first|rfl|omega)|(apply Ri.add3<;>first|rfl|omega)|(apply Ri.sub3<;>first|rfl|omega)|(apply Ri.eqb<;>rfl)|(apply Ri.neb<;>rfl)|(apply Ri.pT;(focus rfl);(focus(first|rfl|assumption|(simp;done)|(simp;omega)));(focus rfl))|(apply Ri.pF;(focus rfl);(focus(first|rfl|assumption|(simp;done)|(simp;omega)));(focus rfl))));(focus rfl)))
      refine o_still (r_load rfl (by rw [add_add]; exact g3)) (wants_none rfl) rfl ?_
      repeat(first|refine o_nil ?_|(refine o_pass (wants_no rfl rfl rfl ?_) rfl ?_;(focus(first|rfl|assumption|(simp;done)|(simp;omega))))|refine o_pass (wants_not rfl rfl rfl) rfl ?_|(refine o_yes (wants_yes rfl rfl rfl ?_) ?_;(focus(first|rfl|assumption|(simp;done)|(simp;omega))))|refine k_region ?_|(apply k_go;(focus(constructor<;>rfl)))|refine d_nil ?_|(apply o_s;(focus(first|(constructor<;>first|rfl|omega)|(apply Ri.add3<;>first|rfl|omega)|(apply Ri.sub3<;>first|rfl|omega)|(apply Ri.eqb<;>rfl)|(apply Ri.neb<;>rfl)|(apply Ri.pT;(focus rfl);(focus(first|rfl|assumption|(simp;done)|(simp;omega)));(focus rfl))|(apply Ri.pF;(focus rfl);(focus(first|rfl|assumption|(simp;done)|(simp;omega)));(focus rfl))));(focus rfl)))
      refine k_ite rfl (fun hok => ?_) (fun hbig => ?_)
      case refine_2 =>
        repeat(first|refine o_nil ?_|(refine o_pass (wants_no rfl rfl rfl ?_) rfl ?_;(focus(first|rfl|assumption|(simp;done)|(simp;omega))))|refine o_pass (wants_not rfl rfl rfl) rfl ?_|(refine o_yes (wants_yes rfl rfl rfl ?_) ?_;(focus(first|rfl|assumption|(simp;done)|(simp;omega))))|refine k_region ?_|(apply k_go;(focus(constructor<;>rfl)))|refine d_nil ?_|(apply o_s;(focus(first|(constructor<;>first|rfl|omega)|(apply Ri.add3<;>first|rfl|omega)|(apply Ri.sub3<;>first|rfl|omega)|(apply Ri.eqb<;>rfl)|(apply Ri.neb<;>rfl)|(apply Ri.pT;(focus rfl);(focus(first|rfl|assumption|(simp;done)|(simp;omega)));(focus rfl))|(apply Ri.pF;(focus rfl);(focus(first|rfl|assumption|(simp;done)|(simp;omega)));(focus rfl))));(focus rfl)))
        exact next _ (by repeat (first | exact SubB.nil | refine SubB.cons rfl ?_))
      repeat(first|refine o_nil ?_|(refine o_pass (wants_no rfl rfl rfl ?_) rfl ?_;(focus(first|rfl|assumption|(simp;done)|(simp;omega))))|refine o_pass (wants_not rfl rfl rfl) rfl ?_|(refine o_yes (wants_yes rfl rfl rfl ?_) ?_;(focus(first|rfl|assumption|(simp;done)|(simp;omega))))|refine k_region ?_|(apply k_go;(focus(constructor<;>rfl)))|refine d_nil ?_|(apply o_s;(focus(first|(constructor<;>first|rfl|omega)|(apply Ri.add3<;>first|rfl|omega)|(apply Ri.sub3<;>first|rfl|omega)|(apply Ri.eqb<;>rfl)|(apply Ri.neb<;>rfl)|(apply Ri.pT;(focus rfl);(focus(first|rfl|assumption|(simp;done)|(simp;omega)));(focus rfl))|(apply Ri.pF;(focus rfl);(focus(first|rfl|assumption|(simp;done)|(simp;omega)));(focus rfl))));(focus rfl)))
      refine o_still (r_index rfl rfl rfl (by omega) (by omega)) (wants_none rfl) rfl ?_
      refine o_still (r_loadA (cs := [.int .i64 d.kind, .int .i64 d.at_, .int .i64 d.n, .slice Al d.l.length cl]) rfl rfl (by
        intro j u hu
        rw [Int.toNat_natCast, add_add]
        exact hknp.cell (hcell j u hu) id)) (wants_none rfl) rfl ?_
      refine o_enter (n_call rfl) (wants_none rfl) rfl ((do_calls (.inr hkd) (by decide) hts hdi (by omega) (hknp.sl hvl) (fun k hk => hk) (by omega) hst9 (by rw [hsvi]; show 1 ≤ 549755813888; decide) hk1 hk2 hk3).mono ?_)
      rintro _ w6 ⟨⟨bb, rfl, _⟩, hk6, T6, L6, S6, ⟨D6, E6, hd6, hn6⟩, hst6, _, hs6, hkf6⟩
      obtain ⟨hs6a, rfl⟩ := hs6 (by omega)
      have z6 := hk6.size
      have kn6 : Kn W w6 := Kp.then hknp hk6 (fun _ h => h) fun k hk hkm => hkm.elim (fun h => by have := (hdi.dd k h).1; omega) fun h => by have := (hdi.ee k h).1; omega
      repeat(first|refine o_nil ?_|(refine o_pass (wants_no rfl rfl rfl ?_) rfl ?_;(focus(first|rfl|assumption|(simp;done)|(simp;omega))))|refine o_pass (wants_not rfl rfl rfl) rfl ?_|(refine o_yes (wants_yes rfl rfl rfl ?_) ?_;(focus(first|rfl|assumption|(simp;done)|(simp;omega))))|refine k_region ?_|(apply k_go;(focus(constructor<;>rfl)))|refine d_nil ?_|(apply o_s;(focus(first|(constructor<;>first|rfl|omega)|(apply Ri.add3<;>first|rfl|omega)|(apply Ri.sub3<;>first|rfl|omega)|(apply Ri.eqb<;>rfl)|(apply Ri.neb<;>rfl)|(apply Ri.pT;(focus rfl);(focus(first|rfl|assumption|(simp;done)|(simp;omega)));(focus rfl))|(apply Ri.pF;(focus rfl);(focus(first|rfl|assumption|(simp;done)|(simp;omega)));(focus rfl))));(focus rfl)))
      exact ih2 ⟨i + 1, T6, L6, []⟩ w6 ⟨by show i + 1 ≤ _; omega, by show i + 1 ≤ 30; omega, kn6, ⟨D6, E6, hd6, fun k hk hde => hapi k hk (hn6 k (by omega) hde)⟩, Kp.sl hk6 hwp (fun k hk hde => hapi k hk hde), hs6a.trans hsvi, (hkf6 row0 (hokI.2.1 row0 hr0)).trans hfli, kp_step hst6 hsti, by show w2.heap.size ≤ w6.heap.size; omega⟩ (by show 30 - (i + 1) < 30 - i; omega) _ (by repeat (first | exact SubB.nil | refine SubB.cons rfl ?_))
    have J2 : ∀ σ', SubB σ' [(2, .slice B2 ds2.length c2'), (7, .pointer (some ⟨g, 0, none⟩)), (8, .pointer (some ⟨gh, 0, none⟩)), (10, .slice A2 L.length c2), (11, .int .i64 1), (12, .int .i64 k)] → WK Try.prog Try.f5 [.code (bodyC Try.f5 [1, 1, 1, 1, 1, 1, 1, 0, 1, 0, 0, 1, 0, 0, 1]), .inBlock 3, .code (bodyC Try.f5 [1, 1, 1, 1, 1, 1, 1, 0, 1, 0, 0, 1, 1]), .inLoop (bodyC Try.f5 [1, 1, 1, 1, 1, 1, 1, 0, 1, 0, 0]), .inBlock 2, .code (bodyC Try.f5 [1, 1, 1, 1, 1, 1, 1, 1])] σ' wp fun r w' => r = .bool true ∧ Kn W w' := by
      intro σ' hs
      refine WK.sub (Sub.mk hs) ?_
      clear hs σ' ih2 hend
      have hbk : backM Ti 1 = ({ Ti with row := row0 }, 0) := by
        unfold backM
        rw [hsvi]
        rfl
      have hcall := back_calls (id := 1) hdi.t (by decide) hts
      rw [hbk] at hcall
      repeat(first|refine o_nil ?_|(refine o_pass (wants_no rfl rfl rfl ?_) rfl ?_;(focus(first|rfl|assumption|(simp;done)|(simp;omega))))|refine o_pass (wants_not rfl rfl rfl) rfl ?_|(refine o_yes (wants_yes rfl rfl rfl ?_) ?_;(focus(first|rfl|assumption|(simp;done)|(simp;omega))))|refine k_region ?_|(apply k_go;(focus(constructor<;>rfl)))|refine d_nil ?_|(apply o_s;(focus(first|(constructor<;>first|rfl|omega)|(apply Ri.add3<;>first|rfl|omega)|(apply Ri.sub3<;>first|rfl|omega)|(apply Ri.eqb<;>rfl)|(apply Ri.neb<;>rfl)|(apply Ri.pT;(focus rfl);(focus(first|rfl|assumption|(simp;done)|(simp;omega)));(focus rfl))|(apply Ri.pF;(focus rfl);(focus(first|rfl|assumption|(simp;done)|(simp;omega)));(focus rfl))));(focus rfl)))
      refine o_enter (n_call rfl) (wants_none rfl) rfl ((hcall).mono ?_)
      rintro _ w7 hq7
      have hkq := hq7.1
      have hqe := hq7.2.2
      subst hqe
      obtain ⟨D7, E7, hd7, hn7⟩ := hdi.tabn (by omega) hq7
      have z7 := hkq.size
      have kn7 : Kn W w7 := Kp.then hknp hkq (fun _ h => h) fun k hk hkd => by have := (hdi.dd k hkd).1; omega
      have hap7 : ∀ k, (wr.heap.size ≤ k ∧ k < w2.heap.size) → ¬ (D7 k ∨ E7 k) := fun k hk hde => hapi k hk (hn7 k (by omega) hde)
      have hw7 : Sl kRune (fun k => wr.heap.size ≤ k ∧ k < w2.heap.size) w7 (.slice A2 L.length c2) L := Kp.sl hkq hwp fun k hk hkd => hapi k hk (.inl hkd)
      clear hq7 hcall hdi hapi hwp
      repeat(first|refine o_nil ?_|(refine o_pass (wants_no rfl rfl rfl ?_) rfl ?_;(focus(first|rfl|assumption|(simp;done)|(simp;omega))))|refine o_pass (wants_not rfl rfl rfl) rfl ?_|(refine o_yes (wants_yes rfl rfl rfl ?_) ?_;(focus(first|rfl|assumption|(simp;done)|(simp;omega))))|refine k_region ?_|(apply k_go;(focus(constructor<;>rfl)))|refine d_nil ?_|(apply o_s;(focus(first|(constructor<;>first|rfl|omega)|(apply Ri.add3<;>first|rfl|omega)|(apply Ri.sub3<;>first|rfl|omega)|(apply Ri.eqb<;>rfl)|(apply Ri.neb<;>rfl)|(apply Ri.pT;(focus rfl);(focus(first|rfl|assumption|(simp;done)|(simp;omega)));(focus rfl))|(apply Ri.pF;(focus rfl);(focus(first|rfl|assumption|(simp;done)|(simp;omega)));(focus rfl))));(focus rfl)))
      refine k_no rfl (by show ¬ ((0 : Int) ≠ 0); decide) ?_
      repeat(first|refine o_nil ?_|(refine o_pass (wants_no rfl rfl rfl ?_) rfl ?_;(focus(first|rfl|assumption|(simp;done)|(simp;omega))))|refine o_pass (wants_not rfl rfl rfl) rfl ?_|(refine o_yes (wants_yes rfl rfl rfl ?_) ?_;(focus(first|rfl|assumption|(simp;done)|(simp;omega))))|refine k_region ?_|(apply k_go;(focus(constructor<;>rfl)))|refine d_nil ?_|(apply o_s;(focus(first|(constructor<;>first|rfl|omega)|(apply Ri.add3<;>first|rfl|omega)|(apply Ri.sub3<;>first|rfl|omega)|(apply Ri.eqb<;>rfl)|(apply Ri.neb<;>rfl)|(apply Ri.pT;(focus rfl);(focus(first|rfl|assumption|(simp;done)|(simp;omega)));(focus rfl))|(apply Ri.pF;(focus rfl);(focus(first|rfl|assumption|(simp;done)|(simp;omega)));(focus rfl))));(focus rfl)))
      refine o_any (e_lit0) (wants_none rfl) rfl ?_
      rintro _ w8 ⟨g8, rfl, nb8⟩
      have hO8 : Ow kRune (noB w7) (fun _ => False) w8 (.slice (some ⟨g8, 0, none⟩) 0 0) [] := ow_lit0 nb8 nb8.ge
      repeat(first|refine o_nil ?_|(refine o_pass (wants_no rfl rfl rfl ?_) rfl ?_;(focus(first|rfl|assumption|(simp;done)|(simp;omega))))|refine o_pass (wants_not rfl rfl rfl) rfl ?_|(refine o_yes (wants_yes rfl rfl rfl ?_) ?_;(focus(first|rfl|assumption|(simp;done)|(simp;omega))))|refine k_region ?_|(apply k_go;(focus(constructor<;>rfl)))|refine d_nil ?_|(apply o_s;(focus(first|(constructor<;>first|rfl|omega)|(apply Ri.add3<;>first|rfl|omega)|(apply Ri.sub3<;>first|rfl|omega)|(apply Ri.eqb<;>rfl)|(apply Ri.neb<;>rfl)|(apply Ri.pT;(focus rfl);(focus(first|rfl|assumption|(simp;done)|(simp;omega)));(focus rfl))|(apply Ri.pF;(focus rfl);(focus(first|rfl|assumption|(simp;done)|(simp;omega)));(focus rfl))));(focus rfl)))
      refine o_any (e_append2 (d := kRune) rfl rfl hO8 (nb8.kn.sl hw7.old) (by
        intro k hk he
        have := (hO8.block k he).1
        simp only [noB] at this
        omega) (by show (0 + L.length) * 4 ≤ 140737488355328; omega) rfl rfl rfl) (wants_none rfl) rfl ?_
      rintro v9 w9 hA9
      obtain ⟨k9, hO9⟩ := app_next nb8.kn hO8 hA9
      rw [List.nil_append] at hO9
      obtain ⟨A9, c9, rfl, _⟩ := hO9.form
      have z9 := k9.size
      obtain ⟨vL, vS, hR7⟩ := hd7.r
      have hb9 := k9.blk hR7.hb id
      have hgl := blk_lt hR7.hb
      repeat(first|refine o_nil ?_|(refine o_pass (wants_no rfl rfl rfl ?_) rfl ?_;(focus(first|rfl|assumption|(simp;done)|(simp;omega))))|refine o_pass (wants_not rfl rfl rfl) rfl ?_|(refine o_yes (wants_yes rfl rfl rfl ?_) ?_;(focus(first|rfl|assumption|(simp;done)|(simp;omega))))|refine k_region ?_|(apply k_go;(focus(constructor<;>rfl)))|refine d_nil ?_|(apply o_s;(focus(first|(constructor<;>first|rfl|omega)|(apply Ri.add3<;>first|rfl|omega)|(apply Ri.sub3<;>first|rfl|omega)|(apply Ri.eqb<;>rfl)|(apply Ri.neb<;>rfl)|(apply Ri.pT;(focus rfl);(focus(first|rfl|assumption|(simp;done)|(simp;omega)));(focus rfl))|(apply Ri.pF;(focus rfl);(focus(first|rfl|assumption|(simp;done)|(simp;omega)));(focus rfl))));(focus rfl)))
      refine o_unit (u_store (i := 0) rfl rfl rfl (by simp only [add_plain, Nat.zero_add, Nat.add_zero]) hb9 (show 0 < 2 by decide)) (wants_none rfl) rfl ?_
      rintro w10 hw10
      have z10 := hw10.kp.size
      have hp := hR7.putL (L2 := L) (Kp.then k9 hw10.kp (fun _ h => h.elim) (fun _ _ h => h)) hw10.at_ (Kp.sl hw10.kp (hO9.slF (F' := noB w7) (fun _ h => h) fun _ h => h.elim) fun k hk => by simp only [noB] at hk; omega) hLs
      have hd10 : DuoP false W D7 (fun k => grownD E7 w7 k ∧ k < w10.heap.size) g gh w10 { Ti with row := row0 } L [] :=
        ⟨fun k hk => ⟨(hd7.dd k hk).1, by have := (hd7.dd k hk).2; omega⟩, fun k hk => ⟨hk.1.elim (fun h => (hd7.ee k h).1) fun h => by have := kn7.size; omega, hk.2⟩, fun k hk hk' => hk'.1.elim (fun h => hd7.de k hk h) fun h => by have := (hd7.dd k hk).2; omega, hd7.t.kp hp.1 fun k hk hk' => hd7.de k hk hk', ⟨_, _, hp.2.mono fun k hk hl => ⟨hk, hl⟩⟩, fun h => by cases h⟩
      have kn10 : Kn W w10 := Kp.then kn7 hp.1 (fun _ h => h) fun k hk hke => by have := (hd7.ee k hke).1; omega
      have hw10w : Sl kRune (fun k => wr.heap.size ≤ k ∧ k < w2.heap.size) w10 (.slice A2 L.length c2) L := Kp.sl hp.1 hw7 fun k hk hke => hap7 k hk (.inr hke)
      repeat(first|refine o_nil ?_|(refine o_pass (wants_no rfl rfl rfl ?_) rfl ?_;(focus(first|rfl|assumption|(simp;done)|(simp;omega))))|refine o_pass (wants_not rfl rfl rfl) rfl ?_|(refine o_yes (wants_yes rfl rfl rfl ?_) ?_;(focus(first|rfl|assumption|(simp;done)|(simp;omega))))|refine k_region ?_|(apply k_go;(focus(constructor<;>rfl)))|refine d_nil ?_|(apply o_s;(focus(first|(constructor<;>first|rfl|omega)|(apply Ri.add3<;>first|rfl|omega)|(apply Ri.sub3<;>first|rfl|omega)|(apply Ri.eqb<;>rfl)|(apply Ri.neb<;>rfl)|(apply Ri.pT;(focus rfl);(focus(first|rfl|assumption|(simp;done)|(simp;omega)));(focus rfl))|(apply Ri.pF;(focus rfl);(focus(first|rfl|assumption|(simp;done)|(simp;omega)));(focus rfl))));(focus rfl)))
      refine o_enter (n_call rfl) (wants_none rfl) rfl ((whole_calls hd10.t).mono ?_)
      rintro _ w11 ⟨k11, vw, rfl, hO11⟩
      rw [show flat ({ Ti with row := row0 } : Tab).store ({ Ti with row := row0 } : Tab).row = L from hfli] at hO11
      obtain ⟨Aw, cw, rfl, _⟩ := hO11.form
      repeat(first|refine o_nil ?_|(refine o_pass (wants_no rfl rfl rfl ?_) rfl ?_;(focus(first|rfl|assumption|(simp;done)|(simp;omega))))|refine o_pass (wants_not rfl rfl rfl) rfl ?_|(refine o_yes (wants_yes rfl rfl rfl ?_) ?_;(focus(first|rfl|assumption|(simp;done)|(simp;omega))))|refine k_region ?_|(apply k_go;(focus(constructor<;>rfl)))|refine d_nil ?_|(apply o_s;(focus(first|(constructor<;>first|rfl|omega)|(apply Ri.add3<;>first|rfl|omega)|(apply Ri.sub3<;>first|rfl|omega)|(apply Ri.eqb<;>rfl)|(apply Ri.neb<;>rfl)|(apply Ri.pT;(focus rfl);(focus(first|rfl|assumption|(simp;done)|(simp;omega)));(focus rfl))|(apply Ri.pF;(focus rfl);(focus(first|rfl|assumption|(simp;done)|(simp;omega)));(focus rfl))));(focus rfl)))
      refine o_enter (n_call rfl) (wants_none rfl) rfl ((runes_calls (hO11.slF (F' := noB w10) (fun _ h => h) fun _ h => h.elim) (k11.sl hw10w)).mono ?_)
      rintro v12 w12 ⟨k12, hv⟩
      rw [decide_eq_true rfl] at hv
      subst hv
      have kk : Kn w10 w12 := k11.trans k12
      have zk := kk.size
      repeat(first|refine o_nil ?_|(refine o_pass (wants_no rfl rfl rfl ?_) rfl ?_;(focus(first|rfl|assumption|(simp;done)|(simp;omega))))|refine o_pass (wants_not rfl rfl rfl) rfl ?_|(refine o_yes (wants_yes rfl rfl rfl ?_) ?_;(focus(first|rfl|assumption|(simp;done)|(simp;omega))))|refine k_region ?_|(apply k_go;(focus(constructor<;>rfl)))|refine d_nil ?_|(apply o_s;(focus(first|(constructor<;>first|rfl|omega)|(apply Ri.add3<;>first|rfl|omega)|(apply Ri.sub3<;>first|rfl|omega)|(apply Ri.eqb<;>rfl)|(apply Ri.neb<;>rfl)|(apply Ri.pT;(focus rfl);(focus(first|rfl|assumption|(simp;done)|(simp;omega)));(focus rfl))|(apply Ri.pF;(focus rfl);(focus(first|rfl|assumption|(simp;done)|(simp;omega)));(focus rfl))));(focus rfl)))
      refine k_false rfl ?_
      repeat(first|refine o_nil ?_|(refine o_pass (wants_no rfl rfl rfl ?_) rfl ?_;(focus(first|rfl|assumption|(simp;done)|(simp;omega))))|refine o_pass (wants_not rfl rfl rfl) rfl ?_|(refine o_yes (wants_yes rfl rfl rfl ?_) ?_;(focus(first|rfl|assumption|(simp;done)|(simp;omega))))|refine k_region ?_|(apply k_go;(focus(constructor<;>rfl)))|refine d_nil ?_|(apply o_s;(focus(first|(constructor<;>first|rfl|omega)|(apply Ri.add3<;>first|rfl|omega)|(apply Ri.sub3<;>first|rfl|omega)|(apply Ri.eqb<;>rfl)|(apply Ri.neb<;>rfl)|(apply Ri.pT;(focus rfl);(focus(first|rfl|assumption|(simp;done)|(simp;omega)));(focus rfl))|(apply Ri.pF;(focus rfl);(focus(first|rfl|assumption|(simp;done)|(simp;omega)));(focus rfl))));(focus rfl)))
      exact ih ⟨k + 1, { Ti with row := row0 }, L⟩ w12 ⟨by show k + 1 ≤ 2; omega, kn10.trans kk, ⟨_, _, hd10.kn kk, fun q hq hde => hde.elim (fun h => hap7 q hq (.inl h)) fun h => h.1.elim (fun h => hap7 q hq (.inr h)) fun h => by omega⟩, kk.sl hw10w, hsvi, hfli, kp_big hsti hi30, by show w2.heap.size ≤ w12.heap.size; omega⟩ (by show 2 - (k + 1) < 2 - k; omega) _ (by repeat (first | exact SubB.nil | refine SubB.cons rfl ?_))
    by_cases h1 : i < ds2.length
    · have h2 : ¬ i < 30 := by omega
      repeat(first|refine o_nil ?_|(refine o_pass (wants_no rfl rfl rfl ?_) rfl ?_;(focus(first|rfl|assumption|(simp;done)|(simp;omega))))|refine o_pass (wants_not rfl rfl rfl) rfl ?_|(refine o_yes (wants_yes rfl rfl rfl ?_) ?_;(focus(first|rfl|assumption|(simp;done)|(simp;omega))))|refine k_region ?_|(apply k_go;(focus(constructor<;>rfl)))|refine d_nil ?_|(apply o_s;(focus(first|(constructor<;>first|rfl|omega)|(apply Ri.add3<;>first|rfl|omega)|(apply Ri.sub3<;>first|rfl|omega)|(apply Ri.eqb<;>rfl)|(apply Ri.neb<;>rfl)|(apply Ri.pT;(focus rfl);(focus(first|rfl|assumption|(simp;done)|(simp;omega)));(focus rfl))|(apply Ri.pF;(focus rfl);(focus(first|rfl|assumption|(simp;done)|(simp;omega)));(focus rfl))));(focus rfl)))
      refine k_no rfl (by omega) ?_
      refine k_exit rfl ?_
      exact J2 _ (by repeat (first | exact SubB.nil | refine SubB.cons rfl ?_))
    · repeat(first|refine o_nil ?_|(refine o_pass (wants_no rfl rfl rfl ?_) rfl ?_;(focus(first|rfl|assumption|(simp;done)|(simp;omega))))|refine o_pass (wants_not rfl rfl rfl) rfl ?_|(refine o_yes (wants_yes rfl rfl rfl ?_) ?_;(focus(first|rfl|assumption|(simp;done)|(simp;omega))))|refine k_region ?_|(apply k_go;(focus(constructor<;>rfl)))|refine d_nil ?_|(apply o_s;(focus(first|(constructor<;>first|rfl|omega)|(apply Ri.add3<;>first|rfl|omega)|(apply Ri.sub3<;>first|rfl|omega)|(apply Ri.eqb<;>rfl)|(apply Ri.neb<;>rfl)|(apply Ri.pT;(focus rfl);(focus(first|rfl|assumption|(simp;done)|(simp;omega)));(focus rfl))|(apply Ri.pF;(focus rfl);(focus(first|rfl|assumption|(simp;done)|(simp;omega)));(focus rfl))));(focus rfl)))
      refine k_false rfl ?_
      refine k_exit rfl ?_
      exact J2 _ (by repeat (first | exact SubB.nil | refine SubB.cons rfl ?_))
  by_cases h1 : i < ds.length
  · have h2 : ¬ i < 30 := by omega
    repeat(first|refine o_nil ?_|(refine o_pass (wants_no rfl rfl rfl ?_) rfl ?_;(focus(first|rfl|assumption|(simp;done)|(simp;omega))))|refine o_pass (wants_not rfl rfl rfl) rfl ?_|(refine o_yes (wants_yes rfl rfl rfl ?_) ?_;(focus(first|rfl|assumption|(simp;done)|(simp;omega))))|refine k_region ?_|(apply k_go;(focus(constructor<;>rfl)))|refine d_nil ?_|(apply o_s;(focus(first|(constructor<;>first|rfl|omega)|(apply Ri.add3<;>first|rfl|omega)|(apply Ri.sub3<;>first|rfl|omega)|(apply Ri.eqb<;>rfl)|(apply Ri.neb<;>rfl)|(apply Ri.pT;(focus rfl);(focus(first|rfl|assumption|(simp;done)|(simp;omega)));(focus rfl))|(apply Ri.pF;(focus rfl);(focus(first|rfl|assumption|(simp;done)|(simp;omega)));(focus rfl))));(focus rfl)))
    refine k_no rfl (by omega) ?_
    refine k_exit rfl ?_
    exact J _ (by repeat (first | exact SubB.nil | refine SubB.cons rfl ?_))
  · repeat(first|refine o_nil ?_|(refine o_pass (wants_no rfl rfl rfl ?_) rfl ?_;(focus(first|rfl|assumption|(simp;done)|(simp;omega))))|refine o_pass (wants_not rfl rfl rfl) rfl ?_|(refine o_yes (wants_yes rfl rfl rfl ?_) ?_;(focus(first|rfl|assumption|(simp;done)|(simp;omega))))|refine k_region ?_|(apply k_go;(focus(constructor<;>rfl)))|refine d_nil ?_|(apply o_s;(focus(first|(constructor<;>first|rfl|omega)|(apply Ri.add3<;>first|rfl|omega)|(apply Ri.sub3<;>first|rfl|omega)|(apply Ri.eqb<;>rfl)|(apply Ri.neb<;>rfl)|(apply Ri.pT;(focus rfl);(focus(first|rfl|assumption|(simp;done)|(simp;omega)));(focus rfl))|(apply Ri.pF;(focus rfl);(focus(first|rfl|assumption|(simp;done)|(simp;omega)));(focus rfl))));(focus rfl)))
    refine k_false rfl ?_
    refine k_exit rfl ?_
    exact J _ (by repeat (first | exact SubB.nil | refine SubB.cons rfl ?_))
end Go.Ink
