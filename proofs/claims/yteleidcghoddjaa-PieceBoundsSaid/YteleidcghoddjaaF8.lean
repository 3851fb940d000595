/-
  The document's table: New, Insert, Delete, Slice, Save, Back.
-/
import Derived.Test.YteleidcghoddjaaF7
set_option linter.unusedVariables false
set_option linter.unusedSimpArgs false
namespace Go.Ink
open Go Go.Proofs

structure IsRefP (D : Nat → Prop) (g : Nat) (w : World) (L : List Int) (S : List (List Int)) (vL vS : Value) : Prop where
  ge : D g
  hb : w.heap[g]? = some (.cells #[vL, vS] 34 (0, 0))
  l : Sl kRune (fun k => D k ∧ k ≠ g ∧ vS.ownBlock ≠ some k) w vL L
  s : Ow kRow (fun k => D k ∧ k ≠ g) (fun k => D k ∧ k ≠ g) w vS S
  small : L.length ≤ 65536 ∧ S.length ≤ 1099511627776 ∧ ∀ r ∈ S, r.length ≤ 65536
def IsRef (D : Nat → Prop) (g : Nat) (w : World) (L : List Int) (S : List (List Int)) : Prop := ∃ vL vS, IsRefP D g w L S vL vS
def RefQ (D : Nat → Prop) (g : Nat) (w : World) (L : List Int) (S : List (List Int)) (x : Value) (u : Value) (w' : World) : Prop := Kp D w w' ∧ IsRef (grownD D w) g w' L S ∧ u = x
section
variable {D D' : Nat → Prop} {g : Nat} {w w' : World} {L : List Int} {S : List (List Int)} {vL vS : Value}
theorem IsRefP.mono (h : IsRefP D g w L S vL vS) (hd : ∀ k, D k → k < w.heap.size → D' k) : IsRefP D' g w L S vL vS :=
  ⟨hd g h.ge (blk_lt h.hb), h.hb, h.l.mono fun k hk hl => ⟨hd k hk.1 hl, hk.2⟩, h.s.mono (fun k hk hl => ⟨hd k hk.1 hl, hk.2⟩) (fun k hk hl => ⟨hd k hk.1 hl, hk.2⟩), h.small⟩
theorem IsRefP.kp {Q : Nat → Prop} (h : IsRefP D g w L S vL vS) (hk : Kp Q w w') (hs : ∀ k, D k → ¬ Q k) : IsRefP D g w' L S vL vS :=
  ⟨h.ge, hk.blk h.hb (hs g h.ge), Kp.sl hk h.l fun k hk => hs k hk.1, Kp.ow hk h.s (fun k hk => hs k hk.1) (fun k hk => hs k hk.1), h.small⟩
theorem IsRefP.kn (h : IsRefP D g w L S vL vS) (hk : Kn w w') : IsRefP D g w' L S vL vS := h.kp hk fun _ _ h => h
theorem IsRef.mono (h : IsRef D g w L S) (hd : ∀ k, D k → k < w.heap.size → D' k) : IsRef D' g w L S := let ⟨_, _, h⟩ := h; ⟨_, _, h.mono hd⟩
theorem IsRef.kp {Q : Nat → Prop} (h : IsRef D g w L S) (hk : Kp Q w w') (hs : ∀ k, D k → ¬ Q k) : IsRef D g w' L S := let ⟨_, _, h⟩ := h; ⟨_, _, h.kp hk hs⟩
theorem IsRef.kn (h : IsRef D g w L S) (hk : Kn w w') : IsRef D g w' L S := h.kp hk fun _ _ h => h
theorem IsRef.grow (h : IsRef D g w L S) : IsRef (grownD D w) g w L S := h.mono fun k hk _ => .inl hk
theorem IsRefP.putL (h : IsRefP D g w L S vL vS) {w2 : World} {L2 : List Int} {vL2 : Value} (hk : Kp (fun k => k = g) w w2) (hb : w2.heap[g]? = some (.cells #[vL2, vS] 34 (0, 0))) (hl : Sl kRune (noB w) w2 vL2 L2) (hz : L2.length ≤ 65536) :
    Kp D w w2 ∧ IsRefP (grownD D w) g w2 L2 S vL2 vS := by
  refine ⟨hk.mono fun i _ hi => hi ▸ h.ge, .inl h.ge, hb, hl.mono fun k hk _ => ⟨.inr hk, ?_, fun he => ?_⟩, ?_, hz, h.small.2⟩
  · have := blk_lt h.hb; simp only [noB] at hk; omega
  · have := (h.s.block k he).2; simp only [noB] at hk; omega
  · exact (Kp.ow hk h.s (fun k hk => hk.2) (fun k hk => hk.2)).mono (fun k hk _ => ⟨.inl hk.1, hk.2⟩) (fun k hk _ => ⟨.inl hk.1, hk.2⟩)
theorem refnew_calls {F : Nat → Prop} {v : Value} {xs : List Int} (h : Sl kRune F w v xs) (hx : xs.length ≤ 65536) :
    CallsR Try.prog 10 #[v] w fun u w' => Kn w w' ∧ ∃ g, u = .pointer (some ⟨g, 0, none⟩) ∧ IsRef (noB w) g w' xs [] := by
  obtain ⟨A, c, rfl, hc, hl⟩ := h.form
  refine calls_enter Try.func10 rfl rfl ?_
  repeat(first|refine o_nil ?_|(refine o_pass (wants_no rfl rfl rfl ?_) rfl ?_;(focus(first|rfl|assumption|(simp;done)|(simp;omega))))|refine o_pass (wants_not rfl rfl rfl) rfl ?_|(refine o_yes (wants_yes rfl rfl rfl ?_) ?_;(focus(first|rfl|assumption|(simp;done)|(simp;omega))))|refine k_region ?_|(apply k_go;(focus(constructor<;>rfl)))|refine d_nil ?_|(apply o_s;(focus(first|(constructor<;>first|rfl|omega)|(apply Ri.add3<;>first|rfl|omega)|(apply Ri.sub3<;>first|rfl|omega)|(apply Ri.eqb<;>rfl)|(apply Ri.neb<;>rfl)|(apply Ri.pT;(focus rfl);(focus(first|rfl|assumption|(simp;done)|(simp;omega)));(focus rfl))|(apply Ri.pF;(focus rfl);(focus(first|rfl|assumption|(simp;done)|(simp;omega)));(focus rfl))));(focus rfl)))
  refine k_no rfl (by omega) ?_
  repeat(first|refine o_nil ?_|(refine o_pass (wants_no rfl rfl rfl ?_) rfl ?_;(focus(first|rfl|assumption|(simp;done)|(simp;omega))))|refine o_pass (wants_not rfl rfl rfl) rfl ?_|(refine o_yes (wants_yes rfl rfl rfl ?_) ?_;(focus(first|rfl|assumption|(simp;done)|(simp;omega))))|refine k_region ?_|(apply k_go;(focus(constructor<;>rfl)))|refine d_nil ?_|(apply o_s;(focus(first|(constructor<;>first|rfl|omega)|(apply Ri.add3<;>first|rfl|omega)|(apply Ri.sub3<;>first|rfl|omega)|(apply Ri.eqb<;>rfl)|(apply Ri.neb<;>rfl)|(apply Ri.pT;(focus rfl);(focus(first|rfl|assumption|(simp;done)|(simp;omega)));(focus rfl))|(apply Ri.pF;(focus rfl);(focus(first|rfl|assumption|(simp;done)|(simp;omega)));(focus rfl))));(focus rfl)))
  refine o_any (e_lit0) (wants_none rfl) rfl ?_
  rintro _ w1 ⟨g1, rfl, nb1⟩
  have hO1 : Ow kRune (noB w) (fun _ => False) w1 (.slice (some ⟨g1, 0, none⟩) 0 0) [] := ow_lit0 nb1 nb1.ge
  have z1 := nb1.kn.size
  repeat(first|refine o_nil ?_|(refine o_pass (wants_no rfl rfl rfl ?_) rfl ?_;(focus(first|rfl|assumption|(simp;done)|(simp;omega))))|refine o_pass (wants_not rfl rfl rfl) rfl ?_|(refine o_yes (wants_yes rfl rfl rfl ?_) ?_;(focus(first|rfl|assumption|(simp;done)|(simp;omega))))|refine k_region ?_|(apply k_go;(focus(constructor<;>rfl)))|refine d_nil ?_|(apply o_s;(focus(first|(constructor<;>first|rfl|omega)|(apply Ri.add3<;>first|rfl|omega)|(apply Ri.sub3<;>first|rfl|omega)|(apply Ri.eqb<;>rfl)|(apply Ri.neb<;>rfl)|(apply Ri.pT;(focus rfl);(focus(first|rfl|assumption|(simp;done)|(simp;omega)));(focus rfl))|(apply Ri.pF;(focus rfl);(focus(first|rfl|assumption|(simp;done)|(simp;omega)));(focus rfl))));(focus rfl)))
  refine o_any (e_append2 (d := kRune) rfl rfl hO1 (nb1.kn.sl h.old) (by
    intro k hk he
    have := (hO1.block k he).1
    simp only [noB] at this
    omega) (by show (0 + xs.length) * 4 ≤ 140737488355328; omega) rfl rfl rfl) (wants_none rfl) rfl ?_
  rintro v2 w2 hA
  obtain ⟨k2, hO2⟩ := app_next nb1.kn hO1 hA
  obtain ⟨A2, c2, rfl, _⟩ := hO2.form
  refine o_still (r_build (c := #[.slice A2 ([] ++ xs).length c2, .slice none 0 0]) rfl rfl) (wants_none rfl) rfl ?_
  refine o_any (e_box rfl) (wants_none rfl) rfl ?_
  rintro _ w3 ⟨g3, rfl, nb3⟩
  have e3 := nb3.ge
  have z2 := k2.size
  repeat(first|refine o_nil ?_|(refine o_pass (wants_no rfl rfl rfl ?_) rfl ?_;(focus(first|rfl|assumption|(simp;done)|(simp;omega))))|refine o_pass (wants_not rfl rfl rfl) rfl ?_|(refine o_yes (wants_yes rfl rfl rfl ?_) ?_;(focus(first|rfl|assumption|(simp;done)|(simp;omega))))|refine k_region ?_|(apply k_go;(focus(constructor<;>rfl)))|refine d_nil ?_|(apply o_s;(focus(first|(constructor<;>first|rfl|omega)|(apply Ri.add3<;>first|rfl|omega)|(apply Ri.sub3<;>first|rfl|omega)|(apply Ri.eqb<;>rfl)|(apply Ri.neb<;>rfl)|(apply Ri.pT;(focus rfl);(focus(first|rfl|assumption|(simp;done)|(simp;omega)));(focus rfl))|(apply Ri.pF;(focus rfl);(focus(first|rfl|assumption|(simp;done)|(simp;omega)));(focus rfl))));(focus rfl)))
  refine k_ret1 rfl rfl ⟨k2.trans nb3.kn, g3, rfl, _, _, ?_, nb3.at_, ?_, Ow.nil _ _ _ _, by simpa using hx, by simp, by simp⟩
  · simp only [noB]; omega
  · exact (nb3.kn.sl (hO2.sl.mono (F' := fun k => noB w k ∧ k < w2.heap.size) fun k hk hl => ⟨hk.resolve_right id, hl⟩)).mono fun k hk _ => ⟨hk.1, by have := hk.2; omega, by simp [Value.ownBlock]⟩
def rinsM (L : List Int) (a : Int) (xs : List Int) : List Int × Int := if a < 0 ∨ L.length < a then (L, 2) else if 65536 - (L.length : Int) < xs.length then (L, 3) else (L.take a.toNat ++ xs ++ L.drop a.toNat, 0)
def rfitM (L : List Int) (a n : Int) : Prop := 0 ≤ a ∧ 0 ≤ n ∧ a + n ≤ L.length
instance (L : List Int) (a n : Int) : Decidable (rfitM L a n) := inferInstanceAs (Decidable (_ ∧ _))
def rdelM (L : List Int) (a n : Int) : List Int × Int := if rfitM L a n then (L.take a.toNat ++ L.drop (a + n).toNat, 0) else (L, 2)
def rsliceM (L : List Int) (a n : Int) : List Int × Int := if rfitM L a n then ((L.drop a.toNat).take n.toNat, 0) else ([], 2)
def rbackM (L : List Int) (S : List (List Int)) (id : Int) : List Int × Int := if id < 1 ∨ S.length < id then (L, 4) else (S.getD (id - 1).toNat [], 0)
set_option maxHeartbeats 1000000 in
theorem refins_calls {F : Nat → Prop} {v : Value} {xs : List Int} {a : Int} (h : IsRef D g w L S) (ha : -9223372036854775808 ≤ a ∧ a ≤ 9223372036854775807) (hv : Sl kRune F w v xs) :
    CallsR Try.prog 22 #[.pointer (some ⟨g, 0, none⟩), .int .i64 a, v] w (RefQ D g w (rinsM L a xs).1 S (.int .i64 (rinsM L a xs).2)) := by
  have hT0 := h
  obtain ⟨vL, vS, hT⟩ := h
  have hsm := hT.small
  obtain ⟨A, c, rfl, hc, hl⟩ := hv.form
  have hlen := hl.len
  obtain ⟨B, cB, rfl, hcB, _⟩ := hT.l.form
  have m0 : w.cell? ⟨g, 0, none⟩ = some (.slice B L.length cB) := blk_cell hT.hb
  have same : ∀ e : Int, rinsM L a xs = (L, e) → RefQ D g w (rinsM L a xs).1 S (.int .i64 (rinsM L a xs).2) (.int .i64 e) w := fun e he => ⟨Kp.refl _ _, by rw [he]; exact hT0.grow, by rw [he]⟩
  refine calls_enter Try.func22 rfl rfl ?_
  by_cases hr : a < 0 ∨ L.length < a
  · have he : rinsM L a xs = (L, 2) := by unfold rinsM; rw [if_pos hr]
    by_cases h1 : a < 0
    · repeat(first|refine o_nil ?_|(refine o_pass (wants_no rfl rfl rfl ?_) rfl ?_;(focus(first|rfl|assumption|(simp;done)|(simp;omega))))|refine o_pass (wants_not rfl rfl rfl) rfl ?_|(refine o_yes (wants_yes rfl rfl rfl ?_) ?_;(focus(first|rfl|assumption|(simp;done)|(simp;omega))))|refine k_region ?_|(apply k_go;(focus(constructor<;>rfl)))|refine d_nil ?_|(apply o_s;(focus(first|(constructor<;>first|rfl|omega)|(apply Ri.add3<;>first|rfl|omega)|(apply Ri.sub3<;>first|rfl|omega)|(apply Ri.eqb<;>rfl)|(apply Ri.neb<;>rfl)|(apply Ri.pT;(focus rfl);(focus(first|rfl|assumption|(simp;done)|(simp;omega)));(focus rfl))|(apply Ri.pF;(focus rfl);(focus(first|rfl|assumption|(simp;done)|(simp;omega)));(focus rfl))));(focus rfl)))
      refine k_true rfl ?_
      repeat(first|refine o_nil ?_|(refine o_pass (wants_no rfl rfl rfl ?_) rfl ?_;(focus(first|rfl|assumption|(simp;done)|(simp;omega))))|refine o_pass (wants_not rfl rfl rfl) rfl ?_|(refine o_yes (wants_yes rfl rfl rfl ?_) ?_;(focus(first|rfl|assumption|(simp;done)|(simp;omega))))|refine k_region ?_|(apply k_go;(focus(constructor<;>rfl)))|refine d_nil ?_|(apply o_s;(focus(first|(constructor<;>first|rfl|omega)|(apply Ri.add3<;>first|rfl|omega)|(apply Ri.sub3<;>first|rfl|omega)|(apply Ri.eqb<;>rfl)|(apply Ri.neb<;>rfl)|(apply Ri.pT;(focus rfl);(focus(first|rfl|assumption|(simp;done)|(simp;omega)));(focus rfl))|(apply Ri.pF;(focus rfl);(focus(first|rfl|assumption|(simp;done)|(simp;omega)));(focus rfl))));(focus rfl)))
      exact k_ret1 rfl rfl (same 2 he)
    · repeat(first|refine o_nil ?_|(refine o_pass (wants_no rfl rfl rfl ?_) rfl ?_;(focus(first|rfl|assumption|(simp;done)|(simp;omega))))|refine o_pass (wants_not rfl rfl rfl) rfl ?_|(refine o_yes (wants_yes rfl rfl rfl ?_) ?_;(focus(first|rfl|assumption|(simp;done)|(simp;omega))))|refine k_region ?_|(apply k_go;(focus(constructor<;>rfl)))|refine d_nil ?_|(apply o_s;(focus(first|(constructor<;>first|rfl|omega)|(apply Ri.add3<;>first|rfl|omega)|(apply Ri.sub3<;>first|rfl|omega)|(apply Ri.eqb<;>rfl)|(apply Ri.neb<;>rfl)|(apply Ri.pT;(focus rfl);(focus(first|rfl|assumption|(simp;done)|(simp;omega)));(focus rfl))|(apply Ri.pF;(focus rfl);(focus(first|rfl|assumption|(simp;done)|(simp;omega)));(focus rfl))));(focus rfl)))
      refine o_still (r_load rfl m0) (wants_none rfl) rfl ?_
      repeat(first|refine o_nil ?_|(refine o_pass (wants_no rfl rfl rfl ?_) rfl ?_;(focus(first|rfl|assumption|(simp;done)|(simp;omega))))|refine o_pass (wants_not rfl rfl rfl) rfl ?_|(refine o_yes (wants_yes rfl rfl rfl ?_) ?_;(focus(first|rfl|assumption|(simp;done)|(simp;omega))))|refine k_region ?_|(apply k_go;(focus(constructor<;>rfl)))|refine d_nil ?_|(apply o_s;(focus(first|(constructor<;>first|rfl|omega)|(apply Ri.add3<;>first|rfl|omega)|(apply Ri.sub3<;>first|rfl|omega)|(apply Ri.eqb<;>rfl)|(apply Ri.neb<;>rfl)|(apply Ri.pT;(focus rfl);(focus(first|rfl|assumption|(simp;done)|(simp;omega)));(focus rfl))|(apply Ri.pF;(focus rfl);(focus(first|rfl|assumption|(simp;done)|(simp;omega)));(focus rfl))));(focus rfl)))
      refine k_yes rfl (by omega) ?_
      repeat(first|refine o_nil ?_|(refine o_pass (wants_no rfl rfl rfl ?_) rfl ?_;(focus(first|rfl|assumption|(simp;done)|(simp;omega))))|refine o_pass (wants_not rfl rfl rfl) rfl ?_|(refine o_yes (wants_yes rfl rfl rfl ?_) ?_;(focus(first|rfl|assumption|(simp;done)|(simp;omega))))|refine k_region ?_|(apply k_go;(focus(constructor<;>rfl)))|refine d_nil ?_|(apply o_s;(focus(first|(constructor<;>first|rfl|omega)|(apply Ri.add3<;>first|rfl|omega)|(apply Ri.sub3<;>first|rfl|omega)|(apply Ri.eqb<;>rfl)|(apply Ri.neb<;>rfl)|(apply Ri.pT;(focus rfl);(focus(first|rfl|assumption|(simp;done)|(simp;omega)));(focus rfl))|(apply Ri.pF;(focus rfl);(focus(first|rfl|assumption|(simp;done)|(simp;omega)));(focus rfl))));(focus rfl)))
      exact k_ret1 rfl rfl (same 2 he)
  repeat(first|refine o_nil ?_|(refine o_pass (wants_no rfl rfl rfl ?_) rfl ?_;(focus(first|rfl|assumption|(simp;done)|(simp;omega))))|refine o_pass (wants_not rfl rfl rfl) rfl ?_|(refine o_yes (wants_yes rfl rfl rfl ?_) ?_;(focus(first|rfl|assumption|(simp;done)|(simp;omega))))|refine k_region ?_|(apply k_go;(focus(constructor<;>rfl)))|refine d_nil ?_|(apply o_s;(focus(first|(constructor<;>first|rfl|omega)|(apply Ri.add3<;>first|rfl|omega)|(apply Ri.sub3<;>first|rfl|omega)|(apply Ri.eqb<;>rfl)|(apply Ri.neb<;>rfl)|(apply Ri.pT;(focus rfl);(focus(first|rfl|assumption|(simp;done)|(simp;omega)));(focus rfl))|(apply Ri.pF;(focus rfl);(focus(first|rfl|assumption|(simp;done)|(simp;omega)));(focus rfl))));(focus rfl)))
  refine o_still (r_load rfl m0) (wants_none rfl) rfl ?_
  repeat(first|refine o_nil ?_|(refine o_pass (wants_no rfl rfl rfl ?_) rfl ?_;(focus(first|rfl|assumption|(simp;done)|(simp;omega))))|refine o_pass (wants_not rfl rfl rfl) rfl ?_|(refine o_yes (wants_yes rfl rfl rfl ?_) ?_;(focus(first|rfl|assumption|(simp;done)|(simp;omega))))|refine k_region ?_|(apply k_go;(focus(constructor<;>rfl)))|refine d_nil ?_|(apply o_s;(focus(first|(constructor<;>first|rfl|omega)|(apply Ri.add3<;>first|rfl|omega)|(apply Ri.sub3<;>first|rfl|omega)|(apply Ri.eqb<;>rfl)|(apply Ri.neb<;>rfl)|(apply Ri.pT;(focus rfl);(focus(first|rfl|assumption|(simp;done)|(simp;omega)));(focus rfl))|(apply Ri.pF;(focus rfl);(focus(first|rfl|assumption|(simp;done)|(simp;omega)));(focus rfl))));(focus rfl)))
  refine k_no rfl (by omega) ?_
  repeat(first|refine o_nil ?_|(refine o_pass (wants_no rfl rfl rfl ?_) rfl ?_;(focus(first|rfl|assumption|(simp;done)|(simp;omega))))|refine o_pass (wants_not rfl rfl rfl) rfl ?_|(refine o_yes (wants_yes rfl rfl rfl ?_) ?_;(focus(first|rfl|assumption|(simp;done)|(simp;omega))))|refine k_region ?_|(apply k_go;(focus(constructor<;>rfl)))|refine d_nil ?_|(apply o_s;(focus(first|(constructor<;>first|rfl|omega)|(apply Ri.add3<;>first|rfl|omega)|(apply Ri.sub3<;>first|rfl|omega)|(apply Ri.eqb<;>rfl)|(apply Ri.neb<;>rfl)|(apply Ri.pT;(focus rfl);(focus(first|rfl|assumption|(simp;done)|(simp;omega)));(focus rfl))|(apply Ri.pF;(focus rfl);(focus(first|rfl|assumption|(simp;done)|(simp;omega)));(focus rfl))));(focus rfl)))
  refine o_still (r_load rfl m0) (wants_none rfl) rfl ?_
  repeat(first|refine o_nil ?_|(refine o_pass (wants_no rfl rfl rfl ?_) rfl ?_;(focus(first|rfl|assumption|(simp;done)|(simp;omega))))|refine o_pass (wants_not rfl rfl rfl) rfl ?_|(refine o_yes (wants_yes rfl rfl rfl ?_) ?_;(focus(first|rfl|assumption|(simp;done)|(simp;omega))))|refine k_region ?_|(apply k_go;(focus(constructor<;>rfl)))|refine d_nil ?_|(apply o_s;(focus(first|(constructor<;>first|rfl|omega)|(apply Ri.add3<;>first|rfl|omega)|(apply Ri.sub3<;>first|rfl|omega)|(apply Ri.eqb<;>rfl)|(apply Ri.neb<;>rfl)|(apply Ri.pT;(focus rfl);(focus(first|rfl|assumption|(simp;done)|(simp;omega)));(focus rfl))|(apply Ri.pF;(focus rfl);(focus(first|rfl|assumption|(simp;done)|(simp;omega)));(focus rfl))));(focus rfl)))
  by_cases hf : 65536 - (L.length : Int) < xs.length
  · have he : rinsM L a xs = (L, 3) := by unfold rinsM; rw [if_neg hr, if_pos hf]
    refine k_yes rfl (by omega) ?_
    repeat(first|refine o_nil ?_|(refine o_pass (wants_no rfl rfl rfl ?_) rfl ?_;(focus(first|rfl|assumption|(simp;done)|(simp;omega))))|refine o_pass (wants_not rfl rfl rfl) rfl ?_|(refine o_yes (wants_yes rfl rfl rfl ?_) ?_;(focus(first|rfl|assumption|(simp;done)|(simp;omega))))|refine k_region ?_|(apply k_go;(focus(constructor<;>rfl)))|refine d_nil ?_|(apply o_s;(focus(first|(constructor<;>first|rfl|omega)|(apply Ri.add3<;>first|rfl|omega)|(apply Ri.sub3<;>first|rfl|omega)|(apply Ri.eqb<;>rfl)|(apply Ri.neb<;>rfl)|(apply Ri.pT;(focus rfl);(focus(first|rfl|assumption|(simp;done)|(simp;omega)));(focus rfl))|(apply Ri.pF;(focus rfl);(focus(first|rfl|assumption|(simp;done)|(simp;omega)));(focus rfl))));(focus rfl)))
    exact k_ret1 rfl rfl (same 3 he)
  have he : rinsM L a xs = (L.take a.toNat ++ xs ++ L.drop a.toNat, 0) := by unfold rinsM; rw [if_neg hr, if_neg hf]
  rw [he]
  obtain ⟨i, rfl⟩ : ∃ i : Nat, a = i := ⟨a.toNat, by omega⟩
  simp only [Int.toNat_natCast]
  clear same he
  refine k_no rfl (by omega) ?_
  have hO : Ow kRune (noB w) (fun _ => False) w (.slice none 0 0) [] := Ow.nil _ _ _ _
  have hL := hT.l.old
  repeat(first|refine o_nil ?_|(refine o_pass (wants_no rfl rfl rfl ?_) rfl ?_;(focus(first|rfl|assumption|(simp;done)|(simp;omega))))|refine o_pass (wants_not rfl rfl rfl) rfl ?_|(refine o_yes (wants_yes rfl rfl rfl ?_) ?_;(focus(first|rfl|assumption|(simp;done)|(simp;omega))))|refine k_region ?_|(apply k_go;(focus(constructor<;>rfl)))|refine d_nil ?_|(apply o_s;(focus(first|(constructor<;>first|rfl|omega)|(apply Ri.add3<;>first|rfl|omega)|(apply Ri.sub3<;>first|rfl|omega)|(apply Ri.eqb<;>rfl)|(apply Ri.neb<;>rfl)|(apply Ri.pT;(focus rfl);(focus(first|rfl|assumption|(simp;done)|(simp;omega)));(focus rfl))|(apply Ri.pF;(focus rfl);(focus(first|rfl|assumption|(simp;done)|(simp;omega)));(focus rfl))));(focus rfl)))
  refine o_still (r_load rfl m0) (wants_none rfl) rfl ?_
  repeat(first|refine o_nil ?_|(refine o_pass (wants_no rfl rfl rfl ?_) rfl ?_;(focus(first|rfl|assumption|(simp;done)|(simp;omega))))|refine o_pass (wants_not rfl rfl rfl) rfl ?_|(refine o_yes (wants_yes rfl rfl rfl ?_) ?_;(focus(first|rfl|assumption|(simp;done)|(simp;omega))))|refine k_region ?_|(apply k_go;(focus(constructor<;>rfl)))|refine d_nil ?_|(apply o_s;(focus(first|(constructor<;>first|rfl|omega)|(apply Ri.add3<;>first|rfl|omega)|(apply Ri.sub3<;>first|rfl|omega)|(apply Ri.eqb<;>rfl)|(apply Ri.neb<;>rfl)|(apply Ri.pT;(focus rfl);(focus(first|rfl|assumption|(simp;done)|(simp;omega)));(focus rfl))|(apply Ri.pF;(focus rfl);(focus(first|rfl|assumption|(simp;done)|(simp;omega)));(focus rfl))));(focus rfl)))
  refine o_still (r_slice rfl 0 i cB rfl ⟨_, rfl⟩ rfl (by omega) (by omega) (by omega)) (wants_none rfl) rfl ?_
  refine o_any (e_append2 (d := kRune) rfl rfl hO (hL.cutV (l := 0) (hi := i) (m := cB) (by omega) (by omega) (by omega) (by omega)) (by intro k hk he; simp [Value.ownBlock] at he) (by rw [List.drop_zero, List.length_take]; show (0 + min i _) * 4 ≤ 140737488355328; omega) rfl rfl rfl) (wants_none rfl) rfl ?_
  rintro v1 w1 hA1
  obtain ⟨k1, hO1⟩ := app_next (Kp.refl _ _) hO hA1
  rw [List.drop_zero, List.nil_append] at hO1
  obtain ⟨A1, c1, rfl, _⟩ := hO1.form
  repeat(first|refine o_nil ?_|(refine o_pass (wants_no rfl rfl rfl ?_) rfl ?_;(focus(first|rfl|assumption|(simp;done)|(simp;omega))))|refine o_pass (wants_not rfl rfl rfl) rfl ?_|(refine o_yes (wants_yes rfl rfl rfl ?_) ?_;(focus(first|rfl|assumption|(simp;done)|(simp;omega))))|refine k_region ?_|(apply k_go;(focus(constructor<;>rfl)))|refine d_nil ?_|(apply o_s;(focus(first|(constructor<;>first|rfl|omega)|(apply Ri.add3<;>first|rfl|omega)|(apply Ri.sub3<;>first|rfl|omega)|(apply Ri.eqb<;>rfl)|(apply Ri.neb<;>rfl)|(apply Ri.pT;(focus rfl);(focus(first|rfl|assumption|(simp;done)|(simp;omega)));(focus rfl))|(apply Ri.pF;(focus rfl);(focus(first|rfl|assumption|(simp;done)|(simp;omega)));(focus rfl))));(focus rfl)))
  refine o_any (e_append2 (d := kRune) rfl rfl hO1 (k1.sl hv.old) (by
    intro k hk he
    have := (hO1.block k he).1
    simp only [noB] at this
    omega) (by rw [List.length_take]; show (min i _ + xs.length) * 4 ≤ 140737488355328; omega) rfl rfl rfl) (wants_none rfl) rfl ?_
  rintro v2 w2 hA2
  obtain ⟨k2, hO2⟩ := app_next k1 hO1 hA2
  obtain ⟨A2, c2, rfl, _⟩ := hO2.form
  repeat(first|refine o_nil ?_|(refine o_pass (wants_no rfl rfl rfl ?_) rfl ?_;(focus(first|rfl|assumption|(simp;done)|(simp;omega))))|refine o_pass (wants_not rfl rfl rfl) rfl ?_|(refine o_yes (wants_yes rfl rfl rfl ?_) ?_;(focus(first|rfl|assumption|(simp;done)|(simp;omega))))|refine k_region ?_|(apply k_go;(focus(constructor<;>rfl)))|refine d_nil ?_|(apply o_s;(focus(first|(constructor<;>first|rfl|omega)|(apply Ri.add3<;>first|rfl|omega)|(apply Ri.sub3<;>first|rfl|omega)|(apply Ri.eqb<;>rfl)|(apply Ri.neb<;>rfl)|(apply Ri.pT;(focus rfl);(focus(first|rfl|assumption|(simp;done)|(simp;omega)));(focus rfl))|(apply Ri.pF;(focus rfl);(focus(first|rfl|assumption|(simp;done)|(simp;omega)));(focus rfl))));(focus rfl)))
  refine o_still (r_load rfl (k2.cell m0 id)) (wants_none rfl) rfl ?_
  repeat(first|refine o_nil ?_|(refine o_pass (wants_no rfl rfl rfl ?_) rfl ?_;(focus(first|rfl|assumption|(simp;done)|(simp;omega))))|refine o_pass (wants_not rfl rfl rfl) rfl ?_|(refine o_yes (wants_yes rfl rfl rfl ?_) ?_;(focus(first|rfl|assumption|(simp;done)|(simp;omega))))|refine k_region ?_|(apply k_go;(focus(constructor<;>rfl)))|refine d_nil ?_|(apply o_s;(focus(first|(constructor<;>first|rfl|omega)|(apply Ri.add3<;>first|rfl|omega)|(apply Ri.sub3<;>first|rfl|omega)|(apply Ri.eqb<;>rfl)|(apply Ri.neb<;>rfl)|(apply Ri.pT;(focus rfl);(focus(first|rfl|assumption|(simp;done)|(simp;omega)));(focus rfl))|(apply Ri.pF;(focus rfl);(focus(first|rfl|assumption|(simp;done)|(simp;omega)));(focus rfl))));(focus rfl)))
  refine o_still (r_slice rfl i L.length cB rfl ⟨rfl, rfl⟩ ⟨_, rfl⟩ (by omega) (by omega) (by omega)) (wants_none rfl) rfl ?_
  refine o_any (e_append2 (d := kRune) rfl rfl hO2 ((k2.sl hL).cutV (l := i) (hi := L.length) (m := cB) (by omega) (by omega) (by omega) (by omega)) (by
    intro k hk he
    have := (hO2.block k he).1
    simp only [noB] at this
    omega) (by simp only [List.length_append, List.length_take, List.length_drop]; show (min i _ + xs.length + _) * 4 ≤ 140737488355328; omega) rfl rfl rfl) (wants_none rfl) rfl ?_
  rintro v3 w3 hA3
  obtain ⟨k3, hO3⟩ := app_next k2 hO2 hA3
  rw [List.take_length] at hO3
  obtain ⟨A3, c3, rfl, _⟩ := hO3.form
  have hg := blk_lt hT.hb
  repeat(first|refine o_nil ?_|(refine o_pass (wants_no rfl rfl rfl ?_) rfl ?_;(focus(first|rfl|assumption|(simp;done)|(simp;omega))))|refine o_pass (wants_not rfl rfl rfl) rfl ?_|(refine o_yes (wants_yes rfl rfl rfl ?_) ?_;(focus(first|rfl|assumption|(simp;done)|(simp;omega))))|refine k_region ?_|(apply k_go;(focus(constructor<;>rfl)))|refine d_nil ?_|(apply o_s;(focus(first|(constructor<;>first|rfl|omega)|(apply Ri.add3<;>first|rfl|omega)|(apply Ri.sub3<;>first|rfl|omega)|(apply Ri.eqb<;>rfl)|(apply Ri.neb<;>rfl)|(apply Ri.pT;(focus rfl);(focus(first|rfl|assumption|(simp;done)|(simp;omega)));(focus rfl))|(apply Ri.pF;(focus rfl);(focus(first|rfl|assumption|(simp;done)|(simp;omega)));(focus rfl))));(focus rfl)))
  refine o_unit (u_store (i := 0) rfl rfl rfl (by simp only [add_plain, Nat.zero_add, Nat.add_zero]) (k3.blk hT.hb id) (show 0 < 2 by decide)) (wants_none rfl) rfl ?_
  rintro w4 hw4
  repeat(first|refine o_nil ?_|(refine o_pass (wants_no rfl rfl rfl ?_) rfl ?_;(focus(first|rfl|assumption|(simp;done)|(simp;omega))))|refine o_pass (wants_not rfl rfl rfl) rfl ?_|(refine o_yes (wants_yes rfl rfl rfl ?_) ?_;(focus(first|rfl|assumption|(simp;done)|(simp;omega))))|refine k_region ?_|(apply k_go;(focus(constructor<;>rfl)))|refine d_nil ?_|(apply o_s;(focus(first|(constructor<;>first|rfl|omega)|(apply Ri.add3<;>first|rfl|omega)|(apply Ri.sub3<;>first|rfl|omega)|(apply Ri.eqb<;>rfl)|(apply Ri.neb<;>rfl)|(apply Ri.pT;(focus rfl);(focus(first|rfl|assumption|(simp;done)|(simp;omega)));(focus rfl))|(apply Ri.pF;(focus rfl);(focus(first|rfl|assumption|(simp;done)|(simp;omega)));(focus rfl))));(focus rfl)))
  have hq := hT.putL (L2 := L.take i ++ xs ++ L.drop i) (Kp.then k3 hw4.kp (fun _ h => h.elim) (fun _ _ h => h)) hw4.at_ (Kp.sl hw4.kp (hO3.slF (F' := noB w) (fun _ h => h) fun _ h => h.elim) fun k hk => by simp only [noB] at hk; omega) (by simp only [List.length_append, List.length_take, List.length_drop]; omega)
  exact k_ret1 rfl rfl ⟨hq.1, ⟨_, _, hq.2⟩, rfl⟩
end
end Go.Ink
