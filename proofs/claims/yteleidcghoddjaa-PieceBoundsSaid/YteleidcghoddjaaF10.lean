/-
  Both tables side by side; whole, do.
-/
import Derived.Test.YteleidcghoddjaaP1
import Derived.Test.YteleidcghoddjaaRn
import Derived.Test.YteleidcghoddjaaRead
set_option linter.unusedVariables false
set_option linter.unusedSimpArgs false
namespace Go.Ink
open Go Go.Proofs

structure Deed where
  kind : Int
  at_ : Int
  n : Int
  l : List Int
def kDeed : Kd Deed := kIso (kPair kI64 (kPair kI64 (kPair kI64 kRow))) (fun d => (d.kind, d.at_, d.n, d.l)) 48 (by decide)
instance : StrucT Try.prog 29 [3, 3, 3, 22] := ⟨by kernel_rfl, by kernel_rfl⟩
instance : RdT Try.prog 29 kDeed := rd_struct (g := fun p => ⟨p.1, p.2.1, p.2.2.1, p.2.2.2⟩) inferInstance inferInstance (fun _ => rfl) (by kernel_rfl) (by kernel_rfl)
theorem deed_cells {F : Nat → Prop} {w : World} {d : Deed} {cs : List Value} (h : kDeed.R F w d cs) : ∃ v, cs = [.int .i64 d.kind, .int .i64 d.at_, .int .i64 d.n, v] ∧ Sl kRune F w v d.l ∧
    (-9223372036854775808 ≤ d.kind ∧ d.kind ≤ 9223372036854775807) ∧ (-9223372036854775808 ≤ d.at_ ∧ d.at_ ≤ 9223372036854775807) ∧ (-9223372036854775808 ≤ d.n ∧ d.n ≤ 9223372036854775807) := by
  obtain ⟨c1, c2, rfl, ⟨rfl, h1, h2⟩, c3, c4, rfl, ⟨rfl, h3, h4⟩, c5, c6, rfl, ⟨rfl, h5, h6⟩, v, rfl, h7⟩ := h
  exact ⟨v, rfl, h7, ⟨h1, h2⟩, ⟨h3, h4⟩, ⟨h5, h6⟩⟩
/-- Both tables, apart from one another and from all that was there at W. -/
structure DuoP (b : Bool) (W : World) (D E : Nat → Prop) (g h : Nat) (w : World) (T : Tab) (L : List Int) (S : List (List Int)) : Prop where
  dd : ∀ k, D k → W.heap.size ≤ k ∧ k < w.heap.size
  ee : ∀ k, E k → W.heap.size ≤ k ∧ k < w.heap.size
  de : ∀ k, D k → ¬ E k
  t : IsTab D g w T
  r : IsRef E h w L S
  rel : b = true → Rel T L S
def Duo (b : Bool) (W : World) (g h : Nat) (w : World) (T : Tab) (L : List Int) (S : List (List Int)) : Prop := ∃ D E, DuoP b W D E g h w T L S
section
variable {b : Bool} {W w w' w2 : World} {g h : Nat} {T T' : Tab} {L L' xs : List Int} {S S' : List (List Int)} {D E : Nat → Prop} {x u : Value}
theorem IsTab.ok (h : IsTab D g w T) : SpOK T.store T.row ∧ (∀ r ∈ T.saved, SpOK T.store r) ∧ tot T.row ≤ 65536 := let ⟨_, _, _, h⟩ := h; ⟨h.ok, h.oks, h.small.2.2⟩
theorem Duo.kp {Q : Nat → Prop} (hd : DuoP b W D E g h w T L S) (hk : Kp Q w w') (hq : ∀ k, D k ∨ E k → ¬ Q k) : DuoP b W D E g h w' T L S :=
  ⟨fun k hk' => ⟨(hd.dd k hk').1, Nat.lt_of_lt_of_le (hd.dd k hk').2 hk.size⟩, fun k hk' => ⟨(hd.ee k hk').1, Nat.lt_of_lt_of_le (hd.ee k hk').2 hk.size⟩, hd.de, hd.t.kp hk fun k hk => hq k (.inl hk), hd.r.kp hk fun k hk => hq k (.inr hk), hd.rel⟩
theorem DuoP.kn (hd : DuoP b W D E g h w T L S) (hk : Kn w w') : DuoP b W D E g h w' T L S := Duo.kp hd hk fun _ _ h => h
/-- Behind a call on the table. -/
theorem DuoP.tab (hd : DuoP b W D E g h w T L S) (hW : W.heap.size ≤ w.heap.size) (hq : TabQ D g w T' x u w') (hr : b = true → Rel T' L S) : DuoP b W (fun k => grownD D w k ∧ k < w'.heap.size) E g h w' T' L S := by
  obtain ⟨h1, h2, h3⟩ := hq
  have hz := h1.size
  refine ⟨fun k hk => ⟨hk.1.elim (fun h => (hd.dd k h).1) fun h => by omega, hk.2⟩, fun k hk => ⟨(hd.ee k hk).1, by have := (hd.ee k hk).2; omega⟩, fun k hk he => hk.1.elim (fun h => hd.de k h he) fun h => by have := (hd.ee k he).2; omega, h2.mono fun k hk hl => ⟨hk, hl⟩, hd.r.kp h1 fun k hk hk' => hd.de k hk' hk, hr⟩
theorem DuoP.tabr (hd : DuoP b W D E g h w T L S) (hW : W.heap.size ≤ w.heap.size) (h1 : Kp D w w') (h2 : IsTab (grownD D w) g w' T') : IsTab (fun k => grownD D w k ∧ k < w'.heap.size) g w' T' ∧ IsRef E h w' L S ∧ (∀ k, (grownD D w k ∧ k < w'.heap.size) → W.heap.size ≤ k ∧ k < w'.heap.size) ∧ (∀ k, E k → W.heap.size ≤ k ∧ k < w'.heap.size) ∧ (∀ k, (grownD D w k ∧ k < w'.heap.size) → ¬ E k) := by
  have hz := h1.size
  refine ⟨h2.mono fun k hk hl => ⟨hk, hl⟩, hd.r.kp h1 fun k hk hk' => hd.de k hk' hk, fun k hk => ⟨hk.1.elim (fun h => (hd.dd k h).1) fun h => by omega, hk.2⟩, fun k hk => ⟨(hd.ee k hk).1, by have := (hd.ee k hk).2; omega⟩, fun k hk he => hk.1.elim (fun h => hd.de k h he) fun h => by have := (hd.ee k he).2; omega⟩
theorem whole_calls (hT : IsTab D g w T) : CallsR Try.prog 13 #[.pointer (some ⟨g, 0, none⟩)] w fun u w' => Kn w w' ∧ ∃ v, u = .tuple #[v, .bool true] ∧ Ow kRune (noB w) (fun _ => False) w' v (flat T.store T.row) := by
  have hok := hT.ok
  have ht := hok.1.tot_nonneg
  have hfl := flat_len hok.1
  refine calls_enter Try.func13 rfl rfl ?_
  repeat(first|refine o_nil ?_|(refine o_pass (wants_no rfl rfl rfl ?_) rfl ?_;(focus(first|rfl|assumption|(simp;done)|(simp;omega))))|refine o_pass (wants_not rfl rfl rfl) rfl ?_|(refine o_yes (wants_yes rfl rfl rfl ?_) ?_;(focus(first|rfl|assumption|(simp;done)|(simp;omega))))|refine k_region ?_|(apply k_go;(focus(constructor<;>rfl)))|refine d_nil ?_|(apply o_s;(focus(first|(constructor<;>first|rfl|omega)|(apply Ri.add3<;>first|rfl|omega)|(apply Ri.sub3<;>first|rfl|omega)|(apply Ri.eqb<;>rfl)|(apply Ri.neb<;>rfl)|(apply Ri.pT;(focus rfl);(focus(first|rfl|assumption|(simp;done)|(simp;omega)));(focus rfl))|(apply Ri.pF;(focus rfl);(focus(first|rfl|assumption|(simp;done)|(simp;omega)));(focus rfl))));(focus rfl)))
  refine o_enter (n_call rfl) (wants_none rfl) rfl ((len_calls hT).mono ?_)
  rintro _ w ⟨rfl, rfl⟩
  refine o_enter (n_call rfl) (wants_none rfl) rfl ((slice_calls (a := 0) (n := tot T.row) hT (by decide) (by omega)).mono ?_)
  rintro _ w1 ⟨k1, v, rfl, hO⟩
  have he : sliceM T 0 (tot T.row) = (flat T.store T.row, 0) := by
    unfold sliceM
    rw [if_pos (fit_zero.2 ⟨by decide, ht, by omega⟩), show (0 : Int).toNat = 0 from rfl, List.drop_zero, List.take_of_length_le (by omega)]
  rw [he] at hO ⊢
  repeat(first|refine o_nil ?_|(refine o_pass (wants_no rfl rfl rfl ?_) rfl ?_;(focus(first|rfl|assumption|(simp;done)|(simp;omega))))|refine o_pass (wants_not rfl rfl rfl) rfl ?_|(refine o_yes (wants_yes rfl rfl rfl ?_) ?_;(focus(first|rfl|assumption|(simp;done)|(simp;omega))))|refine k_region ?_|(apply k_go;(focus(constructor<;>rfl)))|refine d_nil ?_|(apply o_s;(focus(first|(constructor<;>first|rfl|omega)|(apply Ri.add3<;>first|rfl|omega)|(apply Ri.sub3<;>first|rfl|omega)|(apply Ri.eqb<;>rfl)|(apply Ri.neb<;>rfl)|(apply Ri.pT;(focus rfl);(focus(first|rfl|assumption|(simp;done)|(simp;omega)));(focus rfl))|(apply Ri.pF;(focus rfl);(focus(first|rfl|assumption|(simp;done)|(simp;omega)));(focus rfl))));(focus rfl)))
  exact k_ret2 rfl rfl rfl ⟨k1, v, rfl, hO⟩
end
end Go.Ink
