/-
  object.opening, brackets.
-/
import Derived.Test.YtabmggnljijhkaaF7
import Derived.Test.YtabmggnljijhkaaEq2
set_option linter.unusedVariables false
set_option linter.unusedSimpArgs false
namespace Go.Ink
open Go Go.Proofs

instance : Eq2T Try.prog 24 .i64 := eq2_struct (e := 3) (by kernel_rfl) (by kernel_rfl) (by kernel_rfl) (by kernel_rfl) (by kernel_rfl)
instance : Eq2T Try.prog 40 .i32 := eq2_arr (by kernel_rfl)
/-- A cursor's place in lines that are few. -/
structure InL (l : List (List Int)) (p : Ps) : Prop where
  r : ∀ x ∈ l, x.length ≤ 4000
  n : l.length ≤ 4000
  i : 0 ≤ p.1 ∧ p.1 < l.length
  k : 0 ≤ p.2 ∧ p.2 ≤ (l.getD p.1.toNat []).length
def rowOf (l : List (List Int)) (p : Ps) : List Int := l.getD p.1.toNat []
def openM (l : List (List Int)) (p : Ps) (o s : Int) : Option Ps :=
  if (if p.2 < (rowOf l p).length then (rowOf l p).getD p.2.toNat 0 else 0) = o then some p
  else pairM l p s o false (if (if p.2 < (rowOf l p).length then (rowOf l p).getD p.2.toNat 0 else 0) = s then 1 else 2)
theorem lineM_in {row : List Int} {x y by_ : Int} : ∀ n k d q e, lineM row x y by_ n k d = (some q, e) → 0 ≤ q ∧ q < row.length ∧ (row.getD q.toNat 0 = x ∨ row.getD q.toNat 0 = y)
  | 0, k, d, q, e, h => by simp [lineM] at h
  | n + 1, k, d, q, e, h => by
    unfold lineM at h
    split at h
    · next hin =>
      split at h
      · next hx =>
        split at h
        · simp only [Prod.mk.injEq, Option.some.injEq] at h; rw [← h.1]; exact ⟨hin.1, hin.2, .inl hx⟩
        · exact lineM_in n _ _ q e h
      · split at h
        · next hy =>
          split at h
          · simp only [Prod.mk.injEq, Option.some.injEq] at h; rw [← h.1]; exact ⟨hin.1, hin.2, .inr hy⟩
          · exact lineM_in n _ _ q e h
        · exact lineM_in n _ _ q e h
    · simp at h
theorem pairGo_in {l : List (List Int)} {p : Ps} {x y by_ : Int} : ∀ n i d q, pairGo l p x y by_ n i d = some q → 0 ≤ q.1 ∧ q.1 < l.length ∧ 0 ≤ q.2 ∧ q.2 < (l.getD q.1.toNat []).length
  | 0, i, d, q, h => by simp [pairGo] at h
  | n + 1, i, d, q, h => by
    unfold pairGo at h
    split at h
    · next hin =>
      split at h
      · next k e he =>
        cases h
        have := lineM_in _ _ _ _ _ he
        exact ⟨hin.1, hin.2, this.1, this.2.1⟩
      · next e he => exact pairGo_in n _ _ q h
    · simp at h
theorem InL.pair {l : List (List Int)} {p q : Ps} {x y want : Int} {b : Bool} (h : InL l p) (hq : pairM l p x y b want = some q) : InL l q ∧ q.2 < (rowOf l q).length := by
  obtain ⟨h1, h2, h3, h4⟩ := pairGo_in _ _ _ _ hq
  exact ⟨⟨h.r, h.n, ⟨h1, h2⟩, ⟨h3, by omega⟩⟩, h4⟩
theorem InL.opening {l : List (List Int)} {p q : Ps} {o s : Int} (h : InL l p) (hq : openM l p o s = some q) : InL l q := by
  unfold openM at hq
  generalize (if p.2 < (rowOf l p).length then (rowOf l p).getD p.2.toNat 0 else 0) = at_ at hq
  by_cases h1 : at_ = o
  · rw [if_pos h1] at hq; cases hq; exact h
  · rw [if_neg h1] at hq; exact (h.pair hq).1
section
variable {F : Nat → Prop} {w : World} {v : Value} {l : List (List Int)} {p : Ps} {o s : Int}
abbrev prV (o s : Int) : Value := .agg #[.int .i32 o, .int .i32 s]
set_option maxHeartbeats 2000000 in
theorem opening_calls (h : Sl kRow F w v l) (hin : InL l p) : CallsR Try.prog 37 #[v, posV p, prV o s] w fun u w' => Kn w w' ∧ u = pairV p (openM l p o s) := by
  obtain ⟨A, c, rfl, hc, hlf⟩ := h.form
  have hlen := hlf.len
  obtain ⟨i, hi⟩ : ∃ i : Nat, p.1 = i := ⟨p.1.toNat, by have := hin.i; omega⟩
  obtain ⟨k, hk⟩ : ∃ k : Nat, p.2 = k := ⟨p.2.toNat, by have := hin.k; omega⟩
  have hil : i < l.length := by have := hin.i; omega
  have hgd : rowOf l p = l[i] := by unfold rowOf; rw [hi, Int.toNat_natCast]; exact getD_get hil
  refine calls_enter Try.func37 rfl rfl ?_
  repeat(first|refine o_nil ?_|(refine o_pass (wants_no rfl rfl rfl ?_) rfl ?_;(focus(first|rfl|assumption|(simp;done)|(simp;omega))))|refine o_pass (wants_not rfl rfl rfl) rfl ?_|(refine o_yes (wants_yes rfl rfl rfl ?_) ?_;(focus(first|rfl|assumption|(simp;done)|(simp;omega))))|refine k_region ?_|(apply k_go;(focus(constructor<;>rfl)))|refine d_nil ?_|(apply o_s;(focus(first|(constructor<;>first|rfl|omega)|(apply Ri.add3<;>first|rfl|omega)|(apply Ri.sub3<;>first|rfl|omega)|(apply Ri.conv3<;>first|rfl|omega)|(apply Ri.eqb<;>rfl)|(apply Ri.neb<;>rfl)|(apply Ri.pT;(focus rfl);(focus(first|rfl|assumption|(simp;done)|(simp;omega)));(focus rfl))|(apply Ri.pF;(focus rfl);(focus(first|rfl|assumption|(simp;done)|(simp;omega)));(focus rfl))));(focus rfl)))
  refine o_any (e_box rfl) (wants_none rfl) rfl ?_
  rintro _ w1 ⟨g4, rfl, nb4⟩
  refine o_any (e_box rfl) (wants_none rfl) rfl ?_
  rintro _ w2 ⟨g5, rfl, nb5⟩
  refine o_any (e_alloc) (wants_none rfl) rfl ?_
  rintro _ w3 ⟨g6, rfl, nb6⟩
  have k3 : Kn w w3 := (nb4.kn.trans nb5.kn).trans nb6.kn
  have b4 := (nb5.kn.trans nb6.kn).blk nb4.at_ id
  have b5 := nb6.kn.blk nb5.at_ id
  have b6 := nb6.at_
  have e6 := nb6.ge
  have z1 := nb4.kn.size
  have z2 := nb5.kn.size
  have p0 : w3.cell? ⟨g4, 0, none⟩ = some (.int .i64 p.1) := blk_cell b4
  have p1 : w3.cell? ⟨g4, 1, none⟩ = some (.int .i64 p.2) := blk_cell b4
  have o0 : w3.cell? ⟨g5, 0, none⟩ = some (.int .i32 o) := blk_cell b5
  have o1 : w3.cell? ⟨g5, 1, none⟩ = some (.int .i32 s) := blk_cell b5
  have lp : ∀ j u, [Value.int .i64 p.1, .int .i64 p.2][j]? = some u → w3.cell? ((⟨g4, 0, none⟩ : Addr).add j) = some u := by
    intro j u hu
    match j, hu with
    | 0, hu => cases hu; exact p0
    | 1, hu => cases hu; exact p1
  clear nb4 nb5 nb6 b4 b5
  obtain ⟨ad, cs, rfl, ⟨v1, rfl, hrow⟩, hcell⟩ := h.at_ (List.getElem?_eq_getElem hil)
  obtain ⟨A1, c1, rfl, hc1, hf1⟩ := hrow.form
  have hlx := hf1.len
  have hld : w3.cell? (ad.add (i * 1)) = some (.slice A1 l[i].length c1) := k3.cell (p := ad.add (i * 1)) (hcell 0 _ rfl) id
  have J : ∀ at_ : Int, (if p.2 < (rowOf l p).length then (rowOf l p).getD p.2.toNat 0 else 0) = at_ → ∀ σ', SubB σ' [(0, .slice (some ad) l.length c), (4, .pointer (some ⟨g4, 0, none⟩)), (5, .pointer (some ⟨g5, 0, none⟩)), (6, .pointer (some ⟨g6, 0, none⟩)), (8, .int .i32 at_)] →
      WK Try.prog Try.f37 [.code (bodyC Try.f37 [1, 1, 1])] σ' w3 fun u w' => Kn w w' ∧ u = pairV p (openM l p o s) := by
    intro at_ hat σ' hs
    refine WK.sub (Sub.mk hs) ?_
    clear hs σ'
    have hom : openM l p o s = if at_ = o then some p else pairM l p s o false (if at_ = s then 1 else 2) := by unfold openM; rw [hat]
    repeat(first|refine o_nil ?_|(refine o_pass (wants_no rfl rfl rfl ?_) rfl ?_;(focus(first|rfl|assumption|(simp;done)|(simp;omega))))|refine o_pass (wants_not rfl rfl rfl) rfl ?_|(refine o_yes (wants_yes rfl rfl rfl ?_) ?_;(focus(first|rfl|assumption|(simp;done)|(simp;omega))))|refine k_region ?_|(apply k_go;(focus(constructor<;>rfl)))|refine d_nil ?_|(apply o_s;(focus(first|(constructor<;>first|rfl|omega)|(apply Ri.add3<;>first|rfl|omega)|(apply Ri.sub3<;>first|rfl|omega)|(apply Ri.conv3<;>first|rfl|omega)|(apply Ri.eqb<;>rfl)|(apply Ri.neb<;>rfl)|(apply Ri.pT;(focus rfl);(focus(first|rfl|assumption|(simp;done)|(simp;omega)));(focus rfl))|(apply Ri.pF;(focus rfl);(focus(first|rfl|assumption|(simp;done)|(simp;omega)));(focus rfl))));(focus rfl)))
    refine o_still (r_indexA rfl rfl (by decide) (by decide)) (wants_none rfl) rfl ?_
    refine o_still (r_load rfl o0) (wants_none rfl) rfl ?_
    repeat(first|refine o_nil ?_|(refine o_pass (wants_no rfl rfl rfl ?_) rfl ?_;(focus(first|rfl|assumption|(simp;done)|(simp;omega))))|refine o_pass (wants_not rfl rfl rfl) rfl ?_|(refine o_yes (wants_yes rfl rfl rfl ?_) ?_;(focus(first|rfl|assumption|(simp;done)|(simp;omega))))|refine k_region ?_|(apply k_go;(focus(constructor<;>rfl)))|refine d_nil ?_|(apply o_s;(focus(first|(constructor<;>first|rfl|omega)|(apply Ri.add3<;>first|rfl|omega)|(apply Ri.sub3<;>first|rfl|omega)|(apply Ri.conv3<;>first|rfl|omega)|(apply Ri.eqb<;>rfl)|(apply Ri.neb<;>rfl)|(apply Ri.pT;(focus rfl);(focus(first|rfl|assumption|(simp;done)|(simp;omega)));(focus rfl))|(apply Ri.pF;(focus rfl);(focus(first|rfl|assumption|(simp;done)|(simp;omega)));(focus rfl))));(focus rfl)))
    by_cases h1 : at_ = o
    · rw [if_pos h1] at hom
      refine k_yes rfl h1 ?_
      repeat(first|refine o_nil ?_|(refine o_pass (wants_no rfl rfl rfl ?_) rfl ?_;(focus(first|rfl|assumption|(simp;done)|(simp;omega))))|refine o_pass (wants_not rfl rfl rfl) rfl ?_|(refine o_yes (wants_yes rfl rfl rfl ?_) ?_;(focus(first|rfl|assumption|(simp;done)|(simp;omega))))|refine k_region ?_|(apply k_go;(focus(constructor<;>rfl)))|refine d_nil ?_|(apply o_s;(focus(first|(constructor<;>first|rfl|omega)|(apply Ri.add3<;>first|rfl|omega)|(apply Ri.sub3<;>first|rfl|omega)|(apply Ri.conv3<;>first|rfl|omega)|(apply Ri.eqb<;>rfl)|(apply Ri.neb<;>rfl)|(apply Ri.pT;(focus rfl);(focus(first|rfl|assumption|(simp;done)|(simp;omega)));(focus rfl))|(apply Ri.pF;(focus rfl);(focus(first|rfl|assumption|(simp;done)|(simp;omega)));(focus rfl))));(focus rfl)))
      refine o_still (r_loadA (cs := [.int .i64 p.1, .int .i64 p.2]) rfl rfl lp) (wants_none rfl) rfl ?_
      refine o_unit (u_storeA rfl rfl rfl (by simp [Value.oneCell']) rfl b6 (Nat.le_refl 2)) (wants_none rfl) rfl ?_
      rintro w4 hw4
      repeat(first|refine o_nil ?_|(refine o_pass (wants_no rfl rfl rfl ?_) rfl ?_;(focus(first|rfl|assumption|(simp;done)|(simp;omega))))|refine o_pass (wants_not rfl rfl rfl) rfl ?_|(refine o_yes (wants_yes rfl rfl rfl ?_) ?_;(focus(first|rfl|assumption|(simp;done)|(simp;omega))))|refine k_region ?_|(apply k_go;(focus(constructor<;>rfl)))|refine d_nil ?_|(apply o_s;(focus(first|(constructor<;>first|rfl|omega)|(apply Ri.add3<;>first|rfl|omega)|(apply Ri.sub3<;>first|rfl|omega)|(apply Ri.conv3<;>first|rfl|omega)|(apply Ri.eqb<;>rfl)|(apply Ri.neb<;>rfl)|(apply Ri.pT;(focus rfl);(focus(first|rfl|assumption|(simp;done)|(simp;omega)));(focus rfl))|(apply Ri.pF;(focus rfl);(focus(first|rfl|assumption|(simp;done)|(simp;omega)));(focus rfl))));(focus rfl)))
      exact k_retR2 rfl (.agg rfl rfl (blk_all hw4.at_) (.tmp rfl .nil)) ⟨Kp.then k3 hw4.kp (fun _ h => h) fun i hi he => by omega, by rw [hom]; rfl⟩
    rw [if_neg h1] at hom
    refine k_no rfl h1 ?_
    have K : ∀ want : Int, want = (if at_ = s then 1 else 2) → ∀ σ', SubB σ' [(0, .slice (some ad) l.length c), (4, .pointer (some ⟨g4, 0, none⟩)), (5, .pointer (some ⟨g5, 0, none⟩)), (6, .pointer (some ⟨g6, 0, none⟩)), (10, .int .i64 want)] →
        WK Try.prog Try.f37 [.inBlock 0, .code (bodyC Try.f37 [1, 1, 1, 1, 1])] σ' w3 fun u w' => Kn w w' ∧ u = pairV p (openM l p o s) := by
      intro want hwant σ' hs
      refine WK.sub (Sub.mk hs) ?_
      clear hs σ'
      repeat(first|refine o_nil ?_|(refine o_pass (wants_no rfl rfl rfl ?_) rfl ?_;(focus(first|rfl|assumption|(simp;done)|(simp;omega))))|refine o_pass (wants_not rfl rfl rfl) rfl ?_|(refine o_yes (wants_yes rfl rfl rfl ?_) ?_;(focus(first|rfl|assumption|(simp;done)|(simp;omega))))|refine k_region ?_|(apply k_go;(focus(constructor<;>rfl)))|refine d_nil ?_|(apply o_s;(focus(first|(constructor<;>first|rfl|omega)|(apply Ri.add3<;>first|rfl|omega)|(apply Ri.sub3<;>first|rfl|omega)|(apply Ri.conv3<;>first|rfl|omega)|(apply Ri.eqb<;>rfl)|(apply Ri.neb<;>rfl)|(apply Ri.pT;(focus rfl);(focus(first|rfl|assumption|(simp;done)|(simp;omega)));(focus rfl))|(apply Ri.pF;(focus rfl);(focus(first|rfl|assumption|(simp;done)|(simp;omega)));(focus rfl))));(focus rfl)))
      refine o_still (r_loadA (cs := [.int .i64 p.1, .int .i64 p.2]) rfl rfl lp) (wants_none rfl) rfl ?_
      refine o_still (r_indexA rfl rfl (by decide) (by decide)) (wants_none rfl) rfl ?_
      refine o_still (r_load rfl o1) (wants_none rfl) rfl ?_
      refine o_still (r_indexA rfl rfl (by decide) (by decide)) (wants_none rfl) rfl ?_
      refine o_still (r_load rfl o0) (wants_none rfl) rfl ?_
      repeat(first|refine o_nil ?_|(refine o_pass (wants_no rfl rfl rfl ?_) rfl ?_;(focus(first|rfl|assumption|(simp;done)|(simp;omega))))|refine o_pass (wants_not rfl rfl rfl) rfl ?_|(refine o_yes (wants_yes rfl rfl rfl ?_) ?_;(focus(first|rfl|assumption|(simp;done)|(simp;omega))))|refine k_region ?_|(apply k_go;(focus(constructor<;>rfl)))|refine d_nil ?_|(apply o_s;(focus(first|(constructor<;>first|rfl|omega)|(apply Ri.add3<;>first|rfl|omega)|(apply Ri.sub3<;>first|rfl|omega)|(apply Ri.conv3<;>first|rfl|omega)|(apply Ri.eqb<;>rfl)|(apply Ri.neb<;>rfl)|(apply Ri.pT;(focus rfl);(focus(first|rfl|assumption|(simp;done)|(simp;omega)));(focus rfl))|(apply Ri.pF;(focus rfl);(focus(first|rfl|assumption|(simp;done)|(simp;omega)));(focus rfl))));(focus rfl)))
      refine o_enter (n_call rfl) (wants_none rfl) rfl ((pair_calls (p := p) (x := s) (y := o) (behind := false) (want := want) (k3.sl h) hin.r hin.n hin.i hin.k (by rw [hwant]; split <;> omega)).mono ?_)
      rintro _ w4 ⟨k4, rfl⟩
      have b64 := k4.blk b6 id
      rw [hwant, ← hom]
      cases hp : openM l p o s with
      | none =>
        repeat(first|refine o_nil ?_|(refine o_pass (wants_no rfl rfl rfl ?_) rfl ?_;(focus(first|rfl|assumption|(simp;done)|(simp;omega))))|refine o_pass (wants_not rfl rfl rfl) rfl ?_|(refine o_yes (wants_yes rfl rfl rfl ?_) ?_;(focus(first|rfl|assumption|(simp;done)|(simp;omega))))|refine k_region ?_|(apply k_go;(focus(constructor<;>rfl)))|refine d_nil ?_|(apply o_s;(focus(first|(constructor<;>first|rfl|omega)|(apply Ri.add3<;>first|rfl|omega)|(apply Ri.sub3<;>first|rfl|omega)|(apply Ri.conv3<;>first|rfl|omega)|(apply Ri.eqb<;>rfl)|(apply Ri.neb<;>rfl)|(apply Ri.pT;(focus rfl);(focus(first|rfl|assumption|(simp;done)|(simp;omega)));(focus rfl))|(apply Ri.pF;(focus rfl);(focus(first|rfl|assumption|(simp;done)|(simp;omega)));(focus rfl))));(focus rfl)))
        refine o_unit (u_storeA rfl rfl rfl (by simp [Value.oneCell']) rfl b64 (Nat.le_refl 2)) (wants_none rfl) rfl ?_
        rintro w5 hw5
        repeat(first|refine o_nil ?_|(refine o_pass (wants_no rfl rfl rfl ?_) rfl ?_;(focus(first|rfl|assumption|(simp;done)|(simp;omega))))|refine o_pass (wants_not rfl rfl rfl) rfl ?_|(refine o_yes (wants_yes rfl rfl rfl ?_) ?_;(focus(first|rfl|assumption|(simp;done)|(simp;omega))))|refine k_region ?_|(apply k_go;(focus(constructor<;>rfl)))|refine d_nil ?_|(apply o_s;(focus(first|(constructor<;>first|rfl|omega)|(apply Ri.add3<;>first|rfl|omega)|(apply Ri.sub3<;>first|rfl|omega)|(apply Ri.conv3<;>first|rfl|omega)|(apply Ri.eqb<;>rfl)|(apply Ri.neb<;>rfl)|(apply Ri.pT;(focus rfl);(focus(first|rfl|assumption|(simp;done)|(simp;omega)));(focus rfl))|(apply Ri.pF;(focus rfl);(focus(first|rfl|assumption|(simp;done)|(simp;omega)));(focus rfl))));(focus rfl)))
        exact k_retR2 rfl (.agg rfl rfl (blk_all hw5.at_) (.tmp rfl .nil)) ⟨Kp.then (k3.trans k4) hw5.kp (fun _ h => h) fun i hi he => by omega, rfl⟩
      | some q =>
        repeat(first|refine o_nil ?_|(refine o_pass (wants_no rfl rfl rfl ?_) rfl ?_;(focus(first|rfl|assumption|(simp;done)|(simp;omega))))|refine o_pass (wants_not rfl rfl rfl) rfl ?_|(refine o_yes (wants_yes rfl rfl rfl ?_) ?_;(focus(first|rfl|assumption|(simp;done)|(simp;omega))))|refine k_region ?_|(apply k_go;(focus(constructor<;>rfl)))|refine d_nil ?_|(apply o_s;(focus(first|(constructor<;>first|rfl|omega)|(apply Ri.add3<;>first|rfl|omega)|(apply Ri.sub3<;>first|rfl|omega)|(apply Ri.conv3<;>first|rfl|omega)|(apply Ri.eqb<;>rfl)|(apply Ri.neb<;>rfl)|(apply Ri.pT;(focus rfl);(focus(first|rfl|assumption|(simp;done)|(simp;omega)));(focus rfl))|(apply Ri.pF;(focus rfl);(focus(first|rfl|assumption|(simp;done)|(simp;omega)));(focus rfl))));(focus rfl)))
        refine o_unit (u_storeA rfl rfl rfl (by simp [Value.oneCell']) rfl b64 (Nat.le_refl 2)) (wants_none rfl) rfl ?_
        rintro w5 hw5
        repeat(first|refine o_nil ?_|(refine o_pass (wants_no rfl rfl rfl ?_) rfl ?_;(focus(first|rfl|assumption|(simp;done)|(simp;omega))))|refine o_pass (wants_not rfl rfl rfl) rfl ?_|(refine o_yes (wants_yes rfl rfl rfl ?_) ?_;(focus(first|rfl|assumption|(simp;done)|(simp;omega))))|refine k_region ?_|(apply k_go;(focus(constructor<;>rfl)))|refine d_nil ?_|(apply o_s;(focus(first|(constructor<;>first|rfl|omega)|(apply Ri.add3<;>first|rfl|omega)|(apply Ri.sub3<;>first|rfl|omega)|(apply Ri.conv3<;>first|rfl|omega)|(apply Ri.eqb<;>rfl)|(apply Ri.neb<;>rfl)|(apply Ri.pT;(focus rfl);(focus(first|rfl|assumption|(simp;done)|(simp;omega)));(focus rfl))|(apply Ri.pF;(focus rfl);(focus(first|rfl|assumption|(simp;done)|(simp;omega)));(focus rfl))));(focus rfl)))
        exact k_retR2 rfl (.agg rfl rfl (blk_all hw5.at_) (.tmp rfl .nil)) ⟨Kp.then (k3.trans k4) hw5.kp (fun _ h => h) fun i hi he => by omega, rfl⟩
    repeat(first|refine o_nil ?_|(refine o_pass (wants_no rfl rfl rfl ?_) rfl ?_;(focus(first|rfl|assumption|(simp;done)|(simp;omega))))|refine o_pass (wants_not rfl rfl rfl) rfl ?_|(refine o_yes (wants_yes rfl rfl rfl ?_) ?_;(focus(first|rfl|assumption|(simp;done)|(simp;omega))))|refine k_region ?_|(apply k_go;(focus(constructor<;>rfl)))|refine d_nil ?_|(apply o_s;(focus(first|(constructor<;>first|rfl|omega)|(apply Ri.add3<;>first|rfl|omega)|(apply Ri.sub3<;>first|rfl|omega)|(apply Ri.conv3<;>first|rfl|omega)|(apply Ri.eqb<;>rfl)|(apply Ri.neb<;>rfl)|(apply Ri.pT;(focus rfl);(focus(first|rfl|assumption|(simp;done)|(simp;omega)));(focus rfl))|(apply Ri.pF;(focus rfl);(focus(first|rfl|assumption|(simp;done)|(simp;omega)));(focus rfl))));(focus rfl)))
    refine o_still (r_indexA rfl rfl (by decide) (by decide)) (wants_none rfl) rfl ?_
    refine o_still (r_load rfl o1) (wants_none rfl) rfl ?_
    repeat(first|refine o_nil ?_|(refine o_pass (wants_no rfl rfl rfl ?_) rfl ?_;(focus(first|rfl|assumption|(simp;done)|(simp;omega))))|refine o_pass (wants_not rfl rfl rfl) rfl ?_|(refine o_yes (wants_yes rfl rfl rfl ?_) ?_;(focus(first|rfl|assumption|(simp;done)|(simp;omega))))|refine k_region ?_|(apply k_go;(focus(constructor<;>rfl)))|refine d_nil ?_|(apply o_s;(focus(first|(constructor<;>first|rfl|omega)|(apply Ri.add3<;>first|rfl|omega)|(apply Ri.sub3<;>first|rfl|omega)|(apply Ri.conv3<;>first|rfl|omega)|(apply Ri.eqb<;>rfl)|(apply Ri.neb<;>rfl)|(apply Ri.pT;(focus rfl);(focus(first|rfl|assumption|(simp;done)|(simp;omega)));(focus rfl))|(apply Ri.pF;(focus rfl);(focus(first|rfl|assumption|(simp;done)|(simp;omega)));(focus rfl))));(focus rfl)))
    by_cases h2 : at_ = s
    · refine k_yes rfl h2 ?_
      refine k_region ?_
      refine o_still (r_assign rfl) (wants_none rfl) rfl ?_
      refine o_nil ?_
      exact K 1 (by rw [if_pos h2]) _ (by repeat (first | exact SubB.nil | refine SubB.cons rfl ?_))
    · refine k_no rfl h2 ?_
      refine k_skip ?_
      exact K 2 (by rw [if_neg h2]) _ (by repeat (first | exact SubB.nil | refine SubB.cons rfl ?_))
  rw [hi] at p0
  rw [hk] at p1
  rw [hgd, hk] at J
  repeat(first|refine o_nil ?_|(refine o_pass (wants_no rfl rfl rfl ?_) rfl ?_;(focus(first|rfl|assumption|(simp;done)|(simp;omega))))|refine o_pass (wants_not rfl rfl rfl) rfl ?_|(refine o_yes (wants_yes rfl rfl rfl ?_) ?_;(focus(first|rfl|assumption|(simp;done)|(simp;omega))))|refine k_region ?_|(apply k_go;(focus(constructor<;>rfl)))|refine d_nil ?_|(apply o_s;(focus(first|(constructor<;>first|rfl|omega)|(apply Ri.add3<;>first|rfl|omega)|(apply Ri.sub3<;>first|rfl|omega)|(apply Ri.conv3<;>first|rfl|omega)|(apply Ri.eqb<;>rfl)|(apply Ri.neb<;>rfl)|(apply Ri.pT;(focus rfl);(focus(first|rfl|assumption|(simp;done)|(simp;omega)));(focus rfl))|(apply Ri.pF;(focus rfl);(focus(first|rfl|assumption|(simp;done)|(simp;omega)));(focus rfl))));(focus rfl)))
  refine o_still (r_load rfl p0) (wants_none rfl) rfl ?_
  refine o_still (r_index rfl rfl rfl (by omega) (by omega)) (wants_none rfl) rfl ?_
  refine o_still (r_load rfl (by rw [Int.toNat_natCast]; exact hld)) (wants_none rfl) rfl ?_
  repeat(first|refine o_nil ?_|(refine o_pass (wants_no rfl rfl rfl ?_) rfl ?_;(focus(first|rfl|assumption|(simp;done)|(simp;omega))))|refine o_pass (wants_not rfl rfl rfl) rfl ?_|(refine o_yes (wants_yes rfl rfl rfl ?_) ?_;(focus(first|rfl|assumption|(simp;done)|(simp;omega))))|refine k_region ?_|(apply k_go;(focus(constructor<;>rfl)))|refine d_nil ?_|(apply o_s;(focus(first|(constructor<;>first|rfl|omega)|(apply Ri.add3<;>first|rfl|omega)|(apply Ri.sub3<;>first|rfl|omega)|(apply Ri.conv3<;>first|rfl|omega)|(apply Ri.eqb<;>rfl)|(apply Ri.neb<;>rfl)|(apply Ri.pT;(focus rfl);(focus(first|rfl|assumption|(simp;done)|(simp;omega)));(focus rfl))|(apply Ri.pF;(focus rfl);(focus(first|rfl|assumption|(simp;done)|(simp;omega)));(focus rfl))));(focus rfl)))
  refine o_still (r_load rfl p1) (wants_none rfl) rfl ?_
  repeat(first|refine o_nil ?_|(refine o_pass (wants_no rfl rfl rfl ?_) rfl ?_;(focus(first|rfl|assumption|(simp;done)|(simp;omega))))|refine o_pass (wants_not rfl rfl rfl) rfl ?_|(refine o_yes (wants_yes rfl rfl rfl ?_) ?_;(focus(first|rfl|assumption|(simp;done)|(simp;omega))))|refine k_region ?_|(apply k_go;(focus(constructor<;>rfl)))|refine d_nil ?_|(apply o_s;(focus(first|(constructor<;>first|rfl|omega)|(apply Ri.add3<;>first|rfl|omega)|(apply Ri.sub3<;>first|rfl|omega)|(apply Ri.conv3<;>first|rfl|omega)|(apply Ri.eqb<;>rfl)|(apply Ri.neb<;>rfl)|(apply Ri.pT;(focus rfl);(focus(first|rfl|assumption|(simp;done)|(simp;omega)));(focus rfl))|(apply Ri.pF;(focus rfl);(focus(first|rfl|assumption|(simp;done)|(simp;omega)));(focus rfl))));(focus rfl)))
  by_cases hkl : k < l[i].length
  · obtain ⟨ad2, cs2, hAd2, ⟨rfl, hr2⟩, hcell2⟩ := (k3.sl hrow).at_ (List.getElem?_eq_getElem hkl)
    subst hAd2
    refine k_yes rfl (by omega) ?_
    refine k_region ?_
    refine o_still (r_move rfl) (wants_none rfl) rfl ?_
    refine o_still (r_field rfl) (wants_none rfl) rfl ?_
    refine o_still (r_load rfl p1) (wants_none rfl) rfl ?_
    refine o_still (r_index rfl rfl rfl (by omega) (by omega)) (wants_none rfl) rfl ?_
    refine o_still (r_load rfl (hcell2 0 _ rfl)) (wants_none rfl) rfl ?_
    refine o_still (r_assign rfl) (wants_none rfl) rfl ?_
    refine o_nil ?_
    refine J l[i][k] ?_ _ (by repeat (first | exact SubB.nil | refine SubB.cons rfl ?_))
    rw [if_pos (by omega), Int.toNat_natCast, getD_int hkl]
  · refine k_no rfl (by omega) ?_
    refine k_skip ?_
    refine J 0 ?_ _ (by repeat (first | exact SubB.nil | refine SubB.cons rfl ?_))
    rw [if_neg (by omega)]
end
end Go.Ink
