/-
  Plain: % leads there and back.
-/
import Derived.Test.YthiblbcjebmanaaMC
set_option linter.unusedVariables false
set_option linter.unusedSimpArgs false
namespace Go.Ink
open Go Go.Proofs

theorem other_inv {r : Int} (h : (otherM r).1 ≠ 0) : otherM (otherM r).1 = (r, !(otherM r).2) ∧ r ≠ (otherM r).1 ∧ r ≠ 0 := by
  unfold otherM at h ⊢
  by_cases h1 : r = 40
  · subst h1; decide
  by_cases h2 : r = 41
  · subst h2; decide
  by_cases h3 : r = 91
  · subst h3; decide
  by_cases h4 : r = 93
  · subst h4; decide
  by_cases h5 : r = 123
  · subst h5; decide
  by_cases h6 : r = 125
  · subst h6; decide
  rw [if_neg h1, if_neg h2, if_neg h3, if_neg h4, if_neg h5, if_neg h6] at h
  exact absurd rfl h
theorem vp_at {l : List (List Int)} {q : Ps} {x y : Int} (h0 : 0 ≤ q.2) (h : q.2 < (rowOf l q).length) : vp l x y q = valw x y ((rowOf l q).getD q.2.toNat 0) := by
  unfold vp
  rw [if_neg (by omega)]
theorem valw_one {x y r : Int} (h : valw x y r = 1) : r = x := by
  unfold valw at h
  split at h
  · assumption
  · split at h <;> omega
theorem valw_neg {x y r : Int} (h : valw x y r = -1) : r = y := by
  unfold valw at h
  split at h
  · omega
  · split at h
    · assumption
    · omega
theorem vp_get1 {l : List (List Int)} {q : Ps} {x y : Int} (h : vp l x y q = 1) : (rowOf l q).getD q.2.toNat 0 = x := by
  unfold vp at h
  split at h
  · omega
  · exact valw_one h
theorem vp_getn {l : List (List Int)} {q : Ps} {x y : Int} (h : vp l x y q = -1) : (rowOf l q).getD q.2.toNat 0 = y := by
  unfold vp at h
  split at h
  · omega
  · exact valw_neg h
section
variable {l : List (List Int)} {s a : Ps} {r y : Int}
theorem Mt.eq {S : Nat → Int} {N a b b' : Nat} (h : Mt S N a b) (h' : Mt S N a b') : b = b' := by
  rcases Nat.lt_trichotomy b b' with hlt | he | hlt
  · have := h'.in_ (b + 1) (by have := h.ab; omega) (by omega); have := h.end_; omega
  · exact he
  · have := h.in_ (b' + 1) (by have := h'.ab; omega) (by omega); have := h'.end_; omega
/-- Forward, and back. -/
theorem pair_fb (hs : At l s) (hne : r ≠ y) (hv : vp l r y s = 1) (hp : pairM l s r y true 1 = some a) : At l a ∧ vp l y r a = 1 ∧ pairM l a y r false 1 = some s ∧ a ≠ s := by
  obtain ⟨X, Y, hL⟩ := at_lies hs
  obtain ⟨b, hb1, hb2⟩ := (fwd_pos hL hv).1 a hp
  have ha : At l a := get_at hb1
  obtain ⟨X', Y', hL'⟩ := at_lies ha
  have hX : X'.length = b := places_inj (lies_get hL') hb1
  have hsu := sumP_succ (o := r) (s := y) hb1
  have e1 := hb2.end_
  have e2 := hb2.in_ b hb2.ab (Nat.le_refl _)
  have e3 := vp_lo l r y a
  have hva : vp l r y a = -1 := by omega
  have hvb : vp l y r a = 1 := by rw [vp_neg hne, hva]; rfl
  obtain ⟨g1, g2⟩ := bwd_pos (want := 1) hne hL' (by rw [hvb]; exact ⟨rfl, by omega⟩)
  rw [hX] at g1 g2
  have hab := hb2.ab
  refine ⟨ha, hvb, ?_, ?_⟩
  · cases hq : pairM l a y r false 1 with
    | none => have := g2 hq X.length (by omega); omega
    | some q =>
      obtain ⟨i, h1, h2, h3, h4⟩ := g1 q hq
      have : i = X.length := by
        rcases Nat.lt_trichotomy i X.length with hlt | he | hlt
        · have := h4 X.length hlt (by omega); omega
        · exact he
        · have := hb2.in_ i hlt (by omega); omega
      subst this
      rw [lies_get hL] at h2
      exact h2.symm
  · rintro rfl
    have := places_inj hb1 (lies_get hL)
    omega
/-- Back, and forward. -/
theorem pair_bf (hs : At l s) (hne : y ≠ r) (hv : vp l r y s = 1) (hp : pairM l s r y false 1 = some a) : At l a ∧ vp l y r a = 1 ∧ pairM l a y r true 1 = some s ∧ a ≠ s := by
  obtain ⟨X, Y, hL⟩ := at_lies hs
  obtain ⟨i, h1, h2, h3, h4⟩ := (bwd_pos (o := y) (s := r) (want := 1) hne hL (by rw [hv]; exact ⟨rfl, by omega⟩)).1 a hp
  have ha : At l a := get_at h2
  obtain ⟨X', Y', hL'⟩ := at_lies ha
  have hX : X'.length = i := places_inj (lies_get hL') h2
  have hsu := sumP_succ (o := y) (s := r) h2
  have hss := sumP_succ (o := y) (s := r) (lies_get hL)
  have e0 := vp_neg (l := l) (x := r) (y := y) (fun e => hne e.symm) s
  have e1 := h4 (i + 1) (by omega) (by omega)
  have e3 := vp_lo l y r a
  have hva : vp l y r a = 1 := by omega
  have hlen : X.length < (placesTo l l.length).length := (List.getElem?_eq_some_iff.1 (lies_get hL)).1
  obtain ⟨f1, f2⟩ := fwd_pos (o := y) (s := r) hL' hva
  rw [hX] at f1 f2
  have hmt : Mt (sumP l y r) (placesTo l l.length).length i X.length := ⟨h1, hlen, by omega, fun j hj1 hj2 => by have := h4 j hj1 hj2; omega⟩
  refine ⟨ha, hva, ?_, ?_⟩
  · cases hq : pairM l a y r true 1 with
    | none => have := f2 hq (X.length + 1) (by omega) (by omega); have := hmt.end_; omega
    | some q =>
      obtain ⟨b, hb1, hb2⟩ := f1 q hq
      have := hb2.eq hmt
      subst this
      rw [lies_get hL] at hb1
      exact hb1.symm
  · rintro rfl
    have := places_inj h2 (lies_get hL)
    omega
/-- A bracket and the one that belongs to it. -/
structure Brk (l : List (List Int)) (s a : Ps) : Prop where
  fst : At l s
  snd : At l a
  one : 0 ≤ s.2 ∧ s.2 < (rowOf l s).length
  two : 0 ≤ a.2 ∧ a.2 < (rowOf l a).length
  ne : a ≠ s
  o1 : (otherM ((rowOf l s).getD s.2.toNat 0)).1 ≠ 0
  o2 : (otherM ((rowOf l a).getD a.2.toNat 0)).1 ≠ 0
  there : pairM l s ((rowOf l s).getD s.2.toNat 0) (otherM ((rowOf l s).getD s.2.toNat 0)).1 (otherM ((rowOf l s).getD s.2.toNat 0)).2 1 = some a
  back : pairM l a ((rowOf l a).getD a.2.toNat 0) (otherM ((rowOf l a).getD a.2.toNat 0)).1 (otherM ((rowOf l a).getD a.2.toNat 0)).2 1 = some s
theorem brk_of (hs : At l s) (h0 : 0 ≤ s.2 ∧ s.2 < (rowOf l s).length) (ho : (otherM ((rowOf l s).getD s.2.toNat 0)).1 ≠ 0)
    (hp : pairM l s ((rowOf l s).getD s.2.toNat 0) (otherM ((rowOf l s).getD s.2.toNat 0)).1 (otherM ((rowOf l s).getD s.2.toNat 0)).2 1 = some a) : Brk l s a := by
  obtain ⟨i1, i2, i3⟩ := other_inv ho
  have hin := pairGo_in _ _ _ _ hp
  have hv : vp l ((rowOf l s).getD s.2.toNat 0) (otherM ((rowOf l s).getD s.2.toNat 0)).1 s = 1 := by rw [vp_at h0.1 h0.2]; unfold valw; rw [if_pos rfl]
  have hp' := hp
  generalize hr : (rowOf l s).getD s.2.toNat 0 = r at *
  have key : At l a ∧ vp l (otherM r).1 r a = 1 ∧ pairM l a (otherM r).1 r (!(otherM r).2) 1 = some s ∧ a ≠ s := by
    cases hb : (otherM r).2 with
    | true => rw [hb] at hp; exact pair_fb hs i2 hv hp
    | false => rw [hb] at hp; exact pair_bf hs (fun e => i2 e.symm) hv hp
  obtain ⟨k1, k2, k3, k4⟩ := key
  have hra := vp_get1 k2
  have e : otherM ((rowOf l a).getD a.2.toNat 0) = (r, !(otherM r).2) := by rw [hra, i1]
  exact ⟨hs, k1, h0, ⟨hin.2.2.1, hin.2.2.2⟩, k4, by rw [hr]; exact ho, by rw [e]; exact i3, by rw [hr]; exact hp', by rw [e, hra]; exact k3⟩
theorem Brk.symm (h : Brk l s a) : Brk l a s := ⟨h.snd, h.fst, h.two, h.one, fun e => h.ne e.symm, h.o2, h.o1, h.back, h.there⟩
theorem BrM.brk {q : Ps} {r : Ps × Int × Bool} (hq : At l q) (h : BrM l q r) (hok : r.2.2 = true) : ∃ s a, r = (a, 1, true) ∧ Brk l s a := by
  cases h with
  | no h => cases hok
  | at_ j r h1 h2 h3 h4 h5 =>
    subst h4
    match hp : pairM l (q.1, (j : Int)) ((rowOf l q).getD j 0) (otherM ((rowOf l q).getD j 0)).1 (otherM ((rowOf l q).getD j 0)).2 1 with
    | none => rw [hp] at hok; cases hok
    | some b =>
      have hk := hq.k
      have e1 : rowOf l (q.1, (j : Int)) = rowOf l q := rfl
      exact ⟨(q.1, (j : Int)), b, rfl, brk_of (at_colq hq (by omega) (by omega)) ⟨by show (0 : Int) ≤ j; omega, by rw [e1]; show (j : Int) < _; omega⟩ (by rw [e1, Int.toNat_natCast]; exact h5) (by rw [e1, Int.toNat_natCast]; exact hp)⟩
theorem Brk.move (h : Brk l s a) {r : Ps × Int × Bool} (hr : BrM l s r) : r = (a, 1, true) := by
  have h1 := h.one
  cases hr with
  | no hn =>
    have := hn s.2.toNat (by omega) (by omega)
    exact absurd this h.o1
  | at_ j r h2 h3 h4 h5 h6 =>
    have hj : j = s.2.toNat := by
      rcases Nat.lt_trichotomy j s.2.toNat with hlt | he | hlt
      · omega
      · exact he
      · exact absurd (h4 s.2.toNat (by omega) hlt) h.o1
    subst hj h5
    have e : (s.1, ((s.2.toNat : Nat) : Int)) = s := by rw [show ((s.2.toNat : Nat) : Int) = s.2 by omega]
    rw [e, h.there]
    rfl
end
/-- The key %. -/
abbrev brMo : Mo := ⟨37, 0, 0, 0⟩
theorem br_key {l : List (List Int)} {p : Ps} {r : Ps × Int × Bool} (h : MoveM l p brMo false r) : ∃ r', BrM l (clipM l p) r' ∧ r = if r'.2.2 = true then r' else (clipM l p, 0, false) := by
  obtain ⟨r', h1, h2⟩ := h.key (tab_has (by simp))
  exact ⟨r', h1.inv_bracket rfl, h2⟩
theorem br_there {l : List (List Int)} {p : Ps} {r : Ps × Int × Bool} (h0 : l ≠ []) (h : MoveM l p brMo false r) : (∃ q, r = (q, 0, false)) ∨ ∃ s a, r = (a, 1, true) ∧ Brk l s a := by
  obtain ⟨r', h1, h2⟩ := br_key h
  by_cases hok : r'.2.2 = true
  · rw [if_pos hok] at h2
    subst h2
    exact .inr (h1.brk (clip_at h0) hok)
  · rw [if_neg hok] at h2
    exact .inl ⟨_, h2⟩
theorem Brk.back_ {l : List (List Int)} {s a : Ps} {r : Ps × Int × Bool} (hb : Brk l s a) (h : MoveM l s brMo false r) : r = (a, 1, true) := by
  obtain ⟨r', h1, h2⟩ := br_key h
  rw [at_clip hb.fst] at h1
  have := hb.move h1
  subst this
  exact h2
end Go.Ink
