/-
  Plain: what Find tells is a cursor's place; the inner object lies within.
-/
import Derived.Test.YtabmggnljijhkaaP2
set_option linter.unusedVariables false
set_option linter.unusedSimpArgs false
namespace Go.Ink
open Go Go.Proofs

structure Wi (l : List (List Int)) (a b : Ps) : Prop where
  fst : At l a
  snd : At l b
  ab : aheadM b a = false
theorem ahead_f {p q : Ps} : aheadM p q = false ↔ ¬ (p.1 < q.1 ∨ (p.1 = q.1 ∧ p.2 < q.2)) := by unfold aheadM; exact decide_eq_false_iff_not
/-! ### Words -/
theorem begin_succ {E : List Int} {k : Nat} (h : k < E.length) : beginM E (k + 1) = E[k] := by unfold beginM; rw [if_neg (by omega), Nat.add_sub_cancel, getD_int h]
theorem words_ok {x : List Int} {big : Bool} {c : Nat} (hc : c < x.length) :
    ∃ a b : Nat, a ≤ b ∧ b < x.length ∧ wordsM (runsTo x big x.length) x big c false = some ((a : Int), (b : Int)) ∧
      ∀ r, wordsM (runsTo x big x.length) x big c true = some r → ∃ a' b' : Nat, r = ((a' : Int), (b' : Int)) ∧ a' ≤ a ∧ b ≤ b' ∧ b' < x.length := by
  obtain ⟨hk, a, b, h1, h2, h3, h4, h5⟩ := idx_run (big := big) hc
  have hl := h3.lt
  have hle := h3.le
  refine ⟨a, b, hle, hl, ?_, ?_⟩
  · unfold wordsM
    rw [if_neg (by omega), if_pos rfl, h1, getD_int hk, h2, Int.add_sub_cancel]
  · intro r hr
    unfold wordsM at hr
    generalize idxM (runsTo x big x.length) c = k at *
    rw [if_neg (by omega), if_neg (by decide)] at hr
    have nxt : ∀ h : k + 1 < (runsTo x big x.length).length, ∃ b' : Nat, (runsTo x big x.length).getD (k + 1) 0 - 1 = b' ∧ b ≤ b' ∧ b' < x.length := by
      intro h
      obtain ⟨a2, b2, e1, e2, e3⟩ := seg_run h
      have := begin_succ hk
      have hl2 := e3.lt
      have hle2 := e3.le
      exact ⟨b2, by rw [getD_int h, e2, Int.add_sub_cancel], by omega, hl2⟩
    split at hr
    · cases hr
    · next n1 =>
      split at hr
      · next hb =>
        cases hr
        have hk1 : k + 1 < (runsTo x big x.length).length := by
          rcases hb with hb | hb
          · by_cases he : k + 1 = (runsTo x big x.length).length
            · exact absurd ⟨hb, he⟩ n1
            · omega
          · have := of_decide_eq_true hb; omega
        obtain ⟨b', e1, e2, e3⟩ := nxt hk1
        exact ⟨a, b', by rw [h1, e1], Nat.le_refl _, e2, e3⟩
      · split at hr
        · next hb =>
          cases hr
          have hk0 : 0 < k := by have := of_decide_eq_true hb; omega
          obtain ⟨a0, b0, e1, e2, e3⟩ := seg_run (x := x) (big := big) (k := k - 1) (by omega)
          have hbs := begin_succ (E := runsTo x big x.length) (k := k - 1) (by omega)
          rw [show k - 1 + 1 = k by omega] at hbs
          have hle2 := e3.le
          exact ⟨a0, b, by rw [e1, getD_int hk, h2, Int.add_sub_cancel], by omega, Nat.le_refl _, hl⟩
        · cases hr
          exact ⟨a, b, by rw [h1, getD_int hk, h2, Int.add_sub_cancel], Nat.le_refl _, Nat.le_refl _, hl⟩
/-! ### Quotes -/
theorem ats_pair (x : List Int) (key : Int) (n : Nat) : (atsTo x key n).Pairwise (· < ·) := by
  unfold atsTo
  rw [List.pairwise_map]
  exact (List.pairwise_lt_range.filter _).imp fun h => by omega
theorem q_ok {n : Nat} {col : Int} : ∀ E : List Int, E.Pairwise (· < ·) → (∀ e ∈ E, 0 ≤ e ∧ e < n) →
    (∀ a b, qGo col true E = some (a, b, true) → 0 ≤ a ∧ a ≤ b ∧ b < n) ∧ (∀ a b, qGo col false E = some (a, b, true) → 0 ≤ a ∧ a ≤ b ∧ b < n ∧ ∀ c d, qGo col true E = some (c, d, true) → c ≤ a ∧ b ≤ d)
  | [], hp, hm => ⟨fun a b h => by simp [qGo] at h, fun a b h => by simp [qGo] at h⟩
  | [_], hp, hm => ⟨fun a b h => by simp [qGo] at h, fun a b h => by simp [qGo] at h⟩
  | e :: f :: r, hp, hm => by
    have hp' := hp
    rw [List.pairwise_cons, List.pairwise_cons] at hp'
    have hef := hp'.1 f (by simp)
    have h1 := hm e (by simp)
    have h2 := hm f (by simp)
    have ih := q_ok (n := n) (col := col) r hp'.2.2 (fun x hx => hm x (by simp [hx]))
    unfold qGo
    by_cases hc : f < col
    · rw [if_pos hc, if_pos hc]
      exact ih
    · rw [if_neg hc, if_neg hc, if_pos rfl, if_neg (by decide)]
      refine ⟨fun a b h => ?_, fun a b h => ?_⟩
      · cases h; omega
      · simp only [Option.some.injEq, Prod.mk.injEq, decide_eq_true_eq] at h
        obtain ⟨rfl, rfl, h3⟩ := h
        refine ⟨by omega, by omega, by omega, fun c d h => ?_⟩
        cases h; omega
/-! ### Blocks -/
theorem at_line {l : List (List Int)} {i : Nat} (h : i < l.length) : At l ((i : Int), 0) := by
  refine ⟨⟨by show (0 : Int) ≤ (i : Int); omega, by show (i : Int) < l.length; omega⟩, ?_⟩
  show _ ∧ (0 : Int) = 0 ∨ (0 : Int) ≤ 0 ∧ (0 : Int) < _
  generalize (rowOf l ((i : Int), 0)).length = n
  omega
theorem blocks_ok {l : List (List Int)} {i : Nat} (h : i < l.length) : ∀ r, blocksM l i true = some r → r.1 ≤ downM l i ∧ reachUM l i ≤ r.2 ∧ r.2 < l.length := by
  intro r hr
  have hd := downM_le (l := l) i
  have hu := upM_lt (l := l) (l.length - i) i h
  unfold blocksM at hr
  rw [if_neg (by decide)] at hr
  unfold reachUM at *
  split at hr
  · next h1 =>
    cases hr
    have := upM_lt (l := l) (l.length - (upM l (l.length - i) i + 1)) _ h1
    exact ⟨Nat.le_refl _, by omega, this.1⟩
  · split at hr
    · cases hr
    · split at hr
      · cases hr
        have := downM_le (l := l) (downM l i - 1)
        exact ⟨by show downM l (downM l i - 1) ≤ downM l i; omega, Nat.le_refl _, hu.1⟩
      · cases hr
        exact ⟨Nat.le_refl _, Nat.le_refl _, hu.1⟩
/-! ### Brackets -/
theorem lineM_fwd {row : List Int} {x y : Int} : ∀ n k d q e, lineM row x y 1 n k d = (some q, e) → k ≤ q
  | 0, k, d, q, e, h => by simp [lineM] at h
  | n + 1, k, d, q, e, h => by
    unfold lineM at h
    split at h
    · split at h
      · split at h
        · simp only [Prod.mk.injEq, Option.some.injEq] at h; omega
        · have := lineM_fwd n _ _ q e h; omega
      · split at h
        · split at h
          · simp only [Prod.mk.injEq, Option.some.injEq] at h; omega
          · have := lineM_fwd n _ _ q e h; omega
        · have := lineM_fwd n _ _ q e h; omega
    · simp at h
theorem pairGo_fwd {l : List (List Int)} {p : Ps} {x y : Int} : ∀ n i d q, p.1 ≤ i → pairGo l p x y 1 n i d = some q → p.1 < q.1 ∨ p.1 = q.1 ∧ p.2 ≤ q.2
  | 0, i, d, q, _, h => by simp [pairGo] at h
  | n + 1, i, d, q, hi, h => by
    unfold pairGo at h
    split at h
    · split at h
      · next k e he =>
        cases h
        have := lineM_fwd _ _ _ _ _ he
        unfold startM at this
        split at this
        · next hip => exact .inr ⟨hip.symm, this⟩
        · exact .inl (by show p.1 < i; omega)
      · next e he => exact pairGo_fwd n _ _ q (by omega) h
    · simp at h
theorem openM_at {l : List (List Int)} {p q : Ps} {o s : Int} (ho : o ≠ 0) (h : InL l p) (hq : openM l p o s = some q) : InL l q ∧ q.2 < (rowOf l q).length := by
  unfold openM at hq
  by_cases hlt : p.2 < (rowOf l p).length
  · rw [if_pos hlt] at hq
    generalize (rowOf l p).getD p.2.toNat 0 = at_ at hq
    by_cases h1 : at_ = o
    · rw [if_pos h1] at hq; cases hq; exact ⟨h, hlt⟩
    · rw [if_neg h1] at hq; exact h.pair hq
  · rw [if_neg hlt, if_neg (fun e => ho e.symm)] at hq
    exact h.pair hq
theorem InL.at_ {l : List (List Int)} {q : Ps} (h : InL l q) (hk : q.2 < (rowOf l q).length) : At l q := ⟨h.i, .inr ⟨h.k.1, hk⟩⟩
theorem brackets_ok {l : List (List Int)} {p : Ps} {o s : Int} (ho : o ≠ 0) (h : InL l p) :
    (∀ a b, bracketsM l p o s true = some (a, b) → Wi l a b) ∧
    (∀ a b, bracketsM l p o s false = some (a, b) → Wi l a b ∧ ∀ c d, bracketsM l p o s true = some (c, d) → aheadM a c = false ∧ aheadM d b = false) := by
  unfold bracketsM
  cases hop : openM l p o s with
  | none => exact ⟨fun a b h => by simp at h, fun a b h => by simp at h⟩
  | some a =>
    obtain ⟨ha, hak⟩ := openM_at ho h hop
    simp only
    cases hpm : pairM l a o s true 1 with
    | none => exact ⟨fun a b h => by simp at h, fun a b h => by simp at h⟩
    | some b =>
      obtain ⟨hb, hbk⟩ := ha.pair hpm
      have hfw := pairGo_fwd _ _ _ _ (Int.le_refl _) hpm
      simp only [if_true, Bool.false_eq_true, if_false]
      have haa := ha.at_ hak
      have hbb := hb.at_ hbk
      have hai := ha.i
      have hbi := hb.i
      have hbk0 := hb.k
      have hak0 := ha.k
      refine ⟨fun x y hxy => ?_, fun x y hxy => ?_⟩
      · cases hxy; exact ⟨haa, hbb, ahead_f.2 (by omega)⟩
      · cases hsb : stepB l b with
        | none => rw [hsb] at hxy; simp at hxy
        | some b' =>
          rw [hsb] at hxy
          simp only at hxy
          split at hxy
          · cases hxy
          next hnb =>
          cases hxy
          unfold behindM at hnb
          have hB : At l y ∧ (y.1 < b.1 ∨ y.1 = b.1 ∧ y.2 < b.2) := by
            unfold stepB at hsb
            split at hsb
            · split at hsb
              · cases hsb
              · cases hsb
                refine ⟨⟨⟨by show 0 ≤ b.1 - 1; omega, by show b.1 - 1 < l.length; omega⟩, ?_⟩, .inl (by show b.1 - 1 < b.1; omega)⟩
                unfold rowOf
                show (l.getD (b.1 - 1).toNat []).length = 0 ∧ max (0 : Int) ((l.getD (b.1 - 1).toNat []).length - 1) = 0 ∨ 0 ≤ max (0 : Int) ((l.getD (b.1 - 1).toNat []).length - 1) ∧ max (0 : Int) ((l.getD (b.1 - 1).toNat []).length - 1) < (l.getD (b.1 - 1).toNat []).length
                generalize (l.getD (b.1 - 1).toNat []).length = n
                omega
            · next h0 =>
              cases hsb
              refine ⟨⟨hbi, .inr ⟨by show 0 ≤ b.2 - 1; omega, ?_⟩⟩, .inr ⟨rfl, by show b.2 - 1 < b.2; omega⟩⟩
              show b.2 - 1 < (rowOf l b).length
              omega
          have hA : At l (stepA l a) ∧ (a.1 < (stepA l a).1 ∨ a.1 = (stepA l a).1 ∧ a.2 < (stepA l a).2) := by
            have hy := hB.1.i
            unfold stepA at hnb ⊢
            split at hnb
            · next he =>
              rw [if_pos he]
              refine ⟨?_, .inl (by show a.1 < a.1 + 1; omega)⟩
              have := at_line (l := l) (i := (a.1 + 1).toNat) (by simp only at hnb; omega)
              rwa [show ((a.1 + 1).toNat : Int) = a.1 + 1 by omega] at this
            · next he =>
              rw [if_neg he]
              refine ⟨⟨hai, .inr ⟨by show 0 ≤ a.2 + 1; omega, ?_⟩⟩, .inr ⟨rfl, by show a.2 < a.2 + 1; omega⟩⟩
              show a.2 + 1 < (rowOf l a).length
              omega
          refine ⟨⟨hA.1, hB.1, ahead_f.2 (by omega)⟩, fun c d hcd => ?_⟩
          cases hcd
          have h1 := hA.2
          have h2 := hB.2
          exact ⟨ahead_f.2 (by omega), ahead_f.2 (by omega)⟩
/-! ### Find -/
theorem row_at {l : List (List Int)} {q : Ps} {a : Nat} (hi : 0 ≤ q.1 ∧ q.1 < l.length) (ha : a < (rowOf l q).length) : At l (q.1, (a : Int)) :=
  ⟨hi, .inr ⟨by show (0 : Int) ≤ a; omega, by show (a : Int) < (rowOf l q).length; omega⟩⟩
theorem findAt_ok {l : List (List Int)} {q : Ps} {key : Int} (h : InL l q) (hat : At l q) :
    (∀ a b k, findAt l q key true = some (a, b, k) → Wi l a b) ∧
    (∀ a b k, findAt l q key false = some (a, b, k) → Wi l a b ∧ ∀ c d n, findAt l q key true = some (c, d, n) → k = n ∧ aheadM a c = false ∧ aheadM d b = false) := by
  have hi := hat.i
  have hk := hat.k
  unfold findAt
  by_cases h1 : key = 119 ∨ key = 87
  · rw [if_pos h1, if_pos h1]
    have hx : ∀ e, (rowOf l q).length = 0 → wordsM (runsTo (rowOf l q) (decide (key = 87)) (rowOf l q).length) (rowOf l q) (decide (key = 87)) q.2 e = none := by
      intro e hx
      have : runsTo (rowOf l q) (decide (key = 87)) (rowOf l q).length = [] := List.eq_nil_of_length_eq_zero (by have := runsTo_le (rowOf l q) (decide (key = 87)) (rowOf l q).length; omega)
      rw [this]; rfl
    by_cases hx0 : (rowOf l q).length = 0
    · rw [hx _ hx0, hx _ hx0]
      exact ⟨fun a b k h => by simp [charM] at h, fun a b k h => by simp [charM] at h⟩
    · obtain ⟨c, hc⟩ : ∃ c : Nat, q.2 = c := ⟨q.2.toNat, by omega⟩
      obtain ⟨a, b, hab, hb, hw, hw2⟩ := words_ok (x := rowOf l q) (big := decide (key = 87)) (c := c) (by omega)
      rw [hc, hw]
      refine ⟨fun a' b' k h => ?_, fun a' b' k h => ?_⟩
      · cases hwt : wordsM (runsTo (rowOf l q) (decide (key = 87)) (rowOf l q).length) (rowOf l q) (decide (key = 87)) (c : Int) true with
        | none => rw [hwt] at h; simp [charM] at h
        | some r =>
          rw [hwt] at h
          obtain ⟨a2, b2, rfl, h3, h4, h5⟩ := hw2 r hwt
          simp only [charM, Option.map_some, Option.some.injEq, Prod.mk.injEq] at h
          obtain ⟨rfl, rfl, rfl⟩ := h
          exact ⟨row_at hi (by omega), row_at hi h5, ahead_f.2 (by show ¬ (q.1 < q.1 ∨ q.1 = q.1 ∧ (b2 : Int) < a2); omega)⟩
      · simp only [charM, Option.map_some, Option.some.injEq, Prod.mk.injEq] at h
        obtain ⟨rfl, rfl, rfl⟩ := h
        refine ⟨⟨row_at hi (by omega), row_at hi hb, ahead_f.2 (by show ¬ (q.1 < q.1 ∨ q.1 = q.1 ∧ (b : Int) < a); omega)⟩, fun c' d n h => ?_⟩
        cases hwt : wordsM (runsTo (rowOf l q) (decide (key = 87)) (rowOf l q).length) (rowOf l q) (decide (key = 87)) (c : Int) true with
        | none => rw [hwt] at h; simp [charM] at h
        | some r =>
          rw [hwt] at h
          obtain ⟨a2, b2, rfl, h3, h4, h5⟩ := hw2 r hwt
          simp only [charM, Option.map_some, Option.some.injEq, Prod.mk.injEq] at h
          obtain ⟨rfl, rfl, rfl⟩ := h
          exact ⟨rfl, ahead_f.2 (by show ¬ (q.1 < q.1 ∨ q.1 = q.1 ∧ (a : Int) < a2); omega), ahead_f.2 (by show ¬ (q.1 < q.1 ∨ q.1 = q.1 ∧ (b2 : Int) < b); omega)⟩
  rw [if_neg h1, if_neg h1]
  by_cases h2 : key = 34 ∨ key = 39 ∨ key = 96
  · rw [if_pos h2, if_pos h2]
    have hq := q_ok (n := (rowOf l q).length) (col := q.2) (atsTo (rowOf l q) key (rowOf l q).length) (ats_pair _ _ _) (fun e he => atsTo_mem he)
    have nat : ∀ {a b : Int}, 0 ≤ a → a ≤ b → b < (rowOf l q).length → Wi l (q.1, a) (q.1, b) := by
      intro a b h0 h1 h2
      obtain ⟨a, rfl⟩ : ∃ t : Nat, a = t := ⟨a.toNat, by omega⟩
      obtain ⟨b, rfl⟩ : ∃ t : Nat, b = t := ⟨b.toNat, by omega⟩
      exact ⟨row_at hi (by omega), row_at hi (by omega), ahead_f.2 (by show ¬ (q.1 < q.1 ∨ q.1 = q.1 ∧ (b : Int) < a); omega)⟩
    have ch : ∀ {e : Bool} {a b k}, charM q (quotesM (rowOf l q) q.2 key e) = some (a, b, k) → ∃ x y, quotesM (rowOf l q) q.2 key e = some (x, y, true) ∧ a = (q.1, x) ∧ b = (q.1, y) ∧ k = 0 := by
      intro e a b k h
      match hr : quotesM (rowOf l q) q.2 key e, h with
      | none, h => simp [charM] at h
      | some (x, y, false), h => simp [charM] at h
      | some (x, y, true), h =>
        simp only [charM, Option.some.injEq, Prod.mk.injEq] at h
        exact ⟨x, y, rfl, h.1.symm, h.2.1.symm, h.2.2.symm⟩
    refine ⟨fun a b k h => ?_, fun a b k h => ?_⟩
    · obtain ⟨x, y, hr, rfl, rfl, rfl⟩ := ch h
      have := hq.1 x y hr
      exact nat this.1 this.2.1 this.2.2
    · obtain ⟨x, y, hr, rfl, rfl, rfl⟩ := ch h
      obtain ⟨e1, e2, e3, e4⟩ := hq.2 x y hr
      refine ⟨nat e1 e2 e3, fun c d n h' => ?_⟩
      obtain ⟨x', y', hr', rfl, rfl, rfl⟩ := ch h'
      have := e4 x' y' hr'
      exact ⟨rfl, ahead_f.2 (by show ¬ (q.1 < q.1 ∨ q.1 = q.1 ∧ x < x'); omega), ahead_f.2 (by show ¬ (q.1 < q.1 ∨ q.1 = q.1 ∧ y' < y); omega)⟩
  rw [if_neg h2, if_neg h2]
  by_cases h3 : key = 112
  · rw [if_pos h3, if_pos h3]
    have hil : q.1.toNat < l.length := by omega
    have hd := downM_le (l := l) q.1.toNat
    have hu : reachUM l q.1.toNat < l.length ∧ q.1.toNat ≤ reachUM l q.1.toNat := upM_lt _ _ hil
    have hbo := blocks_ok hil
    have hwi : ∀ {a b : Nat}, a ≤ b → b < l.length → Wi l ((a : Int), 0) ((b : Int), 0) := fun h1 h2 =>
      ⟨at_line (by omega), at_line h2, ahead_f.2 (by simp only; omega)⟩
    refine ⟨fun a b k h => ?_, fun a b k h => ?_⟩
    · cases hr : blocksM l q.1.toNat true with
      | none => rw [hr] at h; simp at h
      | some r =>
        rw [hr] at h
        simp only [Option.map_some, Option.some.injEq, Prod.mk.injEq] at h
        obtain ⟨rfl, rfl, rfl⟩ := h
        have := hbo r hr
        exact hwi (by omega) this.2.2
    · rw [show blocksM l q.1.toNat false = some (downM l q.1.toNat, reachUM l q.1.toNat) from rfl] at h
      simp only [Option.map_some, Option.some.injEq, Prod.mk.injEq] at h
      obtain ⟨rfl, rfl, rfl⟩ := h
      refine ⟨hwi (by omega) hu.1, fun c d n h' => ?_⟩
      cases hr : blocksM l q.1.toNat true with
      | none => rw [hr] at h'; simp at h'
      | some r =>
        rw [hr] at h'
        simp only [Option.map_some, Option.some.injEq, Prod.mk.injEq] at h'
        obtain ⟨rfl, rfl, rfl⟩ := h'
        have := hbo r hr
        exact ⟨rfl, ahead_f.2 (by simp only; omega), ahead_f.2 (by simp only; omega)⟩
  rw [if_neg h3, if_neg h3]
  by_cases h4 : (pairOf key).1 = 0
  · rw [if_pos h4, if_pos h4]
    exact ⟨fun a b k h => by simp at h, fun a b k h => by simp at h⟩
  rw [if_neg h4, if_neg h4]
  obtain ⟨hb1, hb2⟩ := brackets_ok (s := (pairOf key).2) h4 h
  have ch : ∀ {e : Bool} {a b : Ps} {k : Int}, (bracketsM l q (pairOf key).1 (pairOf key).2 e).map (fun r => (r.1, r.2, (0 : Int))) = some (a, b, k) → bracketsM l q (pairOf key).1 (pairOf key).2 e = some (a, b) ∧ k = 0 := by
    intro e a b k h
    cases hr : bracketsM l q (pairOf key).1 (pairOf key).2 e with
    | none => rw [hr] at h; simp at h
    | some r =>
      rw [hr] at h
      simp only [Option.map_some, Option.some.injEq, Prod.mk.injEq] at h
      exact ⟨by rw [← h.1, ← h.2.1], h.2.2.symm⟩
  refine ⟨fun a b k h => hb1 a b (ch h).1, fun a b k h => ?_⟩
  obtain ⟨hr, rfl⟩ := ch h
  obtain ⟨e1, e2⟩ := hb2 a b hr
  refine ⟨e1, fun c d n h' => ?_⟩
  obtain ⟨hr', rfl⟩ := ch h'
  exact ⟨rfl, e2 c d hr'⟩
theorem find_none {p : Ps} {key : Int} {e : Bool} : findM [] p key e = none := rfl
theorem findM_at {l : List (List Int)} {p : Ps} {key : Int} {e : Bool} (h0 : l ≠ []) : findM l p key e = findAt l (clipM l p) key e := by unfold findM; rw [if_neg h0]
end Go.Ink
