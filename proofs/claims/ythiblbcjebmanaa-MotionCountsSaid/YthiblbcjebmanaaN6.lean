/-
  Plain: a motion with a count, step by step.
-/
import Derived.Test.YthiblbcjebmanaaMC
set_option linter.unusedVariables false
set_option linter.unusedSimpArgs false
namespace Go.Ink
open Go Go.Proofs

theorem rep_last {s : Ps → Ps} : ∀ (N : Nat) (q a b : Ps), (repM s N q a).1 = (repM s N q b).1
  | 0, q, a, b => rfl
  | N + 1, q, a, b => by
    rw [repM_succ, repM_succ]
    split
    · rfl
    · rfl
theorem ahead_trans {a b c : Ps} (h1 : aheadM a b = true) (h2 : aheadM b c = true) : aheadM a c = true := by
  unfold aheadM at *
  have h1 := of_decide_eq_true h1
  have h2 := of_decide_eq_true h2
  exact decide_eq_true (by omega)
theorem ahead_irr {a : Ps} : ¬ aheadM a a = true := by
  unfold aheadM
  intro h
  have := of_decide_eq_true h
  omega
/-- A step, and what so many of them do. -/
structure Stp (l : List (List Int)) (key : Int) (s : Ps → Ps) : Prop where
  at_ : ∀ q, At l q → At l (s q)
  ord : ∃ R : Ps → Ps → Prop, (∀ a b c, R a b → R b c → R a c) ∧ (∀ a, ¬ R a a) ∧ ∀ q, At l q → s q ≠ q → R q (s q)
  tab : tabV key ≠ .nilFunc
  key : ∀ (m : Mo) q n r, m.key = key → At l q → 1 ≤ n → KeyM l q m n false r → r.2.2 = decide ((repM s n.toNat q q).1 ≠ q) ∧ (r.2.2 = true → r.1 = (repM s n.toNat q q).1)
section
variable {l : List (List Int)} {key : Int} {s : Ps → Ps} {q q0 : Ps} {m : Mo}
theorem Stp.rep_R (h : Stp l key s) {R : Ps → Ps → Prop} (ht : ∀ a b c, R a b → R b c → R a c) (hR : ∀ q, At l q → s q ≠ q → R q (s q)) : ∀ (N : Nat) (q a : Ps), At l q → (repM s N q a).1 = q ∨ R q (repM s N q a).1
  | 0, q, a, hq => .inl rfl
  | N + 1, q, a, hq => by
    rw [repM_succ]
    split
    · exact .inl rfl
    · next hne =>
      rcases h.rep_R ht hR N (s q) q (h.at_ q hq) with e | e
      · rw [e]; exact .inr (hR q hq hne)
      · exact .inr (ht _ _ _ (hR q hq hne) e)
theorem Stp.moved (h : Stp l key s) (hq : At l q) {N : Nat} (hN : 1 ≤ N) : (repM s N q q).1 ≠ q ↔ s q ≠ q := by
  obtain ⟨N, rfl⟩ : ∃ t, N = t + 1 := ⟨N - 1, by omega⟩
  rw [repM_succ]
  by_cases he : s q = q
  · rw [if_pos he]; simp [he]
  · rw [if_neg he]
    obtain ⟨R, h1, h2, h3⟩ := h.ord
    refine ⟨fun _ => he, fun _ e => ?_⟩
    have hR := h3 q hq he
    rcases h.rep_R h1 h3 N (s q) q (h.at_ q hq) with e' | e'
    · rw [e'] at e; exact he e
    · rw [e] at e'; exact h2 _ (h1 _ _ _ hR e')
/-- Such a motion. -/
theorem Stp.move (h : Stp l key s) (hm : MoOk m) (hk : m.key = key) {p : Ps} {r : Ps × Int × Bool} (h0 : l ≠ []) (hr : MoveM l p m false r) : r.2.2 = decide (s (clipM l p) ≠ clipM l p) ∧ r.1 = (repM s (cntN m).toNat (clipM l p) (clipM l p)).1 := by
  have hat := clip_at (p := p) h0
  obtain ⟨r', h1, rfl⟩ := hr.key (by rw [hk]; exact h.tab)
  obtain ⟨h2, h3⟩ := h.key m _ _ r' hk hat hm.n.1 h1
  have hmv := h.moved (N := (cntN m).toNat) hat (by have := hm.n.1; omega)
  by_cases hok : r'.2.2 = true
  · rw [if_pos hok]
    rw [hok] at h2
    refine ⟨?_, h3 hok⟩
    rw [hok]
    exact (decide_eq_true (hmv.1 (of_decide_eq_true h2.symm))).symm
  · rw [if_neg hok]
    have hf : r'.2.2 = false := by simpa using hok
    rw [hf] at h2
    have he : ¬ (repM s (cntN m).toNat (clipM l p) (clipM l p)).1 ≠ clipM l p := of_decide_eq_false h2.symm
    refine ⟨(decide_eq_false fun hh => he (hmv.2 hh)).symm, ?_⟩
    exact (Decidable.not_not.1 he).symm
/-- A single one. -/
theorem Stp.one (h : Stp l key s) (h0 : l ≠ []) (hq : At l q) {r : Ps × Int × Bool} (hkey : -2147483648 ≤ key ∧ key ≤ 2147483647) (hr : MoveM l q ⟨key, 0, 0, 0⟩ false r) : r.2.2 = decide (s q ≠ q) ∧ r.1 = s q := by
  obtain ⟨h1, h2⟩ := h.move (m := ⟨key, 0, 0, 0⟩) ⟨hkey, ⟨by simp only; omega, by simp only; omega⟩, ⟨by simp only; omega, by simp only; omega⟩, ⟨by simp only; omega, by simp only; omega⟩⟩ rfl h0 hr
  rw [at_clip hq] at h1 h2
  refine ⟨h1, ?_⟩
  rw [h2, show (cntN ⟨key, 0, 0, 0⟩).toNat = 0 + 1 from rfl, repM_succ]
  split
  · next e => exact e.symm
  · rfl
end
/-! ### The steps -/
theorem seek_ord {f : Ps → Bool} {l : List (List Int)} {by_ : Int} (h0 : l ≠ []) (hby : by_ = 1 ∨ by_ = -1) : ∃ R : Ps → Ps → Prop, (∀ a b c, R a b → R b c → R a c) ∧ (∀ a, ¬ R a a) ∧ ∀ q, At l q → seekC f l by_ q ≠ q → R q (seekC f l by_ q) := by
  refine ⟨fun a b => if by_ = 1 then aheadM a b = true else aheadM b a = true, fun a b c h1 h2 => ?_, fun a h => ?_, fun q hq hne => ?_⟩
  · by_cases e : by_ = 1
    · simp only [if_pos e] at h1 h2 ⊢; exact ahead_trans h1 h2
    · simp only [if_neg e] at h1 h2 ⊢; exact ahead_trans h2 h1
  · by_cases e : by_ = 1
    · simp only [if_pos e] at h; exact ahead_irr h
    · simp only [if_neg e] at h; exact ahead_irr h
  · obtain ⟨q', hs⟩ := seek_exists f q h0 hby
    have e := seekC_eq hs
    rw [← e] at hne ⊢
    rcases hs with ⟨h1, -⟩ | ⟨t, r, h1, h2, h3⟩
    · exact absurd h1 h0
    · rw [at_clip hq] at h1
      have key : ∃ u, (placesTo l l.length)[u]? = some q' ∧ (if by_ = 1 then t < u else u < t) := by
        match r, h2 with
        | some u, h2 =>
          have hu : (placesTo l l.length)[u]? = some q' := by rw [h3]; unfold tellM; exact getD_of h2.1
          refine ⟨u, hu, ?_⟩
          have hon := h2.2.1
          unfold On at hon
          rcases hby with rfl | rfl
          · rw [if_pos rfl]; omega
          · rw [if_neg (by decide)]; omega
        | none, h2 =>
          have htl := (List.getElem?_eq_some_iff.1 h1).1
          rcases hby with rfl | rfl
          · have e2 : q' = lastM l := by rw [h3]; unfold tellM; rfl
            have hl := last_get l h0
            rw [← e2] at hl
            refine ⟨_, hl, ?_⟩
            rw [if_pos rfl]
            by_cases he : t = (placesTo l l.length).length - 1
            · rw [← he, h1] at hl; exact absurd (Option.some.inj hl).symm hne
            · omega
          · have e2 : q' = (0, 0) := by rw [h3]; unfold tellM; rfl
            have hz : (placesTo l l.length)[0]? = some q' := by
              rw [e2]
              obtain ⟨i, k, he, hi, hk, hP⟩ := at_index (first_at h0)
              obtain ⟨rfl, rfl⟩ : i = 0 ∧ k = 0 := by simp only [Prod.mk.injEq] at he; omega
              rw [hP]
              simp [placesTo, colsTo]
            refine ⟨0, hz, ?_⟩
            rw [if_neg (by decide)]
            by_cases he : t = 0
            · rw [he] at h1; rw [h1] at hz; exact absurd (Option.some.inj hz).symm hne
            · omega
      obtain ⟨u, hu, ho⟩ := key
      by_cases hb : by_ = 1
      · rw [if_pos hb] at ho ⊢
        rw [places_ahead h1 hu]; exact decide_eq_true ho
      · rw [if_neg hb] at ho ⊢
        rw [places_ahead hu h1]; exact decide_eq_true ho
section
variable {l : List (List Int)}
theorem ne_pair {a b : Ps} : decide (¬ (a.1 = b.1 ∧ a.2 = b.2)) = decide (a ≠ b) := by
  by_cases h : a = b
  · subst h; rw [decide_eq_false (p := a ≠ a) (fun h => h rfl), decide_eq_false (p := ¬ (a.1 = a.1 ∧ a.2 = a.2)) (fun h => h ⟨rfl, rfl⟩)]
  · rw [decide_eq_true (p := a ≠ b) h, decide_eq_true (p := ¬ (a.1 = b.1 ∧ a.2 = b.2)) fun e => h (Prod.ext e.1 e.2)]
theorem stp_words {key : Int} (h0 : l ≠ []) (hk : key = 119 ∨ key = 87 ∨ key = 98 ∨ key = 66 ∨ key = 101 ∨ key = 69) : Stp l key (wordS l (decide (key < 97)) (lowK key)) := by
  refine ⟨fun q _ => wordS_at h0 q, ?_, tab_has (by omega), fun m q n r hm hq hn hr => ?_⟩
  · unfold wordS
    split
    · exact seek_ord h0 (.inr rfl)
    · split
      · exact seek_ord h0 (.inl rfl)
      · exact seek_ord h0 (.inl rfl)
  · rw [hr.inv_words (by omega), hm]
    unfold wordsV
    rw [if_neg (fun h => by cases h.1)]
    exact ⟨ne_pair, fun _ => rfl⟩
theorem stp_blocks {key : Int} (h0 : l ≠ []) (hk : key = 125 ∨ key = 123 ∨ key = 41 ∨ key = 40) : Stp l key (blockS l key) := by
  refine ⟨fun q _ => blockS_at h0 q, ?_, tab_has (by omega), fun m q n r hm hq hn hr => ?_⟩
  · unfold blockS
    split
    · exact seek_ord h0 (.inr rfl)
    · split
      · exact seek_ord h0 (.inl rfl)
      · split
        · exact seek_ord h0 (.inr rfl)
        · exact seek_ord h0 (.inl rfl)
  · rw [hr.inv_blocks (by omega), hm]
    exact ⟨ne_pair, fun _ => rfl⟩
def leftS (q : Ps) : Ps := if 0 < q.2 then (q.1, q.2 - 1) else q
def rightS (l : List (List Int)) (q : Ps) : Ps := if q.2 < ((rowOf l q).length : Int) - 1 then (q.1, q.2 + 1) else q
theorem rep_left : ∀ (N : Nat) (q a : Ps), 0 ≤ q.2 → (repM leftS N q a).1 = (q.1, q.2 - if q.2 < (N : Int) then q.2 else (N : Int))
  | 0, q, a, h => by
    show q = _
    rw [if_neg (by omega)]
    simp
  | N + 1, q, a, h => by
    rw [repM_succ]
    unfold leftS
    by_cases h1 : 0 < q.2
    · simp only [if_pos h1]
      rw [if_neg (fun e => by have := congrArg Prod.snd e; simp only at this; omega)]
      have := rep_left N (q.1, q.2 - 1) q (by simp only; omega)
      unfold leftS at this
      rw [this]
      simp only [Prod.mk.injEq, true_and]
      split <;> split <;> omega
    · simp only [if_neg h1, if_true]
      have : q.2 = 0 := by omega
      ext
      · rfl
      · simp only; split <;> omega
theorem rep_right : ∀ (N : Nat) (q a : Ps), 0 ≤ q.2 → (q.2 < (rowOf l q).length ∨ q.2 = 0) → (repM (rightS l) N q a).1 = if q.2 < ((rowOf l q).length : Int) - 1 then (q.1, q.2 + if ((rowOf l q).length : Int) - 1 - q.2 < (N : Int) then ((rowOf l q).length : Int) - 1 - q.2 else (N : Int)) else q
  | 0, q, a, h, h' => by
    show q = _
    split
    · rw [if_neg (by omega)]; simp
    · rfl
  | N + 1, q, a, h, h' => by
    rw [repM_succ]
    unfold rightS
    by_cases h1 : q.2 < ((rowOf l q).length : Int) - 1
    · simp only [if_pos h1]
      rw [if_neg (fun e => by have := congrArg Prod.snd e; simp only at this; omega)]
      have e1 : rowOf l (q.1, q.2 + 1) = rowOf l q := rfl
      have := rep_right N (q.1, q.2 + 1) q (by simp only; omega) (by rw [e1]; simp only; omega)
      unfold rightS at this
      rw [this, e1]
      split
      · simp only [Prod.mk.injEq, true_and]
        split <;> split <;> omega
      · simp only [Prod.mk.injEq, true_and]
        split <;> omega
    · simp only [if_neg h1, if_true]
theorem stp_left : Stp l 104 leftS := by
  refine ⟨fun q hq => ?_, ⟨fun a b => b.2 < a.2, fun a b c h1 h2 => by omega, fun a h => by omega, fun q hq hne => ?_⟩, tab_has (by omega), fun m q n r hm hq hn hr => ?_⟩
  · unfold leftS
    have := hq.k
    split
    · exact at_colq hq (by omega) (by omega)
    · exact hq
  · unfold leftS at hne ⊢
    split
    · simp only; omega
    · next h => rw [if_neg h] at hne; exact absurd rfl hne
  · rw [hr.inv_left hm]
    have hk := hq.k
    rw [rep_left n.toNat q q (by omega)]
    unfold leftM
    have e : ((n.toNat : Nat) : Int) = n := by omega
    rw [e]
    refine ⟨?_, fun _ => rfl⟩
    simp only
    by_cases h : 0 < q.2
    · rw [decide_eq_true h]
      refine (decide_eq_true (p := _ ≠ _) fun e => ?_).symm
      have := congrArg Prod.snd e
      simp only at this
      split at this <;> omega
    · rw [decide_eq_false h]
      refine (decide_eq_false fun hh => hh ?_).symm
      ext
      · rfl
      · simp only; split <;> omega
theorem stp_right : Stp l 108 (rightS l) := by
  refine ⟨fun q hq => ?_, ⟨fun a b => a.2 < b.2, fun a b c h1 h2 => by omega, fun a h => by omega, fun q hq hne => ?_⟩, tab_has (by omega), fun m q n r hm hq hn hr => ?_⟩
  · unfold rightS
    have := hq.k
    split
    · exact at_colq hq (by omega) (by omega)
    · exact hq
  · unfold rightS at hne ⊢
    split
    · simp only; omega
    · next h => rw [if_neg h] at hne; exact absurd rfl hne
  · rw [hr.inv_right hm]
    have hk := hq.k
    rw [rep_right n.toNat q q (by omega) (by omega)]
    unfold rightM roomM
    have e : ((n.toNat : Nat) : Int) = n := by omega
    rw [e]
    simp only [Bool.false_eq_true, if_false, Int.add_zero]
    by_cases h : q.2 < ((rowOf l q).length : Int) - 1
    · rw [if_pos h, decide_eq_true (by omega : 0 < ((rowOf l q).length : Int) - 1 - q.2)]
      refine ⟨(decide_eq_true (p := _ ≠ _) fun e => ?_).symm, fun _ => rfl⟩
      have := congrArg Prod.snd e
      simp only at this
      split at this <;> omega
    · rw [if_neg h, decide_eq_false (by omega : ¬ 0 < ((rowOf l q).length : Int) - 1 - q.2)]
      exact ⟨by simp, fun h => by cases h⟩
def keysL : List Int := [104, 108, 119, 87, 98, 66, 101, 69, 125, 41, 40, 123]
theorem stp_key (h0 : l ≠ []) {k : Nat} (hk : k < 12) : ∃ s, Stp l (keysL.getD k 0) s := by
  rcases (by omega : k = 0 ∨ k = 1 ∨ k = 2 ∨ k = 3 ∨ k = 4 ∨ k = 5 ∨ k = 6 ∨ k = 7 ∨ k = 8 ∨ k = 9 ∨ k = 10 ∨ k = 11) with rfl | rfl | rfl | rfl | rfl | rfl | rfl | rfl | rfl | rfl | rfl | rfl
  · exact ⟨_, stp_left⟩
  · exact ⟨_, stp_right⟩
  · exact ⟨_, stp_words h0 (by decide)⟩
  · exact ⟨_, stp_words h0 (by decide)⟩
  · exact ⟨_, stp_words h0 (by decide)⟩
  · exact ⟨_, stp_words h0 (by decide)⟩
  · exact ⟨_, stp_words h0 (by decide)⟩
  · exact ⟨_, stp_words h0 (by decide)⟩
  · exact ⟨_, stp_blocks h0 (by decide)⟩
  · exact ⟨_, stp_blocks h0 (by decide)⟩
  · exact ⟨_, stp_blocks h0 (by decide)⟩
  · exact ⟨_, stp_blocks h0 (by decide)⟩
end
end Go.Ink
