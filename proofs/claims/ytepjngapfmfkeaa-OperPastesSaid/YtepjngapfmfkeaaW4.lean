/-
  Plain: places, their order.
-/
import Derived.Test.YtepjngapfmfkeaaW2
import Derived.Test.YtepjngapfmfkeaaSml
set_option linter.unusedVariables false
set_option linter.unusedSimpArgs false
namespace Go.Ink
open Go Go.Proofs

section
variable {F : Nat → Prop} {w : World} {v : Value} {l : List (List Int)} {p q : Ps}
def aheadM (p q : Ps) : Bool := decide (p.1 < q.1 ∨ (p.1 = q.1 ∧ p.2 < q.2))
def kPs : Kd Ps := kPair kI64 kI64
instance : ScK kPs := inferInstanceAs (ScK (kPair kI64 kI64))
def colsTo (i n : Nat) : List Ps := (List.range n).map fun k : Nat => ((i : Int), (k : Int))
theorem colsTo_succ (i n : Nat) : colsTo i (n + 1) = colsTo i n ++ [((i : Int), (n : Int))] := by unfold colsTo; rw [List.range_succ, List.map_append]; rfl
theorem colsTo_len (i n : Nat) : (colsTo i n).length = n := by simp [colsTo]
def placesAt (l : List (List Int)) (i : Nat) : List Ps := if (l.getD i []).length = 0 then [((i : Int), 0)] else colsTo i (l.getD i []).length
def placesTo (l : List (List Int)) (n : Nat) : List Ps := (List.range n).flatMap (placesAt l)
theorem placesTo_succ (n : Nat) : placesTo l (n + 1) = placesTo l n ++ placesAt l n := by unfold placesTo; rw [List.range_succ, List.flatMap_append]; simp
theorem placesTo_le : ∀ n, n ≤ l.length → (placesTo l n).length ≤ n + runesM (l.take n)
  | 0, _ => by simp [placesTo]
  | n + 1, h => by
    have ih := placesTo_le n (by omega)
    have h1 : (placesAt l n).length ≤ 1 + (l[n]'(by omega)).length := by
      unfold placesAt
      rw [getD_get (by omega)]
      split
      · simp
      · rw [colsTo_len]; omega
    have h2 : runesM (l.take (n + 1)) = runesM (l.take n) + (l[n]'(by omega)).length := by
      unfold runesM
      rw [List.take_succ_eq_append_getElem (by omega), List.map_append, List.sum_append]
      simp
    rw [placesTo_succ, List.length_append]
    omega
theorem ps_R {F : Nat → Prop} {w : World} {a b : Int} (h1 : -9223372036854775808 ≤ a ∧ a ≤ 9223372036854775807) (h2 : -9223372036854775808 ≤ b ∧ b ≤ 9223372036854775807) : kPs.R F w (a, b) [.int .i64 a, .int .i64 b] :=
  ⟨[.int .i64 a], [.int .i64 b], rfl, ⟨rfl, h1.1, h1.2⟩, ⟨rfl, h2.1, h2.2⟩⟩
end
def rowOf (l : List (List Int)) (p : Ps) : List Int := l.getD p.1.toNat []
theorem rd_same {P : Program} {t : TypeId} {α : Type} {d : Kd α} {b : Nat} {hb : 0 < b} (h : RdT P t (kIso d id b hb)) (hb' : d.bytes = b) : RdT P t d := ⟨h.rd, h.sz, h.by_.trans hb'.symm⟩
instance : StrucT Try.prog 24 [3, 3] := ⟨by kernel_rfl, by kernel_rfl⟩
instance : RdT Try.prog 24 kPs := rd_same (b := 16) (hb := by decide) (rd_struct (g := id) inferInstance inferInstance (fun _ => rfl) (by kernel_rfl) (by kernel_rfl)) rfl
theorem ps_form {F : Nat → Prop} {w : World} {p : Ps} {cs : List Value} (h : kPs.R F w p cs) : cs = [.int .i64 p.1, .int .i64 p.2] ∧ P64 p := by
  obtain ⟨c1, c2, rfl, ⟨rfl, h1⟩, ⟨rfl, h2⟩⟩ := h
  exact ⟨rfl, h1, h2⟩
/-- A cursor's place. -/
structure At (l : List (List Int)) (q : Ps) : Prop where
  i : 0 ≤ q.1 ∧ q.1 < l.length
  k : (rowOf l q).length = 0 ∧ q.2 = 0 ∨ 0 ≤ q.2 ∧ q.2 < (rowOf l q).length
theorem clip_at {l : List (List Int)} {p : Ps} (h0 : l ≠ []) : At l (clipM l p) := by
  obtain ⟨h1, h2⟩ := lineOf_lt (p := p) h0
  have e1 : (clipM l p).1 = lineOf l p := by unfold clipM; rw [if_neg h0]
  have e2 : (clipM l p).2 = if (l.getD (lineOf l p) []).length = 0 then 0 else clampI p.2 (l.getD (lineOf l p) []).length := by unfold clipM; rw [if_neg h0]
  have e3 : rowOf l (clipM l p) = l.getD (lineOf l p) [] := by unfold rowOf; rw [e1, Int.toNat_natCast]
  refine ⟨by rw [e1]; omega, ?_⟩
  rw [e2, e3]
  unfold clampI
  split
  · exact .inl ⟨by assumption, rfl⟩
  · refine .inr ?_
    split <;> (try split) <;> omega
theorem at_clip {l : List (List Int)} {q : Ps} (h : At l q) : clipM l q = q := by
  have h0 : l ≠ [] := by rintro rfl; have := h.i; simp at this; omega
  have hi := h.i
  have e0 : lineOf l q = q.1.toNat := by unfold lineOf clampI; rw [if_neg (by omega), if_neg (by omega)]
  unfold clipM
  rw [if_neg h0, e0]
  have hk := h.k
  unfold rowOf at hk
  apply Prod.ext
  · show ((q.1.toNat : Nat) : Int) = q.1; omega
  · show (if (l.getD q.1.toNat []).length = 0 then (0 : Int) else clampI q.2 (l.getD q.1.toNat []).length) = q.2
    unfold clampI
    rcases hk with ⟨h1, h2⟩ | ⟨h1, h2⟩
    · rw [if_pos h1, h2]
    · rw [if_neg (by omega), if_neg (by omega), if_neg (by omega)]
def colsFrom (i k m : Nat) : List Ps := (List.range' k m).map fun j : Nat => ((i : Int), (j : Int))
theorem rowOf_at (l : List (List Int)) (i : Nat) (j : Int) : rowOf l ((i : Int), j) = l.getD i [] := rfl
def placesFrom (l : List (List Int)) (i : Nat) : List Ps := (List.range' i (l.length - i)).flatMap (placesAt l)
theorem placesFrom_cons {l : List (List Int)} {i : Nat} (h : i < l.length) : placesFrom l i = placesAt l i ++ placesFrom l (i + 1) := by
  unfold placesFrom
  rw [show l.length - i = (l.length - (i + 1)) + 1 by omega, List.range'_succ, List.flatMap_cons]
theorem places_split {l : List (List Int)} : ∀ n i, i + n = l.length → placesTo l l.length = placesTo l i ++ placesFrom l i
  | 0, i, h => by
    obtain rfl : i = l.length := by omega
    unfold placesFrom
    simp
  | n + 1, i, h => by
    rw [places_split n (i + 1) (by omega), placesTo_succ, placesFrom_cons (i := i) (by omega), List.append_assoc]
theorem cols_fst {i k m : Nat} : ∀ a ∈ colsFrom i k m, a.1 = (i : Int) := by
  intro a ha
  unfold colsFrom at ha
  obtain ⟨j, -, rfl⟩ := List.mem_map.1 ha
  rfl
theorem colsTo_from (i n : Nat) : colsTo i n = colsFrom i 0 n := by unfold colsTo colsFrom; rw [List.range_eq_range']
/-- A place in all places. -/
theorem at_index {l : List (List Int)} {p : Ps} (h : At l p) : ∃ i k : Nat, p = ((i : Int), (k : Int)) ∧ i < l.length ∧ ((l.getD i []).length = 0 ∧ k = 0 ∨ k < (l.getD i []).length) ∧
    placesTo l l.length = (placesTo l i ++ colsTo i k) ++ p :: (colsFrom i (k + 1) ((l.getD i []).length - (k + 1)) ++ placesFrom l (i + 1)) := by
  have hi := h.i
  have hk := h.k
  obtain ⟨p1, p2⟩ := p
  simp only at hi
  obtain ⟨i, rfl⟩ : ∃ i : Nat, p1 = i := ⟨p1.toNat, by omega⟩
  rw [rowOf_at] at hk
  simp only at hk
  obtain ⟨k, rfl⟩ : ∃ k : Nat, p2 = k := ⟨p2.toNat, by omega⟩
  have hil : i < l.length := by omega
  refine ⟨i, k, rfl, hil, by omega, ?_⟩
  rw [places_split (l.length - i) i (by omega), placesFrom_cons hil, List.append_assoc]
  congr 1
  unfold placesAt
  split
  · next h0 =>
    obtain rfl : k = 0 := by omega
    rw [h0]
    rfl
  · next h0 =>
    have hkl : k < (l.getD i []).length := by omega
    rw [colsTo_from, colsTo_from]
    unfold colsFrom
    rw [show (l.getD i []).length = k + (1 + ((l.getD i []).length - (k + 1))) by omega, ← List.range'_append, List.map_append, List.append_assoc]
    simp only [Nat.zero_add, Nat.one_mul]
    rw [← List.range'_append]
    simp only [List.range'_one, Nat.one_mul, List.map_append, List.map_cons, List.map_nil, List.append_assoc, List.cons_append, List.nil_append]
    rw [show k + (1 + ((l.getD i []).length - (k + 1))) - (k + 1) = (l.getD i []).length - (k + 1) by omega]
theorem ahead_f {p q : Ps} : aheadM p q = false ↔ ¬ (p.1 < q.1 ∨ (p.1 = q.1 ∧ p.2 < q.2)) := by unfold aheadM; exact decide_eq_false_iff_not
/-! ### Words -/
/-! ### The order of places -/
theorem placesAt_fst {l : List (List Int)} {i : Nat} : ∀ a ∈ placesAt l i, a.1 = (i : Int) := by
  intro a ha
  unfold placesAt at ha
  split at ha
  · rw [List.mem_singleton] at ha; rw [ha]
  · exact cols_fst a (by rw [← colsTo_from]; exact ha)
theorem placesTo_fst {l : List (List Int)} : ∀ n, ∀ a ∈ placesTo l n, a.1 < (n : Int)
  | 0, a, h => by simp [placesTo] at h
  | n + 1, a, h => by
    rw [placesTo_succ] at h
    rcases List.mem_append.1 h with h | h
    · have := placesTo_fst n a h; omega
    · have := placesAt_fst a h; omega
theorem placesAt_pair {l : List (List Int)} {i : Nat} : (placesAt l i).Pairwise fun a b => aheadM a b = true := by
  unfold placesAt
  split
  · simp
  · unfold colsTo
    rw [List.pairwise_map]
    exact List.pairwise_lt_range.imp fun h => by unfold aheadM; exact decide_eq_true (.inr ⟨rfl, by simp only; omega⟩)
theorem placesTo_pair {l : List (List Int)} : ∀ n, (placesTo l n).Pairwise fun a b => aheadM a b = true
  | 0 => by simp [placesTo]
  | n + 1 => by
    rw [placesTo_succ, List.pairwise_append]
    refine ⟨placesTo_pair n, placesAt_pair, fun a ha b hb => ?_⟩
    have h1 := placesTo_fst n a ha
    have h2 := placesAt_fst b hb
    unfold aheadM
    exact decide_eq_true (.inl (by omega))
theorem places_ahead {l : List (List Int)} {i j : Nat} {a b : Ps} (h1 : (placesTo l l.length)[i]? = some a) (h2 : (placesTo l l.length)[j]? = some b) : aheadM a b = decide (i < j) := by
  obtain ⟨hi, rfl⟩ := List.getElem?_eq_some_iff.1 h1
  obtain ⟨hj, rfl⟩ := List.getElem?_eq_some_iff.1 h2
  have hp := List.pairwise_iff_getElem.1 (placesTo_pair (l := l) l.length)
  rcases Nat.lt_trichotomy i j with hlt | he | hlt
  · rw [hp i j hi hj hlt, decide_eq_true hlt]
  · subst he
    rw [decide_eq_false (by omega)]
    exact ahead_f.2 (by omega)
  · rw [decide_eq_false (by omega)]
    have := of_decide_eq_true (hp j i hj hi hlt)
    exact ahead_f.2 (by omega)
theorem places_inj {l : List (List Int)} {i j : Nat} {a : Ps} (h1 : (placesTo l l.length)[i]? = some a) (h2 : (placesTo l l.length)[j]? = some a) : i = j := by
  have e1 := places_ahead h1 h2
  have e2 := places_ahead h2 h1
  have e3 : aheadM a a = false := ahead_f.2 (by omega)
  rw [e3] at e1 e2
  have := of_decide_eq_false e1.symm
  have := of_decide_eq_false e2.symm
  omega
end Go.Ink
