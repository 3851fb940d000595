/-
  Plain: brackets as sums along the places.
-/
import Derived.Test.YtabmggnljijhkaaP3
set_option linter.unusedVariables false
set_option linter.unusedSimpArgs false
namespace Go.Ink
open Go Go.Proofs

def valw (x y r : Int) : Int := if r = x then 1 else if r = y then -1 else 0
def vp (l : List (List Int)) (x y : Int) (q : Ps) : Int := if (rowOf l q).length = 0 then 0 else valw x y ((rowOf l q).getD q.2.toNat 0)
def scan (v : Ps → Int) : List Ps → Int → Option Ps × Int
  | [], d => (none, d)
  | q :: t, d => if v q ≠ 0 ∧ d + v q = 0 then (some q, 0) else scan v t (d + v q)
def pre (v : Ps → Int) (L : List Ps) (j : Nat) : Int := ((L.take j).map v).sum
theorem scan_cons (v : Ps → Int) (q : Ps) (t : List Ps) (d : Int) : scan v (q :: t) d = if v q ≠ 0 ∧ d + v q = 0 then (some q, 0) else scan v t (d + v q) := rfl
theorem scan_append (v : Ps → Int) : ∀ A B d, scan v (A ++ B) d = match scan v A d with | (some q, e) => (some q, e) | (none, e) => scan v B e
  | [], B, d => rfl
  | q :: A, B, d => by
    rw [List.cons_append, scan_cons, scan_cons]
    split
    · rfl
    · exact scan_append v A B _
theorem scan_pos {v : Ps → Int} (hv : ∀ q, -1 ≤ v q) : ∀ (L : List Ps) (d : Int), 1 ≤ d →
    (∀ q e, scan v L d = (some q, e) → ∃ r, ∃ h : r < L.length, L[r] = q ∧ d + pre v L (r + 1) = 0 ∧ ∀ j, j ≤ r → 1 ≤ d + pre v L j) ∧
    (∀ e, scan v L d = (none, e) → ∀ j, j ≤ L.length → 1 ≤ d + pre v L j)
  | [], d, hd => ⟨fun q e h => by simp [scan] at h, fun e h j hj => by simp [pre]; omega⟩
  | q :: t, d, hd => by
    have hq := hv q
    have p0 : pre v (q :: t) 0 = 0 := rfl
    have ps : ∀ j, pre v (q :: t) (j + 1) = v q + pre v t j := fun j => by simp [pre]
    unfold scan
    by_cases hc : v q ≠ 0 ∧ d + v q = 0
    · rw [if_pos hc]
      refine ⟨fun q' e h => ?_, fun e h => by simp at h⟩
      cases h
      refine ⟨0, by simp, rfl, ?_, fun j hj => ?_⟩
      · rw [ps]; show d + (v q + 0) = 0; omega
      · obtain rfl : j = 0 := by omega
        rw [p0]; omega
    · rw [if_neg hc]
      have hd' : 1 ≤ d + v q := by
        by_cases h0 : v q = 0
        · omega
        · have : ¬ d + v q = 0 := fun h => hc ⟨h0, h⟩
          omega
      obtain ⟨h1, h2⟩ := scan_pos hv t (d + v q) hd'
      refine ⟨fun q' e h => ?_, fun e h => ?_⟩
      · obtain ⟨r, hr, e1, e2, e3⟩ := h1 q' e h
        refine ⟨r + 1, by simp; omega, by simpa using e1, ?_, fun j hj => ?_⟩
        · rw [ps]; omega
        · match j with
          | 0 => rw [p0]; omega
          | j + 1 => rw [ps]; have := e3 j (by omega); omega
      · intro j hj
        have := h2 e h
        match j with
        | 0 => rw [p0]; omega
        | j + 1 => rw [ps]; have := this j (by simp at hj; omega); omega
/-! ### Lines -/
def colsFrom (i k m : Nat) : List Ps := (List.range' k m).map fun j : Nat => ((i : Int), (j : Int))
theorem rowOf_at (l : List (List Int)) (i : Nat) (j : Int) : rowOf l ((i : Int), j) = l.getD i [] := rfl
theorem lineM_step {row : List Int} {x y by_ : Int} {n k : Nat} {d : Int} (h : k < row.length) : lineM row x y by_ (n + 1) k d =
    if valw x y (row.getD k 0) ≠ 0 ∧ d + valw x y (row.getD k 0) = 0 then (some (k : Int), 0) else lineM row x y by_ n (k + by_) (d + valw x y (row.getD k 0)) := by
  show (if 0 ≤ (k : Int) ∧ (k : Int) < row.length then _ else _) = _
  rw [if_pos ⟨by omega, by omega⟩, Int.toNat_natCast]
  unfold valw
  by_cases h1 : row.getD k 0 = x
  · simp only [if_pos h1]
    by_cases h2 : d + 1 = 0
    · rw [if_pos h2, if_pos ⟨by decide, h2⟩, h2]
    · rw [if_neg h2, if_neg (fun h => h2 h.2)]
  · simp only [if_neg h1]
    by_cases h3 : row.getD k 0 = y
    · simp only [if_pos h3]
      by_cases h2 : d - 1 = 0
      · rw [if_pos h2, if_pos ⟨by decide, by omega⟩, h2]
      · rw [if_neg h2, if_neg (fun h => h2 (by omega))]; rfl
    · simp only [if_neg h3]
      rw [if_neg (fun h => h.1 rfl), Int.add_zero]
theorem lineM_out {row : List Int} {x y by_ : Int} {n : Nat} {k d : Int} (h : ¬ (0 ≤ k ∧ k < row.length)) : lineM row x y by_ n k d = (none, d) := by
  cases n with
  | zero => rfl
  | succ n => unfold lineM; rw [if_neg h]
def resL : Option Ps × Int → Option Int × Int
  | (some q, e) => (some q.2, e)
  | (none, e) => (none, e)
theorem vp_get {l : List (List Int)} {x y : Int} {i k : Nat} (h : k < (l.getD i []).length) : vp l x y ((i : Int), (k : Int)) = valw x y ((l.getD i []).getD k 0) := by
  unfold vp
  rw [rowOf_at, if_neg (by omega)]
  rfl
theorem line_fwd {l : List (List Int)} {x y : Int} {i : Nat} : ∀ m k n d, k + m = (l.getD i []).length → m < n → lineM (l.getD i []) x y 1 n (k : Nat) d = resL (scan (vp l x y) (colsFrom i k m) d)
  | 0, k, n, d, hk, hn => by rw [lineM_out (by omega)]; rfl
  | m + 1, k, n, d, hk, hn => by
    obtain ⟨n, rfl⟩ : ∃ t, n = t + 1 := ⟨n - 1, by omega⟩
    rw [lineM_step (by omega)]
    have : colsFrom i k (m + 1) = ((i : Int), (k : Int)) :: colsFrom i (k + 1) m := by unfold colsFrom; rw [List.range'_succ]; rfl
    rw [this, scan_cons, vp_get (by omega)]
    split
    · rfl
    · have := line_fwd (l := l) (x := x) (y := y) (i := i) m (k + 1) n (d + valw x y ((l.getD i []).getD k 0)) (by omega) (by omega)
      rw [← this]; rfl
theorem line_bwd {l : List (List Int)} {x y : Int} {i : Nat} : ∀ k n d, k ≤ (l.getD i []).length → k < n → lineM (l.getD i []) x y (-1) n ((k : Int) - 1) d = resL (scan (vp l x y) (colsTo i k).reverse d)
  | 0, n, d, hk, hn => by rw [lineM_out (by omega)]; rfl
  | k + 1, n, d, hk, hn => by
    obtain ⟨n, rfl⟩ : ∃ t, n = t + 1 := ⟨n - 1, by omega⟩
    rw [show (((k + 1 : Nat) : Int) - 1) = (k : Nat) by omega, lineM_step (by omega), colsTo_succ, List.reverse_append]
    show _ = resL (scan (vp l x y) (((i : Int), (k : Int)) :: (colsTo i k).reverse) d)
    rw [scan_cons, vp_get (by omega)]
    split
    · rfl
    · have := line_bwd (l := l) (x := x) (y := y) (i := i) k n (d + valw x y ((l.getD i []).getD k 0)) (by omega) (by omega)
      rw [← this]; rfl
/-! ### All lines -/
def placesFrom (l : List (List Int)) (i : Nat) : List Ps := (List.range' i (l.length - i)).flatMap (placesAt l)
theorem placesFrom_cons {l : List (List Int)} {i : Nat} (h : i < l.length) : placesFrom l i = placesAt l i ++ placesFrom l (i + 1) := by
  unfold placesFrom
  rw [show l.length - i = (l.length - (i + 1)) + 1 by omega, List.range'_succ, List.flatMap_cons]
theorem places_split {l : List (List Int)} : ∀ n i, i + n = l.length → placesTo l l.length = placesTo l i ++ placesFrom l i
  | 0, i, h => by
    obtain rfl : i = l.length := by omega
    unfold placesFrom
    simp
  | n + 1, i, h => by
    rw [places_split n (i + 1) (by omega), placesTo_succ, placesFrom_cons (i := i) (by omega), List.append_assoc]
theorem scan_fst (v : Ps → Int) (i : Nat) : ∀ (A : List Ps) d q e, (∀ a ∈ A, a.1 = (i : Int)) → scan v A d = (some q, e) → q.1 = (i : Int)
  | [], d, q, e, h, hs => by simp [scan] at hs
  | a :: A, d, q, e, h, hs => by
    rw [scan_cons] at hs
    split at hs
    · cases hs; exact h a (by simp)
    · exact scan_fst v i A _ q e (fun x hx => h x (by simp [hx])) hs
theorem cols_fst {i k m : Nat} : ∀ a ∈ colsFrom i k m, a.1 = (i : Int) := by
  intro a ha
  unfold colsFrom at ha
  obtain ⟨j, -, rfl⟩ := List.mem_map.1 ha
  rfl
theorem colsTo_from (i n : Nat) : colsTo i n = colsFrom i 0 n := by unfold colsTo colsFrom; rw [List.range_eq_range']
theorem vp_empty {l : List (List Int)} {x y : Int} {i : Nat} (h : (l.getD i []).length = 0) (j : Int) : vp l x y ((i : Int), j) = 0 := by unfold vp; rw [rowOf_at, if_pos h]
theorem scan_zero {l : List (List Int)} {x y : Int} {i : Nat} (h : (l.getD i []).length = 0) (j d : Int) : scan (vp l x y) [((i : Int), j)] d = (none, d) := by
  rw [scan_cons, vp_empty h, if_neg (fun h => h.1 rfl), Int.add_zero]
  rfl
theorem pairGo_step {l : List (List Int)} {p : Ps} {x y by_ : Int} {n i : Nat} {d : Int} (h : i < l.length) {A : List Ps} (hA : lineM (l.getD i []) x y by_ ((l.getD i []).length + 1) (startM l p by_ i) d = resL (scan (vp l x y) A d)) (hf : ∀ a ∈ A, a.1 = (i : Int)) :
    pairGo l p x y by_ (n + 1) i d = match scan (vp l x y) A d with | (some q, _) => some q | (none, e) => pairGo l p x y by_ n (i + by_) e := by
  show (if 0 ≤ (i : Int) ∧ (i : Int) < l.length then _ else _) = _
  rw [if_pos ⟨by omega, by omega⟩, Int.toNat_natCast, hA]
  match hs : scan (vp l x y) A d with
  | (some q, e) =>
    have := scan_fst _ _ _ _ _ _ hf hs
    show some ((i : Int), q.2) = some q
    rw [← this]
  | (none, e) => rfl
theorem pairGo_end {l : List (List Int)} {p : Ps} {x y by_ : Int} {n : Nat} {i d : Int} (h : ¬ (0 ≤ i ∧ i < l.length)) : pairGo l p x y by_ n i d = none := by
  cases n with
  | zero => rfl
  | succ n => unfold pairGo; rw [if_neg h]
theorem go_fwd {l : List (List Int)} {p : Ps} {x y : Int} : ∀ m i n d, i + m = l.length → m < n → p.1 < (i : Int) → pairGo l p x y 1 n (i : Nat) d = (scan (vp l x y) (placesFrom l i) d).1
  | 0, i, n, d, hi, hn, hp => by
    rw [pairGo_end (by omega)]
    unfold placesFrom
    rw [show l.length - i = 0 by omega]
    rfl
  | m + 1, i, n, d, hi, hn, hp => by
    obtain ⟨n, rfl⟩ : ∃ t, n = t + 1 := ⟨n - 1, by omega⟩
    have hst : startM l p 1 (i : Int) = ((0 : Nat) : Int) := by unfold startM; rw [if_neg (by omega), if_neg (by omega)]; rfl
    have hl := line_fwd (l := l) (x := x) (y := y) (i := i) (l.getD i []).length 0 ((l.getD i []).length + 1) d (by omega) (by omega)
    rw [pairGo_step (A := colsFrom i 0 (l.getD i []).length) (by omega) (by rw [hst]; exact hl) cols_fst, placesFrom_cons (by omega), scan_append]
    have hpl : scan (vp l x y) (placesAt l i) d = scan (vp l x y) (colsFrom i 0 (l.getD i []).length) d := by
      unfold placesAt
      split
      · next h0 => rw [scan_zero h0, h0]; rfl
      · rw [colsTo_from]
    rw [hpl]
    have ih := go_fwd (l := l) (p := p) (x := x) (y := y) m (i + 1) n
    match scan (vp l x y) (colsFrom i 0 (l.getD i []).length) d with
    | (some q, e) => rfl
    | (none, e) => exact ih e (by omega) (by omega) (by omega)
theorem go_bwd {l : List (List Int)} {p : Ps} {x y : Int} : ∀ i n d, i ≤ l.length → i < n → (i : Int) ≤ p.1 → pairGo l p x y (-1) n ((i : Int) - 1) d = (scan (vp l x y) (placesTo l i).reverse d).1
  | 0, n, d, hi, hn, hp => by rw [pairGo_end (by omega)]; rfl
  | i + 1, n, d, hi, hn, hp => by
    obtain ⟨n, rfl⟩ : ∃ t, n = t + 1 := ⟨n - 1, by omega⟩
    rw [show (((i + 1 : Nat) : Int) - 1) = (i : Nat) by omega]
    have hst : startM l p (-1) (i : Int) = ((l.getD i []).length : Int) - 1 := by unfold startM; rw [if_neg (by omega), if_pos (by omega)]; rfl
    have hl := line_bwd (l := l) (x := x) (y := y) (i := i) (l.getD i []).length ((l.getD i []).length + 1) d (by omega) (by omega)
    rw [pairGo_step (A := (colsTo i (l.getD i []).length).reverse) (by omega) (by rw [hst]; exact hl) (fun a ha => cols_fst a (by rw [← colsTo_from]; exact List.mem_reverse.1 ha)), placesTo_succ, List.reverse_append, scan_append]
    have hpl : scan (vp l x y) (placesAt l i).reverse d = scan (vp l x y) (colsTo i (l.getD i []).length).reverse d := by
      unfold placesAt
      split
      · next h0 => rw [h0]; exact scan_zero h0 0 d
      · rfl
    rw [hpl]
    have ih := go_bwd (l := l) (p := p) (x := x) (y := y) i n
    match scan (vp l x y) (colsTo i (l.getD i []).length).reverse d with
    | (some q, e) => rfl
    | (none, e) =>
      have := ih e (by omega) (by omega) (by omega)
      show pairGo l p x y (-1) n ((i : Int) + -1) e = _
      rw [← this]; rfl
/-- A place in all places. -/
theorem at_index {l : List (List Int)} {p : Ps} (h : At l p) : ∃ i k : Nat, p = ((i : Int), (k : Int)) ∧ i < l.length ∧ ((l.getD i []).length = 0 ∧ k = 0 ∨ k < (l.getD i []).length) ∧
    placesTo l l.length = (placesTo l i ++ colsTo i k) ++ p :: (colsFrom i (k + 1) ((l.getD i []).length - (k + 1)) ++ placesFrom l (i + 1)) := by
  have hi := h.i
  have hk := h.k
  obtain ⟨p1, p2⟩ := p
  simp only at hi
  obtain ⟨i, rfl⟩ : ∃ i : Nat, p1 = i := ⟨p1.toNat, by omega⟩
  rw [rowOf_at] at hk
  simp only at hk
  obtain ⟨k, rfl⟩ : ∃ k : Nat, p2 = k := ⟨p2.toNat, by omega⟩
  have hil : i < l.length := by omega
  refine ⟨i, k, rfl, hil, by omega, ?_⟩
  rw [places_split (l.length - i) i (by omega), placesFrom_cons hil, List.append_assoc]
  congr 1
  unfold placesAt
  split
  · next h0 =>
    obtain rfl : k = 0 := by omega
    rw [h0]
    rfl
  · next h0 =>
    have hkl : k < (l.getD i []).length := by omega
    rw [colsTo_from, colsTo_from]
    unfold colsFrom
    rw [show (l.getD i []).length = k + (1 + ((l.getD i []).length - (k + 1))) by omega, ← List.range'_append, List.map_append, List.append_assoc]
    simp only [Nat.zero_add, Nat.one_mul]
    rw [← List.range'_append]
    simp only [List.range'_one, Nat.one_mul, List.map_append, List.map_cons, List.map_nil, List.append_assoc, List.cons_append, List.nil_append]
    rw [show k + (1 + ((l.getD i []).length - (k + 1))) - (k + 1) = (l.getD i []).length - (k + 1) by omega]
end Go.Ink
