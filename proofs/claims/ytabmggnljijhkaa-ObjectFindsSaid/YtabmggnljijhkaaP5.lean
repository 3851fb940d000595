/-
  Plain: the nearest brackets around a place.
-/
import Derived.Test.YtabmggnljijhkaaP4
set_option linter.unusedVariables false
set_option linter.unusedSimpArgs false
namespace Go.Ink
open Go Go.Proofs

/-- Where a place lies in all places. -/
structure Lies (l : List (List Int)) (p : Ps) (X Y : List Ps) : Prop where
  all : placesTo l l.length = X ++ p :: Y
  fwd : ∀ x y want, pairM l p x y true want = (scan (vp l x y) (p :: Y) (want - 1)).1
  bwd : ∀ x y want, pairM l p x y false want = (scan (vp l x y) (p :: X.reverse) (want - 1)).1
theorem at_lies {l : List (List Int)} {p : Ps} (h : At l p) : ∃ X Y, Lies l p X Y := by
  obtain ⟨i, k, rfl, hi, hk, hP⟩ := at_index h
  refine ⟨_, _, hP, fun x y want => ?_, fun x y want => ?_⟩
  · show pairGo l ((i : Int), (k : Int)) x y 1 (l.length + 1) (i : Nat) (want - 1) = _
    have hst : startM l ((i : Int), (k : Int)) 1 (i : Int) = (k : Nat) := by unfold startM; rw [if_pos rfl]
    have hA : ∃ A, lineM (l.getD i []) x y 1 ((l.getD i []).length + 1) (startM l ((i : Int), (k : Int)) 1 (i : Int)) (want - 1) = resL (scan (vp l x y) A (want - 1)) ∧ (∀ a ∈ A, a.1 = (i : Int)) ∧ A = ((i : Int), (k : Int)) :: colsFrom i (k + 1) ((l.getD i []).length - (k + 1)) := by
      rcases hk with ⟨h0, rfl⟩ | hk
      · refine ⟨_, ?_, ?_, rfl⟩
        · rw [hst, lineM_out (by omega), h0]; exact congrArg resL (scan_zero h0 _ _).symm
        · intro a ha; rw [h0] at ha; simp [colsFrom] at ha; rw [ha]
      · have hc : colsFrom i k ((l.getD i []).length - k) = ((i : Int), (k : Int)) :: colsFrom i (k + 1) ((l.getD i []).length - (k + 1)) := by
          unfold colsFrom
          rw [show (l.getD i []).length - k = ((l.getD i []).length - (k + 1)) + 1 by omega, List.range'_succ]
          rfl
        exact ⟨_, by rw [hst]; exact line_fwd ((l.getD i []).length - k) k _ _ (by omega) (by omega), cols_fst, hc⟩
    obtain ⟨A, hA1, hA2, rfl⟩ := hA
    rw [pairGo_step hi hA1 hA2, ← List.cons_append, scan_append]
    match scan (vp l x y) (((i : Int), (k : Int)) :: colsFrom i (k + 1) ((l.getD i []).length - (k + 1))) (want - 1) with
    | (some q, e) => rfl
    | (none, e) => exact go_fwd (l.length - (i + 1)) (i + 1) l.length e (by omega) (by omega) (by show (i : Int) < ((i + 1 : Nat) : Int); omega)
  · show pairGo l ((i : Int), (k : Int)) x y (-1) (l.length + 1) (i : Nat) (want - 1) = _
    have hst : startM l ((i : Int), (k : Int)) (-1) (i : Int) = (k : Nat) := by unfold startM; rw [if_pos rfl]
    have hA : lineM (l.getD i []) x y (-1) ((l.getD i []).length + 1) (startM l ((i : Int), (k : Int)) (-1) (i : Int)) (want - 1) = resL (scan (vp l x y) (((i : Int), (k : Int)) :: (colsTo i k).reverse) (want - 1)) := by
      rcases hk with ⟨h0, rfl⟩ | hk
      · rw [hst, lineM_out (by omega)]; exact congrArg resL (scan_zero h0 _ _).symm
      · have := line_bwd (l := l) (x := x) (y := y) (i := i) (k + 1) ((l.getD i []).length + 1) (want - 1) (by omega) (by omega)
        rw [show (((k + 1 : Nat) : Int) - 1) = (k : Nat) by omega, colsTo_succ, List.reverse_append] at this
        rw [hst]
        exact this
    rw [pairGo_step hi hA (by
      intro a ha
      rcases List.mem_cons.1 ha with rfl | ha
      · rfl
      · exact cols_fst a (by rw [← colsTo_from]; exact List.mem_reverse.1 ha)), List.reverse_append, ← List.cons_append, scan_append]
    match scan (vp l x y) (((i : Int), (k : Int)) :: (colsTo i k).reverse) (want - 1) with
    | (some q, e) => rfl
    | (none, e) =>
      have := go_bwd (l := l) (p := ((i : Int), (k : Int))) (x := x) (y := y) i l.length e (by omega) (by omega) (Int.le_refl _)
      show pairGo l ((i : Int), (k : Int)) x y (-1) l.length ((i : Int) + -1) e = _
      rw [← this]; rfl
/-! ### The order of places -/
theorem placesAt_fst {l : List (List Int)} {i : Nat} : ∀ a ∈ placesAt l i, a.1 = (i : Int) := by
  intro a ha
  unfold placesAt at ha
  split at ha
  · rw [List.mem_singleton] at ha; rw [ha]
  · exact cols_fst a (by rw [← colsTo_from]; exact ha)
theorem placesTo_fst {l : List (List Int)} : ∀ n, ∀ a ∈ placesTo l n, a.1 < (n : Int)
  | 0, a, h => by simp [placesTo] at h
  | n + 1, a, h => by
    rw [placesTo_succ] at h
    rcases List.mem_append.1 h with h | h
    · have := placesTo_fst n a h; omega
    · have := placesAt_fst a h; omega
theorem placesAt_pair {l : List (List Int)} {i : Nat} : (placesAt l i).Pairwise fun a b => aheadM a b = true := by
  unfold placesAt
  split
  · simp
  · unfold colsTo
    rw [List.pairwise_map]
    exact List.pairwise_lt_range.imp fun h => by unfold aheadM; exact decide_eq_true (.inr ⟨rfl, by simp only; omega⟩)
theorem placesTo_pair {l : List (List Int)} : ∀ n, (placesTo l n).Pairwise fun a b => aheadM a b = true
  | 0 => by simp [placesTo]
  | n + 1 => by
    rw [placesTo_succ, List.pairwise_append]
    refine ⟨placesTo_pair n, placesAt_pair, fun a ha b hb => ?_⟩
    have h1 := placesTo_fst n a ha
    have h2 := placesAt_fst b hb
    unfold aheadM
    exact decide_eq_true (.inl (by omega))
theorem places_ahead {l : List (List Int)} {i j : Nat} {a b : Ps} (h1 : (placesTo l l.length)[i]? = some a) (h2 : (placesTo l l.length)[j]? = some b) : aheadM a b = decide (i < j) := by
  obtain ⟨hi, rfl⟩ := List.getElem?_eq_some_iff.1 h1
  obtain ⟨hj, rfl⟩ := List.getElem?_eq_some_iff.1 h2
  have hp := List.pairwise_iff_getElem.1 (placesTo_pair (l := l) l.length)
  rcases Nat.lt_trichotomy i j with hlt | he | hlt
  · rw [hp i j hi hj hlt, decide_eq_true hlt]
  · subst he
    rw [decide_eq_false (by omega)]
    exact ahead_f.2 (by omega)
  · rw [decide_eq_false (by omega)]
    have := of_decide_eq_true (hp j i hj hi hlt)
    exact ahead_f.2 (by omega)
theorem places_inj {l : List (List Int)} {i j : Nat} {a : Ps} (h1 : (placesTo l l.length)[i]? = some a) (h2 : (placesTo l l.length)[j]? = some a) : i = j := by
  have e1 := places_ahead h1 h2
  have e2 := places_ahead h2 h1
  have e3 : aheadM a a = false := ahead_f.2 (by omega)
  rw [e3] at e1 e2
  have := of_decide_eq_false e1.symm
  have := of_decide_eq_false e2.symm
  omega
/-! ### Sums -/
theorem vp_lo (l : List (List Int)) (x y : Int) (q : Ps) : -1 ≤ vp l x y q ∧ vp l x y q ≤ 1 := by
  unfold vp valw
  split
  · omega
  · split
    · omega
    · split <;> omega
theorem vp_neg {l : List (List Int)} {x y : Int} (h : x ≠ y) (q : Ps) : vp l y x q = - vp l x y q := by
  unfold vp valw
  split
  · rfl
  · split
    · next h1 => rw [if_neg (fun e => h (e.symm.trans h1))]; rfl
    · next h1 => split <;> rfl
theorem pre_append (v : Ps → Int) (X Y : List Ps) (j : Nat) : pre v (X ++ Y) (X.length + j) = pre v X X.length + pre v Y j := by
  unfold pre
  rw [List.take_append, List.take_of_length_le (Nat.le_add_right _ _), Nat.add_sub_cancel_left, List.map_append, List.sum_append, List.take_length]
theorem pre_left (v : Ps → Int) (X Y : List Ps) {j : Nat} (h : j ≤ X.length) : pre v (X ++ Y) j = pre v X j := by
  unfold pre
  rw [List.take_append_of_le_length h]
theorem sum_rev (v : Ps → Int) : ∀ L : List Ps, (L.reverse.map v).sum = (L.map v).sum
  | [] => rfl
  | q :: L => by rw [List.reverse_cons, List.map_append, List.sum_append, sum_rev v L]; simp; omega
theorem sum_neg (v w : Ps → Int) (h : ∀ q, w q = - v q) : ∀ L : List Ps, (L.map w).sum = - (L.map v).sum
  | [] => rfl
  | q :: L => by simp only [List.map_cons, List.sum_cons]; rw [sum_neg v w h L, h q]; omega
theorem pre_rev (v w : Ps → Int) (h : ∀ q, w q = - v q) (X : List Ps) {j : Nat} (hj : j ≤ X.length) : pre w X.reverse j = pre v X (X.length - j) - pre v X X.length := by
  unfold pre
  rw [List.take_reverse, sum_rev, sum_neg v w h]
  have : (X.map v).sum = ((X.take (X.length - j)).map v).sum + ((X.drop (X.length - j)).map v).sum := by rw [← List.sum_append, ← List.map_append, List.take_append_drop]
  rw [List.take_length, this]
  omega
/-! ### Pairs -/
/-- b is the match of a. -/
structure Mt (S : Nat → Int) (N a b : Nat) : Prop where
  ab : a < b
  bN : b < N
  end_ : S (b + 1) = S a
  in_ : ∀ i, a < i → i ≤ b → S a + 1 ≤ S i
def NoM (S : Nat → Int) (N a : Nat) : Prop := ∀ i, a < i → i ≤ N → S a + 1 ≤ S i
def Enc (S : Nat → Int) (N t a b : Nat) : Prop := Mt S N a b ∧ a ≤ t ∧ t ≤ b
def Near (S : Nat → Int) (N t : Nat) : Option (Nat × Nat) → Prop
  | some (a, b) => Enc S N t a b ∧ ∀ a' b', Enc S N t a' b' → a' ≤ a
  | none => ∀ a b, ¬ Enc S N t a b
theorem Mt.eq {S : Nat → Int} {N a b b' : Nat} (h : Mt S N a b) (h' : Mt S N a b') : b = b' := by
  rcases Nat.lt_trichotomy b b' with hlt | he | hlt
  · have := h'.in_ (b + 1) (by have := h.ab; omega) (by omega); have := h.end_; omega
  · exact he
  · have := h.in_ (b' + 1) (by have := h'.ab; omega) (by omega); have := h'.end_; omega
theorem Near.eq {S : Nat → Int} {N t : Nat} {r r' : Option (Nat × Nat)} (h : Near S N t r) (h' : Near S N t r') : r = r' := by
  match r, r', h, h' with
  | none, none, _, _ => rfl
  | none, some (a, b), h, h' => exact absurd h'.1 (h a b)
  | some (a, b), none, h, h' => exact absurd h.1 (h' a b)
  | some (a, b), some (a', b'), h, h' =>
    have h1 := h.2 a' b' h'.1
    have h2 := h'.2 a b h.1
    obtain rfl : a = a' := by omega
    rw [h.1.1.eq h'.1.1]
section
variable {S : Nat → Int} {N t a b : Nat}
theorem near_open (hm : Mt S N t b) : Near S N t (some (t, b)) := ⟨⟨hm, Nat.le_refl _, by have := hm.ab; omega⟩, fun a' b' h => h.2.1⟩
theorem near_open_none (hn : NoM S N t) : Near S N t none := by
  rintro a b ⟨h1, h2, h3⟩
  have hb := h1.bN
  have h4 := h1.end_
  have h5 := hn (b + 1) (by omega) (by omega)
  by_cases he : a = t
  · subst he; omega
  · have := h1.in_ t (by omega) h3; omega
theorem near_none (hv : ¬ S (t + 1) = S t + 1) (hv1 : S (t + 1) ≤ S t + 1) (h : ∀ i, i ≤ t → S t ≤ S i) : Near S N t none := by
  rintro a b ⟨h1, h2, h3⟩
  by_cases he : a = t
  · subst he
    have := h1.in_ (a + 1) (by omega) (by have := h1.ab; omega)
    omega
  · have := h1.in_ t (by omega) h3
    have := h a h2
    omega
theorem near_past (hv : ¬ S (t + 1) = S t + 1) (hv1 : S (t + 1) ≤ S t + 1) (ha : a < t) (hS : S a = S t - 1) (hi : ∀ i, a < i → i ≤ t → S t ≤ S i) : ∀ a' b', Enc S N t a' b' → a' ≤ a := by
  rintro a' b' ⟨h1, h2, h3⟩
  by_cases he : a' = t
  · subst he
    have := h1.in_ (a' + 1) (by omega) (by have := h1.ab; omega)
    omega
  · refine Nat.not_lt.1 fun hlt => ?_
    have := h1.in_ t (by omega) h3
    have := hi a' hlt h2
    omega
theorem near_some (hv : ¬ S (t + 1) = S t + 1) (hv1 : S (t + 1) ≤ S t + 1) (ha : a < t) (hS : S a = S t - 1) (hi : ∀ i, a < i → i ≤ t → S t ≤ S i) (hm : Mt S N a b) : Near S N t (some (a, b)) := by
  refine ⟨⟨hm, by omega, Nat.not_lt.1 fun hlt => ?_⟩, near_past hv hv1 ha hS hi⟩
  have := hi (b + 1) (by have := hm.ab; omega) (by omega)
  have := hm.end_
  omega
theorem near_some_none (hv : ¬ S (t + 1) = S t + 1) (hv1 : S (t + 1) ≤ S t + 1) (ha : a < t) (hS : S a = S t - 1) (hi : ∀ i, a < i → i ≤ t → S t ≤ S i) (hn : NoM S N a) : Near S N t none := by
  rintro a' b' he
  have hle := near_past hv hv1 ha hS hi a' b' he
  obtain ⟨h1, h2, h3⟩ := he
  have hb := h1.bN
  have h4 := h1.end_
  have h5 := hn (b' + 1) (by omega) (by omega)
  by_cases he : a' = a
  · subst he; omega
  · have := h1.in_ a (by omega) (by omega); omega
end
/-! ### The program's answer -/
def sumP (l : List (List Int)) (o s : Int) (j : Nat) : Int := pre (vp l o s) (placesTo l l.length) j
/-- Which places these are. -/
def placed (P : List Ps) : Option (Ps × Ps) → Option (Nat × Nat) → Prop
  | some (x, y), some (a, b) => P[a]? = some x ∧ P[b]? = some y
  | none, none => True
  | _, _ => False
theorem lies_get {l : List (List Int)} {p : Ps} {X Y : List Ps} (h : Lies l p X Y) : (placesTo l l.length)[X.length]? = some p := by rw [h.all]; simp
theorem sumP_succ {l : List (List Int)} {o s : Int} {p : Ps} {j : Nat} (h : (placesTo l l.length)[j]? = some p) : sumP l o s (j + 1) = sumP l o s j + vp l o s p := by
  obtain ⟨hj, he⟩ := List.getElem?_eq_some_iff.1 h
  unfold sumP pre
  rw [List.take_succ_eq_append_getElem hj, List.map_append, List.sum_append, he]
  simp
theorem fwd_pos {l : List (List Int)} {p : Ps} {X Y : List Ps} {o s : Int} (h : Lies l p X Y) (hv : vp l o s p = 1) :
    (∀ q, pairM l p o s true 1 = some q → ∃ b, (placesTo l l.length)[b]? = some q ∧ Mt (sumP l o s) (placesTo l l.length).length X.length b) ∧
    (pairM l p o s true 1 = none → NoM (sumP l o s) (placesTo l l.length).length X.length) := by
  have hs : pairM l p o s true 1 = (scan (vp l o s) Y 1).1 := by
    rw [h.fwd, scan_cons, hv, if_neg (by decide)]; rfl
  rw [hs]
  obtain ⟨h1, h2⟩ := scan_pos (fun q => (vp_lo l o s q).1) Y 1 (Int.le_refl _)
  have hS1 : sumP l o s (X.length + 1) = sumP l o s X.length + 1 := by rw [sumP_succ (lies_get h), hv]
  have hsum : ∀ j, sumP l o s (X.length + 1 + j) = sumP l o s (X.length + 1) + pre (vp l o s) Y j := by
    intro j
    have e : placesTo l l.length = (X ++ [p]) ++ Y := by rw [h.all]; simp
    unfold sumP
    rw [e, show X.length + 1 = (X ++ [p]).length by simp, pre_append, pre_left _ _ _ (Nat.le_refl _)]
  have hlen : (placesTo l l.length).length = X.length + 1 + Y.length := by rw [h.all]; simp; omega
  match hr : scan (vp l o s) Y 1 with
  | (some q, e) =>
    refine ⟨fun q' hq => ?_, fun hq => by cases hq⟩
    cases hq
    obtain ⟨r, hr1, hr2, hr3, hr4⟩ := h1 q e hr
    refine ⟨X.length + 1 + r, ?_, by omega, by omega, ?_, fun i hi1 hi2 => ?_⟩
    · rw [h.all, show X.length + 1 + r = X.length + (r + 1) by omega, List.getElem?_append_right (by omega), Nat.add_sub_cancel_left, List.getElem?_cons_succ, List.getElem?_eq_getElem hr1, hr2]
    · rw [Nat.add_assoc, hsum, hS1]; omega
    · obtain ⟨j, rfl⟩ : ∃ j, i = X.length + 1 + j := ⟨i - (X.length + 1), by omega⟩
      rw [hsum, hS1]
      have := hr4 j (by omega)
      omega
  | (none, e) =>
    refine ⟨fun q' hq => (by cases hq), fun _ i hi1 hi2 => ?_⟩
    obtain ⟨j, rfl⟩ : ∃ j, i = X.length + 1 + j := ⟨i - (X.length + 1), by omega⟩
    rw [hsum, hS1]
    have := h2 e hr j (by omega)
    omega
theorem bwd_pos {l : List (List Int)} {p : Ps} {X Y : List Ps} {o s want : Int} (hos : o ≠ s) (h : Lies l p X Y) (hv : want - 1 + vp l s o p = 1 ∧ 0 ≤ want - 1) :
    (∀ q, pairM l p s o false want = some q → ∃ a, a < X.length ∧ (placesTo l l.length)[a]? = some q ∧ sumP l o s a = sumP l o s X.length - 1 ∧ ∀ i, a < i → i ≤ X.length → sumP l o s X.length ≤ sumP l o s i) ∧
    (pairM l p s o false want = none → ∀ i, i ≤ X.length → sumP l o s X.length ≤ sumP l o s i) := by
  have hs : pairM l p s o false want = (scan (vp l s o) X.reverse 1).1 := by
    rw [h.bwd, scan_cons, hv.1, if_neg (by omega)]
  rw [hs]
  obtain ⟨h1, h2⟩ := scan_pos (fun q => (vp_lo l s o q).1) X.reverse 1 (Int.le_refl _)
  have hsum : ∀ j, j ≤ X.length → pre (vp l s o) X.reverse j = sumP l o s (X.length - j) - sumP l o s X.length := by
    intro j hj
    rw [pre_rev (vp l o s) (vp l s o) (fun q => vp_neg hos q) X hj]
    unfold sumP
    rw [h.all, pre_left _ _ _ (Nat.sub_le _ _), pre_left _ _ _ (Nat.le_refl _)]
  match hr : scan (vp l s o) X.reverse 1 with
  | (some q, e) =>
    refine ⟨fun q' hq => ?_, fun hq => by cases hq⟩
    cases hq
    obtain ⟨r, hr1, hr2, hr3, hr4⟩ := h1 q e hr
    rw [List.length_reverse] at hr1
    refine ⟨X.length - 1 - r, by omega, ?_, ?_, fun i hi1 hi2 => ?_⟩
    · rw [h.all, List.getElem?_append_left (by omega), List.getElem?_eq_getElem (by omega), ← hr2, List.getElem_reverse]
    · rw [hsum _ (by omega), show X.length - (r + 1) = X.length - 1 - r by omega] at hr3; omega
    · have := hr4 (X.length - i) (by omega)
      rw [hsum _ (by omega), show X.length - (X.length - i) = i by omega] at this
      omega
  | (none, e) =>
    refine ⟨fun q' hq => (by cases hq), fun _ i hi => ?_⟩
    have := h2 e hr (X.length - i) (by rw [List.length_reverse]; omega)
    rw [hsum _ (by omega), show X.length - (X.length - i) = i by omega] at this
    omega
theorem brackets_near {l : List (List Int)} {p : Ps} {X Y : List Ps} {o s : Int} (ho : o ≠ 0) (hs0 : s ≠ 0) (hos : o ≠ s) (hin : InL l p) (hat : At l p) (h : Lies l p X Y) :
    ∃ r, placed (placesTo l l.length) (bracketsM l p o s true) r ∧ Near (sumP l o s) (placesTo l l.length).length X.length r := by
  have hget := lies_get h
  have hsucc := sumP_succ (o := o) (s := s) hget
  have hvl := vp_lo l o s p
  have hat_ : vp l o s p = (if (if p.2 < (rowOf l p).length then (rowOf l p).getD p.2.toNat 0 else 0) = o then 1 else if (if p.2 < (rowOf l p).length then (rowOf l p).getD p.2.toNat 0 else 0) = s then -1 else 0) := by
    unfold vp valw
    have hk := hat.k
    by_cases h0 : (rowOf l p).length = 0
    · rw [if_pos h0, if_neg (by omega : ¬ p.2 < ((rowOf l p).length : Int)), if_neg (fun e => ho e.symm), if_neg (fun e => hs0 e.symm)]
    · rw [if_neg h0, if_pos (by omega : p.2 < ((rowOf l p).length : Int))]
  have hom : openM l p o s = if vp l o s p = 1 then some p else pairM l p s o false (if vp l o s p = -1 then 1 else 2) := by
    unfold openM
    rw [hat_]
    generalize (if p.2 < (rowOf l p).length then (rowOf l p).getD p.2.toNat 0 else 0) = c
    by_cases h1 : c = o
    · simp only [if_pos h1, if_true]
    · simp only [if_neg h1]
      by_cases h2 : c = s
      · simp only [if_pos h2]; rfl
      · simp only [if_neg h2]; rfl
  have hbm : bracketsM l p o s true = match openM l p o s with
    | none => none
    | some a => match pairM l a o s true 1 with
      | none => none
      | some b => some (a, b) := by
    unfold bracketsM
    cases openM l p o s with
    | none => rfl
    | some a => simp only; cases pairM l a o s true 1 <;> rfl
  rw [hbm]
  by_cases h1 : vp l o s p = 1
  · rw [hom, if_pos h1]
    simp only
    obtain ⟨f1, f2⟩ := fwd_pos h h1
    cases hp : pairM l p o s true 1 with
    | none => exact ⟨none, trivial, near_open_none (f2 hp)⟩
    | some q =>
      obtain ⟨b, hb1, hb2⟩ := f1 q hp
      exact ⟨some (X.length, b), ⟨hget, hb1⟩, near_open hb2⟩
  · have hv : ¬ sumP l o s (X.length + 1) = sumP l o s X.length + 1 := by rw [hsucc]; omega
    have hv1 : sumP l o s (X.length + 1) ≤ sumP l o s X.length + 1 := by rw [hsucc]; omega
    have hn := vp_neg (l := l) hos p
    obtain ⟨g1, g2⟩ := bwd_pos (want := if vp l o s p = -1 then 1 else 2) hos h (by
      rw [hn]
      split
      · next e => rw [e]; decide
      · next e => rw [show vp l o s p = 0 by omega]; decide)
    rw [hom, if_neg h1]
    cases hop : pairM l p s o false (if vp l o s p = -1 then 1 else 2) with
    | none => exact ⟨none, trivial, near_none hv hv1 (g2 hop)⟩
    | some a =>
      simp only
      obtain ⟨ia, ha1, ha2, ha3, ha4⟩ := g1 a hop
      have hop' : openM l p o s = some a := by rw [hom, if_neg h1, hop]
      obtain ⟨hina, hak⟩ := openM_at ho hin hop'
      obtain ⟨X', Y', h'⟩ := at_lies (hina.at_ hak)
      have hX : X'.length = ia := places_inj (lies_get h') ha2
      have hva : vp l o s a = 1 := by
        have e1 := sumP_succ (o := o) (s := s) ha2
        have e2 := vp_lo l o s a
        have e3 := ha4 (ia + 1) (by omega) (by omega)
        omega
      obtain ⟨f1, f2⟩ := fwd_pos h' hva
      rw [hX] at f1 f2
      cases hp : pairM l a o s true 1 with
      | none => exact ⟨none, trivial, near_some_none hv hv1 ha1 ha3 ha4 (f2 hp)⟩
      | some q =>
        obtain ⟨b, hb1, hb2⟩ := f1 q hp
        exact ⟨some (ia, b), ⟨ha2, hb1⟩, near_some hv hv1 ha1 ha3 ha4 hb2⟩
end Go.Ink
