/-
  Plain: places by what is ahead of them; what is put in and taken out; lines in the place of lines.
-/
import Derived.Test.YtfgajbilegjbpaaX11
import Derived.Test.YtfgajbilegjbpaaZ1
set_option linter.unusedVariables false
set_option linter.unusedSimpArgs false
namespace Go.Ink
open Go Go.Proofs Go.RowKit

section
variable {L : List (List Int)}
theorem sp_place (hp : ∀ x ∈ L, 10 ∉ x) {i c : Nat} (hi : i < L.length) (hc : c ≤ (L.getD i []).length) : spF ([], []) ((jndM L).take (ofs L i + c)) = (L.take i, (L.getD i []).take c) := by
  rw [jnd_take hi hc, spF_app, spF_pre (fun x hx => hp x (List.mem_of_mem_take hx)), preS_nil, spF_plain, List.nil_append, List.nil_append]
  intro h
  have h2 := List.mem_of_mem_take h
  rw [List.getD_eq_getElem?_getD, List.getElem?_eq_getElem hi] at h2
  exact hp _ (List.getElem_mem hi) h2
theorem place_ex {n : Nat} (hne : L ≠ []) (hn : n ≤ (jndM L).length) : ∃ i c, i < L.length ∧ c ≤ (L.getD i []).length ∧ n = ofs L i + c := by
  have hl := List.length_pos_iff.2 hne
  have key : ∀ k, k < L.length → (∃ i c, i < L.length ∧ c ≤ (L.getD i []).length ∧ n = ofs L i + c) ∨ ofs L (k + 1) ≤ n := by
    intro k
    induction k with
    | zero =>
      intro h
      have h1 := ofs_succ h
      have h2 : ofs L 0 = 0 := rfl
      rcases Nat.lt_or_ge (L.getD 0 []).length n with h3 | h3
      · right; omega
      · left; exact ⟨0, n, h, h3, by omega⟩
    | succ k ih =>
      intro h
      rcases ih (by omega) with h1 | h1
      · exact .inl h1
      · have h2 := ofs_succ h
        rcases Nat.lt_or_ge (ofs L (k + 1) + (L.getD (k + 1) []).length) n with h3 | h3
        · right; omega
        · left; exact ⟨k + 1, n - ofs L (k + 1), h, by omega, by omega⟩
  rcases key (L.length - 1) (by omega) with h | h
  · exact h
  · have e := ofs_last hne
    have h2 := ofs_succ (l := L) (i := L.length - 1) (by omega)
    omega
theorem ofP_nat {i c : Nat} : ofP L ((i : Int), (c : Int)) = ofs L i + c := by
  unfold ofP
  simp only [Int.toNat_natCast]
  omega
theorem there_nat {i c : Nat} (hi : i < L.length) (hc : c ≤ (L.getD i []).length) : thereP L ((i : Int), (c : Int)) := ⟨by simp only; omega, by simp only; omega, by simp only; omega, by simp only [Int.toNat_natCast]; omega⟩
theorem there_of {p : Ps} (h : thereP L p) : ∃ i c : Nat, p = ((i : Int), (c : Int)) ∧ i < L.length ∧ c ≤ (L.getD i []).length := by
  obtain ⟨p1, p2⟩ := p
  obtain ⟨h1, h2, h3, h4⟩ := h
  simp only at h1 h2 h3 h4
  exact ⟨p1.toNat, p2.toNat, by rw [Int.toNat_of_nonneg h1, Int.toNat_of_nonneg h3], by omega, by omega⟩
/-- What is ahead of a place tells the place. -/
theorem place_same {L' : List (List Int)} (hp : ∀ x ∈ L, 10 ∉ x) (hp' : ∀ x ∈ L', 10 ∉ x) (hne' : L' ≠ []) {i c : Nat} (hi : i < L.length) (hc : c ≤ (L.getD i []).length) (hn : ofs L i + c ≤ (jndM L').length) (ht : (jndM L').take (ofs L i + c) = (jndM L).take (ofs L i + c)) :
    i < L'.length ∧ c ≤ (L'.getD i []).length ∧ ofs L' i + c = ofs L i + c := by
  obtain ⟨i', c', hi', hc', e⟩ := place_ex hne' hn
  have h1 := sp_place hp hi hc
  have h2 := sp_place hp' hi' hc'
  rw [← e, ht, h1] at h2
  have h3 := congrArg (·.1.length) h2
  have h4 := congrArg (·.2.length) h2
  simp only [List.length_take] at h3 h4
  obtain rfl : i = i' := by omega
  obtain rfl : c = c' := by omega
  exact ⟨hi', hc', e.symm⟩
/-! ### Put in and taken out -/
structure UndoI (L L' : List (List Int)) (n : Nat) (more : List Int) (p : Ps) : Prop where
  ins : insT L p more = (L', 0)
  pl : ∀ x ∈ L', 10 ∉ x
  ne : L' ≠ []
  jn : jndM L' = (jndM L).take n ++ more ++ (jndM L).drop n
  th : thereP L' p
  of : ofP L' p = n
theorem undo_ins (hp : ∀ x ∈ L, 10 ∉ x) (hne : L ≠ []) {n i c : Nat} {more : List Int} (hi : i < L.length) (hc : c ≤ (L.getD i []).length) (hn : n = ofs L i + c) (hb : (jndM L).length + more.length ≤ 65536) (hnl : n ≤ (jndM L).length) :
    ∃ L', UndoI L L' n more ((i : Int), (c : Int)) := by
  have e : jndM (splitM (chgY L n 0 more)) = (jndM L).take n ++ more ++ (jndM L).drop n := by rw [jnd_split]; rfl
  have hlen : n ≤ (jndM (splitM (chgY L n 0 more))).length := by rw [e]; simp only [List.length_append, List.length_take]; omega
  have hs := place_same (L' := splitM (chgY L n 0 more)) hp (split_plain _) (split_ne _) hi hc (by rw [← hn]; exact hlen) (by
    rw [← hn, e, List.append_assoc, List.take_append_of_le_length (by rw [List.length_take]; omega), List.take_take, Nat.min_self])
  refine ⟨splitM (chgY L n 0 more), ?_, split_plain _, split_ne _, e, there_nat hs.1 hs.2.1, by rw [ofP_nat, hs.2.2, hn]⟩
  unfold insT
  rw [if_pos (there_nat hi hc), ofP_nat, ← hn]
  unfold chgM
  rw [if_neg (by omega)]
theorem undo_back (hp : ∀ x ∈ L, 10 ∉ x) (hne : L ≠ []) {L' : List (List Int)} {n : Nat} {more : List Int} {p q : Ps} (h : UndoI L L' n more p) (hn : n ≤ (jndM L).length) (hb : (jndM L).length + more.length ≤ 65536) (hq : thereP L' q) (hqn : ofP L' q = n + more.length) :
    sliT L' p q = (more, 0) ∧ delT L' p q = (L, 0) := by
  have hb0 : betM L' p q = ((n : Int), ((n + more.length : Nat) : Int) - (n : Int), 0) := by
    unfold betM
    rw [if_neg (by intro h2; exact h2.elim (fun h2 => h2 h.th) fun h2 => h2 hq), if_neg (by rw [h.of, hqn]; omega), h.of, hqn]
  have hl : ((jndM L).take n).length = n := by rw [List.length_take]; omega
  constructor
  · unfold sliT
    rw [hb0, if_pos rfl, h.of, hqn, h.jn, List.append_assoc]
    rw [show ((jndM L).take n ++ (more ++ (jndM L).drop n)).drop n = more ++ (jndM L).drop n by
      conv => lhs; arg 1; rw [← hl]
      exact List.drop_left]
    rw [show n + more.length - n = more.length by omega, List.take_left]
  · unfold delT
    rw [hb0, if_pos rfl, h.of, hqn]
    have hj : (jndM L').length = (jndM L).length + more.length := by rw [h.jn]; simp only [List.length_append, List.length_take, List.length_drop]; omega
    unfold chgM
    rw [if_neg (by rw [hj]; simp only [List.length_nil]; omega)]
    have : chgY L' n (n + more.length - n) [] = jndM L := by
      unfold chgY
      rw [show n + (n + more.length - n) = n + more.length by omega, h.jn]
      have e1 : ((jndM L).take n ++ more ++ (jndM L).drop n).take n = (jndM L).take n := by
        rw [List.append_assoc, List.take_append_of_le_length (by omega), List.take_take, Nat.min_self]
      have e2 : ((jndM L).take n ++ more ++ (jndM L).drop n).drop (n + more.length) = (jndM L).drop n := by
        rw [show n + more.length = ((jndM L).take n ++ more).length by rw [List.length_append, hl], List.drop_left]
      rw [e1, e2, List.append_nil, List.take_append_drop]
    rw [this, split_jnd hp hne]
/-! ### Lines in the place of lines -/
theorem post_cons {v : List (List Int)} (h : v ≠ []) : postJ v = 10 :: jndM v := by unfold postJ; rw [if_neg h]
theorem pre_cons {v : List (List Int)} (h : v ≠ []) : preJ v = jndM v ++ [10] := by unfold preJ; rw [if_neg h]
theorem jnd_take0 {i : Nat} (hi : i < L.length) : (jndM L).take (ofs L i) = preJ (L.take i) := by
  have := jnd_take (c := 0) hi (Nat.zero_le _)
  rwa [Nat.add_zero, List.take_zero, List.append_nil] at this
theorem drop_jnd {i : Nat} (hi : i < L.length) : (jndM L).drop (ofs L i) = jndM (L.drop i) := by
  have := jnd_drop (c := 0) hi (Nat.zero_le _)
  rw [Nat.add_zero, List.drop_zero] at this
  rw [this]
  have e : L.drop i = [] ++ [L.getD i []] ++ L.drop (i + 1) := by
    rw [List.nil_append, List.drop_eq_getElem_cons hi, List.getD_eq_getElem?_getD, List.getElem?_eq_getElem hi]
    rfl
  rw [e, jnd_mid]
  rfl
theorem chg_eq {a n : Nat} {l : List Int} {x : List (List Int)} (ha : a + n ≤ (jndM L).length) (hx : x ≠ []) (hpx : ∀ y ∈ x, 10 ∉ y) (he : chgY L a n l = jndM x) : chgM L a n l = if 65536 < (jndM x).length then (L, 3) else (x, 0) := by
  have hl : (jndM x).length + n = (jndM L).length + l.length := by
    rw [← he]
    unfold chgY
    simp only [List.length_append, List.length_take, List.length_drop]
    omega
  unfold chgM
  by_cases h : 65536 < (jndM x).length
  · rw [if_pos (by omega), if_pos h]
  · rw [if_neg (by omega), if_neg h, he, split_jnd hpx hx]
/-- What Replace leaves. -/
def repR (L : List (List Int)) (i n : Nat) (l : List (List Int)) : List (List Int) := newL (L.take i ++ l ++ L.drop (i + n))
theorem newL_pos {l : List (List Int)} (h : l ≠ []) : newL l = l := by unfold newL; rw [if_neg h]
theorem ofs_end {j : Nat} (hj : j < L.length) : ofs L j + (L.getD j []).length ≤ (jndM L).length := by
  have h1 := ofs_succ hj
  have h2 := ofs_le' (L := L) (i := j + 1) (j := L.length) (by omega) (by omega)
  have h3 : ofs L L.length = runesM L + L.length := by unfold ofs; rw [List.take_length]
  have h4 := jnd_len L
  omega
theorem rep_law (hp : ∀ x ∈ L, 10 ∉ x) (hne : L ≠ []) (hb : (jndM L).length ≤ 65536) {i n : Nat} (hin : i + n ≤ L.length) {l : List (List Int)} (hl : ∀ x ∈ l, 10 ∉ x) :
    repC L i n l = if 65536 < (jndM (repR L i n l)).length then (L, 3) else (repR L i n l, 0) := by
  have hL := List.length_pos_iff.2 hne
  have hpr : ∀ y ∈ L.take i ++ l ++ L.drop (i + n), 10 ∉ y := by
    intro y hy
    rcases List.mem_append.1 hy with hy | hy
    · rcases List.mem_append.1 hy with hy | hy
      · exact hp y (List.mem_of_mem_take hy)
      · exact hl y hy
    · exact hp y (List.mem_of_mem_drop hy)
  unfold repC
  by_cases h0 : n = 0 ∧ l = []
  · rw [if_pos h0]
    obtain ⟨rfl, rfl⟩ := h0
    have e : repR L i 0 [] = L := by unfold repR; rw [List.append_nil, Nat.add_zero, List.take_append_drop, newL_pos hne]
    rw [e, if_neg (by omega)]
  rw [if_neg h0]
  by_cases h1 : i = L.length
  · rw [if_pos h1]
    have hn0 : n = 0 := by omega
    have hl0 : l ≠ [] := fun e => h0 ⟨hn0, e⟩
    have e : repR L i n l = L ++ l := by
      unfold repR
      rw [h1, List.take_length, List.drop_of_length_le (by omega), List.append_nil, newL_pos (by simp [hl0])]
    rw [e]
    refine chg_eq (by omega) (by simp [hl0]) (fun y hy => (List.mem_append.1 hy).elim (hp y) (hl y)) ?_
    unfold chgY
    rw [List.take_length, Nat.add_zero, List.drop_length, List.append_nil]
    have := jnd_app3 L hl0 []
    rw [List.append_nil, pre_cons hne, show postJ [] = [] from rfl, List.append_nil] at this
    rw [this, List.append_assoc]
    rfl
  rw [if_neg h1]
  have hi : i < L.length := by omega
  by_cases h2 : n = 0
  · rw [if_pos h2]
    have hl0 : l ≠ [] := fun e => h0 ⟨h2, e⟩
    subst h2
    have hne3 : L.take i ++ l ++ L.drop (i + 0) ≠ [] := by simp [hl0]
    have e : repR L i 0 l = L.take i ++ l ++ L.drop i := by unfold repR; rw [newL_pos hne3]; rfl
    have hdr : L.drop i ≠ [] := by intro h; have := congrArg List.length h; simp at this; omega
    have hoe := ofs_end hi
    rw [e]
    refine chg_eq (by omega) hne3 hpr ?_
    unfold chgY
    rw [Nat.add_zero, jnd_take0 hi, drop_jnd hi, jnd_app3 _ hl0, post_cons hdr]
    simp only [List.append_assoc, List.cons_append, List.nil_append]
  rw [if_neg h2]
  have hj : i + n - 1 < L.length := by omega
  have hoe := ofs_end hj
  have hoi := ofs_le' (L := L) (i := i) (j := i + n - 1) (by omega) (by omega)
  have hos := ofs_succ hj
  rw [show i + n - 1 + 1 = i + n by omega] at hos
  by_cases h3 : l = []
  · rw [if_pos h3]
    subst h3
    by_cases h4 : i + n < L.length
    · rw [if_pos h4]
      have hdr : L.drop (i + n) ≠ [] := by intro h; have := congrArg List.length h; simp at this; omega
      have hne3 : L.take i ++ [] ++ L.drop (i + n) ≠ [] := by simp [hdr]
      have e : repR L i n [] = L.take i ++ [] ++ L.drop (i + n) := by unfold repR; rw [newL_pos hne3]
      rw [e]
      have ho2 := ofs_end h4
      refine chg_eq (by omega) hne3 hpr ?_
      unfold chgY
      rw [show ofs L i + (ofs L (i + n - 1) + (L.getD (i + n - 1) []).length - ofs L i + 1) = ofs L (i + n) by omega, jnd_take0 hi, drop_jnd h4, List.append_nil, List.append_nil]
      have := jnd_app3 (L.take i) hdr []
      rw [List.append_nil, show postJ [] = [] from rfl, List.append_nil] at this
      exact this.symm
    · rw [if_neg h4]
      have hin2 : i + n = L.length := by omega
      have hlast := ofs_last hne
      rw [show L.length - 1 = i + n - 1 by omega] at hlast
      by_cases h5 : 0 < i
      · rw [if_pos h5]
        have hne3 : L.take i ≠ [] := by intro h; have := congrArg List.length h; rw [List.length_take, List.length_nil] at this; omega
        have e : repR L i n [] = L.take i := by unfold repR; rw [List.append_nil, List.drop_of_length_le (by omega), List.append_nil, newL_pos hne3]
        rw [e]
        have hp1 := ofs_succ (l := L) (i := i - 1) (by omega)
        rw [show i - 1 + 1 = i by omega] at hp1
        refine chg_eq (by omega) hne3 (fun y hy => hp y (List.mem_of_mem_take hy)) ?_
        unfold chgY
        rw [show ofs L i - 1 + (ofs L (i + n - 1) + (L.getD (i + n - 1) []).length - ofs L i + 1) = (jndM L).length by omega, List.drop_length, List.append_nil, List.append_nil]
        rw [show ofs L i - 1 = ofs L (i - 1) + (L.getD (i - 1) []).length by omega, jnd_take (by omega) (Nat.le_refl _), List.take_length]
        have e2 : L.take i = L.take (i - 1) ++ [L.getD (i - 1) []] := by
          have h : i - 1 < L.length := by omega
          conv => lhs; rw [show i = i - 1 + 1 by omega]
          rw [List.take_succ_eq_append_getElem h, List.getD_eq_getElem?_getD, List.getElem?_eq_getElem h]
          rfl
        rw [e2, jnd_snoc]
      · rw [if_neg h5]
        obtain rfl : i = 0 := by omega
        have e : repR L 0 n [] = [[]] := by unfold repR; rw [List.take_zero, List.drop_of_length_le (by omega)]; rfl
        rw [e]
        have ho0 : ofs L 0 = 0 := rfl
        refine chg_eq (by omega) (by simp) (by simp) ?_
        unfold chgY
        rw [show ofs L 0 + (ofs L (0 + n - 1) + (L.getD (0 + n - 1) []).length - ofs L 0) = (jndM L).length by omega, List.drop_length, ho0]
        rfl
  · rw [if_neg h3]
    have hne3 : L.take i ++ l ++ L.drop (i + n) ≠ [] := by simp [h3]
    have e : repR L i n l = L.take i ++ l ++ L.drop (i + n) := by unfold repR; rw [newL_pos hne3]
    rw [e]
    refine chg_eq (by omega) hne3 hpr ?_
    have := chg_row (L := L) (a := ofs L i) (n := ofs L (i + n - 1) + (L.getD (i + n - 1) []).length - ofs L i) (l := jndM l) (fi := i) (fc := 0) (la := i + n - 1) (lc := (L.getD (i + n - 1) []).length) hi (Nat.zero_le _) rfl hj (Nat.le_refl _) (by omega)
    rw [this, jnd_app3 _ h3, List.take_zero, List.nil_append, List.drop_length, List.append_nil, show i + n - 1 + 1 = i + n by omega]
end
end Go.Ink
