/-
  Plain: lines put in the place of others, and the others in theirs.
-/
import Derived.Test.YtfgajbilegjbpaaP1
import Derived.Test.YtfgajbilegjbpaaY5
set_option linter.unusedVariables false
set_option linter.unusedSimpArgs false
namespace Go.Ink
open Go Go.Proofs Go.RowKit

theorem runes_td (l : List (List Int)) (i : Nat) : runesM (l.take i) + runesM (l.drop i) = runesM l := by rw [← runes_app, List.take_append_drop]
section
variable {L l : List (List Int)} {i n : Nat}
theorem splice_small (h : i + n ≤ L.length) : runesM (L.take i ++ l ++ L.drop (i + n)) ≤ runesM L + runesM l ∧ (L.take i ++ l ++ L.drop (i + n)).length + n = L.length + l.length := by
  have h1 := runes_td L i
  have h2 := runes_td (L.drop i) n
  rw [List.drop_drop] at h2
  rw [runes_app, runes_app]
  simp only [List.length_append, List.length_take, List.length_drop]
  omega
theorem repT_ok (hp : ∀ x ∈ L, 10 ∉ x) (hne : L ≠ []) (hin : i + n ≤ L.length) (hl : ∀ x ∈ l, 10 ∉ x) (hl0 : l ≠ []) (hb : runesM L + L.length + runesM l + l.length ≤ 65536) :
    repT L i n l = (L.take i ++ l ++ L.drop (i + n), 0) := by
  have hs := splice_small (l := l) hin
  have hne3 : L.take i ++ l ++ L.drop (i + n) ≠ [] := by simp [hl0]
  have e : repR L i n l = L.take i ++ l ++ L.drop (i + n) := by unfold repR; rw [newL_pos hne3]
  have hj := jnd_len (L.take i ++ l ++ L.drop (i + n))
  have hj2 := jnd_len L
  unfold repT
  rw [if_neg (by unfold badR; omega), if_pos (plain_iff.2 hl), Int.toNat_natCast, Int.toNat_natCast, rep_law hp hne (by omega) hin hl, e, if_neg (by omega)]
theorem splice_plain (hp : ∀ x ∈ L, 10 ∉ x) (hl : ∀ x ∈ l, 10 ∉ x) : ∀ x ∈ L.take i ++ l ++ L.drop (i + n), 10 ∉ x := by
  intro y hy
  rcases List.mem_append.1 hy with hy | hy
  · rcases List.mem_append.1 hy with hy | hy
    · exact hp y (List.mem_of_mem_take hy)
    · exact hl y hy
  · exact hp y (List.mem_of_mem_drop hy)
theorem splice_at (h : i + n ≤ L.length) {k : Nat} (hk : k < l.length) : (L.take i ++ l ++ L.drop (i + n)).getD (i + k) [] = l.getD k [] := by
  have e : (L.take i).length = i := by rw [List.length_take]; omega
  rw [List.append_assoc, List.getD_eq_getElem?_getD, List.getElem?_append_right (by omega), e, show i + k - i = k by omega, List.getElem?_append_left hk, ← List.getD_eq_getElem?_getD]
theorem splice_back (h : i + n ≤ L.length) : (L.take i ++ l ++ L.drop (i + n)).take i ++ (L.drop i).take n ++ (L.take i ++ l ++ L.drop (i + n)).drop (i + l.length) = L := by
  have e : (L.take i).length = i := by rw [List.length_take]; omega
  have e1 : (L.take i ++ l ++ L.drop (i + n)).take i = L.take i := by
    rw [List.append_assoc, List.take_append_of_le_length (by omega), List.take_take, Nat.min_self]
  have e2 : (L.take i ++ l ++ L.drop (i + n)).drop (i + l.length) = L.drop (i + n) := by
    rw [show i + l.length = (L.take i ++ l).length by rw [List.length_append, e], List.drop_left]
  rw [e1, e2, List.append_assoc]
  rw [show L.drop (i + n) = (L.drop i).drop n by rw [List.drop_drop], List.take_append_drop, List.take_append_drop]
theorem mid_plain (hp : ∀ x ∈ L, 10 ∉ x) : ∀ x ∈ (L.drop i).take n, 10 ∉ x := fun x hx => hp x (List.mem_of_mem_drop (List.mem_of_mem_take hx))
theorem mid_small (h : i + n ≤ L.length) : runesM ((L.drop i).take n) ≤ runesM L ∧ ((L.drop i).take n).length = n := by
  have h1 := runes_td L i
  have h2 := runes_td (L.drop i) n
  rw [List.length_take, List.length_drop]
  omega
end
end Go.Ink
