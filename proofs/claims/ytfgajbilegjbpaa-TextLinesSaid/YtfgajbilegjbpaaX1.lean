/-
  The index of a text: plain; blocks of lengths in memory.
-/
import Derived.Test.YtfgajbilegjbpaaTb
import Derived.Test.YtfgajbilegjbpaaHd
import Derived.Test.YtfgajbilegjbpaaJn
set_option linter.unusedVariables false
set_option linter.unusedSimpArgs false
namespace Go.Ink
open Go Go.Proofs Go.RowKit

abbrev Blk := List Int × Int
def lenZ (L : List (List Int)) : List Int := L.map fun l => (l.length : Int)
/-- Runes and line ends. -/
def sumN (g : List (List Int)) : Nat := runesM g + g.length
def blkOf (g : List (List Int)) : Blk := (lenZ g, ((sumN g : Nat) : Int))
abbrev kInts : Kd (List Int) := kSl kI64
abbrev kBlk : Kd Blk := kPair kInts kI64
theorem lenZ_len (L : List (List Int)) : (lenZ L).length = L.length := List.length_map _
theorem lenZ_app (a b : List (List Int)) : lenZ (a ++ b) = lenZ a ++ lenZ b := List.map_append
theorem lenZ_at {L : List (List Int)} {j : Nat} (h : j < L.length) : (lenZ L).getD j 0 = ((L.getD j []).length : Int) := by
  unfold lenZ
  rw [List.getD_eq_getElem?_getD, List.getElem?_map, List.getElem?_eq_getElem h, List.getD_eq_getElem?_getD, List.getElem?_eq_getElem h]; rfl
theorem runes_app (a b : List (List Int)) : runesM (a ++ b) = runesM a + runesM b := by unfold runesM; rw [List.map_append, List.sum_append]
theorem sumN_app (a b : List (List Int)) : sumN (a ++ b) = sumN a + sumN b := by unfold sumN; rw [runes_app, List.length_append]; omega
theorem sumN_nil : sumN [] = 0 := rfl
theorem ofs_sum {L : List (List Int)} {i : Nat} (h : i ≤ L.length) : ofs L i = sumN (L.take i) := by unfold ofs sumN; rw [List.length_take, Nat.min_eq_left h]
theorem ofs_all (L : List (List Int)) : ofs L L.length = sumN L := by rw [ofs_sum (Nat.le_refl _), List.take_length]
theorem ofs_zero (L : List (List Int)) : ofs L 0 = 0 := rfl
theorem ofs_app {a b : List (List Int)} {i : Nat} (h : i ≤ b.length) (c : List (List Int)) : ofs (a ++ b ++ c) (a.length + i) = sumN a + ofs b i := by
  rw [ofs_sum (by simp only [List.length_append]; omega), List.append_assoc, List.take_length_add_append, sumN_app, List.take_append_of_le_length h, ofs_sum h]
theorem at_app {a b c : List (List Int)} {i : Nat} (h : i < b.length) : (a ++ b ++ c).getD (a.length + i) [] = b.getD i [] := by
  rw [List.append_assoc, List.getD_eq_getElem?_getD, List.getElem?_append_right (by omega), Nat.add_sub_cancel_left, List.getElem?_append_left h, List.getD_eq_getElem?_getD]
theorem ofs_lt {L : List (List Int)} {i : Nat} (h : i < L.length) : ofs L i + (L.getD i []).length + 1 ≤ sumN L := by
  have h1 := ofs_succ h
  have h2 : ofs L (i + 1) ≤ sumN L := by
    rw [ofs_sum (by omega)]
    have := sumN_app (L.take (i + 1)) (L.drop (i + 1))
    rw [List.take_append_drop] at this
    omega
  omega
/-- The lines ahead of block j. -/
def preB (gs : List (List (List Int))) (j : Nat) : List (List Int) := (gs.take j).flatten
theorem preB_succ {gs : List (List (List Int))} {j : Nat} (h : j < gs.length) : preB gs (j + 1) = preB gs j ++ gs.getD j [] := by
  unfold preB
  rw [List.take_succ_eq_append_getElem h, List.flatten_append, List.getD_eq_getElem?_getD, List.getElem?_eq_getElem h]
  simp
theorem preB_all (gs : List (List (List Int))) : preB gs gs.length = gs.flatten := by unfold preB; rw [List.take_length]
theorem preB_parts {gs : List (List (List Int))} {j : Nat} (h : j < gs.length) : gs.flatten = preB gs j ++ gs.getD j [] ++ (gs.drop (j + 1)).flatten := by
  rw [← preB_succ h]
  unfold preB
  rw [← List.flatten_append, List.take_append_drop]
theorem Ow.nG {α : Type} {d : Kd α} {G F : Nat → Prop} {w : World} {v : Value} {xs : List α} (h : Ow d G F w v xs) : Ow d (fun k => G k ∧ v.ownBlock = some k) F w v xs := by
  obtain ⟨cells, h1, h2, h3⟩ := h
  refine ⟨cells, h1, h2, h3.imp id ?_⟩
  rintro ⟨g, o, cap, cur, e, rfl, hg, r⟩
  exact ⟨g, o, cap, cur, e, rfl, ⟨hg, rfl⟩, r⟩
theorem take_pre {gs : List (List (List Int))} {i n : Nat} (hi : i < gs.length) (hn : n ≤ (gs.getD i []).length) : gs.flatten.take ((preB gs i).length + n) = preB gs i ++ (gs.getD i []).take n := by
  rw [preB_parts hi, List.append_assoc, List.take_length_add_append, List.take_append_of_le_length hn]
theorem drop_pre {gs : List (List (List Int))} {i n : Nat} (hi : i < gs.length) (hn : n ≤ (gs.getD i []).length) : gs.flatten.drop ((preB gs i).length + n) = (gs.getD i []).drop n ++ (gs.drop (i + 1)).flatten := by
  rw [preB_parts hi, List.append_assoc, ← List.drop_drop, List.drop_left, List.drop_append_of_le_length hn]
/-- No block is empty. -/
def NeB (gs : List (List (List Int))) : Prop := ∀ x ∈ gs, x ≠ []
theorem NeB.app {a b : List (List (List Int))} (h : NeB a) (k : NeB b) : NeB (a ++ b) := fun x hx => (List.mem_append.1 hx).elim (h x) (k x)
theorem NeB.take {a : List (List (List Int))} (h : NeB a) (n : Nat) : NeB (a.take n) := fun x hx => h x (List.mem_of_mem_take hx)
theorem NeB.drop {a : List (List (List Int))} (h : NeB a) (n : Nat) : NeB (a.drop n) := fun x hx => h x (List.mem_of_mem_drop hx)
theorem NeB.len : ∀ {gs : List (List (List Int))}, NeB gs → gs.length ≤ gs.flatten.length
  | [], _ => Nat.le_refl _
  | x :: gs, h => by
    have h1 := List.length_pos_iff.2 (h x (by simp))
    have h2 := NeB.len (gs := gs) fun y hy => h y (List.mem_cons_of_mem _ hy)
    rw [List.flatten_cons, List.length_append, List.length_cons]; omega
/-- Lengths in memory. -/
structure Gis (F : Nat → Prop) (w : World) (A : Option Addr) (c : Nat) (g : List (List Int)) (ad : Addr) : Prop where
  sl : Sl kI64 F w (.slice A g.length c) (lenZ g)
  cap : g.length ≤ c
  len : g.length ≤ 140737488355328
  a : 0 < g.length → A = some ad
  run : ∀ j, j < g.length → w.cell? (ad.add (j * 1)) = some (.int .i64 ((g.getD j []).length : Int))
  fa : 0 < g.length → F ad.block
theorem Sl.gis {F : Nat → Prop} {w : World} {v : Value} {g : List (List Int)} (h : Sl kI64 F w v (lenZ g)) : ∃ A c ad, v = .slice A g.length c ∧ Gis F w A c g ad := by
  obtain ⟨A, c, rfl, hc, hf⟩ := h.form
  have hl := lenZ_len g
  rw [hl] at hc h
  have hlen := hf.len
  rw [hl] at hlen
  rw [hl]
  by_cases h0 : 0 < g.length
  · obtain ⟨ad, cs, rfl, -, -⟩ := h.at_ (getD_of (d := 0) (show 0 < (lenZ g).length by omega))
    refine ⟨_, c, ad, rfl, h, hc, hlen, fun _ => rfl, fun j hj => ?_, fun _ => h.adF (by omega)⟩
    obtain ⟨ad', cs', hA, ⟨rfl, -⟩, hcell⟩ := h.at_ (getD_of (d := 0) (show j < (lenZ g).length by omega))
    cases hA
    rw [← lenZ_at hj]
    exact hcell 0 _ rfl
  · exact ⟨A, c, ⟨0, 0, none⟩, rfl, h, hc, hlen, fun hj => by omega, fun j hj => by omega, fun hj => by omega⟩
/-- Blocks in memory. -/
structure Bks (F : Nat → Prop) (w : World) (A : Option Addr) (c : Nat) (gs : List (List (List Int))) (ad : Addr) (sA : Nat → Option Addr) (sc : Nat → Nat) (sa : Nat → Addr) : Prop where
  sl : Sl kBlk F w (.slice A gs.length c) (gs.map blkOf)
  cap : gs.length ≤ c
  len : gs.length ≤ 140737488355328
  a : 0 < gs.length → A = some ad
  s : ∀ j, j < gs.length → ∀ i z, [Value.slice (sA j) (gs.getD j []).length (sc j), .int .i64 ((sumN (gs.getD j []) : Nat) : Int)][i]? = some z → w.cell? ((ad.add (j * 2)).add i) = some z
  rs : ∀ j, j < gs.length → Gis F w (sA j) (sc j) (gs.getD j []) (sa j)
  fa : 0 < gs.length → F ad.block
theorem blk_at {gs : List (List (List Int))} {j : Nat} (h : j < gs.length) : (gs.map blkOf)[j]? = some (blkOf (gs.getD j [])) := by
  rw [List.getElem?_map, getD_of (d := []) h]; rfl
theorem Sl.bks {F : Nat → Prop} {w : World} {v : Value} {gs : List (List (List Int))} (h : Sl kBlk F w v (gs.map blkOf)) : ∃ A c ad sA sc sa, v = .slice A gs.length c ∧ Bks F w A c gs ad sA sc sa := by
  obtain ⟨A, c, rfl, hc, hf⟩ := h.form
  have hl : (gs.map blkOf).length = gs.length := List.length_map _
  rw [hl] at hc h
  have hlen := hf.len
  rw [hl] at hlen
  rw [hl]
  have key : ∀ j, ∃ t : Addr × Option Addr × Nat × Addr, j < gs.length → A = some t.1 ∧ (∀ i z, [Value.slice t.2.1 (gs.getD j []).length t.2.2.1, .int .i64 ((sumN (gs.getD j []) : Nat) : Int)][i]? = some z → w.cell? ((t.1.add (j * 2)).add i) = some z) ∧ Gis F w t.2.1 t.2.2.1 (gs.getD j []) t.2.2.2 := by
    intro j
    by_cases hj : j < gs.length
    · obtain ⟨ad, cs, rfl, ⟨c1, c2, rfl, ⟨v1, rfl, hrow⟩, ⟨rfl, -⟩⟩, hcell⟩ := h.at_ (blk_at hj)
      obtain ⟨A1, c1, ra, rfl, hr⟩ := Sl.gis hrow
      exact ⟨⟨ad, A1, c1, ra⟩, fun _ => ⟨rfl, fun i z hz => by rw [add_add]; exact hcell i z hz, hr⟩⟩
    · exact ⟨⟨⟨0, 0, none⟩, none, 0, ⟨0, 0, none⟩⟩, fun h => absurd h hj⟩
  obtain ⟨f, hk⟩ := Classical.axiomOfChoice key
  have h0 : 0 < gs.length → A = some (f 0).1 := fun h => (hk 0 h).1
  refine ⟨A, c, (f 0).1, fun j => (f j).2.1, fun j => (f j).2.2.1, fun j => (f j).2.2.2, rfl, h, hc, hlen, h0, fun j hj => ?_, fun j hj => (hk j hj).2.2, fun hj => ?_⟩
  · have h1 := (hk j hj).1
    rw [h0 (by omega)] at h1
    have h2 := (hk j hj).2.1
    rw [← Option.some.inj h1] at h2
    exact h2
  · have h1 := h0 hj
    rw [h1] at h
    exact h.adF (by omega)
end Go.Ink
