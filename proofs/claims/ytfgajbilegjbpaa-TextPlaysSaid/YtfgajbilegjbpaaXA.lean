/-
  The index of a text: plain; blocks of lengths in memory.
  The index of a text: start, find, block.
  The index of a text: sizes, blocked.
  The index of a text: indexed, set.
  Lines over a row of runes: joined; the text in memory; New, Count, Runes, Line, Offset, Place.
-/
import Derived.Test.YtfgajbilegjbpaaTb
import Derived.Test.YtfgajbilegjbpaaHd
import Derived.Test.YtfgajbilegjbpaaJn
import Derived.Test.YtfgajbilegjbpaaSp
import Derived.Test.YtfgajbilegjbpaaPc
set_option linter.unusedVariables false
set_option linter.unusedSimpArgs false
namespace Go.Ink
open Go Go.Proofs Go.RowKit

abbrev Blk := List Int × Int
def lenZ (L : List (List Int)) : List Int := L.map fun l => (l.length : Int)
/-- Runes and line ends. -/
def sumN (g : List (List Int)) : Nat := runesM g + g.length
def blkOf (g : List (List Int)) : Blk := (lenZ g, ((sumN g : Nat) : Int))
abbrev kInts : Kd (List Int) := kSl kI64
abbrev kBlk : Kd Blk := kPair kInts kI64
theorem lenZ_len (L : List (List Int)) : (lenZ L).length = L.length := List.length_map _
theorem lenZ_app (a b : List (List Int)) : lenZ (a ++ b) = lenZ a ++ lenZ b := List.map_append
theorem lenZ_at {L : List (List Int)} {j : Nat} (h : j < L.length) : (lenZ L).getD j 0 = ((L.getD j []).length : Int) := by
  unfold lenZ
  rw [List.getD_eq_getElem?_getD, List.getElem?_map, List.getElem?_eq_getElem h, List.getD_eq_getElem?_getD, List.getElem?_eq_getElem h]; rfl
theorem runes_app (a b : List (List Int)) : runesM (a ++ b) = runesM a + runesM b := by unfold runesM; rw [List.map_append, List.sum_append]
theorem sumN_app (a b : List (List Int)) : sumN (a ++ b) = sumN a + sumN b := by unfold sumN; rw [runes_app, List.length_append]; omega
theorem sumN_nil : sumN [] = 0 := rfl
theorem ofs_sum {L : List (List Int)} {i : Nat} (h : i ≤ L.length) : ofs L i = sumN (L.take i) := by unfold ofs sumN; rw [List.length_take, Nat.min_eq_left h]
theorem ofs_all (L : List (List Int)) : ofs L L.length = sumN L := by rw [ofs_sum (Nat.le_refl _), List.take_length]
theorem ofs_zero (L : List (List Int)) : ofs L 0 = 0 := rfl
theorem ofs_app {a b : List (List Int)} {i : Nat} (h : i ≤ b.length) (c : List (List Int)) : ofs (a ++ b ++ c) (a.length + i) = sumN a + ofs b i := by
  rw [ofs_sum (by simp only [List.length_append]; omega), List.append_assoc, List.take_length_add_append, sumN_app, List.take_append_of_le_length h, ofs_sum h]
theorem at_app {a b c : List (List Int)} {i : Nat} (h : i < b.length) : (a ++ b ++ c).getD (a.length + i) [] = b.getD i [] := by
  rw [List.append_assoc, List.getD_eq_getElem?_getD, List.getElem?_append_right (by omega), Nat.add_sub_cancel_left, List.getElem?_append_left h, List.getD_eq_getElem?_getD]
theorem ofs_lt {L : List (List Int)} {i : Nat} (h : i < L.length) : ofs L i + (L.getD i []).length + 1 ≤ sumN L := by
  have h1 := ofs_succ h
  have h2 : ofs L (i + 1) ≤ sumN L := by
    rw [ofs_sum (by omega)]
    have := sumN_app (L.take (i + 1)) (L.drop (i + 1))
    rw [List.take_append_drop] at this
    omega
  omega
/-- The lines ahead of block j. -/
def preB (gs : List (List (List Int))) (j : Nat) : List (List Int) := (gs.take j).flatten
theorem preB_succ {gs : List (List (List Int))} {j : Nat} (h : j < gs.length) : preB gs (j + 1) = preB gs j ++ gs.getD j [] := by
  unfold preB
  rw [List.take_succ_eq_append_getElem h, List.flatten_append, List.getD_eq_getElem?_getD, List.getElem?_eq_getElem h]
  simp
theorem preB_all (gs : List (List (List Int))) : preB gs gs.length = gs.flatten := by unfold preB; rw [List.take_length]
theorem preB_parts {gs : List (List (List Int))} {j : Nat} (h : j < gs.length) : gs.flatten = preB gs j ++ gs.getD j [] ++ (gs.drop (j + 1)).flatten := by
  rw [← preB_succ h]
  unfold preB
  rw [← List.flatten_append, List.take_append_drop]
theorem Ow.nG {α : Type} {d : Kd α} {G F : Nat → Prop} {w : World} {v : Value} {xs : List α} (h : Ow d G F w v xs) : Ow d (fun k => G k ∧ v.ownBlock = some k) F w v xs := by
  obtain ⟨cells, h1, h2, h3⟩ := h
  refine ⟨cells, h1, h2, h3.imp id ?_⟩
  rintro ⟨g, o, cap, cur, e, rfl, hg, r⟩
  exact ⟨g, o, cap, cur, e, rfl, ⟨hg, rfl⟩, r⟩
theorem take_pre {gs : List (List (List Int))} {i n : Nat} (hi : i < gs.length) (hn : n ≤ (gs.getD i []).length) : gs.flatten.take ((preB gs i).length + n) = preB gs i ++ (gs.getD i []).take n := by
  rw [preB_parts hi, List.append_assoc, List.take_length_add_append, List.take_append_of_le_length hn]
theorem drop_pre {gs : List (List (List Int))} {i n : Nat} (hi : i < gs.length) (hn : n ≤ (gs.getD i []).length) : gs.flatten.drop ((preB gs i).length + n) = (gs.getD i []).drop n ++ (gs.drop (i + 1)).flatten := by
  rw [preB_parts hi, List.append_assoc, ← List.drop_drop, List.drop_left, List.drop_append_of_le_length hn]
/-- No block is empty. -/
def NeB (gs : List (List (List Int))) : Prop := ∀ x ∈ gs, x ≠ []
theorem NeB.app {a b : List (List (List Int))} (h : NeB a) (k : NeB b) : NeB (a ++ b) := fun x hx => (List.mem_append.1 hx).elim (h x) (k x)
theorem NeB.take {a : List (List (List Int))} (h : NeB a) (n : Nat) : NeB (a.take n) := fun x hx => h x (List.mem_of_mem_take hx)
theorem NeB.drop {a : List (List (List Int))} (h : NeB a) (n : Nat) : NeB (a.drop n) := fun x hx => h x (List.mem_of_mem_drop hx)
theorem NeB.len : ∀ {gs : List (List (List Int))}, NeB gs → gs.length ≤ gs.flatten.length
  | [], _ => Nat.le_refl _
  | x :: gs, h => by
    have h1 := List.length_pos_iff.2 (h x (by simp))
    have h2 := NeB.len (gs := gs) fun y hy => h y (List.mem_cons_of_mem _ hy)
    rw [List.flatten_cons, List.length_append, List.length_cons]; omega
/-- Lengths in memory. -/
structure Gis (F : Nat → Prop) (w : World) (A : Option Addr) (c : Nat) (g : List (List Int)) (ad : Addr) : Prop where
  sl : Sl kI64 F w (.slice A g.length c) (lenZ g)
  cap : g.length ≤ c
  len : g.length ≤ 140737488355328
  a : 0 < g.length → A = some ad
  run : ∀ j, j < g.length → w.cell? (ad.add (j * 1)) = some (.int .i64 ((g.getD j []).length : Int))
  fa : 0 < g.length → F ad.block
theorem Sl.gis {F : Nat → Prop} {w : World} {v : Value} {g : List (List Int)} (h : Sl kI64 F w v (lenZ g)) : ∃ A c ad, v = .slice A g.length c ∧ Gis F w A c g ad := by
  obtain ⟨A, c, rfl, hc, hf⟩ := h.form
  have hl := lenZ_len g
  rw [hl] at hc h
  have hlen := hf.len
  rw [hl] at hlen
  rw [hl]
  by_cases h0 : 0 < g.length
  · obtain ⟨ad, cs, rfl, -, -⟩ := h.at_ (getD_of (d := 0) (show 0 < (lenZ g).length by omega))
    refine ⟨_, c, ad, rfl, h, hc, hlen, fun _ => rfl, fun j hj => ?_, fun _ => h.adF (by omega)⟩
    obtain ⟨ad', cs', hA, ⟨rfl, -⟩, hcell⟩ := h.at_ (getD_of (d := 0) (show j < (lenZ g).length by omega))
    cases hA
    rw [← lenZ_at hj]
    exact hcell 0 _ rfl
  · exact ⟨A, c, ⟨0, 0, none⟩, rfl, h, hc, hlen, fun hj => by omega, fun j hj => by omega, fun hj => by omega⟩
/-- Blocks in memory. -/
structure Bks (F : Nat → Prop) (w : World) (A : Option Addr) (c : Nat) (gs : List (List (List Int))) (ad : Addr) (sA : Nat → Option Addr) (sc : Nat → Nat) (sa : Nat → Addr) : Prop where
  sl : Sl kBlk F w (.slice A gs.length c) (gs.map blkOf)
  cap : gs.length ≤ c
  len : gs.length ≤ 140737488355328
  a : 0 < gs.length → A = some ad
  s : ∀ j, j < gs.length → ∀ i z, [Value.slice (sA j) (gs.getD j []).length (sc j), .int .i64 ((sumN (gs.getD j []) : Nat) : Int)][i]? = some z → w.cell? ((ad.add (j * 2)).add i) = some z
  rs : ∀ j, j < gs.length → Gis F w (sA j) (sc j) (gs.getD j []) (sa j)
  fa : 0 < gs.length → F ad.block
theorem blk_at {gs : List (List (List Int))} {j : Nat} (h : j < gs.length) : (gs.map blkOf)[j]? = some (blkOf (gs.getD j [])) := by
  rw [List.getElem?_map, getD_of (d := []) h]; rfl
theorem Sl.bks {F : Nat → Prop} {w : World} {v : Value} {gs : List (List (List Int))} (h : Sl kBlk F w v (gs.map blkOf)) : ∃ A c ad sA sc sa, v = .slice A gs.length c ∧ Bks F w A c gs ad sA sc sa := by
  obtain ⟨A, c, rfl, hc, hf⟩ := h.form
  have hl : (gs.map blkOf).length = gs.length := List.length_map _
  rw [hl] at hc h
  have hlen := hf.len
  rw [hl] at hlen
  rw [hl]
  have key : ∀ j, ∃ t : Addr × Option Addr × Nat × Addr, j < gs.length → A = some t.1 ∧ (∀ i z, [Value.slice t.2.1 (gs.getD j []).length t.2.2.1, .int .i64 ((sumN (gs.getD j []) : Nat) : Int)][i]? = some z → w.cell? ((t.1.add (j * 2)).add i) = some z) ∧ Gis F w t.2.1 t.2.2.1 (gs.getD j []) t.2.2.2 := by
    intro j
    by_cases hj : j < gs.length
    · obtain ⟨ad, cs, rfl, ⟨c1, c2, rfl, ⟨v1, rfl, hrow⟩, ⟨rfl, -⟩⟩, hcell⟩ := h.at_ (blk_at hj)
      obtain ⟨A1, c1, ra, rfl, hr⟩ := Sl.gis hrow
      exact ⟨⟨ad, A1, c1, ra⟩, fun _ => ⟨rfl, fun i z hz => by rw [add_add]; exact hcell i z hz, hr⟩⟩
    · exact ⟨⟨⟨0, 0, none⟩, none, 0, ⟨0, 0, none⟩⟩, fun h => absurd h hj⟩
  obtain ⟨f, hk⟩ := Classical.axiomOfChoice key
  have h0 : 0 < gs.length → A = some (f 0).1 := fun h => (hk 0 h).1
  refine ⟨A, c, (f 0).1, fun j => (f j).2.1, fun j => (f j).2.2.1, fun j => (f j).2.2.2, rfl, h, hc, hlen, h0, fun j hj => ?_, fun j hj => (hk j hj).2.2, fun hj => ?_⟩
  · have h1 := (hk j hj).1
    rw [h0 (by omega)] at h1
    have h2 := (hk j hj).2.1
    rw [← Option.some.inj h1] at h2
    exact h2
  · have h1 := h0 hj
    rw [h1] at h
    exact h.adF (by omega)
end Go.Ink

set_option linter.unusedVariables false
set_option linter.unusedSimpArgs false
namespace Go.Ink
open Go Go.Proofs Go.RowKit

section
variable {F : Nat → Prop} {w : World} {vb : Value} {gs : List (List (List Int))} {g : Nat}
set_option maxHeartbeats 4000000 in
theorem start_calls {n : Nat} (hg : w.cell? ⟨g, 1, none⟩ = some vb) (h : Sl kBlk F w vb (gs.map blkOf)) (hs : sumN gs.flatten ≤ 1099511627776) (hn : n < gs.flatten.length) :
    CallsR Try.prog 39 #[.pointer (some ⟨g, 1, none⟩), .int .i64 (n : Int)] w fun u w' => Kn w w' ∧ u = .tuple #[.int .i64 ((ofs gs.flatten n : Nat) : Int), .int .i64 ((gs.flatten.getD n []).length : Int)] := by
  obtain ⟨A, c, ad, sA, sc, sa, rfl, hB⟩ := h.bks
  have hlen := hB.len
  refine l_enter (fun _ => False) Try.func39 rfl rfl ?_
  repeat(first|refine lrun_ ?_|(refine lo_boxA rfl rfl ?_;intro _ _ _)|(refine lo_box1 rfl rfl rfl ?_;intro _ _ _)|(refine lo_alloc rfl ?_;intro _ _ _))
  refine l_while (fun j : Nat => gs.length - j) (fun j => [(0, .pointer (some ⟨g, 1, none⟩)), (1, .int .i64 ((n : Int) - (preB gs j).length)), (6, .int .i64 ((sumN (preB gs j) : Nat) : Int)), (14, .slice A gs.length c), (15, .int .i64 gs.length), (16, .int .i64 (j : Int))]) (fun _ => []) (fun j => j ≤ gs.length ∧ (preB gs j).length ≤ n) 0 (by simp only [show preB gs 0 = [] from rfl, List.length_nil, Int.natCast_zero, Int.sub_zero, sumN_nil]; exact (by repeat (first | exact SubB.nil | refine SubB.cons rfl ?_))) (by repeat(first|exact MSub.refl|refine MSub.keep rfl ?_|exact MSub.nil|apply MSub.drop)) ⟨Nat.zero_le _, Nat.zero_le _⟩ ?_
  rintro j ⟨hj, hp⟩ ih
  have hlt : j < gs.length := by
    rcases Nat.lt_or_ge j gs.length with h | h
    · exact h
    · obtain rfl : j = gs.length := by omega
      rw [preB_all] at hp; omega
  have hX := hB.rs j hlt
  have hps := preB_succ hlt
  have hpt := preB_parts hlt
  have h1 : (preB gs (j + 1)).length = (preB gs j).length + (gs.getD j []).length := by rw [hps, List.length_append]
  have h2 : sumN (preB gs (j + 1)) = sumN (preB gs j) + sumN (gs.getD j []) := by rw [hps, sumN_app]
  have h3 : sumN gs.flatten = sumN (preB gs j) + sumN (gs.getD j []) + sumN (gs.drop (j + 1)).flatten := by rw [hpt, sumN_app, sumN_app]
  have hgl := hX.len
  have h4 : n < gs.flatten.length := hn
  have hfl : gs.flatten.length ≤ 1099511627776 := by unfold sumN at hs; omega
  repeat(first|refine lrun_ ?_|(refine lo_boxA rfl rfl ?_;intro _ _ _)|(refine lo_box1 rfl rfl rfl ?_;intro _ _ _)|(refine lo_alloc rfl ?_;intro _ _ _))
  refine l_yes rfl (by omega) ?_
  repeat(first|refine lrun_ ?_|(refine lo_boxA rfl rfl ?_;intro _ _ _)|(refine lo_box1 rfl rfl rfl ?_;intro _ _ _)|(refine lo_alloc rfl ?_;intro _ _ _))
  refine lo_index rfl rfl rfl (by omega) (hB.a (by omega)) rfl ?_
  refine lo_loadAO rfl rfl (hB.s j hlt) (fun h => h.elim) rfl ?_
  repeat(first|refine lrun_ ?_|(refine lo_boxA rfl rfl ?_;intro _ _ _)|(refine lo_box1 rfl rfl rfl ?_;intro _ _ _)|(refine lo_alloc rfl ?_;intro _ _ _))
  rename_i g8 _ _
  by_cases hc : (preB gs j).length + (gs.getD j []).length ≤ n
  · refine l_yes rfl (by omega) ?_
    have ih2 := ih (j + 1) ⟨by omega, by omega⟩ (by omega)
    rw [show (n : Int) - ((preB gs (j + 1)).length : Nat) = (n : Int) - ((preB gs j).length : Nat) - ((gs.getD j []).length : Nat) by omega, show ((sumN (preB gs (j + 1)) : Nat) : Int) = ((sumN (preB gs j) : Nat) : Int) + ((sumN (gs.getD j []) : Nat) : Int) by omega] at ih2
    repeat(first|refine lrun_ ?_|(refine lo_boxA rfl rfl ?_;intro _ _ _)|(refine lo_box1 rfl rfl rfl ?_;intro _ _ _)|(refine lo_alloc rfl ?_;intro _ _ _))
    exact ih2 _ _ (by repeat (first | exact SubB.nil | refine SubB.cons rfl ?_)) (by repeat(first|exact MSub.refl|refine MSub.keep rfl ?_|exact MSub.nil|apply MSub.drop))
  refine l_no rfl (by omega) ?_
  refine l_go .skip ?_
  clear ih
  obtain ⟨r, rfl⟩ : ∃ r, n = (preB gs j).length + r := ⟨n - (preB gs j).length, by omega⟩
  have e1 : (((preB gs j).length + r : Nat) : Int) - ((preB gs j).length : Nat) = (r : Int) := by omega
  have hr : r < (gs.getD j []).length := by omega
  rw [e1]
  have eo : ofs gs.flatten ((preB gs j).length + r) = sumN (preB gs j) + ofs (gs.getD j []) r := by rw [hpt, ofs_app (by omega)]
  have ea : gs.flatten.getD ((preB gs j).length + r) [] = (gs.getD j []).getD r [] := by rw [hpt, at_app hr]
  have hol := ofs_lt hr
  have hcap := hX.cap
  rw [eo, ea]
  repeat(first|refine lrun_ ?_|(refine lo_boxA rfl rfl ?_;intro _ _ _)|(refine lo_box1 rfl rfl rfl ?_;intro _ _ _)|(refine lo_alloc rfl ?_;intro _ _ _))
  refine l_while (fun i : Nat => r - i) (fun i => [(1, .int .i64 (r : Int)), (6, .int .i64 (((sumN (preB gs j) : Nat) : Int) + ((ofs (gs.getD j []) i : Nat) : Int))), (8, .pointer (some ⟨g8, 0, none⟩)), (37, .slice (sA j) r (sc j)), (38, .int .i64 (r : Int)), (39, .int .i64 (i : Int))]) (fun _ => [(g8, cb [.slice (sA j) (gs.getD j []).length (sc j), .int .i64 ((sumN (gs.getD j []) : Nat) : Int)] 93)]) (fun i => i ≤ r) 0 (by simp only [ofs_zero, Int.natCast_zero, Int.add_zero]; exact (by repeat (first | exact SubB.nil | refine SubB.cons rfl ?_))) (by repeat(first|exact MSub.refl|refine MSub.keep rfl ?_|exact MSub.nil|apply MSub.drop)) (Nat.zero_le _) ?_
  intro i hi ih
  have hol2 : ofs (gs.getD j []) i + ((gs.getD j []).getD i []).length + 1 ≤ sumN (gs.getD j []) := ofs_lt (by omega)
  by_cases hlt2 : i < r
  · have ih2 := ih (i + 1) hlt2 (by omega)
    have hos := ofs_succ (l := gs.getD j []) (i := i) (by omega)
    rw [show ((sumN (preB gs j) : Nat) : Int) + ((ofs (gs.getD j []) (i + 1) : Nat) : Int) = ((sumN (preB gs j) : Nat) : Int) + ((ofs (gs.getD j []) i : Nat) : Int) + ((((gs.getD j []).getD i []).length : Int) + 1) by rw [hos]; omega] at ih2
    repeat(first|refine lrun_ ?_|(refine lo_boxA rfl rfl ?_;intro _ _ _)|(refine lo_box1 rfl rfl rfl ?_;intro _ _ _)|(refine lo_alloc rfl ?_;intro _ _ _))
    refine l_yes rfl (by omega) ?_
    repeat(first|refine lrun_ ?_|(refine lo_boxA rfl rfl ?_;intro _ _ _)|(refine lo_box1 rfl rfl rfl ?_;intro _ _ _)|(refine lo_alloc rfl ?_;intro _ _ _))
    exact ih2 _ _ (by repeat (first | exact SubB.nil | refine SubB.cons rfl ?_)) (by repeat(first|exact MSub.refl|refine MSub.keep rfl ?_|exact MSub.nil|apply MSub.drop))
  · obtain rfl : i = r := by omega
    repeat(first|refine lrun_ ?_|(refine lo_boxA rfl rfl ?_;intro _ _ _)|(refine lo_box1 rfl rfl rfl ?_;intro _ _ _)|(refine lo_alloc rfl ?_;intro _ _ _))
    refine l_no rfl (by omega) ?_
    refine l_go (.exit rfl) ?_
    repeat(first|refine lrun_ ?_|(refine lo_boxA rfl rfl ?_;intro _ _ _)|(refine lo_box1 rfl rfl rfl ?_;intro _ _ _)|(refine lo_alloc rfl ?_;intro _ _ _))
    refine l_draw [(0, 0), (1, 0), (2, 0), (3, 0), (4, 0), (5, 0), (6, 0), (7, 0)] (by kernel_rfl) (by kernel_rfl) rfl (by kernel_rfl) ?_
    repeat(first|refine lrund_ ?_|(refine ld_open rfl ?_;first|(refine ld_boxA rfl wy_ rfl ?_;intro _ _ _)|(refine ld_box1 rfl rfl wy_ rfl ?_;intro _ _ _)|(refine ld_alloc wy_ rfl ?_;intro _ _ _)))
    repeat(first|refine lrun_ ?_|(refine lo_boxA rfl rfl ?_;intro _ _ _)|(refine lo_box1 rfl rfl rfl ?_;intro _ _ _)|(refine lo_alloc rfl ?_;intro _ _ _))
    exact l_retR2 rfl (by repeat(first|exact LRes.nil|refine LRes.tmp rfl ?_|refine LRes.agg rfl (by(repeat(first|exact MIn.hd|refine MIn.tl ?_));done) (by rfl) (by rfl) ?_|refine LRes.one rfl (by(repeat(first|exact MIn.hd|refine MIn.tl ?_));done) (by rfl) ?_)) fun w' hw => ⟨hw.org, by rw [Int.natCast_add]⟩
set_option maxHeartbeats 4000000 in
theorem find_calls {n : Nat} (hg : w.cell? ⟨g, 1, none⟩ = some vb) (h : Sl kBlk F w vb (gs.map blkOf)) (hs : sumN gs.flatten ≤ 1099511627776) (hn : n < sumN gs.flatten) :
    CallsR Try.prog 38 #[.pointer (some ⟨g, 1, none⟩), .int .i64 (n : Int)] w fun u w' => Kn w w' ∧ ∃ i c : Nat, i < gs.flatten.length ∧ c ≤ (gs.flatten.getD i []).length ∧ n = ofs gs.flatten i + c ∧ u = .tuple #[.int .i64 (i : Int), .int .i64 (c : Int)] := by
  obtain ⟨A, c, ad, sA, sc, sa, rfl, hB⟩ := h.bks
  have hlen := hB.len
  refine l_enter (fun _ => False) Try.func38 rfl rfl ?_
  repeat(first|refine lrun_ ?_|(refine lo_boxA rfl rfl ?_;intro _ _ _)|(refine lo_box1 rfl rfl rfl ?_;intro _ _ _)|(refine lo_alloc rfl ?_;intro _ _ _))
  refine l_while (fun j : Nat => gs.length - j) (fun j => [(0, .pointer (some ⟨g, 1, none⟩)), (1, .int .i64 ((n : Int) - (sumN (preB gs j) : Nat))), (6, .int .i64 (((preB gs j).length : Nat) : Int)), (14, .slice A gs.length c), (15, .int .i64 gs.length), (16, .int .i64 (j : Int))]) (fun _ => []) (fun j => j ≤ gs.length ∧ sumN (preB gs j) ≤ n) 0 (by simp only [show preB gs 0 = [] from rfl, List.length_nil, Int.natCast_zero, Int.sub_zero, sumN_nil]; exact (by repeat (first | exact SubB.nil | refine SubB.cons rfl ?_))) (by repeat(first|exact MSub.refl|refine MSub.keep rfl ?_|exact MSub.nil|apply MSub.drop)) ⟨Nat.zero_le _, Nat.zero_le _⟩ ?_
  rintro j ⟨hj, hp⟩ ih
  have hlt : j < gs.length := by
    rcases Nat.lt_or_ge j gs.length with h | h
    · exact h
    · obtain rfl : j = gs.length := by omega
      rw [preB_all] at hp; omega
  have hX := hB.rs j hlt
  have hps := preB_succ hlt
  have hpt := preB_parts hlt
  have h1 : (preB gs (j + 1)).length = (preB gs j).length + (gs.getD j []).length := by rw [hps, List.length_append]
  have h2 : sumN (preB gs (j + 1)) = sumN (preB gs j) + sumN (gs.getD j []) := by rw [hps, sumN_app]
  have h3 : sumN gs.flatten = sumN (preB gs j) + sumN (gs.getD j []) + sumN (gs.drop (j + 1)).flatten := by rw [hpt, sumN_app, sumN_app]
  have h5 : gs.flatten.length = (preB gs j).length + (gs.getD j []).length + ((gs.drop (j + 1)).flatten).length := by rw [hpt, List.length_append, List.length_append]
  have hgl := hX.len
  have hfl : gs.flatten.length ≤ 1099511627776 := by unfold sumN at hs; omega
  repeat(first|refine lrun_ ?_|(refine lo_boxA rfl rfl ?_;intro _ _ _)|(refine lo_box1 rfl rfl rfl ?_;intro _ _ _)|(refine lo_alloc rfl ?_;intro _ _ _))
  refine l_yes rfl (by omega) ?_
  repeat(first|refine lrun_ ?_|(refine lo_boxA rfl rfl ?_;intro _ _ _)|(refine lo_box1 rfl rfl rfl ?_;intro _ _ _)|(refine lo_alloc rfl ?_;intro _ _ _))
  refine lo_index rfl rfl rfl (by omega) (hB.a (by omega)) rfl ?_
  refine lo_loadAO rfl rfl (hB.s j hlt) (fun h => h.elim) rfl ?_
  repeat(first|refine lrun_ ?_|(refine lo_boxA rfl rfl ?_;intro _ _ _)|(refine lo_box1 rfl rfl rfl ?_;intro _ _ _)|(refine lo_alloc rfl ?_;intro _ _ _))
  rename_i g8 _ _
  by_cases hc : sumN (preB gs j) + sumN (gs.getD j []) ≤ n
  · refine l_yes rfl (by omega) ?_
    have ih2 := ih (j + 1) ⟨by omega, by omega⟩ (by omega)
    rw [show (n : Int) - ((sumN (preB gs (j + 1)) : Nat) : Int) = (n : Int) - ((sumN (preB gs j) : Nat) : Int) - ((sumN (gs.getD j []) : Nat) : Int) by omega, show (((preB gs (j + 1)).length : Nat) : Int) = (((preB gs j).length : Nat) : Int) + (((gs.getD j []).length : Nat) : Int) by omega] at ih2
    repeat(first|refine lrun_ ?_|(refine lo_boxA rfl rfl ?_;intro _ _ _)|(refine lo_box1 rfl rfl rfl ?_;intro _ _ _)|(refine lo_alloc rfl ?_;intro _ _ _))
    exact ih2 _ _ (by repeat (first | exact SubB.nil | refine SubB.cons rfl ?_)) (by repeat(first|exact MSub.refl|refine MSub.keep rfl ?_|exact MSub.nil|apply MSub.drop))
  refine l_no rfl (by omega) ?_
  refine l_go .skip ?_
  clear ih
  repeat(first|refine lrun_ ?_|(refine lo_boxA rfl rfl ?_;intro _ _ _)|(refine lo_box1 rfl rfl rfl ?_;intro _ _ _)|(refine lo_alloc rfl ?_;intro _ _ _))
  refine l_while (fun i : Nat => (gs.getD j []).length - i) (fun i => [(1, .int .i64 ((n : Int) - (sumN (preB gs j) : Nat) - ((ofs (gs.getD j []) i : Nat) : Int))), (6, .int .i64 ((((preB gs j).length : Nat) : Int) + (i : Int))), (34, .slice (sA j) (gs.getD j []).length (sc j)), (35, .int .i64 ((gs.getD j []).length : Int)), (36, .int .i64 (i : Int))]) (fun _ => []) (fun i => i ≤ (gs.getD j []).length ∧ sumN (preB gs j) + ofs (gs.getD j []) i ≤ n) 0 (by simp only [ofs_zero, Int.natCast_zero, Int.add_zero, Int.sub_zero]; exact (by repeat (first | exact SubB.nil | refine SubB.cons rfl ?_))) (by repeat(first|exact MSub.refl|refine MSub.keep rfl ?_|exact MSub.nil|apply MSub.drop)) ⟨Nat.zero_le _, by rw [ofs_zero]; omega⟩ ?_
  rintro i ⟨hi, hq⟩ ih
  have hlt2 : i < (gs.getD j []).length := by
    rcases Nat.lt_or_ge i (gs.getD j []).length with h | h
    · exact h
    · obtain rfl : i = (gs.getD j []).length := by omega
      rw [ofs_all] at hq; omega
  have hol2 : ofs (gs.getD j []) i + ((gs.getD j []).getD i []).length + 1 ≤ sumN (gs.getD j []) := ofs_lt hlt2
  have hos := ofs_succ hlt2
  repeat(first|refine lrun_ ?_|(refine lo_boxA rfl rfl ?_;intro _ _ _)|(refine lo_box1 rfl rfl rfl ?_;intro _ _ _)|(refine lo_alloc rfl ?_;intro _ _ _))
  refine l_yes rfl (by omega) ?_
  repeat(first|refine lrun_ ?_|(refine lo_boxA rfl rfl ?_;intro _ _ _)|(refine lo_box1 rfl rfl rfl ?_;intro _ _ _)|(refine lo_alloc rfl ?_;intro _ _ _))
  by_cases hle : n ≤ sumN (preB gs j) + ofs (gs.getD j []) i + ((gs.getD j []).getD i []).length
  · refine l_yes rfl (by omega) ?_
    repeat(first|refine lrun_ ?_|(refine lo_boxA rfl rfl ?_;intro _ _ _)|(refine lo_box1 rfl rfl rfl ?_;intro _ _ _)|(refine lo_alloc rfl ?_;intro _ _ _))
    refine l_retR2 rfl (by repeat(first|exact LRes.nil|refine LRes.tmp rfl ?_|refine LRes.agg rfl (by(repeat(first|exact MIn.hd|refine MIn.tl ?_));done) (by rfl) (by rfl) ?_|refine LRes.one rfl (by(repeat(first|exact MIn.hd|refine MIn.tl ?_));done) (by rfl) ?_)) fun w' hw => ⟨hw.org, (preB gs j).length + i, n - sumN (preB gs j) - ofs (gs.getD j []) i, by omega, ?_, ?_, ?_⟩
    · rw [hpt, at_app hlt2]; omega
    · rw [hpt, ofs_app (by omega)]; omega
    · rw [Int.natCast_add, show ((n - sumN (preB gs j) - ofs (gs.getD j []) i : Nat) : Int) = (n : Int) - (sumN (preB gs j) : Nat) - ((ofs (gs.getD j []) i : Nat) : Int) by omega]
  · refine l_no rfl (by omega) ?_
    refine l_go .skip ?_
    have ih2 := ih (i + 1) ⟨hlt2, by omega⟩ (by omega)
    rw [show (n : Int) - (sumN (preB gs j) : Nat) - ((ofs (gs.getD j []) (i + 1) : Nat) : Int) = (n : Int) - (sumN (preB gs j) : Nat) - ((ofs (gs.getD j []) i : Nat) : Int) - ((((gs.getD j []).getD i []).length : Int) + 1) by omega, show (((preB gs j).length : Nat) : Int) + ((i + 1 : Nat) : Int) = (((preB gs j).length : Nat) : Int) + (i : Int) + 1 by omega] at ih2
    repeat(first|refine lrun_ ?_|(refine lo_boxA rfl rfl ?_;intro _ _ _)|(refine lo_box1 rfl rfl rfl ?_;intro _ _ _)|(refine lo_alloc rfl ?_;intro _ _ _))
    exact ih2 _ _ (by repeat (first | exact SubB.nil | refine SubB.cons rfl ?_)) (by repeat(first|exact MSub.refl|refine MSub.keep rfl ?_|exact MSub.nil|apply MSub.drop))
set_option maxHeartbeats 4000000 in
theorem block_calls {n : Nat} (hg : w.cell? ⟨g, 1, none⟩ = some vb) (h : Sl kBlk F w vb (gs.map blkOf)) (hs : sumN gs.flatten ≤ 1099511627776) (hn : n < gs.flatten.length) :
    CallsR Try.prog 58 #[.pointer (some ⟨g, 1, none⟩), .int .i64 (n : Int)] w fun u w' => Kn w w' ∧ ∃ j r : Nat, j < gs.length ∧ r < (gs.getD j []).length ∧ n = (preB gs j).length + r ∧ u = .tuple #[.int .i64 (j : Int), .int .i64 (r : Int)] := by
  obtain ⟨A, c, ad, sA, sc, sa, rfl, hB⟩ := h.bks
  have hlen := hB.len
  refine l_enter (fun _ => False) Try.func58 rfl rfl ?_
  repeat(first|refine lrun_ ?_|(refine lo_boxA rfl rfl ?_;intro _ _ _)|(refine lo_box1 rfl rfl rfl ?_;intro _ _ _)|(refine lo_alloc rfl ?_;intro _ _ _))
  refine l_while (fun j : Nat => gs.length - j) (fun j => [(0, .pointer (some ⟨g, 1, none⟩)), (1, .int .i64 ((n : Int) - ((preB gs j).length : Nat))), (11, .slice A gs.length c), (12, .int .i64 gs.length), (13, .int .i64 (j : Int))]) (fun _ => []) (fun j => j ≤ gs.length ∧ (preB gs j).length ≤ n) 0 (by simp only [show preB gs 0 = [] from rfl, List.length_nil, Int.natCast_zero, Int.sub_zero, sumN_nil]; exact (by repeat (first | exact SubB.nil | refine SubB.cons rfl ?_))) (by repeat(first|exact MSub.refl|refine MSub.keep rfl ?_|exact MSub.nil|apply MSub.drop)) ⟨Nat.zero_le _, Nat.zero_le _⟩ ?_
  rintro j ⟨hj, hp⟩ ih
  have hlt : j < gs.length := by
    rcases Nat.lt_or_ge j gs.length with h | h
    · exact h
    · obtain rfl : j = gs.length := by omega
      rw [preB_all] at hp; omega
  have hX := hB.rs j hlt
  have hps := preB_succ hlt
  have h1 : (preB gs (j + 1)).length = (preB gs j).length + (gs.getD j []).length := by rw [hps, List.length_append]
  have hgl := hX.len
  have hfl : gs.flatten.length ≤ 1099511627776 := by unfold sumN at hs; omega
  repeat(first|refine lrun_ ?_|(refine lo_boxA rfl rfl ?_;intro _ _ _)|(refine lo_box1 rfl rfl rfl ?_;intro _ _ _)|(refine lo_alloc rfl ?_;intro _ _ _))
  refine l_yes rfl (by omega) ?_
  repeat(first|refine lrun_ ?_|(refine lo_boxA rfl rfl ?_;intro _ _ _)|(refine lo_box1 rfl rfl rfl ?_;intro _ _ _)|(refine lo_alloc rfl ?_;intro _ _ _))
  refine lo_index rfl rfl rfl (by omega) (hB.a (by omega)) rfl ?_
  refine lo_loadAO rfl rfl (hB.s j hlt) (fun h => h.elim) rfl ?_
  repeat(first|refine lrun_ ?_|(refine lo_boxA rfl rfl ?_;intro _ _ _)|(refine lo_box1 rfl rfl rfl ?_;intro _ _ _)|(refine lo_alloc rfl ?_;intro _ _ _))
  by_cases hc : n < (preB gs j).length + (gs.getD j []).length
  · refine l_yes rfl (by omega) ?_
    repeat(first|refine lrun_ ?_|(refine lo_boxA rfl rfl ?_;intro _ _ _)|(refine lo_box1 rfl rfl rfl ?_;intro _ _ _)|(refine lo_alloc rfl ?_;intro _ _ _))
    exact l_retR2 rfl (by repeat(first|exact LRes.nil|refine LRes.tmp rfl ?_|refine LRes.agg rfl (by(repeat(first|exact MIn.hd|refine MIn.tl ?_));done) (by rfl) (by rfl) ?_|refine LRes.one rfl (by(repeat(first|exact MIn.hd|refine MIn.tl ?_));done) (by rfl) ?_)) fun w' hw => ⟨hw.org, j, n - (preB gs j).length, hlt, by omega, by omega, by rw [show ((n - (preB gs j).length : Nat) : Int) = (n : Int) - ((preB gs j).length : Nat) by omega]⟩
  · refine l_no rfl (by omega) ?_
    refine l_go .skip ?_
    have ih2 := ih (j + 1) ⟨by omega, by omega⟩ (by omega)
    rw [show (n : Int) - ((preB gs (j + 1)).length : Nat) = (n : Int) - ((preB gs j).length : Nat) - ((gs.getD j []).length : Nat) by omega] at ih2
    repeat(first|refine lrun_ ?_|(refine lo_boxA rfl rfl ?_;intro _ _ _)|(refine lo_box1 rfl rfl rfl ?_;intro _ _ _)|(refine lo_alloc rfl ?_;intro _ _ _))
    exact ih2 _ _ (by repeat (first | exact SubB.nil | refine SubB.cons rfl ?_)) (by repeat(first|exact MSub.refl|refine MSub.keep rfl ?_|exact MSub.nil|apply MSub.drop))
end
end Go.Ink

set_option linter.unusedVariables false
set_option linter.unusedSimpArgs false
namespace Go.Ink
open Go Go.Proofs Go.RowKit

/-- The lengths behind k runes. -/
def szK (x : List Int) (k : Nat) : List Int := lenZ ((spM x k).1 ++ [(spM x k).2])
theorem szK_len (x : List Int) (k : Nat) : (szK x k).length = (spM x k).1.length + 1 := by unfold szK; rw [lenZ_len, List.length_append]; rfl
theorem szK_last (x : List Int) (k : Nat) : (szK x k)[(spM x k).1.length]? = some ((spM x k).2.length : Int) := by
  unfold szK
  rw [lenZ_app, List.getElem?_append_right (by rw [lenZ_len]; omega), lenZ_len, Nat.sub_self]; rfl
theorem szK_all (x : List Int) : szK x x.length = lenZ (splitM x) := rfl
theorem szK_yes {x : List Int} {k : Nat} (h : x.getD k 0 = 10) : szK x (k + 1) = szK x k ++ [0] := by
  unfold szK
  have hs : spM x (k + 1) = if x.getD k 0 = 10 then ((spM x k).1 ++ [(spM x k).2], []) else ((spM x k).1, (spM x k).2 ++ [x.getD k 0]) := rfl
  rw [hs, if_pos h, lenZ_app]; rfl
theorem szK_no {x : List Int} {k : Nat} (h : ¬ x.getD k 0 = 10) : szK x (k + 1) = (szK x k).set (spM x k).1.length (((spM x k).2.length : Int) + 1) := by
  unfold szK
  have hs : spM x (k + 1) = if x.getD k 0 = 10 then ((spM x k).1 ++ [(spM x k).2], []) else ((spM x k).1, (spM x k).2 ++ [x.getD k 0]) := rfl
  rw [hs, if_neg h, lenZ_app, lenZ_app, List.set_append_right _ _ (by rw [lenZ_len]; omega), lenZ_len, Nat.sub_self]
  simp [lenZ]
section
variable {F : Nat → Prop} {w : World} {v : Value} {x : List Int}
set_option maxHeartbeats 4000000 in
theorem sizes_calls (h : Sl kRune F w v x) (hx : x.length ≤ 4194304) : CallsR Try.prog 48 #[v] w fun u w' => Kn w w' ∧ Ow kI64 (noB w) (fun _ => False) w' u (lenZ (splitM x)) := by
  obtain ⟨A, c, ad, rfl, hX⟩ := h.rns
  refine l_enter (fun _ => False) Try.func48 rfl rfl ?_
  repeat(first|refine lrun_ ?_|(refine lo_boxA rfl rfl ?_;intro _ _ _)|(refine lo_box1 rfl rfl rfl ?_;intro _ _ _)|(refine lo_alloc rfl ?_;intro _ _ _))
  refine lo_lit (cs := [.int .i64 0]) rfl (by decide) (by kernel_rfl) rfl ?_
  intro g6 hg6 _
  repeat(first|refine lops_ ?_|(refine lo_boxA rfl rfl ?_;intro _ _ _)|(refine lo_box1 rfl rfl rfl ?_;intro _ _ _)|(refine lo_alloc rfl ?_;intro _ _ _))
  refine lo_nil ?_
  refine l_take (M' := []) .nil fun w1 hw1 => ?_
  have hO0 : Og kI64 w w1 (MK []) (fun _ => False) (.slice (some ⟨g6, 0, none⟩) (szK x 0).length 1) (szK x 0) := by
    refine ⟨[.int .i64 0], ⟨[_], [], rfl, ⟨rfl, show (-9223372036854775808 : Int) ≤ 0 by decide, show (0 : Int) ≤ 9223372036854775807 by decide⟩, rfl⟩, show 1 * 8 ≤ 140737488355328 by decide, .inr ⟨g6, 0, 1, _, _, rfl, ⟨hg6, mk_nil⟩, hw1.mem g6 _ .hd, by simp [szK, spM, lenZ], by decide, by simp [kI64, kInt], fun j u hu => ?_⟩⟩
    rw [Nat.zero_add]
    simpa using hu
  repeat(first|refine lrun_ ?_|(refine lo_boxA rfl rfl ?_;intro _ _ _)|(refine lo_box1 rfl rfl rfl ?_;intro _ _ _)|(refine lo_alloc rfl ?_;intro _ _ _))
  refine l_whileB (fun s : Nat × Option Addr × Nat => x.length - s.1) (fun s => [(7, .slice A x.length c), (8, .int .i64 x.length), (3, .slice s.2.1 (szK x s.1).length s.2.2), (9, .int .i64 (s.1 : Int))]) (fun _ => [])
    (fun s b => s.1 ≤ x.length ∧ Og kI64 w b (MK []) (fun _ => False) (.slice s.2.1 (szK x s.1).length s.2.2) (szK x s.1)) (0, some ⟨g6, 0, none⟩, 1) (by repeat (first | exact SubB.nil | refine SubB.cons rfl ?_)) (by repeat(first|exact MSub.refl|refine MSub.keep rfl ?_|exact MSub.nil|apply MSub.drop)) (fun w' hw => ⟨Nat.zero_le _, Kn.ow (kn_mk hw.kp) hO0⟩) ?_
  clear hO0 hw1
  rintro ⟨k, A1, c1⟩ b ⟨hk, hO⟩ hkb ih
  simp only at hk hO
  dsimp only
  have hsl := spM_len x k
  have hzl := szK_len x k
  by_cases hlt : k < x.length
  case neg =>
    obtain rfl : k = x.length := by omega
    repeat(first|refine lrun_ ?_|(refine lo_boxA rfl rfl ?_;intro _ _ _)|(refine lo_box1 rfl rfl rfl ?_;intro _ _ _)|(refine lo_alloc rfl ?_;intro _ _ _))
    refine l_no rfl (by omega) ?_
    refine l_go (.exit rfl) ?_
    repeat(first|refine lrun_ ?_|(refine lo_boxA rfl rfl ?_;intro _ _ _)|(refine lo_box1 rfl rfl rfl ?_;intro _ _ _)|(refine lo_alloc rfl ?_;intro _ _ _))
    refine l_ret1 rfl rfl fun w' hw => ⟨hw.org, ?_⟩
    exact (Kn.ow (kn_mk hw.kp) hO).mono (fun k hk _ => hk.1) fun _ h _ => h
  by_cases hnl : x.getD k 0 = 10
  · have hst := szK_yes hnl
    repeat(first|refine lrun_ ?_|(refine lo_boxA rfl rfl ?_;intro _ _ _)|(refine lo_box1 rfl rfl rfl ?_;intro _ _ _)|(refine lo_alloc rfl ?_;intro _ _ _))
    refine l_yes rfl (by omega) ?_
    repeat(first|refine lrun_ ?_|(refine lo_boxA rfl rfl ?_;intro _ _ _)|(refine lo_box1 rfl rfl rfl ?_;intro _ _ _)|(refine lo_alloc rfl ?_;intro _ _ _))
    refine l_yes rfl hnl ?_
    repeat(first|refine lrun_ ?_|(refine lo_boxA rfl rfl ?_;intro _ _ _)|(refine lo_box1 rfl rfl rfl ?_;intro _ _ _)|(refine lo_alloc rfl ?_;intro _ _ _))
    refine lo_lit (cs := [.int .i64 0]) rfl (by decide) (by kernel_rfl) rfl ?_
    intro g16 hg16 hg16'
    refine lo_append1 (d := kI64) (q := 0) rfl rfl (hO.mono (G' := fre w (MK [])) (F' := fun _ => False) (fun k hk _ => hk) fun _ h _ => h) (fun _ h => h.elim) (by(repeat(first|exact MIn.hd|refine MIn.tl ?_));done) (fun w' hw => ⟨rfl, by decide, by decide⟩) (by rw [hzl]; show (_ + 1) * 8 ≤ 140737488355328; omega) rfl rfl rfl rfl ?_
    intro w3 A3 n3 w4 hw3 ko3 kp3 hown hog
    rw [← hst] at hog hown ⊢
    repeat(first|refine lops_ ?_|(refine lo_boxA rfl rfl ?_;intro _ _ _)|(refine lo_box1 rfl rfl rfl ?_;intro _ _ _)|(refine lo_alloc rfl ?_;intro _ _ _))
    refine lo_nil ?_
    refine l_baseM (M3 := []) .nil fun w5 hw5 => ?_
    have hO5 : Og kI64 w w5 (MK []) (fun _ => False) (.slice A3 (szK x (k + 1)).length n3) (szK x (k + 1)) := (Kp.ow hw5.kp hog (fun _ h => h.2) fun _ h => h.elim).mono (fun k hk _ => ⟨hk.1, mk_nil⟩) fun _ h _ => h
    repeat(first|refine lrun_ ?_|(refine lo_boxA rfl rfl ?_;intro _ _ _)|(refine lo_box1 rfl rfl rfl ?_;intro _ _ _)|(refine lo_alloc rfl ?_;intro _ _ _))
    exact ih (k + 1, A3, n3) w5 _ ⟨hlt, hO5⟩ (by simp only; omega) _ _ (by repeat (first | exact SubB.nil | refine SubB.cons rfl ?_)) (by repeat(first|exact MSub.refl|refine MSub.keep rfl ?_|exact MSub.nil|apply MSub.drop)) fun w' hw' => ⟨hlt, Kn.ow (kn_mk hw'.kp) hO5⟩
  · have hst := szK_no hnl
    obtain ⟨ad1, rfl⟩ := ow_someA hO (by intro e; rw [e] at hzl; simp at hzl)
    obtain ⟨ad2, cs2, hA2, ⟨rfl, -⟩, hcell⟩ := hO.sl.at_ (szK_last x k)
    cases hA2
    repeat(first|refine lrun_ ?_|(refine lo_boxA rfl rfl ?_;intro _ _ _)|(refine lo_box1 rfl rfl rfl ?_;intro _ _ _)|(refine lo_alloc rfl ?_;intro _ _ _))
    refine l_yes rfl (by omega) ?_
    repeat(first|refine lrun_ ?_|(refine lo_boxA rfl rfl ?_;intro _ _ _)|(refine lo_box1 rfl rfl rfl ?_;intro _ _ _)|(refine lo_alloc rfl ?_;intro _ _ _))
    refine l_no rfl hnl ?_
    repeat(first|refine lrun_ ?_|(refine lo_boxA rfl rfl ?_;intro _ _ _)|(refine lo_box1 rfl rfl rfl ?_;intro _ _ _)|(refine lo_alloc rfl ?_;intro _ _ _))
    refine lo_index (j := (spM x k).1.length) rfl rfl (by omega) (by omega) rfl rfl ?_
    refine lo_loadB rfl (hcell 0 _ rfl) mk_nil rfl ?_
    repeat(first|refine lrun_ ?_|(refine lo_boxA rfl rfl ?_;intro _ _ _)|(refine lo_box1 rfl rfl rfl ?_;intro _ _ _)|(refine lo_alloc rfl ?_;intro _ _ _))
    refine lo_index (j := (spM x k).1.length) rfl rfl (by omega) (by omega) rfl rfl ?_
    refine lo_setM (d := kI64) (F := fun _ => False) (xs := szK x k) (j := (spM x k).1.length) (q := ((spM x k).2.length : Int) + 1) rfl rfl hO (fun _ h => h.elim) (by omega) (fun w' hw => ⟨rfl, by omega, by omega⟩) rfl rfl ?_
    intro w3 w4 hw3 ko3 kp3 hog
    rw [← hst] at hog
    have hzl2 : (szK x k).length = (szK x (k + 1)).length := by rw [hst, List.length_set]
    rw [hzl2]
    repeat(first|refine lrun_ ?_|(refine lo_boxA rfl rfl ?_;intro _ _ _)|(refine lo_box1 rfl rfl rfl ?_;intro _ _ _)|(refine lo_alloc rfl ?_;intro _ _ _))
    exact ih (k + 1, some ad1, c1) w4 _ ⟨hlt, hzl2 ▸ hog⟩ (by simp only; omega) _ _ (by repeat (first | exact SubB.nil | refine SubB.cons rfl ?_)) (by repeat(first|exact MSub.refl|refine MSub.keep rfl ?_|exact MSub.nil|apply MSub.drop)) fun w' hw' => ⟨hlt, hzl2 ▸ Kn.ow (kn_mk hw'.kp) hog⟩
end
/-- The lines in groups. -/
def chk (L : List (List Int)) (i : Nat) : List (List Int) := (L.drop (64 * i)).take 64
def chks (L : List (List Int)) (n : Nat) : List (List (List Int)) := (List.range n).map (chk L)
theorem chks_len (L : List (List Int)) (n : Nat) : (chks L n).length = n := by unfold chks; rw [List.length_map, List.length_range]
theorem chks_succ (L : List (List Int)) (n : Nat) : chks L (n + 1) = chks L n ++ [chk L n] := by unfold chks; rw [List.range_succ, List.map_append]; rfl
theorem chks_flat (L : List (List Int)) : ∀ n, (chks L n).flatten = L.take (64 * n)
  | 0 => by simp [chks]
  | n + 1 => by
    rw [chks_succ, List.flatten_append, chks_flat L n, show 64 * (n + 1) = 64 * n + 64 by omega, List.take_add]
    simp [chk]
theorem lenZ_take (L : List (List Int)) (n : Nat) : (lenZ L).take n = lenZ (L.take n) := by unfold lenZ; rw [List.map_take]
theorem lenZ_drop (L : List (List Int)) (n : Nat) : (lenZ L).drop n = lenZ (L.drop n) := by unfold lenZ; rw [List.map_drop]
section
variable {F : Nat → Prop} {w : World} {v : Value} {L : List (List Int)}
set_option maxHeartbeats 8000000 in
theorem blocked_calls (h : Sl kI64 F w v (lenZ L)) (hs : sumN L ≤ 1099511627776) : CallsR Try.prog 49 #[v] w fun u w' => Kn w w' ∧ ∃ gs : List (List (List Int)), Ow kBlk (noB w) (noB w) w' u (gs.map blkOf) ∧ gs.flatten = L ∧ NeB gs := by
  obtain ⟨A, c, ad, rfl, hX⟩ := h.gis
  have hll : L.length ≤ 1099511627776 := by unfold sumN at hs; omega
  refine l_enter (fun _ => False) Try.func49 rfl rfl ?_
  repeat(first|refine lrun_ ?_|(refine lo_boxA rfl rfl ?_;intro _ _ _)|(refine lo_box1 rfl rfl rfl ?_;intro _ _ _)|(refine lo_alloc rfl ?_;intro _ _ _))
  refine l_whileB (fun s : Nat × Option Addr × Nat × Option Addr × Nat => L.length - 64 * s.1) (fun s => [(0, .slice s.2.1 (L.drop (64 * s.1)).length s.2.2.1), (3, .slice s.2.2.2.1 s.1 s.2.2.2.2)]) (fun _ => [])
    (fun s b => Sl kI64 F w (.slice s.2.1 (L.drop (64 * s.1)).length s.2.2.1) (lenZ (L.drop (64 * s.1))) ∧ Og kBlk w b (MK []) (noB w) (.slice s.2.2.2.1 s.1 s.2.2.2.2) ((chks L s.1).map blkOf) ∧ NeB (chks L s.1)) (0, A, c, none, 0) (by simp only [Nat.mul_zero, List.drop_zero]; exact (by repeat (first | exact SubB.nil | refine SubB.cons rfl ?_))) (by repeat(first|exact MSub.refl|refine MSub.keep rfl ?_|exact MSub.nil|apply MSub.drop)) (fun w' hw => ⟨by simp only [Nat.mul_zero, List.drop_zero]; exact hX.sl, Ow.nil _ _ _ _, fun x hx => by simp [chks] at hx⟩) ?_

  rintro ⟨i, Al, cl, A1, c1⟩ b ⟨hS, hO, hNe⟩ hkb ih
  simp only at hS hO hNe
  dsimp only
  have hdl : (L.drop (64 * i)).length = L.length - 64 * i := List.length_drop
  have hbs := hkb.size
  by_cases hlt : 64 * i < L.length
  case neg =>
    repeat(first|refine lrun_ ?_|(refine lo_boxA rfl rfl ?_;intro _ _ _)|(refine lo_box1 rfl rfl rfl ?_;intro _ _ _)|(refine lo_alloc rfl ?_;intro _ _ _))
    refine l_no rfl (by omega) ?_
    refine l_go (.exit rfl) ?_
    repeat(first|refine lrun_ ?_|(refine lo_boxA rfl rfl ?_;intro _ _ _)|(refine lo_box1 rfl rfl rfl ?_;intro _ _ _)|(refine lo_alloc rfl ?_;intro _ _ _))
    refine l_ret1 rfl rfl fun w' hw => ⟨hw.org, chks L i, ?_, by rw [chks_flat, List.take_of_length_le (by omega)], hNe⟩
    exact (Kn.ow (kn_mk hw.kp) hO).mono (fun k hk _ => hk.1) fun _ h _ => h
  obtain ⟨n, hn⟩ : ∃ n, n = (chk L i).length := ⟨_, rfl⟩
  have hn2 : n = min 64 (L.length - 64 * i) := by rw [hn]; unfold chk; rw [List.length_take, hdl]
  repeat(first|refine lrun_ ?_|(refine lo_boxA rfl rfl ?_;intro _ _ _)|(refine lo_box1 rfl rfl rfl ?_;intro _ _ _)|(refine lo_alloc rfl ?_;intro _ _ _))
  refine l_yes rfl (by omega) ?_
  repeat(first|refine lrun_ ?_|(refine lo_boxA rfl rfl ?_;intro _ _ _)|(refine lo_box1 rfl rfl rfl ?_;intro _ _ _)|(refine lo_alloc rfl ?_;intro _ _ _))
  have hm : (if ((L.drop (64 * i)).length : Int) < 64 then ((L.drop (64 * i)).length : Int) else 64) = (n : Int) := by split <;> omega
  have hck : chk L i = (L.drop (64 * i)).take n := by
    unfold chk
    by_cases h64 : 64 ≤ (L.drop (64 * i)).length
    · rw [show n = 64 by omega]
    · rw [List.take_of_length_le (by omega), List.take_of_length_le (by omega)]
  have hcap : (L.drop (64 * i)).length ≤ cl := by
    obtain ⟨A', c', e, hc, _⟩ := hS.form
    rw [lenZ_len] at hc
    simp only [Value.slice.injEq] at e
    obtain ⟨_, _, rfl⟩ := e
    exact hc
  have hS1 : Sl kI64 F w (.slice Al n cl) (lenZ (chk L i)) := by
    have := hS.cutV (l := 0) (hi := n) (m := cl) (by omega) (by omega) (by omega) (by omega)
    rwa [cutV_pre, List.drop_zero, lenZ_take, ← hck] at this
  have hS2 : Sl kI64 F w (cutV Al n (L.drop (64 * i)).length cl 1) (lenZ (L.drop (64 * (i + 1)))) := by
    have := hS.cutV (l := n) (hi := (L.drop (64 * i)).length) (m := cl) (by omega) (by omega) (by omega) (by omega)
    rw [List.take_of_length_le (by rw [lenZ_len]; omega), lenZ_drop, List.drop_drop] at this
    by_cases h64 : 64 ≤ (L.drop (64 * i)).length
    · rwa [show 64 * i + n = 64 * (i + 1) by omega] at this
    · rw [show L.drop (64 * i + n) = L.drop (64 * (i + 1)) by rw [List.drop_of_length_le (show L.length ≤ 64 * i + n by omega), List.drop_of_length_le (show L.length ≤ 64 * (i + 1) by omega)]] at this
      exact this
  have e3 : (lenZ (chk L i)).length = n := by rw [lenZ_len, hn]
  rw [hm]
  have hob := hO.block
  repeat(first|refine lops_ ?_|(refine lo_boxA rfl rfl ?_;intro _ _ _)|(refine lo_box1 rfl rfl rfl ?_;intro _ _ _)|(refine lo_alloc rfl ?_;intro _ _ _))
  refine lo_appendS (d := kI64) (ys := lenZ (chk L i)) (F2 := F) rfl rfl (Ow.nil _ _ _ _) (fun w' hw => Kn.sl hw.org hS1) (fun k _ e => by cases e) (by rw [e3]; show (0 + n) * 8 ≤ 140737488355328; omega) rfl rfl rfl rfl ?_
  intro w3 A3 n3 w4 hw3 ko3 kp3 hown hog
  rw [List.nil_append, e3] at hog hown ⊢
  have hks4 := kp3.size
  have hO4 : Og kBlk w w4 (MK []) (noB w) (.slice A1 i c1) ((chks L i).map blkOf) := Kp.ow kp3 hO (fun k hk e => e.elim hk.2 fun e => by cases e) fun k hk e => e.elim mk_nil fun e => by cases e
  obtain ⟨A3', c3', ad3, e4, hX3⟩ := Sl.gis hog.sl
  rw [← hn] at e4
  simp only [Value.slice.injEq] at e4
  obtain ⟨rfl, _, rfl⟩ := e4
  repeat(first|refine lrun_ ?_|(refine lo_boxA rfl rfl ?_;intro _ _ _)|(refine lo_box1 rfl rfl rfl ?_;intro _ _ _)|(refine lo_alloc rfl ?_;intro _ _ _))
  rename_i g5 hg5 hg5'
  have hsum : sumN (chk L i) ≤ sumN L := by
    have h1 := sumN_app (L.take (64 * i)) (L.drop (64 * i))
    have h2 := sumN_app (chk L i) ((L.drop (64 * i)).drop 64)
    rw [List.take_append_drop] at h1
    unfold chk at h2 ⊢
    rw [List.take_append_drop] at h2
    omega
  have hob4 := hog.block
  refine l_while (fun j : Nat => n - j) (fun j => [(0, .slice Al (L.drop (64 * i)).length cl), (3, .slice A1 i c1), (4, .int .i64 (n : Int)), (5, .pointer (some ⟨g5, 0, none⟩)), (20, .slice A3 n n3), (21, .int .i64 (n : Int)), (22, .int .i64 (j : Int))]) (fun j => [(g5, cb [.slice A3 n n3, .int .i64 ((ofs (chk L i) j : Nat) : Int)] 93)]) (fun j => j ≤ n) 0 (by repeat (first | exact SubB.nil | refine SubB.cons rfl ?_)) (by simp only [ofs_zero, Int.natCast_zero]; exact (by repeat(first|exact MSub.refl|refine MSub.keep rfl ?_|exact MSub.nil|apply MSub.drop))) (Nat.zero_le _) ?_
  intro j hj ihj
  by_cases hlt2 : j < n
  · have ih2 := ihj (j + 1) hlt2 (by omega)
    have hol := ofs_lt (L := chk L i) (i := j) (by omega)
    rw [show ((ofs (chk L i) (j + 1) : Nat) : Int) = ((ofs (chk L i) j : Nat) : Int) + ((((chk L i).getD j []).length : Int) + 1) by rw [ofs_succ (by omega)]; omega] at ih2
    repeat(first|refine lrun_ ?_|(refine lo_boxA rfl rfl ?_;intro _ _ _)|(refine lo_box1 rfl rfl rfl ?_;intro _ _ _)|(refine lo_alloc rfl ?_;intro _ _ _))
    refine l_yes rfl (by omega) ?_
    repeat(first|refine lrun_ ?_|(refine lo_boxA rfl rfl ?_;intro _ _ _)|(refine lo_box1 rfl rfl rfl ?_;intro _ _ _)|(refine lo_alloc rfl ?_;intro _ _ _))
    refine lo_index rfl rfl rfl (by omega) (hX3.a (by omega)) rfl ?_
    refine lo_loadB rfl (hX3.run j (by omega)) mk_nil rfl ?_
    repeat(first|refine lrun_ ?_|(refine lo_boxA rfl rfl ?_;intro _ _ _)|(refine lo_box1 rfl rfl rfl ?_;intro _ _ _)|(refine lo_alloc rfl ?_;intro _ _ _))
    exact ih2 _ _ (by repeat (first | exact SubB.nil | refine SubB.cons rfl ?_)) (by repeat(first|exact MSub.refl|refine MSub.keep rfl ?_|exact MSub.nil|apply MSub.drop))
  obtain rfl : j = n := by omega
  clear ihj
  rw [show ofs (chk L i) j = sumN (chk L i) by rw [hn, ofs_all]]
  repeat(first|refine lrun_ ?_|(refine lo_boxA rfl rfl ?_;intro _ _ _)|(refine lo_box1 rfl rfl rfl ?_;intro _ _ _)|(refine lo_alloc rfl ?_;intro _ _ _))
  refine l_no rfl (by omega) ?_
  refine l_go (.exit rfl) ?_
  repeat(first|refine lrun_ ?_|(refine lo_boxA rfl rfl ?_;intro _ _ _)|(refine lo_box1 rfl rfl rfl ?_;intro _ _ _)|(refine lo_alloc rfl ?_;intro _ _ _))
  refine lo_lit (cs := [.slice A3 j n3, .int .i64 ((sumN (chk L i) : Nat) : Int)]) rfl (by decide) (by kernel_rfl) rfl ?_
  intro g35 hg35 hg35'
  refine lo_append1 (d := kBlk) (q := blkOf (chk L i)) (F := fun k => noB w k ∧ k < w4.heap.size) (xs := (chks L i).map blkOf) rfl rfl ((hO4.mono (G' := fre w (MK [])) (F' := fun k => noB w k ∧ k < w4.heap.size) (fun k hk _ => hk) fun k hk hl => ⟨hk, hl⟩)) (fun _ _ => mk_nil) (by(repeat(first|exact MIn.hd|refine MIn.tl ?_));done) (fun w' hw => ⟨[_], [_], rfl, ⟨_, rfl, ?_⟩, ⟨rfl, ?_, ?_⟩⟩) (by rw [List.length_map, chks_len]; show (i + 1) * 32 ≤ 140737488355328; omega) rfl rfl rfl rfl ?_
  · refine ((hog.now (fun _ h => h.elim) hw).nG).slF (fun k hk => ⟨⟨hk.1.1, (hob4 k hk.2).2⟩, fun e => ?_⟩) fun _ h => h.elim
    have h1 := (hob k e).2
    rcases hown k hk.2 with h2 | h2
    · cases h2
    · omega
  · show (-9223372036854775808 : Int) ≤ ((sumN (chk L i) : Nat) : Int); omega
  · show ((sumN (chk L i) : Nat) : Int) ≤ 9223372036854775807; omega
  intro w5 A5 n5 w6 hw5 ko5 kp5 hown5 hog5
  have e6 : (chks L i).map blkOf ++ [blkOf (chk L i)] = (chks L (i + 1)).map blkOf := by rw [chks_succ, List.map_append]; rfl
  have e7 : ((chks L (i + 1)).map blkOf).length = i + 1 := by rw [List.length_map, chks_len]
  rw [e6, e7] at hog5 ⊢
  obtain ⟨A9, c9, e9, _⟩ := hS2.form
  rw [lenZ_len] at e9
  repeat(first|refine lops_ ?_|(refine lo_boxA rfl rfl ?_;intro _ _ _)|(refine lo_box1 rfl rfl rfl ?_;intro _ _ _)|(refine lo_alloc rfl ?_;intro _ _ _))
  refine lo_nil ?_
  refine l_baseM (M3 := []) .nil fun w7 hw7 => ?_
  have hO7 : Og kBlk w w7 (MK []) (noB w) (.slice A5 (i + 1) n5) ((chks L (i + 1)).map blkOf) := (Kp.ow hw7.kp hog5 (fun k h => h.2) fun k hk hm => by
    rw [MK_iff] at hm
    simp only [List.map_cons, List.map_nil, List.mem_cons, List.not_mem_nil, or_false] at hm
    omega).mono (fun k hk _ => ⟨hk.1, mk_nil⟩) fun _ h _ => h.1
  repeat(first|refine lrun_ ?_|(refine lo_boxA rfl rfl ?_;intro _ _ _)|(refine lo_box1 rfl rfl rfl ?_;intro _ _ _)|(refine lo_alloc rfl ?_;intro _ _ _))
  refine lo_suf (j := j) rfl rfl rfl (by omega) (by omega) rfl ?_
  rw [e9] at hS2 ⊢
  repeat(first|refine lrun_ ?_|(refine lo_boxA rfl rfl ?_;intro _ _ _)|(refine lo_box1 rfl rfl rfl ?_;intro _ _ _)|(refine lo_alloc rfl ?_;intro _ _ _))
  have hNe2 : NeB (chks L (i + 1)) := by
    rw [chks_succ]
    refine hNe.app fun x hx => ?_
    rw [List.mem_singleton.1 hx]
    exact List.ne_nil_of_length_pos (by omega)
  exact ih (i + 1, A9, c9, A5, n5) w7 _ ⟨hS2, hO7, hNe2⟩ (by simp only; omega) _ _ (by repeat (first | exact SubB.nil | refine SubB.cons rfl ?_)) (by repeat(first|exact MSub.refl|refine MSub.keep rfl ?_|exact MSub.nil|apply MSub.drop)) fun w' hw' => ⟨hS2, Kn.ow (kn_mk hw'.kp) hO7, hNe2⟩
end
end Go.Ink

set_option linter.unusedVariables false
set_option linter.unusedSimpArgs false
namespace Go.Ink
open Go Go.Proofs Go.RowKit

section
variable {P : Program} {fn : Func} {O : World}
/-- A block that stood is one of the function's own. -/
theorem l_enterM {f : FuncId} {c : Code} {args : List Value} {S : Nat → Prop} {g : Nat} {cs : List Value} {e : TypeId} (hg : O.heap[g]? = some (cb cs e)) (hS : S g) (hf : P.funcs[f]? = some fn) (hb : fn.body = some c) (hn : Nat.ble args.length fn.ntmps = true)
    {R : Value → World → Prop} (h : WL P fn [.code c] (sigOf 0 args) O S O (MK [(g, cb cs e)]) [(g, cb cs e)] R) : CallsR P f args.toArray O R :=
by
  unfold WL WLG at h
  exact calls_enter hf hb hn (h O ((Lw.init O S (MK [(g, cb cs e)])).own hg (by simp) hS ⟨_, .hd⟩))
end
section
variable {F : Nat → Prop} {w : World} {v : Value} {x : List Int}
set_option maxHeartbeats 4000000 in
theorem indexed_calls (h : Sl kRune F w v x) (hx : x.length ≤ 4194304) : CallsR Try.prog 34 #[v] w fun u w' => Kn w w' ∧ ∃ (vb : Value) (gs : List (List (List Int))), u = .agg #[vb, .int .i64 ((splitM x).length : Int)] ∧ Ow kBlk (noB w) (noB w) w' vb (gs.map blkOf) ∧ gs.flatten = splitM x ∧ NeB gs := by
  have hsl := split_len x
  have hsn : sumN (splitM x) ≤ 1099511627776 := by
    have h1 := jnd_len (splitM x)
    rw [jnd_split] at h1
    unfold sumN; omega
  refine l_enter (fun _ => False) Try.func34 rfl rfl ?_
  repeat(first|refine lrun_ ?_|(refine lo_boxA rfl rfl ?_;intro _ _ _)|(refine lo_box1 rfl rfl rfl ?_;intro _ _ _)|(refine lo_alloc rfl ?_;intro _ _ _))
  rename_i g2 hg2 hg2'
  refine lo_callM (n_call rfl) rfl (fun w' hw => sizes_calls (Kn.sl hw.org h) hx) ?_
  rintro w1 u w2 hw1 kn1 ko1 hu
  have hs1 := hw1.org.size
  obtain ⟨A, c, rfl, _⟩ := hu.form
  rw [lenZ_len] at hu ⊢
  repeat(first|refine lrun_ ?_|(refine lo_boxA rfl rfl ?_;intro _ _ _)|(refine lo_box1 rfl rfl rfl ?_;intro _ _ _)|(refine lo_alloc rfl ?_;intro _ _ _))
  refine lo_callM (n_call rfl) rfl (fun w' hw => blocked_calls ((hw.owN hu fun k hm => hw1.lt hm).slF (fun _ h => h) fun _ h => h.elim) hsn) ?_
  rintro w3 vb w4 hw3 kn3 ko3 ⟨gs, hvb, hfl, hNe⟩
  have hs3 := hw3.org.size
  obtain ⟨Ab, cb0, rfl, _⟩ := hvb.form
  repeat(first|refine lrun_ ?_|(refine lo_boxA rfl rfl ?_;intro _ _ _)|(refine lo_box1 rfl rfl rfl ?_;intro _ _ _)|(refine lo_alloc rfl ?_;intro _ _ _))
  refine l_retR1 rfl (by repeat(first|exact LRes.nil|refine LRes.tmp rfl ?_|refine LRes.agg rfl (by(repeat(first|exact MIn.hd|refine MIn.tl ?_));done) (by rfl) (by rfl) ?_|refine LRes.one rfl (by(repeat(first|exact MIn.hd|refine MIn.tl ?_));done) (by rfl) ?_)) fun w' hw => ⟨hw.org, _, gs, rfl, ?_, hfl, hNe⟩
  exact (hw.owN hvb fun k hm => hw3.lt hm).mono (fun k hk _ => by unfold noB at *; omega) fun k hk _ => by unfold noB at *; omega
end
section
variable {F Fr : Nat → Prop} {w : World} {vb : Value} {gs : List (List (List Int))} {g : Nat} {pt vr : Value} {row : List Int} {ln : Int}
set_option maxHeartbeats 8000000 in
theorem set_calls {a b : Nat} (hg : w.heap[g]? = some (cb [pt, vb, .int .i64 ln] 73)) (hpt : pt.oneCell' = true) (h : Sl kBlk F w vb (gs.map blkOf)) (hFg : ¬ F g) (hr : Sl kRune Fr w vr row) (hFr : ¬ Fr g) (hs : sumN gs.flatten ≤ 4194304) (hrl : row.length ≤ 4194304) (hab : a ≤ b) (hb : b < gs.flatten.length) (hln : ln = gs.flatten.length) (hNe : NeB gs) :
    CallsR Try.prog 56 #[.pointer (some ⟨g, 1, none⟩), .int .i64 (a : Int), .int .i64 ((b + 1 : Nat) : Int), vr] w fun u w' => Kp (fun k => k = g) w w' ∧ u = .tuple #[] ∧ ∃ (vb' : Value) (gs' : List (List (List Int))), w'.heap[g]? = some (cb [pt, vb', .int .i64 (gs'.flatten.length : Int)] 73) ∧ Sl kBlk (fun k => F k ∨ noB w k) w' vb' (gs'.map blkOf) ∧ gs'.flatten = gs.flatten.take a ++ splitM row ++ gs.flatten.drop (b + 1) ∧ NeB gs' := by
  obtain ⟨F0, hF0, hF1, h⟩ : ∃ F0 : Nat → Prop, (∀ k, F0 k → F k) ∧ (∀ k, F0 k → k < w.heap.size) ∧ Sl kBlk F0 w vb (gs.map blkOf) := ⟨fun k => F k ∧ k < w.heap.size, fun _ h => h.1, fun _ h => h.2, h.mono fun k hk hl => ⟨hk, hl⟩⟩
  replace hFg : ¬ F0 g := fun e => hFg (hF0 g e)
  obtain ⟨A, c, ad, sA, sc, sa, rfl, hB⟩ := h.bks
  have hlen := hB.len
  have hgl : g < w.heap.size := blk_lt hg
  have hsl := split_len row
  have hbl : gs.flatten.length ≤ sumN gs.flatten := by unfold sumN; omega
  have hrw : ∀ {w' : World}, Kp (fun k => k = g) w w' → Sl kRune Fr w' vr row := fun hk => Kp.sl hk hr fun k hk e => hFr (e ▸ hk)
  have hbw : ∀ {w' : World}, Kp (fun k => k = g) w w' → Sl kBlk F0 w' (.slice A gs.length c) (gs.map blkOf) := fun hk => Kp.sl hk h fun k hk e => hFg (e ▸ hk)
  refine l_enterM (S := fun k => k = g) hg rfl Try.func56 rfl rfl ?_
  repeat(first|refine lrun_ ?_|(refine lo_boxA rfl rfl ?_;intro _ _ _)|(refine lo_box1 rfl rfl rfl ?_;intro _ _ _)|(refine lo_alloc rfl ?_;intro _ _ _))
  refine lo_callM (n_call rfl) rfl (fun w' hw => sizes_calls (hrw hw.org) hrl) ?_
  rintro w1 u8 w2 hw1 kn1 ko1 hu8
  have hs1 := hw1.org.size
  have hs2 := kn1.size
  obtain ⟨A8, c8, rfl, _⟩ := hu8.form
  rw [lenZ_len] at hu8 ⊢
  have hb8 := hu8.block
  repeat(first|refine lrun_ ?_|(refine lo_boxA rfl rfl ?_;intro _ _ _)|(refine lo_box1 rfl rfl rfl ?_;intro _ _ _)|(refine lo_alloc rfl ?_;intro _ _ _))
  refine lo_callV (n_call rfl) rfl (fun w' hw => block_calls (hw.cell .hd rfl) (hbw hw.org) (by omega) (n := a) (by omega)) ?_
  rintro _ ⟨i, fi, hi, hfi, hai, rfl⟩
  repeat(first|refine lrun_ ?_|(refine lo_boxA rfl rfl ?_;intro _ _ _)|(refine lo_box1 rfl rfl rfl ?_;intro _ _ _)|(refine lo_alloc rfl ?_;intro _ _ _))
  rw [show ((b + 1 : Nat) : Int) - 1 = (b : Int) by omega]
  refine lo_callV (n_call rfl) rfl (fun w' hw => block_calls (hw.cell .hd rfl) (hbw hw.org) (by omega) (n := b) (by omega)) ?_
  rintro _ ⟨k, la, hk, hla, hbk, rfl⟩
  repeat(first|refine lrun_ ?_|(refine lo_boxA rfl rfl ?_;intro _ _ _)|(refine lo_box1 rfl rfl rfl ?_;intro _ _ _)|(refine lo_alloc rfl ?_;intro _ _ _))
  have hpi : gs.flatten.length = (preB gs i).length + (gs.getD i []).length + ((gs.drop (i + 1)).flatten).length := by rw [preB_parts hi, List.length_append, List.length_append]
  have hpk : gs.flatten.length = (preB gs k).length + (gs.getD k []).length + ((gs.drop (k + 1)).flatten).length := by rw [preB_parts hk, List.length_append, List.length_append]
  have hnl := hNe.len
  have hGi := hB.rs i hi
  have hGk := hB.rs k hk
  have hci := hGi.cap
  have hck := hGk.cap
  have hcl := hB.cap
  have hli := hGi.len
  have hlk := hGk.len
  have hnb : ∀ j u, ((ad.add j).add u).block ≠ g := fun j u e => hFg (by rw [add_block, add_block] at e; exact e ▸ hB.fa (by omega))
  have hmg : ∀ {cs : List Value} {k : Nat}, MK [(g, cb cs 73)] k → k = g := fun hm => by
    rw [MK_iff] at hm
    simpa using hm
  obtain ⟨L1, hL1⟩ : ∃ L1, L1 = (gs.getD i []).take fi := ⟨_, rfl⟩
  obtain ⟨L3, hL3⟩ : ∃ L3, L3 = (gs.getD k []).drop (la + 1) := ⟨_, rfl⟩
  have hl1 : L1.length = fi := by rw [hL1, List.length_take]; omega
  have hl3 : L3.length = (gs.getD k []).length - (la + 1) := by rw [hL3, List.length_drop]
  have hS1 : ∀ {w' : World}, Kp (fun k => k = g) w w' → Sl kI64 F0 w' (.slice (sA i) fi (sc i)) (lenZ L1) := fun hk => Kp.sl hk (by
    have := hGi.sl.cutV (l := 0) (hi := fi) (m := sc i) (by omega) (by omega) (by omega) (by omega)
    rwa [cutV_pre, List.drop_zero, lenZ_take, ← hL1] at this) fun k hk e => hFg (e ▸ hk)
  have hS3 : ∀ {w' : World}, Kp (fun k => k = g) w w' → Sl kI64 F0 w' (cutV (sA k) (la + 1) (gs.getD k []).length (sc k) 1) (lenZ L3) := fun hk' => Kp.sl hk' (by
    have := hGk.sl.cutV (l := la + 1) (hi := (gs.getD k []).length) (m := sc k) (by omega) (by omega) (by omega) (by omega)
    rwa [List.take_of_length_le (by rw [lenZ_len]; omega), lenZ_drop, ← hL3] at this) fun k hk e => hFg (e ▸ hk)
  refine lo_index rfl rfl rfl (by omega) (hB.a (by omega)) rfl ?_
  repeat(first|refine lops_ ?_|(refine lo_boxA rfl rfl ?_;intro _ _ _)|(refine lo_box1 rfl rfl rfl ?_;intro _ _ _)|(refine lo_alloc rfl ?_;intro _ _ _))
  refine lo_loadO rfl (hB.s i hi 0 _ rfl) (hnb _ _) rfl ?_
  repeat(first|refine lops_ ?_|(refine lo_boxA rfl rfl ?_;intro _ _ _)|(refine lo_box1 rfl rfl rfl ?_;intro _ _ _)|(refine lo_alloc rfl ?_;intro _ _ _))
  refine lo_appendS (d := kI64) (ys := lenZ L1) (F2 := F0) rfl rfl (Ow.nil _ _ _ _) (fun w' hw => hS1 hw.org) (fun k _ e => by cases e) (by rw [lenZ_len]; show (0 + L1.length) * 8 ≤ 140737488355328; omega) rfl rfl rfl rfl ?_
  intro w3 A3 n3 w4 hw3 ko3 kp3 hown3 hog3
  rw [List.nil_append] at hog3 hown3 ⊢
  have hs4 := kp3.size
  have hu84 : Ow kI64 (noB w1) (fun _ => False) w4 (.slice A8 (splitM row).length c8) (lenZ (splitM row)) := Kp.ow kp3 hu8 (fun k hk e => e.elim (fun e => by have := hmg e; unfold noB at hk; omega) fun e => by cases e) fun _ h => h.elim
  repeat(first|refine lrun_ ?_|(refine lo_boxA rfl rfl ?_;intro _ _ _)|(refine lo_box1 rfl rfl rfl ?_;intro _ _ _)|(refine lo_alloc rfl ?_;intro _ _ _))
  refine lo_appendS (d := kI64) (ys := lenZ (splitM row)) (F2 := fun k => noB w1 k ∧ k < w2.heap.size) rfl rfl hog3 (fun w' hw => ?_) (fun k hk e => ?_) (by rw [lenZ_len, lenZ_len]; show (L1.length + (splitM row).length) * 8 ≤ 140737488355328; omega) rfl rfl rfl rfl ?_
  · exact ((hw.owN hu84 fun k hm => by have := hmg hm; omega).nG).slF (fun k hk => ⟨hk.1, (hb8 k hk.2).2⟩) fun _ h => h.elim
  · rcases hown3 k e with h2 | h2
    · cases h2
    · omega
  intro w5 A5 n5 w6 hw5 ko5 kp5 hown5 hog5
  rw [← lenZ_app] at hog5 hown5 ⊢
  repeat(first|refine lrun_ ?_|(refine lo_boxA rfl rfl ?_;intro _ _ _)|(refine lo_box1 rfl rfl rfl ?_;intro _ _ _)|(refine lo_alloc rfl ?_;intro _ _ _))
  refine lo_index rfl rfl rfl (by omega) (hB.a (by omega)) rfl ?_
  repeat(first|refine lops_ ?_|(refine lo_boxA rfl rfl ?_;intro _ _ _)|(refine lo_box1 rfl rfl rfl ?_;intro _ _ _)|(refine lo_alloc rfl ?_;intro _ _ _))
  refine lo_loadO rfl (hB.s k hk 0 _ rfl) (hnb _ _) rfl ?_
  repeat(first|refine lops_ ?_|(refine lo_boxA rfl rfl ?_;intro _ _ _)|(refine lo_box1 rfl rfl rfl ?_;intro _ _ _)|(refine lo_alloc rfl ?_;intro _ _ _))
  refine lo_suf (j := la + 1) rfl rfl (by omega) (by omega) (by omega) rfl ?_
  have hn5 : ∀ k, (Value.slice A5 (lenZ (L1 ++ splitM row)).length n5).ownBlock = some k → w2.heap.size ≤ k := fun k e => by
    rcases hown5 k e with h2 | h2
    · rcases hown3 k h2 with h3 | h3
      · cases h3
      · omega
    · omega
  refine lo_appendS (d := kI64) (ys := lenZ L3) (F2 := F0) rfl rfl hog5 (fun w' hw => hS3 hw.org) (fun k hk e => by have := hF1 k hk; have := hn5 k e; omega) (by rw [lenZ_len, lenZ_len, List.length_append]; show (L1.length + (splitM row).length + L3.length) * 8 ≤ 140737488355328; omega) rfl rfl rfl rfl ?_
  intro w7 A7 n7 w8 hw7 ko7 kp7 hown7 hog7
  rw [← lenZ_app] at hog7 hown7 ⊢
  have hz7 : sumN (L1 ++ splitM row ++ L3) ≤ 1099511627776 := by
    have h1 := jnd_len (splitM row)
    rw [jnd_split] at h1
    have h2 : sumN gs.flatten = sumN (preB gs i) + sumN (gs.getD i []) + sumN (gs.drop (i + 1)).flatten := by rw [preB_parts hi, sumN_app, sumN_app]
    have h3 : sumN gs.flatten = sumN (preB gs k) + sumN (gs.getD k []) + sumN (gs.drop (k + 1)).flatten := by rw [preB_parts hk, sumN_app, sumN_app]
    have h4 : sumN (gs.getD i []) = sumN L1 + sumN ((gs.getD i []).drop fi) := by rw [hL1, ← sumN_app, List.take_append_drop]
    have h5 : sumN (gs.getD k []) = sumN ((gs.getD k []).take (la + 1)) + sumN L3 := by rw [hL3, ← sumN_app, List.take_append_drop]
    have h6 : sumN (splitM row) = runesM (splitM row) + (splitM row).length := rfl
    rw [sumN_app, sumN_app]; omega
  repeat(first|refine lrun_ ?_|(refine lo_boxA rfl rfl ?_;intro _ _ _)|(refine lo_box1 rfl rfl rfl ?_;intro _ _ _)|(refine lo_alloc rfl ?_;intro _ _ _))
  refine lo_append (d := kBlk) (xs := []) (ys := (gs.take i).map blkOf) (F := fun _ => False) (F2 := F0) rfl rfl (Ow.nil _ _ _ _) (fun _ h => h.elim) (fun w' hw => ?_) (fun k _ e => by cases e) (by rw [List.length_map, List.length_take]; show (0 + min i gs.length) * 32 ≤ 140737488355328; omega) rfl rfl rfl rfl ?_
  · have := (hbw hw.org).cutV (l := 0) (hi := i) (m := c) (by omega) (by omega) (by omega) (by omega)
    rwa [cutV_pre, List.drop_zero, ← List.map_take] at this
  intro w9 v9 w10 hw9 ko9 kp9 hown9 hog9
  rw [List.nil_append] at hog9
  obtain ⟨A9, n9, rfl, _⟩ := hog9.form
  have hs8 := kp7.size
  have hs6 := kp5.size
  have hs10 := kp9.size
  have hn7 : ∀ k, (Value.slice A7 (lenZ (L1 ++ splitM row ++ L3)).length n7).ownBlock = some k → w2.heap.size ≤ k := fun k e => by
    rcases hown7 k e with h2 | h2
    · exact hn5 k h2
    · omega
  have hog7' : Og kI64 w w10 (MK [(g, cb [pt, .slice A gs.length c, .int .i64 ln] 73)]) (fun _ => False) (.slice A7 (lenZ (L1 ++ splitM row ++ L3)).length n7) (lenZ (L1 ++ splitM row ++ L3)) :=
    Kp.ow kp9 hog7 (fun k hk e => e.elim hk.2 fun e => by cases e) fun _ h => h.elim
  have hm9 : ((gs.take i).map blkOf).length = i := by rw [List.length_map, List.length_take]; omega
  rw [hm9] at hog9 hown9 ⊢
  have hb9 := hog9.block
  repeat(first|refine lrun_ ?_|(refine lo_boxA rfl rfl ?_;intro _ _ _)|(refine lo_box1 rfl rfl rfl ?_;intro _ _ _)|(refine lo_alloc rfl ?_;intro _ _ _))
  refine lo_callM (n_call rfl) rfl (fun w' hw => blocked_calls ((hog7'.now (fun _ h => h.elim) hw).slF (F' := fun _ => True) (fun _ _ => trivial) fun _ h => h.elim) hz7) ?_
  rintro w11 u66 w12 hw11 kn11 ko11 ⟨gs2, hu66, hfl2, hNe2⟩
  have hs11 := hw11.kp.size
  have hs12 := kn11.size
  obtain ⟨A66, c66, rfl, _⟩ := hu66.form
  have hl2 := hNe2.len
  rw [hfl2] at hl2
  have hl2' : gs2.length ≤ L1.length + (splitM row).length + L3.length := by rw [List.length_append, List.length_append] at hl2; exact hl2
  rw [List.length_map] at hu66 ⊢
  have hog9' : Og kBlk w w12 (MK [(g, cb [pt, .slice A gs.length c, .int .i64 ln] 73)]) (fun k => False ∨ F0 k) (.slice A9 i n9) ((gs.take i).map blkOf) :=
    Kn.ow kn11 (hog9.now (fun k hk hm => hk.elim id fun hk => hFg (hmg hm ▸ hk)) hw11)
  repeat(first|refine lops_ ?_|(refine lo_boxA rfl rfl ?_;intro _ _ _)|(refine lo_box1 rfl rfl rfl ?_;intro _ _ _)|(refine lo_alloc rfl ?_;intro _ _ _))
  refine lo_append (d := kBlk) (xs := (gs.take i).map blkOf) (ys := gs2.map blkOf) (F := fun k => False ∨ F0 k) (F2 := fun k => noB w11 k ∧ k < w12.heap.size) rfl rfl hog9' (fun k hk hm => hk.elim id fun hk => hFg (hmg hm ▸ hk)) (fun w' hw => ?_) (fun k hk e => by have := (hb9 k e).2; have := hk.1; unfold noB at this; omega) (by rw [hm9, List.length_map]; show (i + gs2.length) * 32 ≤ 140737488355328; omega) rfl rfl rfl rfl ?_
  · exact (Kp.sl hw.kp (hu66.mono (G' := fun k => noB w11 k ∧ k < w12.heap.size) (F' := fun k => noB w11 k ∧ k < w12.heap.size) (fun k hk hl => ⟨hk, hl⟩) fun k hk hl => ⟨hk, hl⟩).sl fun k hk hK => by
      have h1 := hmg hK
      have h2 : noB w11 k := hk.elim (·.1) (·.1)
      unfold noB at h2
      omega).mono fun k hk _ => hk.elim id id
  intro w13 v13 w14 hw13 ko13 kp13 hown13 hog13
  rw [← List.map_append] at hog13
  obtain ⟨A13, n13, rfl, _⟩ := hog13.form
  have hm13 : ((gs.take i ++ gs2).map blkOf).length = i + gs2.length := by rw [List.length_map, List.length_append, List.length_take]; omega
  rw [hm13] at hog13 hown13 ⊢
  have hb13 := hog13.block
  have hs14 := kp13.size
  repeat(first|refine lrun_ ?_|(refine lo_boxA rfl rfl ?_;intro _ _ _)|(refine lo_box1 rfl rfl rfl ?_;intro _ _ _)|(refine lo_alloc rfl ?_;intro _ _ _))
  refine lo_suf (j := k + 1) rfl rfl (by omega) (by omega) (by omega) rfl ?_
  refine lo_append (d := kBlk) (xs := (gs.take i ++ gs2).map blkOf) (ys := (gs.drop (k + 1)).map blkOf) (F := fun k => (False ∨ F0 k) ∨ (noB w11 k ∧ k < w12.heap.size)) (F2 := F0) rfl rfl hog13 (fun k hk hm => ?_) (fun w' hw => ?_) (fun k hk e => by have := (hb13 k e).1.1; have := hF1 k hk; omega) (by rw [hm13, List.length_map, List.length_drop]; show (i + gs2.length + (gs.length - (k + 1))) * 32 ≤ 140737488355328; omega) rfl rfl rfl rfl ?_
  · have h1 := hmg hm
    rcases hk with (hk | hk) | hk
    · exact hk
    · exact hFg (h1 ▸ hk)
    · have := hk.1; unfold noB at this; omega
  · have := (hbw hw.org).cutV (l := k + 1) (hi := gs.length) (m := c) (by omega) (by omega) (by omega) (by omega)
    rwa [List.take_of_length_le (by rw [List.length_map]; omega), ← List.map_drop] at this
  intro w15 v15 w16 hw15 ko15 kp15 hown15 hog15
  rw [← List.map_append] at hog15
  obtain ⟨A15, n15, rfl, _⟩ := hog15.form
  have hs16 := kp15.size
  have hb15 := hog15.block
  repeat(first|refine lrun_ ?_|(refine lo_boxA rfl rfl ?_;intro _ _ _)|(refine lo_box1 rfl rfl rfl ?_;intro _ _ _)|(refine lo_alloc rfl ?_;intro _ _ _))
  have hfl : (gs.take i ++ gs2 ++ gs.drop (k + 1)).flatten = gs.flatten.take a ++ splitM row ++ gs.flatten.drop (b + 1) := by
    rw [List.flatten_append, List.flatten_append, hfl2, hL1, hL3, hai, show b + 1 = (preB gs k).length + (la + 1) by omega, take_pre hi (by omega), drop_pre hk (by omega)]
    show preB gs i ++ _ ++ _ = _
    simp only [List.append_assoc]
  have hfn : ln + (((splitM row).length : Int) - (((b + 1 : Nat) : Int) - (a : Int))) = (((gs.take i ++ gs2 ++ gs.drop (k + 1)).flatten).length : Int) := by
    rw [hfl, List.length_append, List.length_append, List.length_take, List.length_drop, hln]; omega
  refine l_end0 rfl fun w' hw => ⟨hw.org, rfl, _, gs.take i ++ gs2 ++ gs.drop (k + 1), hfn ▸ hw.mem g _ .hd, ?_, hfl, (hNe.take i).app hNe2 |>.app (hNe.drop (k + 1))⟩
  refine ((hog15.now (fun k hk hm => ?_) hw).slF (fun k hk => .inr hk.1) fun k hk => ?_)
  · have h1 := hmg hm
    rcases hk with ((hk | hk) | hk) | hk
    · exact hk
    · exact hFg (h1 ▸ hk)
    · have := hk.1; unfold noB at this; omega
    · exact hFg (h1 ▸ hk)
  · rcases hk with ((hk | hk) | hk) | hk
    · exact hk.elim
    · exact .inl (hF0 k hk)
    · have := hk.1; unfold noB at this ⊢; exact .inr (by omega)
    · exact .inl (hF0 k hk)
end
end Go.Ink

set_option linter.unusedVariables false
set_option linter.unusedSimpArgs false
namespace Go.Ink
open Go Go.Proofs Go.RowKit

/-- Has no line a 10? -/
def plainB (l : List (List Int)) : Bool := l.all fun x => decide (10 ∉ x)
theorem not_mem_getD {x : List Int} (h : ∀ k, k < x.length → x.getD k 0 ≠ 10) : 10 ∉ x := fun hm => by
  obtain ⟨k, hk, e⟩ := List.getElem_of_mem hm
  exact h k hk (by rw [List.getD_eq_getElem?_getD, List.getElem?_eq_getElem hk]; exact e)
theorem mem_getD {x : List Int} {k : Nat} (hk : k < x.length) (h : x.getD k 0 = 10) : 10 ∈ x := by
  rw [List.getD_eq_getElem?_getD, List.getElem?_eq_getElem hk] at h
  exact h ▸ List.getElem_mem hk
theorem plain_false {l : List (List Int)} {i : Nat} (hi : i < l.length) (h : 10 ∈ l.getD i []) : plainB l = false := by
  unfold plainB
  rw [List.all_eq_false]
  refine ⟨l.getD i [], ?_, by simpa using h⟩
  rw [List.getD_eq_getElem?_getD, List.getElem?_eq_getElem hi]
  exact List.getElem_mem hi
theorem plain_iff {l : List (List Int)} : plainB l = true ↔ ∀ x ∈ l, 10 ∉ x := by unfold plainB; simp
section
variable {F : Nat → Prop} {w : World} {v : Value} {l : List (List Int)}
set_option maxHeartbeats 4000000 in
theorem joinedC_calls (h : Sl kRow F w v l) (hb : runesM l + l.length ≤ 4194304) : CallsR Try.prog 32 #[v] w fun u w' => Kn w w' ∧ ∃ x : Value, u = .tuple #[x, .bool (plainB l)] ∧ Ow kRune (noB w) (fun _ => False) w' x (if plainB l then jndM l else []) := by
  obtain ⟨A, c, ad, rV, rc, ra, rfl, hR⟩ := h.rws
  have hlen := hR.len
  refine l_enter (fun _ => False) Try.func32 rfl rfl ?_
  repeat(first|refine lrun_ ?_|(refine lo_boxA rfl rfl ?_;intro _ _ _)|(refine lo_box1 rfl rfl rfl ?_;intro _ _ _)|(refine lo_alloc rfl ?_;intro _ _ _))
  refine l_whileB (fun s : Nat × Option Addr × Nat => l.length - s.1) (fun s => [(9, .slice A l.length c), (10, .int .i64 l.length), (4, .slice s.2.1 (jndP l s.1).length s.2.2), (11, .int .i64 (s.1 : Int))]) (fun _ => [])
    (fun s b => (s.1 ≤ l.length ∧ ∀ j, j < s.1 → 10 ∉ l.getD j []) ∧ Og kRune w b (MK []) (fun _ => False) (.slice s.2.1 (jndP l s.1).length s.2.2) (jndP l s.1)) (0, none, 0) (by repeat (first | exact SubB.nil | refine SubB.cons rfl ?_)) (by repeat(first|exact MSub.refl|refine MSub.keep rfl ?_|exact MSub.nil|apply MSub.drop)) (fun w' hw => ⟨⟨Nat.zero_le _, fun j hj => by omega⟩, Ow.nil _ _ _ _⟩) ?_
  rintro ⟨i, A1, c1⟩ b ⟨⟨hi, hpl⟩, hO⟩ hkb ih
  simp only at hi hO hpl
  have hjl := jndP_le l i hi
  dsimp only
  by_cases hlt : i < l.length
  case neg =>
    obtain rfl : i = l.length := by omega
    have hP : plainB l = true := plain_iff.2 fun x hx => by
      obtain ⟨j, hj, e⟩ := List.getElem_of_mem hx
      have := hpl j hj
      rw [List.getD_eq_getElem?_getD, List.getElem?_eq_getElem hj] at this
      exact e ▸ this
    repeat(first|refine lrun_ ?_|(refine lo_boxA rfl rfl ?_;intro _ _ _)|(refine lo_box1 rfl rfl rfl ?_;intro _ _ _)|(refine lo_alloc rfl ?_;intro _ _ _))
    refine l_no rfl (by omega) ?_
    refine l_go (.exit rfl) ?_
    repeat(first|refine lrun_ ?_|(refine lo_boxA rfl rfl ?_;intro _ _ _)|(refine lo_box1 rfl rfl rfl ?_;intro _ _ _)|(refine lo_alloc rfl ?_;intro _ _ _))
    refine l_retR2 rfl (by repeat(first|exact LRes.nil|refine LRes.tmp rfl ?_|refine LRes.agg rfl (by(repeat(first|exact MIn.hd|refine MIn.tl ?_));done) (by rfl) (by rfl) ?_|refine LRes.one rfl (by(repeat(first|exact MIn.hd|refine MIn.tl ?_));done) (by rfl) ?_)) fun w' hw => ⟨hw.org, _, by rw [hP], ?_⟩
    rw [hP, if_pos rfl]
    exact (Kn.ow (kn_mk hw.kp) hO).mono (fun k hk _ => hk.1) fun _ h _ => h
  have hjl2 := jndP_le l (i + 1) hlt
  have hrl := hR.rl i
  have J : ∀ (b2 : World) (x : List Int) (A2 : Option Addr) (c2 : Nat), x = (if 0 < i then jndP l i ++ [10] else jndP l i) → Og kRune w b2 (MK []) (fun _ => False) (.slice A2 x.length c2) x → ∀ σ', SubB σ' [(9, .slice A l.length c), (10, .int .i64 l.length), (4, .slice A2 x.length c2), (6, .slice (rV i) (l.getD i []).length (rc i)), (11, .int .i64 (i : Int))] → ∀ M', MSub [] M' →
      WL Try.prog Try.f32 (.code (bodyC Try.f32 [1, 1, 0, 1, 0, 0, 1, 1, 0, 0, 1, 1]) :: .inBlock 1 :: .code (bodyC Try.f32 [1, 1, 0, 1, 0, 0, 1, 1, 1]) :: .inLoop (bodyC Try.f32 [1, 1, 0, 1, 0, 0]) :: .inBlock 0 :: [.code (bodyC Try.f32 [1, 1, 1])]) σ' w (fun _ => False) b2 (MK []) M' (fun u w' => Kn w w' ∧ ∃ x : Value, u = .tuple #[x, .bool (plainB l)] ∧ Ow kRune (noB w) (fun _ => False) w' x (if plainB l then jndM l else [])) := by
    intro b2 x A2 c2 hx hO2 σ' hs M' hM
    refine WL.sub hs hM ?_
    have hxl : x.length ≤ (jndP l i).length + 1 := by rw [hx]; split <;> simp
    have hj1 : jndP l (i + 1) = x ++ l.getD i [] := by rw [hx]; rfl
    repeat(first|refine lrun_ ?_|(refine lo_boxA rfl rfl ?_;intro _ _ _)|(refine lo_box1 rfl rfl rfl ?_;intro _ _ _)|(refine lo_alloc rfl ?_;intro _ _ _))
    refine l_while (fun j : Nat => (l.getD i []).length - j) (fun j => [(9, .slice A l.length c), (10, .int .i64 l.length), (4, .slice A2 x.length c2), (6, .slice (rV i) (l.getD i []).length (rc i)), (11, .int .i64 (i : Int)), (21, .slice (rV i) (l.getD i []).length (rc i)), (22, .int .i64 ((l.getD i []).length : Int)), (23, .int .i64 (j : Int))]) (fun _ => []) (fun j => j ≤ (l.getD i []).length ∧ ∀ k, k < j → (l.getD i []).getD k 0 ≠ 10) 0 (by repeat (first | exact SubB.nil | refine SubB.cons rfl ?_)) (by repeat(first|exact MSub.refl|refine MSub.keep rfl ?_|exact MSub.nil|apply MSub.drop)) ⟨Nat.zero_le _, fun k hk => by omega⟩ ?_
    rintro j ⟨hj, hq⟩ ihj
    by_cases hlt2 : j < (l.getD i []).length
    · repeat(first|refine lrun_ ?_|(refine lo_boxA rfl rfl ?_;intro _ _ _)|(refine lo_box1 rfl rfl rfl ?_;intro _ _ _)|(refine lo_alloc rfl ?_;intro _ _ _))
      refine l_yes rfl (by omega) ?_
      repeat(first|refine lrun_ ?_|(refine lo_boxA rfl rfl ?_;intro _ _ _)|(refine lo_box1 rfl rfl rfl ?_;intro _ _ _)|(refine lo_alloc rfl ?_;intro _ _ _))
      by_cases h10 : (l.getD i []).getD j 0 = 10
      · have hP : plainB l = false := plain_false hlt (mem_getD hlt2 h10)
        refine l_yes rfl h10 ?_
        repeat(first|refine lrun_ ?_|(refine lo_boxA rfl rfl ?_;intro _ _ _)|(refine lo_box1 rfl rfl rfl ?_;intro _ _ _)|(refine lo_alloc rfl ?_;intro _ _ _))
        refine l_retR2 rfl (by repeat(first|exact LRes.nil|refine LRes.tmp rfl ?_|refine LRes.agg rfl (by(repeat(first|exact MIn.hd|refine MIn.tl ?_));done) (by rfl) (by rfl) ?_|refine LRes.one rfl (by(repeat(first|exact MIn.hd|refine MIn.tl ?_));done) (by rfl) ?_)) fun w' hw => ⟨hw.org, _, by rw [hP], ?_⟩
        rw [hP]
        exact Ow.nil _ _ _ _
      · refine l_no rfl h10 ?_
        refine l_go .skip ?_
        have ih2 := ihj (j + 1) ⟨hlt2, fun k hk => by
          rcases Nat.lt_or_ge k j with h | h
          · exact hq k h
          · obtain rfl : k = j := by omega
            exact h10⟩ (by omega)
        repeat(first|refine lrun_ ?_|(refine lo_boxA rfl rfl ?_;intro _ _ _)|(refine lo_box1 rfl rfl rfl ?_;intro _ _ _)|(refine lo_alloc rfl ?_;intro _ _ _))
        exact ih2 _ _ (by repeat (first | exact SubB.nil | refine SubB.cons rfl ?_)) (by repeat(first|exact MSub.refl|refine MSub.keep rfl ?_|exact MSub.nil|apply MSub.drop))
    obtain rfl : j = (l.getD i []).length := by omega
    clear ihj
    repeat(first|refine lrun_ ?_|(refine lo_boxA rfl rfl ?_;intro _ _ _)|(refine lo_box1 rfl rfl rfl ?_;intro _ _ _)|(refine lo_alloc rfl ?_;intro _ _ _))
    refine l_no rfl (by omega) ?_
    refine l_go (.exit rfl) ?_
    repeat(first|refine lrun_ ?_|(refine lo_boxA rfl rfl ?_;intro _ _ _)|(refine lo_box1 rfl rfl rfl ?_;intro _ _ _)|(refine lo_alloc rfl ?_;intro _ _ _))
    refine lo_appendS (d := kRune) (ys := l.getD i []) (F2 := fun k => k < w.heap.size) rfl rfl hO2 (fun w' hw => Kn.sl hw.org ((hR.rs i hlt).old)) (fun k hk ho => by have := (hO2.block k ho).1.1; omega) (by have := hO2.block; show (x.length + (l.getD i []).length) * 4 ≤ 140737488355328; rw [hj1, List.length_append] at hjl2; omega) rfl rfl rfl rfl ?_
    intro w3 A3 n3 w4 hw3 ko3 kp3 hown hog
    rw [← hj1] at hog ⊢
    repeat(first|refine lops_ ?_|(refine lo_boxA rfl rfl ?_;intro _ _ _)|(refine lo_box1 rfl rfl rfl ?_;intro _ _ _)|(refine lo_alloc rfl ?_;intro _ _ _))
    refine lo_nil ?_
    refine l_baseM (M3 := []) .nil fun w5 hw5 => ?_
    have hO5 : Og kRune w w5 (MK []) (fun _ => False) (.slice A3 (jndP l (i + 1)).length n3) (jndP l (i + 1)) := (Kp.ow hw5.kp hog (fun _ h => h.2) fun _ h => h.elim).mono (fun k hk _ => ⟨hk.1, mk_nil⟩) fun _ h _ => h
    have hpl2 : ∀ k, k < i + 1 → 10 ∉ l.getD k [] := fun k hk => by
      rcases Nat.lt_or_ge k i with h | h
      · exact hpl k h
      · obtain rfl : k = i := by omega
        exact not_mem_getD hq
    repeat(first|refine lrun_ ?_|(refine lo_boxA rfl rfl ?_;intro _ _ _)|(refine lo_box1 rfl rfl rfl ?_;intro _ _ _)|(refine lo_alloc rfl ?_;intro _ _ _))
    exact ih (i + 1, A3, n3) w5 _ ⟨⟨hlt, hpl2⟩, hO5⟩ (by simp only; omega) _ _ (by repeat (first | exact SubB.nil | refine SubB.cons rfl ?_)) (by repeat(first|exact MSub.refl|refine MSub.keep rfl ?_|exact MSub.nil|apply MSub.drop)) fun w' hw' => ⟨⟨hlt, hpl2⟩, Kn.ow (kn_mk hw'.kp) hO5⟩
  repeat(first|refine lrun_ ?_|(refine lo_boxA rfl rfl ?_;intro _ _ _)|(refine lo_box1 rfl rfl rfl ?_;intro _ _ _)|(refine lo_alloc rfl ?_;intro _ _ _))
  refine l_yes rfl (by omega) ?_
  by_cases h0 : 0 < i
  · repeat(first|refine lrun_ ?_|(refine lo_boxA rfl rfl ?_;intro _ _ _)|(refine lo_box1 rfl rfl rfl ?_;intro _ _ _)|(refine lo_alloc rfl ?_;intro _ _ _))
    refine l_yes rfl (by omega) ?_
    repeat(first|refine lrun_ ?_|(refine lo_boxA rfl rfl ?_;intro _ _ _)|(refine lo_box1 rfl rfl rfl ?_;intro _ _ _)|(refine lo_alloc rfl ?_;intro _ _ _))
    refine lo_lit (cs := [.int .i32 10]) rfl (by decide) (by kernel_rfl) rfl ?_
    intro g19 hg19 hg19'
    refine lo_append1 (d := kRune) (q := 10) rfl rfl (hO.mono (G' := fre w (MK [])) (F' := fun _ => False) (fun k hk _ => hk) fun _ h _ => h) (fun _ h => h.elim) (by(repeat(first|exact MIn.hd|refine MIn.tl ?_));done) (fun w' hw => ⟨rfl, by decide, by decide⟩) (by show (_ + 1) * 4 ≤ 140737488355328; omega) rfl rfl rfl rfl ?_
    intro w3 A3 n3 w4 hw3 ko3 kp3 hown hog
    repeat(first|refine lops_ ?_|(refine lo_boxA rfl rfl ?_;intro _ _ _)|(refine lo_box1 rfl rfl rfl ?_;intro _ _ _)|(refine lo_alloc rfl ?_;intro _ _ _))
    refine lo_nil ?_
    refine l_baseM (M3 := []) .nil fun w5 hw5 => ?_
    have hO5 : Og kRune w w5 (MK []) (fun _ => False) (.slice A3 (jndP l i ++ [10]).length n3) (jndP l i ++ [10]) := (Kp.ow hw5.kp hog (fun _ h => h.2) fun _ h => h.elim).mono (fun k hk _ => ⟨hk.1, mk_nil⟩) fun _ h _ => h
    exact J w5 _ A3 n3 (by rw [if_pos h0]) hO5 _ (by repeat (first | exact SubB.nil | refine SubB.cons rfl ?_)) _ (by repeat(first|exact MSub.refl|refine MSub.keep rfl ?_|exact MSub.nil|apply MSub.drop))
  · repeat(first|refine lrun_ ?_|(refine lo_boxA rfl rfl ?_;intro _ _ _)|(refine lo_box1 rfl rfl rfl ?_;intro _ _ _)|(refine lo_alloc rfl ?_;intro _ _ _))
    refine l_no rfl (by omega) ?_
    refine l_go .skip ?_
    exact J b _ A1 c1 (by rw [if_neg h0]) hO _ (by repeat (first | exact SubB.nil | refine SubB.cons rfl ?_)) _ (by repeat(first|exact MSub.refl|refine MSub.keep rfl ?_|exact MSub.nil|apply MSub.drop))
end
end Go.Ink
