/-
  A cursor's place nearest to any.
-/
import Derived.Test.YtepjngapfmfkeaaW1
set_option linter.unusedVariables false
set_option linter.unusedSimpArgs false
namespace Go.Ink
open Go Go.Proofs

def clampI (a n : Int) : Int := if a < 0 then 0 else if n - 1 < a then n - 1 else a
def lineOf (l : List (List Int)) (p : Ps) : Nat := (clampI p.1 l.length).toNat
def clipM (l : List (List Int)) (p : Ps) : Ps :=
  if l = [] then (0, 0) else ((lineOf l p : Int), if (l.getD (lineOf l p) []).length = 0 then 0 else clampI p.2 (l.getD (lineOf l p) []).length)
theorem lineOf_lt {l : List (List Int)} {p : Ps} (h : l ≠ []) : lineOf l p < l.length ∧ ((lineOf l p : Nat) : Int) = clampI p.1 l.length := by
  have := List.length_pos_iff.2 h
  unfold lineOf clampI
  split
  · omega
  · split <;> omega
theorem getD_get {l : List (List Int)} {i : Nat} (h : i < l.length) : l.getD i [] = l[i] := by rw [List.getD_eq_getElem?_getD, List.getElem?_eq_getElem h]; rfl
section
variable {F : Nat → Prop} {w : World} {v : Value} {l : List (List Int)} {p : Ps}
def P64 (p : Ps) : Prop := (-9223372036854775808 ≤ p.1 ∧ p.1 ≤ 9223372036854775807) ∧ (-9223372036854775808 ≤ p.2 ∧ p.2 ≤ 9223372036854775807)
set_option maxHeartbeats 1000000 in
theorem clipP_calls (h : Sl kRow F w v l) (hp : P64 p) : CallsR Try.prog 49 #[v, posV p] w fun u w' => Kn w w' ∧ u = posV (clipM l p) := by
  obtain ⟨A, c, rfl, hc, hlf⟩ := h.form
  have hlen := hlf.len
  refine calls_enter Try.func49 rfl rfl ?_
  repeat(refine run_ ?_)
  refine o_any (e_box rfl) (wants_none rfl) rfl ?_
  rintro _ w1 ⟨g1, rfl, nb1⟩
  refine o_any (e_alloc) (wants_none rfl) rfl ?_
  rintro _ w2 ⟨g2, rfl, nb2⟩
  have k2 : Kn w w2 := nb1.kn.trans nb2.kn
  have b1 := nb2.kn.blk nb1.at_ id
  have e1 := nb1.ge
  have l1 := nb1.lt
  have e2 := nb2.ge
  have z1 := nb1.kn.size
  by_cases hn : l = []
  · repeat(refine run_ ?_)
    refine k_yes rfl (by rw [hn]; rfl) ?_
    repeat(refine run_ ?_)
    refine o_unit (u_storeA rfl rfl rfl (by simp [Value.oneCell']) rfl nb2.at_ (Nat.le_refl 2)) (wants_none rfl) rfl ?_
    rintro w4 hw4
    repeat(refine run_ ?_)
    have hk4 : Kn w w4 := Kp.then k2 hw4.kp (fun _ h => h) fun i hi he => by omega
    refine k_retR1 rfl (.agg rfl rfl (blk_all hw4.at_) .nil) ⟨hk4, ?_⟩
    unfold clipM
    rw [if_pos hn]
    rfl
  have hpos := List.length_pos_iff.2 hn
  obtain ⟨hil, hie⟩ := lineOf_lt (p := p) hn
  have f0 : w2.cell? ⟨g1, 0, none⟩ = some (.int .i64 p.1) := blk_cell b1
  repeat(refine run_ ?_)
  refine k_no rfl (by omega) ?_
  repeat(refine run_ ?_)
  refine o_still (r_load rfl f0) (wants_none rfl) rfl ?_
  repeat(refine run_ ?_)
  refine o_unit (u_store (i := 0) rfl rfl rfl (by simp only [add_plain, Nat.zero_add, Nat.add_zero]) b1 (show 0 < 2 by decide)) (wants_none rfl) rfl ?_
  rintro w3 hw3
  have hk3 : Kn w w3 := Kp.then k2 hw3.kp (fun _ h => h) fun i hi he => by omega
  have q0 : w3.cell? ⟨g1, 0, none⟩ = some (.int .i64 (lineOf l p)) := by
    refine (blk_cell hw3.at_).trans ?_
    show some (Value.int .i64 _) = _
    congr 2
    rw [hie]
    unfold clampI
    split <;> split <;> (try split) <;> omega
  have q1 : w3.cell? ⟨g1, 1, none⟩ = some (.int .i64 p.2) := blk_cell hw3.at_
  obtain ⟨ad, cs, rfl, ⟨v1, rfl, hr⟩, hcell⟩ := h.at_ (List.getElem?_eq_getElem hil)
  obtain ⟨A1, c1, rfl, hc1, hf1⟩ := hr.form
  have hlx := hf1.len
  have hgd := getD_get hil
  generalize hi : lineOf l p = i at *
  repeat(refine run_ ?_)
  refine k_draw [(0, 0), (1, 0), (2, 0), (3, 0), (4, 0), (5, 0), (6, 0), (7, 0), (8, 0), (9, 0), (10, 0), (11, 0), (12, 1)] (by kernel_rfl) (by kernel_rfl) rfl (by kernel_rfl) ?_
  repeat(refine rund_ ?_)
  refine d_open rfl ?_; refine x_still (r_load rfl q1) (wants_none rfl) rfl (by first | exact St.refl _ | assumption) ?_
  repeat(refine rund_ ?_)
  refine d_open rfl ?_; refine x_still (r_load rfl q0) (wants_none rfl) rfl (by first | exact St.refl _ | assumption) ?_
  refine d_open rfl ?_; refine x_still (r_index rfl rfl rfl (by omega) (by omega)) (wants_none rfl) rfl (by first | exact St.refl _ | assumption) ?_
  refine d_open rfl ?_; refine x_still (r_load rfl (hk3.cell (hcell 0 _ rfl) id)) (wants_none rfl) rfl (by first | exact St.refl _ | assumption) ?_
  repeat(refine rund_ ?_)
  have b3 := hw3.at_
  refine d_open rfl ?_; refine x_unit (u_store (i := 1) rfl rfl rfl (by simp only [add_plain, Nat.zero_add, Nat.add_zero]) b3 (show 1 < 2 by decide)) (wants_none rfl) rfl ?_
  rintro w4 hw4
  refine .inr ⟨(by kernel_rfl), ?_⟩
  have hk4 : Kn w w4 := Kp.then hk3 hw4.kp (fun _ h => h) fun i hi he => by omega
  have r0 : w4.cell? ⟨g1, 0, none⟩ = some (.int .i64 i) := (blk_cell hw4.at_).trans ((blk_cell hw3.at_).symm.trans q0)
  have r1 : w4.cell? ⟨g1, 1, none⟩ = some (.int .i64 (if l[i].length = 0 then 0 else clampI p.2 l[i].length)) := by
    refine (blk_cell hw4.at_).trans ?_
    show some (Value.int .i64 _) = _
    congr 2
    unfold clampI
    split <;> split <;> (try split) <;> (try split) <;> omega
  have bb2 := hw4.kp.blk (hw3.kp.blk nb2.at_ (by omega)) (by omega)
  have z3 := hw3.kp.size
  have z4 := hw4.kp.size
  repeat(refine rund_ ?_)
  repeat(refine run_ ?_)
  refine o_still (r_loadA (cs := [.int .i64 i, .int .i64 (if l[i].length = 0 then 0 else clampI p.2 l[i].length)]) rfl rfl (by
    intro j u hu
    match j, hu with
    | 0, hu => cases hu; exact r0
    | 1, hu => cases hu; exact r1)) (wants_none rfl) rfl ?_
  refine o_unit (u_storeA rfl rfl rfl (by simp [Value.oneCell']) rfl bb2 (Nat.le_refl 2)) (wants_none rfl) rfl ?_
  rintro w5 hw5
  have hk5 : Kn w w5 := Kp.then hk4 hw5.kp (fun _ h => h) fun i hi he => by omega
  repeat(refine run_ ?_)
  refine k_retR1 rfl (.agg rfl rfl (blk_all hw5.at_) .nil) ⟨hk5, ?_⟩
  unfold clipM
  rw [if_neg hn, hi, hgd]
  rfl
end
end Go.Ink
