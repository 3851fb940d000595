/-
  Regions, in plain words.
  Plain: a line's runes that a region has, and the others.
  slices.Grow of none, slices.Concat.
  at.
  columns.
  gather: of each line what a function makes of it.
  put; what Take and Cut make of a line.
  What Cut makes of a line; Take.
  first.
  Cut.
-/
import Derived.Test.YtepjngapfmfkeaaW4
import Derived.Test.YtepjngapfmfkeaaLn
import Derived.Test.YtepjngapfmfkeaaV1
import Derived.Test.YtepjngapfmfkeaaSml
import Derived.Test.YtepjngapfmfkeaaRow
import Derived.Lib.AppendZeros
import Derived.Test.YtepjngapfmfkeaaSr
import Derived.Test.YtepjngapfmfkeaaFv
import Derived.Test.YtepjngapfmfkeaaLit
import Derived.Test.YtepjngapfmfkeaaTb
import Derived.Test.YtepjngapfmfkeaaV3
import Derived.Test.YtepjngapfmfkeaaW1
import Derived.Test.YtepjngapfmfkeaaW2
set_option linter.unusedVariables false
set_option linter.unusedSimpArgs false
namespace Go.Ink
open Go Go.Proofs

structure Rg where
  fr : Ps
  to : Ps
  kind : Int
/-- The first and the last place. -/
def endsR (r : Rg) : Ps × Ps := if aheadM r.to r.fr = true then (r.to, r.fr) else (r.fr, r.to)
/-- What is wrong with it. -/
def thereR (l : List (List Int)) (r : Rg) : Int := if r.kind < 0 ∨ 2 < r.kind then 1 else if l = [] ∨ clipM l r.fr ≠ r.fr ∨ clipM l r.to ≠ r.to then 2 else 0
/-- Is a place in it? -/
def hasR (r : Rg) (p : Ps) : Bool :=
  if r.kind = 0 then !aheadM p (endsR r).1 && !aheadM (endsR r).2 p
  else if r.kind = 1 then decide ((endsR r).1.1 ≤ p.1 ∧ p.1 ≤ (endsR r).2.1)
  else decide (((endsR r).1.1 ≤ p.1 ∧ p.1 ≤ (endsR r).2.1) ∧ (if (endsR r).2.2 < (endsR r).1.2 then (endsR r).2.2 else (endsR r).1.2) ≤ p.2 ∧ p.2 ≤ (if (endsR r).1.2 < (endsR r).2.2 then (endsR r).2.2 else (endsR r).1.2))
/-- The columns of a line, from one up to another. -/
def colsR (r : Rg) (n : Int) (i : Int) : Int × Int :=
  let a := (endsR r).1
  let b := (endsR r).2
  let f0 := if r.kind = 2 then (if b.2 < a.2 then b.2 else a.2) else 0
  let t0 := if r.kind = 2 then (if a.2 < b.2 then b.2 else a.2) + 1 else n
  let f1 := if r.kind = 0 ∧ i = a.1 then a.2 else f0
  let t1 := if r.kind = 0 ∧ i = b.1 then b.2 + 1 else t0
  let t2 := if n < t1 then n else t1
  (if t2 < f1 then t2 else f1, t2)
structure RgOk (l : List (List Int)) (r : Rg) : Prop where
  kind : 0 ≤ r.kind ∧ r.kind ≤ 2
  ne : l ≠ []
  a : At l (endsR r).1
  b : At l (endsR r).2
  le : (endsR r).1.1 < (endsR r).2.1 ∨ (endsR r).1.1 = (endsR r).2.1 ∧ (endsR r).1.2 ≤ (endsR r).2.2
theorem there_ok {l : List (List Int)} {r : Rg} (h : thereR l r = 0) : RgOk l r := by
  unfold thereR at h
  split at h
  · omega
  · next h1 =>
    split at h
    · omega
    · next h2 =>
      have hne : l ≠ [] := fun e => h2 (.inl e)
      have hf : clipM l r.fr = r.fr := Decidable.not_not.1 fun e => h2 (.inr (.inl e))
      have ht : clipM l r.to = r.to := Decidable.not_not.1 fun e => h2 (.inr (.inr e))
      have af : At l r.fr := by rw [← hf]; exact clip_at hne
      have at_ : At l r.to := by rw [← ht]; exact clip_at hne
      have he : (aheadM r.to r.fr = true ∧ endsR r = (r.to, r.fr)) ∨ (aheadM r.to r.fr = false ∧ endsR r = (r.fr, r.to)) := by
        unfold endsR
        cases aheadM r.to r.fr with
        | true => exact .inl ⟨rfl, rfl⟩
        | false => exact .inr ⟨rfl, rfl⟩
      rcases he with ⟨h3, h4⟩ | ⟨h3, h4⟩
      · have := of_decide_eq_true h3
        exact ⟨by omega, hne, by rw [h4]; exact at_, by rw [h4]; exact af, by rw [h4]; simp only; omega⟩
      · have := ahead_f.1 h3
        exact ⟨by omega, hne, by rw [h4]; exact af, by rw [h4]; exact at_, by rw [h4]; simp only; omega⟩
section
variable {l : List (List Int)} {r : Rg} {i k : Nat}
theorem cols_in (h : RgOk l r) (hi : (endsR r).1.1 ≤ (i : Int)) : 0 ≤ (colsR r ((l.getD i []).length : Int) i).1 ∧ (colsR r ((l.getD i []).length : Int) i).1 ≤ (colsR r ((l.getD i []).length : Int) i).2 ∧ (colsR r ((l.getD i []).length : Int) i).2 ≤ ((l.getD i []).length : Int) := by
  have ha := h.a.k
  have hb := h.b.k
  unfold colsR
  simp only
  generalize (endsR r).1 = a at *
  generalize (endsR r).2 = b at *
  refine ⟨?_, ?_, ?_⟩
  · (repeat' split) <;> omega
  · (repeat' split) <;> omega
  · (repeat' split) <;> omega
theorem nn_dec {p q : Prop} [Decidable p] [Decidable q] : (!decide p && !decide q) = decide (¬ p ∧ ¬ q) := by by_cases h1 : p <;> by_cases h2 : q <;> simp [h1, h2]
/-- A place of a line is in it just where its column is. -/
theorem has_cols (h : RgOk l r) (h1 : (endsR r).1.1 ≤ (i : Int)) (h2 : (i : Int) ≤ (endsR r).2.1) (hk : k < (l.getD i []).length) :
    hasR r ((i : Int), (k : Int)) = decide ((colsR r ((l.getD i []).length : Int) i).1 ≤ (k : Int) ∧ (k : Int) < (colsR r ((l.getD i []).length : Int) i).2) := by
  have hkd := h.kind
  have hle := h.le
  have ha := h.a.k
  have hb := h.b.k
  unfold hasR colsR
  simp only
  generalize (endsR r).1 = a at *
  generalize (endsR r).2 = b at *
  by_cases e0 : r.kind = 0
  · have e2 : ¬ r.kind = 2 := by omega
    simp only [e0, true_and, if_true, if_neg (show ¬ (0 : Int) = 2 by decide)]
    unfold aheadM
    rw [nn_dec, decide_eq_decide]
    simp only
    have hk' : (k : Int) < ((l.getD i []).length : Int) := by omega
    generalize ((l.getD i []).length : Int) = n at *
    generalize (i : Int) = i at *
    by_cases c1 : i = a.1 <;> by_cases c2 : i = b.1 <;> simp only [c1, c2, if_true, if_false, true_and, and_true, false_and, and_false, or_false, false_or] <;> (repeat' split) <;> omega
  · by_cases e1 : r.kind = 1
    · have e2 : ¬ r.kind = 2 := by omega
      simp only [if_neg e0, if_pos e1, if_neg e2, e0, false_and, if_false]
      rw [decide_eq_decide]
      (repeat' split) <;> omega
    · have e2 : r.kind = 2 := by omega
      simp only [if_neg e0, if_neg e1, if_pos e2, e0, false_and, if_false]
      rw [decide_eq_decide]
      (repeat' split) <;> omega
end
end Go.Ink

set_option linter.unusedVariables false
set_option linter.unusedSimpArgs false
namespace Go.Ink
open Go Go.Proofs

def pinM (row : List Int) (P : Nat → Bool) : Nat → List Int
  | 0 => []
  | k + 1 => pinM row P k ++ if P k = true then [row.getD k 0] else []
def poutM (row : List Int) (P : Nat → Bool) : Nat → List Int
  | 0 => []
  | k + 1 => poutM row P k ++ if P k = true then [] else [row.getD k 0]
theorem pin_succ (row : List Int) (P : Nat → Bool) (k : Nat) : pinM row P (k + 1) = pinM row P k ++ if P k = true then [row.getD k 0] else [] := rfl
theorem pout_succ (row : List Int) (P : Nat → Bool) (k : Nat) : poutM row P (k + 1) = poutM row P k ++ if P k = true then [] else [row.getD k 0] := rfl
theorem pin_len (row : List Int) (P : Nat → Bool) : ∀ k, (pinM row P k).length + (poutM row P k).length = k
  | 0 => rfl
  | k + 1 => by
    have := pin_len row P k
    rw [pin_succ, pout_succ, List.length_append, List.length_append]
    split <;> simp <;> omega
theorem take_one {row : List Int} {k : Nat} (h : k < row.length) : row.take (k + 1) = row.take k ++ [row.getD k 0] := by
  rw [List.take_succ_eq_append_getElem h, List.getD_eq_getElem?_getD, List.getElem?_eq_getElem h]; rfl
theorem drop_app {a b : List Int} {n : Nat} (h : n ≤ a.length) : (a ++ b).drop n = a.drop n ++ b := by rw [List.drop_append_of_le_length h]
section
variable {row : List Int} {P : Nat → Bool} {f t : Nat}
theorem pin_eq (hP : ∀ k, k < row.length → P k = decide (f ≤ k ∧ k < t)) (hft : f ≤ t) (ht : t ≤ row.length) : ∀ k, k ≤ row.length →
    pinM row P k = (row.take (min k t)).drop f ∧ poutM row P k = row.take (min k f) ++ (row.take k).drop t
  | 0, _ => ⟨by simp [pinM], by simp [poutM]⟩
  | k + 1, hk => by
    obtain ⟨h1, h2⟩ := pin_eq hP hft ht k (by omega)
    have hkl : k < row.length := by omega
    have hlk : (row.take k).length = k := by rw [List.length_take]; omega
    rw [pin_succ, pout_succ, h1, h2, hP k hkl]
    by_cases c1 : k < f
    · rw [decide_eq_false (by omega)]
      rw [show min (k + 1) t = k + 1 by omega, show min k t = k by omega, show min (k + 1) f = k + 1 by omega, show min k f = k by omega, take_one hkl]
      have e1 : ((row.take k ++ [row.getD k 0]).drop f) = [] := List.drop_eq_nil_of_le (by rw [List.length_append, hlk]; simp; omega)
      have e2 : ((row.take k ++ [row.getD k 0]).drop t) = [] := List.drop_eq_nil_of_le (by rw [List.length_append, hlk]; simp; omega)
      have e3 : (row.take k).drop f = [] := List.drop_eq_nil_of_le (by omega)
      have e4 : (row.take k).drop t = [] := List.drop_eq_nil_of_le (by omega)
      rw [e1, e2, e3, e4]
      simp
    · by_cases c2 : k < t
      · rw [decide_eq_true (by omega)]
        rw [show min (k + 1) t = k + 1 by omega, show min k t = k by omega, show min (k + 1) f = f by omega, show min k f = f by omega, take_one hkl, drop_app (by omega)]
        have e2 : ((row.take k ++ [row.getD k 0]).drop t) = [] := List.drop_eq_nil_of_le (by rw [List.length_append, hlk]; simp; omega)
        have e4 : (row.take k).drop t = [] := List.drop_eq_nil_of_le (by omega)
        rw [e2, e4]
        simp
      · rw [decide_eq_false (by omega)]
        rw [show min (k + 1) t = t by omega, show min k t = t by omega, show min (k + 1) f = f by omega, show min k f = f by omega, take_one hkl, drop_app (by omega)]
        simp
theorem pin_all (hP : ∀ k, k < row.length → P k = decide (f ≤ k ∧ k < t)) (hft : f ≤ t) (ht : t ≤ row.length) :
    pinM row P row.length = (row.take t).drop f ∧ poutM row P row.length = row.take f ++ row.drop t := by
  obtain ⟨h1, h2⟩ := pin_eq hP hft ht row.length (Nat.le_refl _)
  rw [show min row.length t = t by omega] at h1
  rw [show min row.length f = f by omega, List.take_length] at h2
  exact ⟨h1, h2⟩
end
/-! ### Regions of lines -/
section
variable {l : List (List Int)} {r : Rg} {i : Nat}
def fromR (l : List (List Int)) (r : Rg) (i : Nat) : Nat := (colsR r ((l.getD i []).length : Int) i).1.toNat
def toR (l : List (List Int)) (r : Rg) (i : Nat) : Nat := (colsR r ((l.getD i []).length : Int) i).2.toNat
/-- What a region has of a line, and what it leaves. -/
def inR (l : List (List Int)) (r : Rg) (i : Nat) : List Int := ((l.getD i []).take (toR l r i)).drop (fromR l r i)
def outR (l : List (List Int)) (r : Rg) (i : Nat) : List Int := (l.getD i []).take (fromR l r i) ++ (l.getD i []).drop (toR l r i)
theorem cols_nat (h : RgOk l r) (h1 : (endsR r).1.1 ≤ (i : Int)) : colsR r ((l.getD i []).length : Int) i = ((fromR l r i : Int), (toR l r i : Int)) ∧ fromR l r i ≤ toR l r i ∧ toR l r i ≤ (l.getD i []).length := by
  obtain ⟨a, b, c⟩ := cols_in (i := i) h h1
  unfold fromR toR
  refine ⟨?_, by omega, by omega⟩
  ext
  · simp only; omega
  · simp only; omega
theorem parted_eq (h : RgOk l r) (h1 : (endsR r).1.1 ≤ (i : Int)) (h2 : (i : Int) ≤ (endsR r).2.1) :
    pinM (l.getD i []) (fun k => hasR r ((i : Int), (k : Int))) (l.getD i []).length = inR l r i ∧ poutM (l.getD i []) (fun k => hasR r ((i : Int), (k : Int))) (l.getD i []).length = outR l r i := by
  obtain ⟨a, b, c⟩ := cols_nat (i := i) h h1
  exact pin_all (fun k hk => by
    rw [has_cols h h1 h2 hk, a, decide_eq_decide]
    simp only
    omega) b c
end
end Go.Ink

set_option linter.unusedVariables false
set_option linter.unusedSimpArgs false
namespace Go.Ink
open Go Go.Proofs Go.RowKit

theorem e_zeros {P : Program} {N : Nat} {σ : Sig} {w : World} {dst : Option Nat} {ty : TypeId} {pos : String} {af : Array Edge} {gd : Option (Nat × Bool)} {x y : Operand} {t tn e : TypeId} {kn : IntKind} {sz bytes : Nat} {z : Value} [hT : SlT P t e] [hI : IntT P tn kn] [hE : ElT P e sz bytes z] {n : Nat} (hx : ev σ x = some (.slice none 0 0)) (hy : ev σ y = some (.int .i64 (n : Int))) (h0 : 0 < n) (hs : 0 < sz) (hb : n * bytes ≤ 140737488355328) (h63 : (n : Int) ≤ 9223372036854775807) (hz : z.cells.size = sz) :
    Ef P N σ w ⟨dst, .call { callee := .builtin .append, args := #[x, y], argTypes := #[t, tn] }, ty, pos, af, gd⟩ (fun u w' => ∃ g c, ∃ cs : Array Value, u = .slice (some ⟨g, 0, none⟩) n c ∧ n ≤ c ∧ c ≤ maxLen ∧ c * sz ≤ cs.size ∧ Nb w w' g (.cells cs e)) := by
  constructor; intro _ a w0 ha h0'
  obtain ⟨i, hi1, hi2, hi3, hi4⟩ := hE.parts
  have hr := Go.Lib.run_append_nil_zeros (P := P) w0 t tn ty e i z .i64 kn hT.und hI.und hi1 hi2 n h0 (by omega) h63 (by rw [hi4]; omega)
  have hge := grownCap_ge w0 n 0 e
  have hcm := grownCap_le_maxLen w0 n 0 e (by simpa [maxLen] using (show n ≤ 9223372036854775807 by omega))
  have hn := nb_alloc (w := w) (w0 := w0.drew) (h0'.trans ⟨rfl, rfl, rfl, rfl⟩) (.cells (Builtin.zeroCells z.cells n ++ Builtin.zeroCells z.cells (grownCap w0 n 0 e - n)) e)
  refine ⟨_, _, ?_, w0.heap.size, _, Builtin.zeroCells z.cells n ++ Builtin.zeroCells z.cells (grownCap w0 n 0 e - n), rfl, hge, hcm, ?_, hn⟩
  · simp only [execOp, resolve, invoke, builtin, Sem.run_bind, Sem.run_pure, Result.andThen_ok, List.map_toArray, List.map_cons, List.map_nil, ha.ev hx, ha.ev hy, hr]
  · rw [Array.size_append, size_zeroCells, size_zeroCells, hz, ← Nat.add_mul]
    exact Nat.mul_le_mul_right _ (by omega)
theorem grow_calls {w : World} {n : Nat} (hn : n ≤ 4194304) : CallsR Try.prog 73 #[.slice none 0 0, .int .i64 (n : Int)] w fun u w' => Kn w w' ∧ ∃ A c, u = .slice A 0 c ∧ Ow kRune (noB w) (fun _ => False) w' u [] := by
  refine l_enter (fun _ => False) Try.func73 rfl rfl ?_
  repeat(first|refine lrun_ ?_|(refine lo_boxA rfl rfl ?_;intro _ _ _)|(refine lo_box1 rfl rfl rfl ?_;intro _ _ _)|(refine lo_alloc rfl ?_;intro _ _ _))
  refine l_no rfl (by omega) ?_
  repeat(first|refine lrun_ ?_|(refine lo_boxA rfl rfl ?_;intro _ _ _)|(refine lo_box1 rfl rfl rfl ?_;intro _ _ _)|(refine lo_alloc rfl ?_;intro _ _ _))
  refine lo_rn (fun _ => r_cap rfl) rfl ?_
  repeat(first|refine lrun_ ?_|(refine lo_boxA rfl rfl ?_;intro _ _ _)|(refine lo_box1 rfl rfl rfl ?_;intro _ _ _)|(refine lo_alloc rfl ?_;intro _ _ _))
  refine l_ite rfl (fun h0 => ?_) (fun h0 => ?_)
  · repeat(first|refine lrun_ ?_|(refine lo_boxA rfl rfl ?_;intro _ _ _)|(refine lo_box1 rfl rfl rfl ?_;intro _ _ _)|(refine lo_alloc rfl ?_;intro _ _ _))
    refine lo_rn (fun _ => r_cap rfl) rfl ?_
    refine lo_rn (fun _ => r_slice (A := none) (n := 0) (c := 0) rfl 0 0 0 rfl ⟨_, rfl⟩ rfl (Nat.le_refl _) (Nat.le_refl _) (Nat.le_refl _)) rfl ?_
    repeat(first|refine lrun_ ?_|(refine lo_boxA rfl rfl ?_;intro _ _ _)|(refine lo_box1 rfl rfl rfl ?_;intro _ _ _)|(refine lo_alloc rfl ?_;intro _ _ _))
    refine lo_any (Φ := fun w u w' => ∃ g c, ∃ cs : Array Value, u = .slice (some ⟨g, 0, none⟩) n c ∧ n ≤ c ∧ c ≤ maxLen ∧ c * 1 ≤ cs.size ∧ Nb w w' g (.cells cs 21)) (fun w hw => e_zeros (n := n) rfl (by show some _ = some _; simp) (by omega) (by decide) (by omega) (by omega) rfl) rfl ?_
    rintro w1 _ w2 hw1 ⟨g, c, cs, rfl, h1, h2, h3, nb⟩
    refine lo_close ((hw1.nb nb)) ?_
    repeat(first|refine lrun_ ?_|(refine lo_boxA rfl rfl ?_;intro _ _ _)|(refine lo_box1 rfl rfl rfl ?_;intro _ _ _)|(refine lo_alloc rfl ?_;intro _ _ _))
    refine l_ret1 rfl rfl fun w3 hw => ⟨hw.org, _, _, rfl, [], rfl, Fits.zero _, .inr ⟨g, 0, c, cs, _, rfl, ?_, hw.mem g _ .hd, Nat.zero_le _, h2, by show 0 + c * 1 ≤ _; omega, fun j u hu => by simp at hu⟩⟩
    have := nb.ge
    have := hw1.org.size
    unfold noB
    omega
  · refine l_go .skip ?_
    repeat(first|refine lrun_ ?_|(refine lo_boxA rfl rfl ?_;intro _ _ _)|(refine lo_box1 rfl rfl rfl ?_;intro _ _ _)|(refine lo_alloc rfl ?_;intro _ _ _))
    exact l_ret1 rfl rfl fun w hw => ⟨hw.org, none, 0, rfl, Ow.nil _ _ _ _⟩
theorem runes_take {xs : List (List Int)} {k : Nat} (h : k < xs.length) : runesM (xs.take (k + 1)) = runesM (xs.take k) + (xs.getD k []).length := by
  unfold runesM
  rw [List.take_succ_eq_append_getElem h, List.map_append, List.sum_append, List.getD_eq_getElem?_getD, List.getElem?_eq_getElem h]
  simp
theorem runes_take_le (xs : List (List Int)) (k : Nat) : runesM (xs.take k) ≤ runesM xs := by
  have : runesM xs = runesM (xs.take k) + runesM (xs.drop k) := by
    unfold runesM
    rw [← List.sum_append, ← List.map_append, List.take_append_drop]
  omega
theorem flat_take {xs : List (List Int)} {k : Nat} (h : k < xs.length) : (xs.take (k + 1)).flatten = (xs.take k).flatten ++ xs.getD k [] := by
  rw [List.take_succ_eq_append_getElem h, List.flatten_append, List.getD_eq_getElem?_getD, List.getElem?_eq_getElem h]
  simp
theorem flat_len (xs : List (List Int)) : xs.flatten.length = runesM xs := by unfold runesM; rw [List.length_flatten]
set_option maxHeartbeats 4000000 in
theorem concat_calls {F : Nat → Prop} {w : World} {v : Value} {xs : List (List Int)} (h : Sl kRow F w v xs) (hb : runesM xs ≤ 4194304) :
    CallsR Try.prog 46 #[v] w fun u w' => Kn w w' ∧ Ow kRune (noB w) (fun _ => False) w' u xs.flatten := by
  obtain ⟨A, c, ad, rV, rc, ra, rfl, hR⟩ := h.rws
  have hlen := hR.len
  refine l_enter (fun _ => False) Try.func46 rfl rfl ?_
  repeat(first|refine lrun_ ?_|(refine lo_boxA rfl rfl ?_;intro _ _ _)|(refine lo_box1 rfl rfl rfl ?_;intro _ _ _)|(refine lo_alloc rfl ?_;intro _ _ _))
  refine l_while (fun k : Nat => xs.length - k) (fun k => [(0, .slice A xs.length c), (3, .int .i64 (runesM (xs.take k) : Nat)), (9, .slice A xs.length c), (10, .int .i64 xs.length), (11, .int .i64 (k : Int))]) (fun _ => []) (fun k => k ≤ xs.length) 0 (by repeat (first | exact SubB.nil | refine SubB.cons rfl ?_)) (by repeat(first|exact MSub.refl|refine MSub.keep rfl ?_|exact MSub.nil|apply MSub.drop)) (Nat.zero_le _) ?_
  rintro k hk ih
  by_cases hlt : k < xs.length
  · have h1 := runes_take hlt
    have h2 := runes_take_le xs (k + 1)
    have h3 := hR.rl k
    repeat(first|refine lrun_ ?_|(refine lo_boxA rfl rfl ?_;intro _ _ _)|(refine lo_box1 rfl rfl rfl ?_;intro _ _ _)|(refine lo_alloc rfl ?_;intro _ _ _))
    refine l_yes rfl (by omega) ?_
    repeat(first|refine lrun_ ?_|(refine lo_boxA rfl rfl ?_;intro _ _ _)|(refine lo_box1 rfl rfl rfl ?_;intro _ _ _)|(refine lo_alloc rfl ?_;intro _ _ _))
    refine l_no rfl (by omega) ?_
    repeat(first|refine lrun_ ?_|(refine lo_boxA rfl rfl ?_;intro _ _ _)|(refine lo_box1 rfl rfl rfl ?_;intro _ _ _)|(refine lo_alloc rfl ?_;intro _ _ _))
    exact ih (k + 1) hlt (by omega) _ _ (by rw [h1]; exact (by repeat (first | exact SubB.nil | refine SubB.cons rfl ?_))) (by repeat(first|exact MSub.refl|refine MSub.keep rfl ?_|exact MSub.nil|apply MSub.drop))
  · obtain rfl : k = xs.length := by omega
    rw [List.take_length]
    repeat(first|refine lrun_ ?_|(refine lo_boxA rfl rfl ?_;intro _ _ _)|(refine lo_box1 rfl rfl rfl ?_;intro _ _ _)|(refine lo_alloc rfl ?_;intro _ _ _))
    refine l_no rfl (by omega) ?_
    refine l_go (.exit rfl) ?_
    repeat(first|refine lrun_ ?_|(refine lo_boxA rfl rfl ?_;intro _ _ _)|(refine lo_box1 rfl rfl rfl ?_;intro _ _ _)|(refine lo_alloc rfl ?_;intro _ _ _))
    refine lo_callM (n_call rfl) rfl (fun w hw => grow_calls hb) ?_
    rintro w1 _ w2 hw1 kn1 kp1 ⟨A1, c1, rfl, hO⟩
    have hog : Og kRune w w2 (MK []) (fun _ => False) (.slice A1 0 c1) [] := hO.mono (fun k hk _ => ⟨by have := hw1.org.size; unfold noB at hk; omega, mk_nil⟩) fun _ h _ => h
    clear hO hw1 kn1 kp1 ih
    repeat(first|refine lrun_ ?_|(refine lo_boxA rfl rfl ?_;intro _ _ _)|(refine lo_box1 rfl rfl rfl ?_;intro _ _ _)|(refine lo_alloc rfl ?_;intro _ _ _))
    refine l_whileB (fun s : Nat × Option Addr × Nat => xs.length - s.1) (fun s => [(6, .slice s.2.1 (xs.take s.1).flatten.length s.2.2), (25, .slice A xs.length c), (26, .int .i64 xs.length), (27, .int .i64 (s.1 : Int))]) (fun _ => [])
      (fun s b => s.1 ≤ xs.length ∧ Og kRune w b (MK []) (fun _ => False) (.slice s.2.1 (xs.take s.1).flatten.length s.2.2) (xs.take s.1).flatten) (0, A1, c1) (by repeat (first | exact SubB.nil | refine SubB.cons rfl ?_)) (by repeat(first|exact MSub.refl|refine MSub.keep rfl ?_|exact MSub.nil|apply MSub.drop)) (fun w hw => ⟨Nat.zero_le _, hog.now (fun _ h => h.elim) hw⟩) ?_
    rintro ⟨k, A2, c2⟩ b ⟨hk, hO⟩ hkb ih
    simp only at hk
    by_cases hlt : k < xs.length
    · have h1 := flat_take hlt
      have h2 := runes_take_le xs (k + 1)
      rw [← flat_len, h1, List.length_append] at h2
      repeat(first|refine lrun_ ?_|(refine lo_boxA rfl rfl ?_;intro _ _ _)|(refine lo_box1 rfl rfl rfl ?_;intro _ _ _)|(refine lo_alloc rfl ?_;intro _ _ _))
      refine l_yes rfl (by omega) ?_
      repeat(first|refine lrun_ ?_|(refine lo_boxA rfl rfl ?_;intro _ _ _)|(refine lo_box1 rfl rfl rfl ?_;intro _ _ _)|(refine lo_alloc rfl ?_;intro _ _ _))
      refine lo_appendS (d := kRune) (ys := xs.getD k []) rfl rfl hO (fun w' hw => Kn.sl hw.org (hR.rs k hlt).old) (fun j hj ho => by have := (hO.block j ho).1.1; omega) (by show ((xs.take k).flatten.length + (xs.getD k []).length) * 4 ≤ 140737488355328; omega) rfl rfl rfl rfl ?_
      intro w1 A3 c3 w2 hw1 hk1 hk2 hown hog2
      repeat(first|refine lrun_ ?_|(refine lo_boxA rfl rfl ?_;intro _ _ _)|(refine lo_box1 rfl rfl rfl ?_;intro _ _ _)|(refine lo_alloc rfl ?_;intro _ _ _))
      exact ih (k + 1, A3, c3) w2 _ ⟨by simp only; omega, by simp only [h1]; exact hog2⟩ (by simp only; omega) _ _ (by simp only; rw [h1]; exact (by repeat (first | exact SubB.nil | refine SubB.cons rfl ?_))) (by repeat(first|exact MSub.refl|refine MSub.keep rfl ?_|exact MSub.nil|apply MSub.drop)) (fun w3 hw3 => ⟨by simp only; omega, by simp only [h1]; exact hog2.now (fun _ h => h.elim) hw3⟩)
    · obtain rfl : k = xs.length := by omega
      rw [List.take_length] at hO
      repeat(first|refine lrun_ ?_|(refine lo_boxA rfl rfl ?_;intro _ _ _)|(refine lo_box1 rfl rfl rfl ?_;intro _ _ _)|(refine lo_alloc rfl ?_;intro _ _ _))
      refine l_no rfl (by omega) ?_
      refine l_go (.exit rfl) ?_
      repeat(first|refine lrun_ ?_|(refine lo_boxA rfl rfl ?_;intro _ _ _)|(refine lo_box1 rfl rfl rfl ?_;intro _ _ _)|(refine lo_alloc rfl ?_;intro _ _ _))
      refine l_ret1 rfl rfl fun w3 hw => ⟨hw.org, ?_⟩
      rw [List.take_length]
      exact (hO.now (fun _ h => h.elim) hw).mono (fun k hk _ => hk.1) fun _ h _ => h
end Go.Ink

set_option linter.unusedVariables false
set_option linter.unusedSimpArgs false
namespace Go.Ink
open Go Go.Proofs

instance : Eq2T Try.prog 24 .i64 := eq2_struct (e := 3) (by kernel_rfl) (by kernel_rfl) (by kernel_rfl) (by kernel_rfl) (by kernel_rfl)
theorem lo_storeN {P : Program} {fn : Func} {k : List Item} {σ : Sig} {O B : World} {S K : Nat → Prop} {M M' : Mm} {R : Pt} {ops : Array Oper} {rest : List Oper} {dd : Option Nat} {oty : TypeId} {opos : String} {oaf : Array Edge} {x y : Operand} {t : TypeId} {n : Nat} [hT : AggT P t n] {p : Addr} {new : List Value} {g i : Nat} {cs cs' : List Value} {e : TypeId} (hx : ev σ x = some (.pointer (some p))) (hp : p = ⟨g, i, none⟩) (hm : MIn g (cb cs e) M)
    (hi : Nat.ble (i + n) cs.length = true) (hy : ev σ y = some (.agg new.toArray)) (hl : new.length = n) (hv : new.all Value.oneCell' = true) (hc : Nf (cs.take i ++ new ++ cs.drop (i + n)) cs') (hu : MUp g (cb cs' e) M M') (hd : okD dd fn.ntmps = true)
    (h : WLo P fn ops rest k (putS dd undef σ) O S B K M' R) : WLo P fn ops ((⟨dd, .store t x y, oty, opos, oaf, none⟩ : Oper) :: rest) k σ O S B K M R :=
  lo_storeA hx hp hm hi hy hl hv hc.eq hu hd h
def rgV (r : Rg) : Value := .agg #[.int .i64 r.fr.1, .int .i64 r.fr.2, .int .i64 r.to.1, .int .i64 r.to.2, .int .i64 r.kind]
def arV (k : Int) (a b : Ps) : Value := .agg #[.int .i64 k, .int .i64 a.1, .int .i64 a.2, .int .i64 b.1, .int .i64 b.2]
structure RgP (r : Rg) : Prop where
  fr : P64 r.fr
  to : P64 r.to
  kind : -9223372036854775808 ≤ r.kind ∧ r.kind ≤ 9223372036854775807
/-- What at tells. -/
def atT (l : List (List Int)) (r : Rg) : Value := .tuple #[if thereR l r = 0 then arV r.kind (endsR r).1 (endsR r).2 else arV r.kind r.fr r.to, .int .i64 (thereR l r)]
section
variable {F : Nat → Prop} {w : World} {v : Value} {l : List (List Int)} {r : Rg}
set_option maxHeartbeats 8000000 in
theorem at_calls (h : Sl kRow F w v l) (hr : RgP r) : CallsR Try.prog 38 #[v, rgV r] w fun u w' => Kn w w' ∧ u = atT l r := by
  obtain ⟨A, c, ad, rV, rc, ra, rfl, hR⟩ := h.rws
  have hlen := hR.len
  have hcl := fun (p : Ps) (hp : P64 p) (w' : World) (hk : Kn w w') => clipP_calls (p := p) (Kn.sl hk h) hp
  have hf := hr.fr
  have ht := hr.to
  unfold rgV
  refine l_enter (fun _ => False) Try.func38 rfl rfl ?_
  repeat(first|refine lrun_ ?_|(refine lo_boxA rfl rfl ?_;intro _ _ _)|(refine lo_box1 rfl rfl rfl ?_;intro _ _ _)|(refine lo_alloc rfl ?_;intro _ _ _))
  rename_i g3 _ _ g4 _ _ g6 _ _
  by_cases h1 : r.kind < 0
  · have e : thereR l r = 1 := by unfold thereR; rw [if_pos (.inl h1)]
    unfold atT
    rw [e]
    repeat(first|refine lrun_ ?_|(refine lo_boxA rfl rfl ?_;intro _ _ _)|(refine lo_box1 rfl rfl rfl ?_;intro _ _ _)|(refine lo_alloc rfl ?_;intro _ _ _))
    refine l_true rfl ?_
    repeat(first|refine lrun_ ?_|(refine lo_boxA rfl rfl ?_;intro _ _ _)|(refine lo_box1 rfl rfl rfl ?_;intro _ _ _)|(refine lo_alloc rfl ?_;intro _ _ _))
    exact l_retR2 rfl (by repeat(first|exact LRes.nil|refine LRes.tmp rfl ?_|refine LRes.agg rfl (by(repeat(first|exact MIn.hd|refine MIn.tl ?_));done) (by rfl) (by rfl) ?_|refine LRes.one rfl (by(repeat(first|exact MIn.hd|refine MIn.tl ?_));done) (by rfl) ?_)) fun w hw => ⟨hw.org, rfl⟩
  by_cases h2 : 2 < r.kind
  · have e : thereR l r = 1 := by unfold thereR; rw [if_pos (.inr h2)]
    unfold atT
    rw [e]
    repeat(first|refine lrun_ ?_|(refine lo_boxA rfl rfl ?_;intro _ _ _)|(refine lo_box1 rfl rfl rfl ?_;intro _ _ _)|(refine lo_alloc rfl ?_;intro _ _ _))
    refine l_yes rfl h2 ?_
    repeat(first|refine lrun_ ?_|(refine lo_boxA rfl rfl ?_;intro _ _ _)|(refine lo_box1 rfl rfl rfl ?_;intro _ _ _)|(refine lo_alloc rfl ?_;intro _ _ _))
    exact l_retR2 rfl (by repeat(first|exact LRes.nil|refine LRes.tmp rfl ?_|refine LRes.agg rfl (by(repeat(first|exact MIn.hd|refine MIn.tl ?_));done) (by rfl) (by rfl) ?_|refine LRes.one rfl (by(repeat(first|exact MIn.hd|refine MIn.tl ?_));done) (by rfl) ?_)) fun w hw => ⟨hw.org, rfl⟩
  have e0 : thereR l r = if l = [] ∨ clipM l r.fr ≠ r.fr ∨ clipM l r.to ≠ r.to then 2 else 0 := by unfold thereR; rw [if_neg (by omega)]
  repeat(first|refine lrun_ ?_|(refine lo_boxA rfl rfl ?_;intro _ _ _)|(refine lo_box1 rfl rfl rfl ?_;intro _ _ _)|(refine lo_alloc rfl ?_;intro _ _ _))
  refine l_no rfl h2 ?_
  repeat(first|refine lrun_ ?_|(refine lo_boxA rfl rfl ?_;intro _ _ _)|(refine lo_box1 rfl rfl rfl ?_;intro _ _ _)|(refine lo_alloc rfl ?_;intro _ _ _))
  by_cases hl0 : l = []
  · rw [if_pos (.inl hl0)] at e0
    have e : l.length = 0 := by rw [hl0]; rfl
    unfold atT
    rw [e0]
    refine l_draw [(0, 0), (1, 0), (2, 0), (3, 0), (4, 0), (5, 0), (6, 0), (8, 0), (9, 0), (7, 1), (10, 0), (11, 0), (12, 0), (13, 0), (14, 0), (15, 0), (17, 0), (18, 0), (16, 1), (19, 0), (20, 0)] (by kernel_rfl) (by kernel_rfl) rfl (by kernel_rfl) ?_
    repeat(first|refine lrund_ ?_|(refine ld_open rfl ?_;first|(refine ld_boxA rfl wy_ rfl ?_;intro _ _ _)|(refine ld_box1 rfl rfl wy_ rfl ?_;intro _ _ _)|(refine ld_alloc wy_ rfl ?_;intro _ _ _)))
    refine l_true rfl ?_
    repeat(first|refine lrun_ ?_|(refine lo_boxA rfl rfl ?_;intro _ _ _)|(refine lo_box1 rfl rfl rfl ?_;intro _ _ _)|(refine lo_alloc rfl ?_;intro _ _ _))
    exact l_retR2 rfl (by repeat(first|exact LRes.nil|refine LRes.tmp rfl ?_|refine LRes.agg rfl (by(repeat(first|exact MIn.hd|refine MIn.tl ?_));done) (by rfl) (by rfl) ?_|refine LRes.one rfl (by(repeat(first|exact MIn.hd|refine MIn.tl ?_));done) (by rfl) ?_)) fun w hw => ⟨hw.org, rfl⟩
  have hl1 : ¬ (l.length : Int) = 0 := by have := List.length_pos_iff.2 hl0; omega
  by_cases hc1 : clipM l r.fr = r.fr
  case neg =>
    rw [if_pos (.inr (.inl hc1))] at e0
    have hne : ¬ ((clipM l r.fr).1 = r.fr.1 ∧ (clipM l r.fr).2 = r.fr.2) := fun e => hc1 (Prod.ext e.1 e.2)
    unfold atT
    rw [e0]
    refine l_draw [(0, 0), (1, 0), (2, 0), (3, 0), (4, 0), (5, 0), (6, 0), (8, 0), (9, 0), (7, 1), (10, 0), (11, 0), (12, 0), (13, 0), (14, 0), (15, 0), (17, 0), (18, 0), (16, 1), (19, 0), (20, 0)] (by kernel_rfl) (by kernel_rfl) rfl (by kernel_rfl) ?_
    repeat(first|refine lrund_ ?_|(refine ld_open rfl ?_;first|(refine ld_boxA rfl wy_ rfl ?_;intro _ _ _)|(refine ld_box1 rfl rfl wy_ rfl ?_;intro _ _ _)|(refine ld_alloc wy_ rfl ?_;intro _ _ _)))
    refine ld_open rfl ?_; refine ld_call (n_call rfl) wy_ rfl (fun w hw => hcl r.fr hf w hw.org) ?_
    repeat(first|refine lrund_ ?_|(refine ld_open rfl ?_;first|(refine ld_boxA rfl wy_ rfl ?_;intro _ _ _)|(refine ld_box1 rfl rfl wy_ rfl ?_;intro _ _ _)|(refine ld_alloc wy_ rfl ?_;intro _ _ _)))
    refine l_true rfl ?_
    repeat(first|refine lrun_ ?_|(refine lo_boxA rfl rfl ?_;intro _ _ _)|(refine lo_box1 rfl rfl rfl ?_;intro _ _ _)|(refine lo_alloc rfl ?_;intro _ _ _))
    exact l_retR2 rfl (by repeat(first|exact LRes.nil|refine LRes.tmp rfl ?_|refine LRes.agg rfl (by(repeat(first|exact MIn.hd|refine MIn.tl ?_));done) (by rfl) (by rfl) ?_|refine LRes.one rfl (by(repeat(first|exact MIn.hd|refine MIn.tl ?_));done) (by rfl) ?_)) fun w hw => ⟨hw.org, rfl⟩
  have hcl1 := fun (w' : World) (hk : Kn w w') => hc1 ▸ hcl r.fr hf w' hk
  by_cases hc2 : clipM l r.to = r.to
  case neg =>
    rw [if_pos (.inr (.inr hc2))] at e0
    have hne : ¬ ((clipM l r.to).1 = r.to.1 ∧ (clipM l r.to).2 = r.to.2) := fun e => hc2 (Prod.ext e.1 e.2)
    unfold atT
    rw [e0]
    refine l_draw [(0, 0), (1, 0), (2, 0), (3, 0), (4, 0), (5, 0), (6, 0), (8, 0), (9, 0), (7, 1), (10, 0), (11, 0), (12, 0), (13, 0), (14, 0), (15, 0), (17, 0), (18, 0), (16, 1), (19, 0), (20, 0)] (by kernel_rfl) (by kernel_rfl) rfl (by kernel_rfl) ?_
    repeat(first|refine lrund_ ?_|(refine ld_open rfl ?_;first|(refine ld_boxA rfl wy_ rfl ?_;intro _ _ _)|(refine ld_box1 rfl rfl wy_ rfl ?_;intro _ _ _)|(refine ld_alloc wy_ rfl ?_;intro _ _ _)))
    refine ld_open rfl ?_; refine ld_call (n_call rfl) wy_ rfl (fun w hw => hcl1 w hw.org) ?_
    repeat(first|refine lrund_ ?_|(refine ld_open rfl ?_;first|(refine ld_boxA rfl wy_ rfl ?_;intro _ _ _)|(refine ld_box1 rfl rfl wy_ rfl ?_;intro _ _ _)|(refine ld_alloc wy_ rfl ?_;intro _ _ _)))
    refine ld_open rfl ?_; refine ld_call (n_call rfl) wy_ rfl (fun w hw => hcl r.to ht w hw.org) ?_
    repeat(first|refine lrund_ ?_|(refine ld_open rfl ?_;first|(refine ld_boxA rfl wy_ rfl ?_;intro _ _ _)|(refine ld_box1 rfl rfl wy_ rfl ?_;intro _ _ _)|(refine ld_alloc wy_ rfl ?_;intro _ _ _)))
    refine l_yes rfl hne ?_
    repeat(first|refine lrun_ ?_|(refine lo_boxA rfl rfl ?_;intro _ _ _)|(refine lo_box1 rfl rfl rfl ?_;intro _ _ _)|(refine lo_alloc rfl ?_;intro _ _ _))
    exact l_retR2 rfl (by repeat(first|exact LRes.nil|refine LRes.tmp rfl ?_|refine LRes.agg rfl (by(repeat(first|exact MIn.hd|refine MIn.tl ?_));done) (by rfl) (by rfl) ?_|refine LRes.one rfl (by(repeat(first|exact MIn.hd|refine MIn.tl ?_));done) (by rfl) ?_)) fun w hw => ⟨hw.org, rfl⟩
  rw [if_neg (fun h => h.elim hl0 fun h => h.elim (fun h => h hc1) fun h => h hc2)] at e0
  have hcl2 := fun (w' : World) (hk : Kn w w') => hc2 ▸ hcl r.to ht w' hk
  unfold atT
  rw [e0, if_pos rfl]
  refine l_draw [(0, 0), (1, 0), (2, 0), (3, 0), (4, 0), (5, 0), (6, 0), (8, 0), (9, 0), (7, 1), (10, 0), (11, 0), (12, 0), (13, 0), (14, 0), (15, 0), (17, 0), (18, 0), (16, 1), (19, 0), (20, 0)] (by kernel_rfl) (by kernel_rfl) rfl (by kernel_rfl) ?_
  repeat(first|refine lrund_ ?_|(refine ld_open rfl ?_;first|(refine ld_boxA rfl wy_ rfl ?_;intro _ _ _)|(refine ld_box1 rfl rfl wy_ rfl ?_;intro _ _ _)|(refine ld_alloc wy_ rfl ?_;intro _ _ _)))
  refine ld_open rfl ?_; refine ld_call (n_call rfl) wy_ rfl (fun w hw => hcl1 w hw.org) ?_
  repeat(first|refine lrund_ ?_|(refine ld_open rfl ?_;first|(refine ld_boxA rfl wy_ rfl ?_;intro _ _ _)|(refine ld_box1 rfl rfl wy_ rfl ?_;intro _ _ _)|(refine ld_alloc wy_ rfl ?_;intro _ _ _)))
  refine ld_open rfl ?_; refine ld_call (n_call rfl) wy_ rfl (fun w hw => hcl2 w hw.org) ?_
  repeat(first|refine lrund_ ?_|(refine ld_open rfl ?_;first|(refine ld_boxA rfl wy_ rfl ?_;intro _ _ _)|(refine ld_box1 rfl rfl wy_ rfl ?_;intro _ _ _)|(refine ld_alloc wy_ rfl ?_;intro _ _ _)))
  refine l_no rfl (fun h => h ⟨rfl, rfl⟩) ?_
  have hsw : ∀ (g3 g4 g6 : Nat) σ', SubB σ' [(3, .pointer (some ⟨g3, 0, none⟩)), (4, .pointer (some ⟨g4, 0, none⟩)), (6, .pointer (some ⟨g6, 0, none⟩))] → ∀ (a b : Ps), endsR r = (a, b) → ∀ M', MSub [(g6, cb [.int .i64 r.kind, .int .i64 a.1, .int .i64 a.2, .int .i64 b.1, .int .i64 b.2] 68), (g4, cb [.int .i64 0, .int .i64 0, .int .i64 0, .int .i64 0, .int .i64 0] 68)] M' →
      WL Try.prog Try.f38 [.code (bodyC Try.f38 [1, 1, 1, 1, 1])] σ' w (fun _ => False) w (fun _ => False) M' fun u w' => Kn w w' ∧ u = .tuple #[arV r.kind (endsR r).1 (endsR r).2, .int .i64 0] := by
    intro g3 g4 g6 σ' hs a b he M' hM
    refine WL.sub hs hM ?_
    rw [he]
    repeat(first|refine lrun_ ?_|(refine lo_boxA rfl rfl ?_;intro _ _ _)|(refine lo_box1 rfl rfl rfl ?_;intro _ _ _)|(refine lo_alloc rfl ?_;intro _ _ _))
    exact l_retR2 rfl (by repeat(first|exact LRes.nil|refine LRes.tmp rfl ?_|refine LRes.agg rfl (by(repeat(first|exact MIn.hd|refine MIn.tl ?_));done) (by rfl) (by rfl) ?_|refine LRes.one rfl (by(repeat(first|exact MIn.hd|refine MIn.tl ?_));done) (by rfl) ?_)) fun w hw => ⟨hw.org, rfl⟩
  have hah : aheadM r.to r.fr = decide (r.to.1 < r.fr.1 ∨ r.to.1 = r.fr.1 ∧ r.to.2 < r.fr.2) := rfl
  by_cases c1 : r.to.1 < r.fr.1
  · have he : endsR r = (r.to, r.fr) := by unfold endsR; rw [hah, if_pos (decide_eq_true (.inl c1))]
    repeat(first|refine lrun_ ?_|(refine lo_boxA rfl rfl ?_;intro _ _ _)|(refine lo_box1 rfl rfl rfl ?_;intro _ _ _)|(refine lo_alloc rfl ?_;intro _ _ _))
    refine l_true rfl ?_
    repeat(first|refine lrun_ ?_|(refine lo_boxA rfl rfl ?_;intro _ _ _)|(refine lo_box1 rfl rfl rfl ?_;intro _ _ _)|(refine lo_alloc rfl ?_;intro _ _ _))
    refine lo_storeN rfl rfl (by(repeat(first|exact MIn.hd|refine MIn.tl ?_));done) (by rfl) rfl rfl (by rfl) (by repeat(first|exact Nf.nil|apply Nf.cons)) (by first|exact .hd|exact .tl .hd|exact .tl (.tl .hd)|exact .tl (.tl (.tl .hd))|exact .tl (.tl (.tl (.tl .hd)))|exact .tl (.tl (.tl (.tl (.tl .hd))))|exact .tl (.tl (.tl (.tl (.tl (.tl .hd)))))|exact .tl (.tl (.tl (.tl (.tl (.tl (.tl .hd))))))|exact .tl (.tl (.tl (.tl (.tl (.tl (.tl (.tl .hd)))))))) rfl ?_
    repeat(first|refine lops_ ?_|(refine lo_boxA rfl rfl ?_;intro _ _ _)|(refine lo_box1 rfl rfl rfl ?_;intro _ _ _)|(refine lo_alloc rfl ?_;intro _ _ _))
    refine lo_storeN rfl rfl (by(repeat(first|exact MIn.hd|refine MIn.tl ?_));done) (by rfl) rfl rfl (by rfl) (by repeat(first|exact Nf.nil|apply Nf.cons)) (by first|exact .hd|exact .tl .hd|exact .tl (.tl .hd)|exact .tl (.tl (.tl .hd))|exact .tl (.tl (.tl (.tl .hd)))|exact .tl (.tl (.tl (.tl (.tl .hd))))|exact .tl (.tl (.tl (.tl (.tl (.tl .hd)))))|exact .tl (.tl (.tl (.tl (.tl (.tl (.tl .hd))))))|exact .tl (.tl (.tl (.tl (.tl (.tl (.tl (.tl .hd)))))))) rfl ?_
    refine lo_nil ?_
    exact hsw _ _ _ _ (by repeat (first | exact SubB.nil | refine SubB.cons rfl ?_)) _ _ he _ (by repeat(first|exact MSub.refl|refine MSub.keep rfl ?_|exact MSub.nil|apply MSub.drop))
  · by_cases c2 : r.to.1 = r.fr.1
    · by_cases c3 : r.to.2 < r.fr.2
      · have he : endsR r = (r.to, r.fr) := by unfold endsR; rw [hah, if_pos (decide_eq_true (.inr ⟨c2, c3⟩))]
        repeat(first|refine lrun_ ?_|(refine lo_boxA rfl rfl ?_;intro _ _ _)|(refine lo_box1 rfl rfl rfl ?_;intro _ _ _)|(refine lo_alloc rfl ?_;intro _ _ _))
        refine l_yes rfl c3 ?_
        repeat(first|refine lrun_ ?_|(refine lo_boxA rfl rfl ?_;intro _ _ _)|(refine lo_box1 rfl rfl rfl ?_;intro _ _ _)|(refine lo_alloc rfl ?_;intro _ _ _))
        refine lo_storeN rfl rfl (by(repeat(first|exact MIn.hd|refine MIn.tl ?_));done) (by rfl) rfl rfl (by rfl) (by repeat(first|exact Nf.nil|apply Nf.cons)) (by first|exact .hd|exact .tl .hd|exact .tl (.tl .hd)|exact .tl (.tl (.tl .hd))|exact .tl (.tl (.tl (.tl .hd)))|exact .tl (.tl (.tl (.tl (.tl .hd))))|exact .tl (.tl (.tl (.tl (.tl (.tl .hd)))))|exact .tl (.tl (.tl (.tl (.tl (.tl (.tl .hd))))))|exact .tl (.tl (.tl (.tl (.tl (.tl (.tl (.tl .hd)))))))) rfl ?_
        repeat(first|refine lops_ ?_|(refine lo_boxA rfl rfl ?_;intro _ _ _)|(refine lo_box1 rfl rfl rfl ?_;intro _ _ _)|(refine lo_alloc rfl ?_;intro _ _ _))
        refine lo_storeN rfl rfl (by(repeat(first|exact MIn.hd|refine MIn.tl ?_));done) (by rfl) rfl rfl (by rfl) (by repeat(first|exact Nf.nil|apply Nf.cons)) (by first|exact .hd|exact .tl .hd|exact .tl (.tl .hd)|exact .tl (.tl (.tl .hd))|exact .tl (.tl (.tl (.tl .hd)))|exact .tl (.tl (.tl (.tl (.tl .hd))))|exact .tl (.tl (.tl (.tl (.tl (.tl .hd)))))|exact .tl (.tl (.tl (.tl (.tl (.tl (.tl .hd))))))|exact .tl (.tl (.tl (.tl (.tl (.tl (.tl (.tl .hd)))))))) rfl ?_
        refine lo_nil ?_
        exact hsw _ _ _ _ (by repeat (first | exact SubB.nil | refine SubB.cons rfl ?_)) _ _ he _ (by repeat(first|exact MSub.refl|refine MSub.keep rfl ?_|exact MSub.nil|apply MSub.drop))
      · have he : endsR r = (r.fr, r.to) := by unfold endsR; rw [hah, if_neg (by simp only [decide_eq_true_eq]; omega)]
        repeat(first|refine lrun_ ?_|(refine lo_boxA rfl rfl ?_;intro _ _ _)|(refine lo_box1 rfl rfl rfl ?_;intro _ _ _)|(refine lo_alloc rfl ?_;intro _ _ _))
        refine l_no rfl c3 ?_
        refine l_go .skip ?_
        exact hsw _ _ _ _ (by repeat (first | exact SubB.nil | refine SubB.cons rfl ?_)) _ _ he _ (by repeat(first|exact MSub.refl|refine MSub.keep rfl ?_|exact MSub.nil|apply MSub.drop))
    · have he : endsR r = (r.fr, r.to) := by unfold endsR; rw [hah, if_neg (by simp only [decide_eq_true_eq]; omega)]
      repeat(first|refine lrun_ ?_|(refine lo_boxA rfl rfl ?_;intro _ _ _)|(refine lo_box1 rfl rfl rfl ?_;intro _ _ _)|(refine lo_alloc rfl ?_;intro _ _ _))
      refine l_false rfl ?_
      refine l_go .skip ?_
      exact hsw _ _ _ _ (by repeat (first | exact SubB.nil | refine SubB.cons rfl ?_)) _ _ he _ (by repeat(first|exact MSub.refl|refine MSub.keep rfl ?_|exact MSub.nil|apply MSub.drop))
end
end Go.Ink

set_option linter.unusedVariables false
set_option linter.unusedSimpArgs false
namespace Go.Ink
open Go Go.Proofs

/-- The columns of a line of n runes. -/
def colsA (k : Int) (a b : Ps) (n : Int) (i : Int) : Int × Int :=
  let f0 := if k = 2 then (if b.2 < a.2 then b.2 else a.2) else 0
  let t0 := if k = 2 then (if a.2 < b.2 then b.2 else a.2) + 1 else n
  let f1 := if k = 0 ∧ i = a.1 then a.2 else f0
  let t1 := if k = 0 ∧ i = b.1 then b.2 + 1 else t0
  let t2 := if n < t1 then n else t1
  (if t2 < f1 then t2 else f1, t2)
theorem colsA_R (r : Rg) (n i : Int) : colsR r n i = colsA r.kind (endsR r).1 (endsR r).2 n i := rfl
section
variable {F : Nat → Prop} {w : World} {v : Value} {l : List (List Int)} {a b : Ps} {k : Int} {i : Nat}
set_option maxHeartbeats 8000000 in
theorem columns_calls (h : Sl kRow F w v l) (hi : i < l.length) (ha : 0 ≤ a.2 ∧ a.2 ≤ 140737488355328) (hb : 0 ≤ b.2 ∧ b.2 ≤ 140737488355328) : CallsR Try.prog 72 #[arV k a b, v, .int .i64 i] w fun u w' => Kn w w' ∧ u = .tuple #[.int .i64 (colsA k a b (l.getD i []).length i).1, .int .i64 (colsA k a b (l.getD i []).length i).2] := by
  obtain ⟨A, c, ad, rV, rc, ra, rfl, hR⟩ := h.rws
  have hrl := hR.rl i
  have J3 : ∀ (f1 t1 : Int), -1 ≤ t1 ∧ t1 ≤ 140737488355329 → -1 ≤ f1 ∧ f1 ≤ 140737488355329 → colsA k a b (l.getD i []).length i = (if (if ((l.getD i []).length : Int) < t1 then ((l.getD i []).length : Int) else t1) < f1 then (if ((l.getD i []).length : Int) < t1 then ((l.getD i []).length : Int) else t1) else f1, if ((l.getD i []).length : Int) < t1 then ((l.getD i []).length : Int) else t1) →
      ∀ σ', SubB σ' [(8, .int .i64 (l.getD i []).length), (9, .int .i64 f1), (10, .int .i64 t1)] → ∀ M',
      WL Try.prog Try.f72 [.code (bodyC Try.f72 [1, 1, 1, 1, 1, 1])] σ' w (fun _ => False) w (fun _ => False) M' fun u w' => Kn w w' ∧ u = .tuple #[.int .i64 (colsA k a b (l.getD i []).length i).1, .int .i64 (colsA k a b (l.getD i []).length i).2] := by
    intro f1 t1 ht hf he σ' hs M'
    refine WL.sub hs .nil ?_
    rw [he]
    repeat(first|refine lrun_ ?_|(refine lo_boxA rfl rfl ?_;intro _ _ _)|(refine lo_box1 rfl rfl rfl ?_;intro _ _ _)|(refine lo_alloc rfl ?_;intro _ _ _))
    exact l_retR2 rfl (by repeat(first|exact LRes.nil|refine LRes.tmp rfl ?_|refine LRes.agg rfl (by(repeat(first|exact MIn.hd|refine MIn.tl ?_));done) (by rfl) (by rfl) ?_|refine LRes.one rfl (by(repeat(first|exact MIn.hd|refine MIn.tl ?_));done) (by rfl) ?_)) fun w hw => ⟨hw.org, rfl⟩
  have J2 : ∀ (g : Nat) (f1 t0 : Int), -1 ≤ t0 ∧ t0 ≤ 140737488355329 → -1 ≤ f1 ∧ f1 ≤ 140737488355329 → colsA k a b (l.getD i []).length i = (let t1 := if k = 0 ∧ (i : Int) = b.1 then b.2 + 1 else t0; (if (if ((l.getD i []).length : Int) < t1 then ((l.getD i []).length : Int) else t1) < f1 then (if ((l.getD i []).length : Int) < t1 then ((l.getD i []).length : Int) else t1) else f1, if ((l.getD i []).length : Int) < t1 then ((l.getD i []).length : Int) else t1)) →
      ∀ σ', SubB σ' [(2, .int .i64 i), (3, .pointer (some ⟨g, 0, none⟩)), (8, .int .i64 (l.getD i []).length), (9, .int .i64 f1), (10, .int .i64 t0)] → ∀ M', MSub [(g, cb [.int .i64 k, .int .i64 a.1, .int .i64 a.2, .int .i64 b.1, .int .i64 b.2] 68)] M' →
      WL Try.prog Try.f72 [.code (bodyC Try.f72 [1, 1, 1, 1, 1])] σ' w (fun _ => False) w (fun _ => False) M' fun u w' => Kn w w' ∧ u = .tuple #[.int .i64 (colsA k a b (l.getD i []).length i).1, .int .i64 (colsA k a b (l.getD i []).length i).2] := by
    intro g f1 t0 ht hf he σ' hs M' hM
    refine WL.sub hs hM ?_
    by_cases hk : k = 0
    · by_cases hib : (i : Int) = b.1
      · rw [if_pos ⟨hk, hib⟩] at he
        repeat(first|refine lrun_ ?_|(refine lo_boxA rfl rfl ?_;intro _ _ _)|(refine lo_box1 rfl rfl rfl ?_;intro _ _ _)|(refine lo_alloc rfl ?_;intro _ _ _))
        refine l_yes rfl hib ?_
        refine l_region ?_;(repeat(first|refine lops_ ?_|(refine lo_boxA rfl rfl ?_;intro _ _ _)|(refine lo_box1 rfl rfl rfl ?_;intro _ _ _)|(refine lo_alloc rfl ?_;intro _ _ _)));refine lo_nil ?_
        exact J3 f1 (b.2 + 1) (by omega) hf he _ (by repeat (first | exact SubB.nil | refine SubB.cons rfl ?_)) _
      · rw [if_neg (fun h => hib h.2)] at he
        repeat(first|refine lrun_ ?_|(refine lo_boxA rfl rfl ?_;intro _ _ _)|(refine lo_box1 rfl rfl rfl ?_;intro _ _ _)|(refine lo_alloc rfl ?_;intro _ _ _))
        refine l_no rfl hib ?_
        refine l_go .skip ?_
        exact J3 f1 t0 ht hf he _ (by repeat (first | exact SubB.nil | refine SubB.cons rfl ?_)) _
    · rw [if_neg (fun h => hk h.1)] at he
      repeat(first|refine lrun_ ?_|(refine lo_boxA rfl rfl ?_;intro _ _ _)|(refine lo_box1 rfl rfl rfl ?_;intro _ _ _)|(refine lo_alloc rfl ?_;intro _ _ _))
      refine l_false rfl ?_
      refine l_go .skip ?_
      exact J3 f1 t0 ht hf he _ (by repeat (first | exact SubB.nil | refine SubB.cons rfl ?_)) _
  have J1 : ∀ (g : Nat) (f0 t0 : Int), -1 ≤ t0 ∧ t0 ≤ 140737488355329 → -1 ≤ f0 ∧ f0 ≤ 140737488355329 → colsA k a b (l.getD i []).length i = (let f1 := if k = 0 ∧ (i : Int) = a.1 then a.2 else f0; let t1 := if k = 0 ∧ (i : Int) = b.1 then b.2 + 1 else t0; (if (if ((l.getD i []).length : Int) < t1 then ((l.getD i []).length : Int) else t1) < f1 then (if ((l.getD i []).length : Int) < t1 then ((l.getD i []).length : Int) else t1) else f1, if ((l.getD i []).length : Int) < t1 then ((l.getD i []).length : Int) else t1)) →
      ∀ σ', SubB σ' [(2, .int .i64 i), (3, .pointer (some ⟨g, 0, none⟩)), (8, .int .i64 (l.getD i []).length), (9, .int .i64 f0), (10, .int .i64 t0)] → ∀ M', MSub [(g, cb [.int .i64 k, .int .i64 a.1, .int .i64 a.2, .int .i64 b.1, .int .i64 b.2] 68)] M' →
      WL Try.prog Try.f72 [.code (bodyC Try.f72 [1, 1, 1, 1])] σ' w (fun _ => False) w (fun _ => False) M' fun u w' => Kn w w' ∧ u = .tuple #[.int .i64 (colsA k a b (l.getD i []).length i).1, .int .i64 (colsA k a b (l.getD i []).length i).2] := by
    intro g f0 t0 ht hf he σ' hs M' hM
    refine WL.sub hs hM ?_
    by_cases hk : k = 0
    · by_cases hib : (i : Int) = a.1
      · rw [if_pos ⟨hk, hib⟩] at he
        repeat(first|refine lrun_ ?_|(refine lo_boxA rfl rfl ?_;intro _ _ _)|(refine lo_box1 rfl rfl rfl ?_;intro _ _ _)|(refine lo_alloc rfl ?_;intro _ _ _))
        refine l_yes rfl hib ?_
        refine l_region ?_;(repeat(first|refine lops_ ?_|(refine lo_boxA rfl rfl ?_;intro _ _ _)|(refine lo_box1 rfl rfl rfl ?_;intro _ _ _)|(refine lo_alloc rfl ?_;intro _ _ _)));refine lo_nil ?_
        exact J2 _ a.2 t0 ht (by omega) he _ (by repeat (first | exact SubB.nil | refine SubB.cons rfl ?_)) _ (by repeat(first|exact MSub.refl|refine MSub.keep rfl ?_|exact MSub.nil|apply MSub.drop))
      · rw [if_neg (fun h => hib h.2)] at he
        repeat(first|refine lrun_ ?_|(refine lo_boxA rfl rfl ?_;intro _ _ _)|(refine lo_box1 rfl rfl rfl ?_;intro _ _ _)|(refine lo_alloc rfl ?_;intro _ _ _))
        refine l_no rfl hib ?_
        refine l_go .skip ?_
        exact J2 _ f0 t0 ht hf he _ (by repeat (first | exact SubB.nil | refine SubB.cons rfl ?_)) _ (by repeat(first|exact MSub.refl|refine MSub.keep rfl ?_|exact MSub.nil|apply MSub.drop))
    · rw [if_neg (fun h => hk h.1)] at he
      repeat(first|refine lrun_ ?_|(refine lo_boxA rfl rfl ?_;intro _ _ _)|(refine lo_box1 rfl rfl rfl ?_;intro _ _ _)|(refine lo_alloc rfl ?_;intro _ _ _))
      refine l_false rfl ?_
      refine l_go .skip ?_
      exact J2 _ f0 t0 ht hf he _ (by repeat (first | exact SubB.nil | refine SubB.cons rfl ?_)) _ (by repeat(first|exact MSub.refl|refine MSub.keep rfl ?_|exact MSub.nil|apply MSub.drop))
  unfold arV
  refine l_enter (fun _ => False) Try.func72 rfl rfl ?_
  by_cases hk : k = 2
  · repeat(first|refine lrun_ ?_|(refine lo_boxA rfl rfl ?_;intro _ _ _)|(refine lo_box1 rfl rfl rfl ?_;intro _ _ _)|(refine lo_alloc rfl ?_;intro _ _ _))
    refine l_yes rfl hk ?_
    refine l_draw [(0, 0), (1, 0), (2, 0), (3, 0), (4, 0), (5, 0), (6, 0), (7, 0), (8, 0), (9, 0), (10, 0), (11, 0), (12, 0), (13, 0), (14, 0), (15, 0), (16, 0)] (by kernel_rfl) (by kernel_rfl) rfl (by kernel_rfl) ?_
    repeat(first|refine lrund_ ?_|(refine ld_open rfl ?_;first|(refine ld_boxA rfl wy_ rfl ?_;intro _ _ _)|(refine ld_box1 rfl rfl wy_ rfl ?_;intro _ _ _)|(refine ld_alloc wy_ rfl ?_;intro _ _ _)))
    exact J1 _ (if b.2 < a.2 then b.2 else a.2) ((if a.2 < b.2 then b.2 else a.2) + 1) (by split <;> omega) (by split <;> omega) (by unfold colsA; rw [if_pos hk, if_pos hk]) _ (by repeat (first | exact SubB.nil | refine SubB.cons rfl ?_)) _ (by repeat(first|exact MSub.refl|refine MSub.keep rfl ?_|exact MSub.nil|apply MSub.drop))
  · repeat(first|refine lrun_ ?_|(refine lo_boxA rfl rfl ?_;intro _ _ _)|(refine lo_box1 rfl rfl rfl ?_;intro _ _ _)|(refine lo_alloc rfl ?_;intro _ _ _))
    refine l_no rfl hk ?_
    refine l_go .skip ?_
    exact J1 _ 0 (l.getD i []).length (by omega) (by omega) (by unfold colsA; rw [if_neg hk, if_neg hk]) _ (by repeat (first | exact SubB.nil | refine SubB.cons rfl ?_)) _ (by repeat(first|exact MSub.refl|refine MSub.keep rfl ?_|exact MSub.nil|apply MSub.drop))
end
end Go.Ink

set_option linter.unusedVariables false
set_option linter.unusedSimpArgs false
namespace Go.Ink
open Go Go.Proofs Go.RowKit

def gatM (res : Nat → List Int) (i0 : Nat) : Nat → List (List Int)
  | 0 => []
  | n + 1 => gatM res i0 n ++ [res (i0 + n)]
theorem gat_len (res : Nat → List Int) (i0 : Nat) : ∀ n, (gatM res i0 n).length = n
  | 0 => rfl
  | n + 1 => by unfold gatM; rw [List.length_append, gat_len res i0 n]; rfl
set_option maxHeartbeats 8000000 in
theorem gatherT_calls {F : Nat → Prop} {w : World} {v : Value} {l : List (List Int)} {f : FuncId} [hfn : FnT Try.prog f] {cap : List Value} {k : Int} {a b : Ps} {i0 n : Nat} {res : Nat → List Int} (h : Sl kRow F w v l)
    (ha1 : a.1 = (i0 : Int)) (hb1 : b.1 + 1 = ((i0 + n : Nat) : Int)) (hin : i0 + n ≤ l.length) (ha : 0 ≤ a.2 ∧ a.2 ≤ 140737488355328) (hb : 0 ≤ b.2 ∧ b.2 ≤ 140737488355328)
    (hf : ∀ w', Kn w w' → ∀ j u, i0 ≤ j → j < i0 + n → Sl kRune F w' u (l.getD j []) → CallsR Try.prog f (([u, .int .i64 (colsA k a b (l.getD j []).length j).1, .int .i64 (colsA k a b (l.getD j []).length j).2] ++ cap).toArray) w' fun r w'' => Kn w' w'' ∧ Ow kRune (noB w') (fun _ => False) w'' r (res j)) :
    CallsR Try.prog 39 #[arV k a b, v, .func (.func f) #[] cap.toArray] w fun u w' => Kn w w' ∧ ∃ us, Tab (noB w) (fun _ => True) w' u us (gatM res i0 n) := by
  obtain ⟨A, c, ad, rV, rc, ra, rfl, hR⟩ := h.rws
  have hlen := hR.len
  have hfit : l.length * 24 ≤ 140737488355328 := by obtain ⟨_, _, e, _, h4⟩ := h.form; exact h4
  have harr : arV k a b = .agg #[.int .i64 k, .int .i64 (i0 : Int), .int .i64 a.2, .int .i64 b.1, .int .i64 b.2] := by unfold arV; rw [ha1]
  have hcol := fun (j : Nat) (hj : j < l.length) (w' : World) (hk : Kn w w') => columns_calls (k := k) (a := a) (b := b) (i := j) (Kn.sl hk h) hj ha hb
  rw [harr] at hcol ⊢
  refine l_enter (fun _ => False) Try.func39 rfl rfl ?_
  repeat(first|refine lrun_ ?_|(refine lo_boxA rfl rfl ?_;intro _ _ _)|(refine lo_box1 rfl rfl rfl ?_;intro _ _ _)|(refine lo_alloc rfl ?_;intro _ _ _))
  rename_i g hg _
  refine l_whileB (fun s : Nat × Option Addr × Nat × List Value => n - s.1) (fun s => [(1, .slice A l.length c), (2, .func (.func f) #[] cap.toArray), (3, .pointer (some ⟨g, 0, none⟩)), (7, .slice s.2.1 (gatM res i0 s.1).length s.2.2.1), (8, .int .i64 ((i0 + s.1 : Nat) : Int))]) (fun _ => [(g, cb [.int .i64 k, .int .i64 (i0 : Int), .int .i64 a.2, .int .i64 b.1, .int .i64 b.2] 68)])
    (fun s b' => s.1 ≤ n ∧ Tab (fre w (MK [(g, cb [.int .i64 k, .int .i64 (i0 : Int), .int .i64 a.2, .int .i64 b.1, .int .i64 b.2] 68)])) (fun _ => True) b' (.slice s.2.1 (gatM res i0 s.1).length s.2.2.1) s.2.2.2 (gatM res i0 s.1)) (0, none, 0, []) (by repeat (first | exact SubB.nil | refine SubB.cons rfl ?_)) (by repeat(first|exact MSub.refl|refine MSub.keep rfl ?_|exact MSub.nil|apply MSub.drop)) (fun w hw => ⟨Nat.zero_le _, Tab.nil _ _ _⟩) ?_
  rintro ⟨j, A1, c1, us⟩ b1 ⟨hj, hT⟩ hkb ih
  simp only at hj hT
  have hgl := gat_len res i0 j
  by_cases hlt : j < n
  · repeat(first|refine lrun_ ?_|(refine lo_boxA rfl rfl ?_;intro _ _ _)|(refine lo_box1 rfl rfl rfl ?_;intro _ _ _)|(refine lo_alloc rfl ?_;intro _ _ _))
    refine l_yes rfl (by omega) ?_
    repeat(first|refine lrun_ ?_|(refine lo_boxA rfl rfl ?_;intro _ _ _)|(refine lo_box1 rfl rfl rfl ?_;intro _ _ _)|(refine lo_alloc rfl ?_;intro _ _ _))
    refine lo_call (n_call rfl) rfl (fun w hw => hcol (i0 + j) (by omega) w hw.org) ?_
    have hjl : i0 + j < l.length := by omega
    repeat(first|refine lrun_ ?_|(refine lo_boxA rfl rfl ?_;intro _ _ _)|(refine lo_box1 rfl rfl rfl ?_;intro _ _ _)|(refine lo_alloc rfl ?_;intro _ _ _))
    refine lo_callM (n_callV rfl rfl) rfl (fun w hw => hf w hw.org (i0 + j) _ (by omega) (by omega) (Kn.sl hw.org (hR.rs (i0 + j) hjl))) ?_
    rintro w1 u w2 hw1 kn1 kp1 hOu
    have hT1 := (hT.less (L' := fun i => i < (gatM res i0 j).length) fun _ _ => trivial).bound
    have hT2 := ((hT1.kp hw1.kp fun k hk hm => hk.1.2 hm).kn kn1).mono (G' := fre w (MK [(g, cb [.int .i64 k, .int .i64 (i0 : Int), .int .i64 a.2, .int .i64 b.1, .int .i64 b.2] 68)])) fun k hk _ => hk.1
    have hvb : ∀ k, (Value.slice A1 (gatM res i0 j).length c1).ownBlock = some k → k < b1.heap.size := fun k hk => (hT1.t.block k hk).2
    have hrb : ∀ i u2 k, i < (gatM res i0 j).length → us[i]? = some u2 → u2.ownBlock = some k → k < b1.heap.size := fun i u2 k hi hu hk => (hT1.blk hi hu hk).2.1
    have hlm : ∀ k', MK [(g, cb [.int .i64 k, .int .i64 (i0 : Int), .int .i64 a.2, .int .i64 b.1, .int .i64 b.2] 68)] k' → k' < w1.heap.size := fun k' hm => hw1.lt hm
    have hs1 := hw1.kp.size
    have hso := hw1.org.size
    have hub := hOu.block
    clear hT hT1 hw1 kp1
    repeat(first|refine lrun_ ?_|(refine lo_boxA rfl rfl ?_;intro _ _ _)|(refine lo_box1 rfl rfl rfl ?_;intro _ _ _)|(refine lo_alloc rfl ?_;intro _ _ _))
    obtain ⟨Au, cu, rfl, _⟩ := hOu.form
    refine lo_lit (cs := [.slice Au (res (i0 + j)).length cu]) rfl (by decide) (by kernel_rfl) rfl ?_
    intro g2 _ hg2
    refine lo_tabPush (r := res (i0 + j)) rfl rfl hT2 (by(repeat(first|exact MIn.hd|refine MIn.tl ?_));done) (hOu.nE.mono (fun k hk _ => ⟨⟨by have := hk.1; unfold noB at this; omega, fun hm => by have := hlm k hm; have := hk.1; unfold noB at this; omega⟩, fun e => by have := hvb k e; have := hk.1; unfold noB at this; omega⟩) fun _ h _ => h) (Nat.lt_irrefl _) (fun i u2 k hi hu hk hk2 => by have := hrb i u2 k hi hu hk; have := (hub k hk2).1; unfold noB at this; omega) (by omega) rfl rfl ?_
    intro w3 A3 n3 w4 hw3 kp3 kp4 hT4
    have e1 : (i0 + j + 1 : Nat) = i0 + (j + 1) := by omega
    have e2 : gatM res i0 j ++ [res (i0 + j)] = gatM res i0 (j + 1) := rfl
    rw [e2] at hT4 ⊢
    have hT5 := hT4.all fun i hi => by rw [gat_len] at hi; rw [hgl]; omega
    clear hT2 hT4
    repeat(first|refine lrun_ ?_|(refine lo_boxA rfl rfl ?_;intro _ _ _)|(refine lo_box1 rfl rfl rfl ?_;intro _ _ _)|(refine lo_alloc rfl ?_;intro _ _ _))
    refine l_baseM (M3 := [(g, cb [.int .i64 k, .int .i64 (i0 : Int), .int .i64 a.2, .int .i64 b.1, .int .i64 b.2] 68)]) (by repeat(first|exact MSub.refl|refine MSub.keep rfl ?_|exact MSub.nil|apply MSub.drop)) fun w5 hw5 => ?_
    have hT6 := (hT5.kp hw5.kp fun k hk hm => hk.2 hm).mono (G' := fre w (MK [(g, cb [.int .i64 k, .int .i64 (i0 : Int), .int .i64 a.2, .int .i64 b.1, .int .i64 b.2] 68)])) fun k hk _ => ⟨hk.1, fun ⟨o, hm⟩ => hk.2 ⟨o, .tl hm⟩⟩
    exact ih (j + 1, A3, n3, _) w5 _ ⟨hlt, hT6⟩ (by simp only; omega) _ _ (by repeat (first | exact SubB.nil | refine SubB.cons rfl ?_)) (by repeat(first|exact MSub.refl|refine MSub.keep rfl ?_|exact MSub.nil|apply MSub.drop)) (fun w' hw' => ⟨hlt, hT6.kp hw'.kp fun k hk hm => hk.2 hm⟩)
  · obtain rfl : j = n := by omega
    repeat(first|refine lrun_ ?_|(refine lo_boxA rfl rfl ?_;intro _ _ _)|(refine lo_box1 rfl rfl rfl ?_;intro _ _ _)|(refine lo_alloc rfl ?_;intro _ _ _))
    refine l_no rfl (by omega) ?_
    refine l_go (.exit rfl) ?_
    repeat(first|refine lrun_ ?_|(refine lo_boxA rfl rfl ?_;intro _ _ _)|(refine lo_box1 rfl rfl rfl ?_;intro _ _ _)|(refine lo_alloc rfl ?_;intro _ _ _))
    refine l_ret1 rfl rfl fun w3 hw => ⟨hw.org, us, ?_⟩
    exact (hT.kp hw.kp fun k hk hm => hk.2 hm).mono (G' := noB w) fun k hk _ => hk.1
theorem gather_calls {F : Nat → Prop} {w : World} {v : Value} {l : List (List Int)} {f : FuncId} [hfn : FnT Try.prog f] {cap : List Value} {k : Int} {a b : Ps} {i0 n : Nat} {res : Nat → List Int} (h : Sl kRow F w v l)
    (ha1 : a.1 = (i0 : Int)) (hb1 : b.1 + 1 = ((i0 + n : Nat) : Int)) (hin : i0 + n ≤ l.length) (ha : 0 ≤ a.2 ∧ a.2 ≤ 140737488355328) (hb : 0 ≤ b.2 ∧ b.2 ≤ 140737488355328)
    (hf : ∀ w', Kn w w' → ∀ j u, i0 ≤ j → j < i0 + n → Sl kRune F w' u (l.getD j []) → CallsR Try.prog f (([u, .int .i64 (colsA k a b (l.getD j []).length j).1, .int .i64 (colsA k a b (l.getD j []).length j).2] ++ cap).toArray) w' fun r w'' => Kn w' w'' ∧ Ow kRune (noB w') (fun _ => False) w'' r (res j)) :
    CallsR Try.prog 39 #[arV k a b, v, .func (.func f) #[] cap.toArray] w fun u w' => Kn w w' ∧ Ow kRow (noB w) (noB w) w' u (gatM res i0 n) :=
  (gatherT_calls h ha1 hb1 hin ha hb hf).mono fun u w' ⟨h1, us, h2⟩ => ⟨h1, h2.ow fun _ _ => trivial⟩
end Go.Ink

set_option linter.unusedVariables false
set_option linter.unusedSimpArgs false
namespace Go.Ink
open Go Go.Proofs Go.RowKit

theorem take1_calls {F : Nat → Prop} {w : World} {u : Value} {x : List Int} {f t : Nat} (h : Sl kRune F w u x) (hf : f ≤ t) (ht : t ≤ x.length) :
    CallsR Try.prog 40 #[u, .int .i64 (f : Int), .int .i64 (t : Int)] w fun r w' => Kn w w' ∧ Ow kRune (noB w) (fun _ => False) w' r ((x.take t).drop f) := by
  obtain ⟨A, c, ad, rfl, hX⟩ := h.rns
  have hc := hX.cap
  refine l_enter (fun _ => False) Try.func40 rfl rfl ?_
  repeat(first|refine lrun_ ?_|(refine lo_boxA rfl rfl ?_;intro _ _ _)|(refine lo_box1 rfl rfl rfl ?_;intro _ _ _)|(refine lo_alloc rfl ?_;intro _ _ _))
  refine lo_rn (fun _ => r_slice rfl f t c rfl ⟨_, rfl⟩ ⟨_, rfl⟩ hf (by omega) (Nat.le_refl _)) rfl ?_
  refine lo_callM (n_call rfl) rfl (fun w hw => clone_calls (Sl.cutV (Kn.sl hw.org h) hf ht (by omega) (Nat.le_refl _))) ?_
  rintro w1 u w2 hw1 kn1 kp1 hO
  repeat(first|refine lrun_ ?_|(refine lo_boxA rfl rfl ?_;intro _ _ _)|(refine lo_box1 rfl rfl rfl ?_;intro _ _ _)|(refine lo_alloc rfl ?_;intro _ _ _))
  exact l_ret1 rfl rfl fun w3 hw => ⟨hw.org, (Kp.ow hw.kp hO (fun _ _ => mk_nil) (fun _ h => h.elim)).mono (fun k hk _ => by have := hw1.org.size; unfold noB at *; omega) fun _ h _ => h⟩
theorem Sl.pre {α : Type} {d : Kd α} {F : Nat → Prop} {w : World} {A : Option Addr} {n c i : Nat} {xs : List α} (h : Sl d F w (.slice A n c) xs) (hi : i ≤ n) (hc : i ≤ c) : Sl d F w (.slice A i c) (xs.take i) := by
  have := Sl.cutV h (Nat.zero_le i) hi hc (Nat.le_refl _)
  rwa [cutV_pre, List.drop_zero] at this
theorem put_calls {F F2 : Nat → Prop} {w : World} {v y : Value} {l ys : List (List Int)} {i0 i1 : Nat} (h : Sl kRow F w v l) (hy : SlE kRow F2 w y ys) (h0 : i0 ≤ l.length) (h1 : i1 ≤ l.length) (hfit : (i0 + ys.length + (l.length - i1)) * 24 ≤ 140737488355328) :
    CallsR Try.prog 47 #[v, .int .i64 (i0 : Int), .int .i64 (i1 : Int), y] w fun u w' => Kn w w' ∧ Ow kRow (noB w) (fun k => noB w k ∨ F2 k) w' u (l.take i0 ++ ys ++ l.drop i1) := by
  obtain ⟨A, c, ad, rV, rc, ra, rfl, hR⟩ := h.rws
  have hlen := hR.len
  have hc := hR.cap
  have hy' : SlE kRow (fun k => F2 k ∧ k < w.heap.size) w y ys := hy.mono fun k hk hl => ⟨hk, hl⟩
  refine l_enter (fun _ => False) Try.func47 rfl rfl ?_
  repeat(first|refine lrun_ ?_|(refine lo_boxA rfl rfl ?_;intro _ _ _)|(refine lo_box1 rfl rfl rfl ?_;intro _ _ _)|(refine lo_alloc rfl ?_;intro _ _ _))
  refine lo_callM (n_call rfl) rfl (fun w hw => lines_calls ((Kn.sl hw.org h).pre h0 (by omega))) ?_
  rintro w1 u w2 hw1 kn1 kp1 hO
  have hs1 := hw1.org.size
  have hog : Og kRow w w2 (MK []) (fun k => w.heap.size ≤ k) u (l.take i0) := hO.mono (fun k hk _ => ⟨by unfold noB at hk; omega, mk_nil⟩) fun k hk _ => by unfold noB at hk; omega
  clear hO hw1 kn1 kp1
  repeat(first|refine lrun_ ?_|(refine lo_boxA rfl rfl ?_;intro _ _ _)|(refine lo_box1 rfl rfl rfl ?_;intro _ _ _)|(refine lo_alloc rfl ?_;intro _ _ _))
  refine lo_appendE (d := kRow) rfl rfl hog (fun _ _ => mk_nil) (fun w' hw => hy'.kn hw.org) (fun k hk ho => by have := (hog.block k ho).1.1; omega) (by rw [List.length_take, Nat.min_eq_left h0]; show (i0 + ys.length) * 24 ≤ 140737488355328; omega) rfl rfl rfl rfl ?_
  intro w3 A3 n3 w4 hw3 kp3 kp4 hown hog3
  clear hog hown hw3 kp3 kp4
  repeat(first|refine lrun_ ?_|(refine lo_boxA rfl rfl ?_;intro _ _ _)|(refine lo_box1 rfl rfl rfl ?_;intro _ _ _)|(refine lo_alloc rfl ?_;intro _ _ _))
  refine lo_suf rfl rfl rfl h1 hc rfl ?_
  refine lo_callM (n_call rfl) rfl (fun w hw => lines_calls (Sl.cutV (Kn.sl hw.org h) h1 (Nat.le_refl _) hc (Nat.le_refl _))) ?_
  rintro w5 u5 w6 hw5 kn5 kp5 hO5
  have hog5 := hog3.now (fun _ h => mk_nil) hw5
  have hb5 := fun k hk => (hog5.block k hk).2
  have hog6 : Og kRow w w6 (MK []) _ _ _ := Kn.ow kn5 hog5
  have hs5 := hw5.org.size
  clear hog3 hog5 hw5 kp5
  repeat(first|refine lrun_ ?_|(refine lo_boxA rfl rfl ?_;intro _ _ _)|(refine lo_box1 rfl rfl rfl ?_;intro _ _ _)|(refine lo_alloc rfl ?_;intro _ _ _))
  refine lo_append (d := kRow) rfl rfl hog6 (fun _ _ => mk_nil) (fun w' hw => Kp.sl hw.kp (hO5.slF (F' := noB w5) (fun _ h => h) fun _ h => h) fun _ _ => mk_nil) (fun k hk ho => by have := hb5 k ho; unfold noB at hk; omega) (by
    rw [List.length_append, List.length_take, Nat.min_eq_left h0, List.length_drop, List.length_take, Nat.min_self]; exact hfit) rfl rfl rfl rfl ?_
  intro w7 u7 w8 hw7 kp7 kp8 hown hog7
  repeat(first|refine lrun_ ?_|(refine lo_boxA rfl rfl ?_;intro _ _ _)|(refine lo_box1 rfl rfl rfl ?_;intro _ _ _)|(refine lo_alloc rfl ?_;intro _ _ _))
  refine l_ret1 rfl rfl fun w9 hw => ⟨hw.org, ?_⟩
  rw [List.take_length] at hog7
  exact (hog7.now (fun _ _ => mk_nil) hw).mono (fun k hk _ => hk.1) fun k hk _ => by
    unfold noB at *
    rcases hk with (hk | hk) | hk
    · exact .inl hk
    · exact .inr hk.1
    · exact .inl (by omega)
end Go.Ink

set_option linter.unusedVariables false
set_option linter.unusedSimpArgs false
namespace Go.Ink
open Go Go.Proofs Go.RowKit

theorem cut1_calls {F : Nat → Prop} {w : World} {u : Value} {x : List Int} {f t : Nat} (h : Sl kRune F w u x) (hf : f ≤ x.length) (ht : t ≤ x.length) (hft : f ≤ t) (hx : x.length ≤ 4194304) :
    CallsR Try.prog 45 #[u, .int .i64 (f : Int), .int .i64 (t : Int)] w fun r w' => Kn w w' ∧ Ow kRune (noB w) (fun _ => False) w' r (x.take f ++ x.drop t) := by
  obtain ⟨A, c, ad, rfl, hX⟩ := h.rns
  have hc := hX.cap
  refine l_enter (fun _ => False) Try.func45 rfl rfl ?_
  repeat(first|refine lrun_ ?_|(refine lo_boxA rfl rfl ?_;intro _ _ _)|(refine lo_box1 rfl rfl rfl ?_;intro _ _ _)|(refine lo_alloc rfl ?_;intro _ _ _))
  refine l_draw [(0, 0), (1, 0), (2, 0), (3, 0), (4, 0), (5, 0), (6, 1), (7, 1), (8, 0)] (by kernel_rfl) (by kernel_rfl) rfl (by kernel_rfl) ?_
  repeat(first|refine lrund_ ?_|(refine ld_open rfl ?_;first|(refine ld_boxA rfl wy_ rfl ?_;intro _ _ _)|(refine ld_box1 rfl rfl wy_ rfl ?_;intro _ _ _)|(refine ld_alloc wy_ rfl ?_;intro _ _ _)))
  refine ld_open rfl ?_; refine ld_pre rfl rfl rfl (by omega) wy_ rfl ?_
  repeat(first|refine lrund_ ?_|(refine ld_open rfl ?_;first|(refine ld_boxA rfl wy_ rfl ?_;intro _ _ _)|(refine ld_box1 rfl rfl wy_ rfl ?_;intro _ _ _)|(refine ld_alloc wy_ rfl ?_;intro _ _ _)))
  refine ld_open rfl ?_; refine ld_suf rfl rfl rfl ht hc wy_ rfl ?_
  repeat(first|refine lrund_ ?_|(refine ld_open rfl ?_;first|(refine ld_boxA rfl wy_ rfl ?_;intro _ _ _)|(refine ld_box1 rfl rfl wy_ rfl ?_;intro _ _ _)|(refine ld_alloc wy_ rfl ?_;intro _ _ _)))
  refine ld_open rfl ?_; refine ld_lit (cs := [.slice A f c, cutV A t x.length c 1]) rfl (by decide) (by kernel_rfl) wy_ rfl ?_
  intro g hg _
  repeat(first|refine lrund_ ?_|(refine ld_open rfl ?_;first|(refine ld_boxA rfl wy_ rfl ?_;intro _ _ _)|(refine ld_box1 rfl rfl wy_ rfl ?_;intro _ _ _)|(refine ld_alloc wy_ rfl ?_;intro _ _ _)))
  refine ld_open rfl ?_
  have hcut : Sl kRune F w (cutV A t x.length c 1) (x.drop t) := by
    have := Sl.cutV (d := kRune) h ht (Nat.le_refl _) hc (Nat.le_refl _)
    rwa [List.take_length] at this
  have hl : ∀ w' : World, Kn w w' → w'.heap[g]? = some (cb [.slice A f c, cutV A t x.length c 1] 35) → Sl kRow (fun k => F k ∨ k = g) w' (.slice (some ⟨g, 0, none⟩) 2 2) [x.take f, x.drop t] := fun w' hk hb =>
    sl_blk (d := kRow) (xs := [x.take f, x.drop t]) (cells := [.slice A f c, cutV A t x.length c 1]) hb ⟨_, [cutV A t x.length c 1], rfl, ⟨_, rfl, ((Kn.sl hk h).pre hf (by omega)).mono fun k hk _ => .inl hk⟩, _, [], rfl, ⟨_, rfl, (Kn.sl hk hcut).mono fun k hk _ => .inl hk⟩, rfl⟩ (.inr rfl) (show 2 * 24 ≤ 140737488355328 by decide)
  have hrl : runesM [x.take f, x.drop t] ≤ 4194304 := by
    unfold runesM
    simp only [List.map_cons, List.map_nil, List.sum_cons, List.sum_nil, List.length_take, List.length_drop]
    omega
  refine ld_callN (n_call rfl) wy_ rfl (fun w' hw => concat_calls (hl w' hw.org (hw.mem g _ (by(repeat(first|exact MIn.hd|refine MIn.tl ?_));done))) hrl) ?_
  intro w1 r w2 N hw1 kn1 hO hN
  repeat(first|refine lrund_ ?_|(refine ld_open rfl ?_;first|(refine ld_boxA rfl wy_ rfl ?_;intro _ _ _)|(refine ld_box1 rfl rfl wy_ rfl ?_;intro _ _ _)|(refine ld_alloc wy_ rfl ?_;intro _ _ _)))
  refine ld_nil (mcat_app (by repeat constructor)) ?_
  refine l_cover hN fun w3 hw3 ko _ => ?_
  have hg1 : g < w1.heap.size := hw1.lt ⟨_, .hd⟩
  have hs1 := hw1.org.size
  refine l_ret1 rfl rfl fun w4 hw => ⟨hw.org, ?_⟩
  have h1 : Ow kRune (noB w1) (fun _ => False) w3 r (List.flatten [x.take f, x.drop t]) := hO.move fun k hk hl => hw3 k (hk.elim id False.elim) hl
  have h2 := Kp.ow hw.kp h1 (fun k hk ⟨o, hm⟩ => by
    cases hm with
    | hd => unfold noB at hk; omega
    | tl hm => cases hm) (fun _ h => h.elim)
  have e : List.flatten [x.take f, x.drop t] = x.take f ++ x.drop t := by simp
  rw [e] at h2
  exact h2.mono (fun k hk _ => by unfold noB at *; omega) fun _ h _ => h
/-- What Take tells. -/
def takeM (l : List (List Int)) (r : Rg) : List (List Int) := if thereR l r = 0 then gatM (inR l r) (endsR r).1.1.toNat ((endsR r).2.1 + 1 - (endsR r).1.1).toNat else []
theorem takeT_calls {F : Nat → Prop} {w : World} {v : Value} {l : List (List Int)} {r : Rg} (h : Sl kRow F w v l) (hr : RgP r) (hk : (l.map List.length).sum ≤ 4194304) :
    CallsR Try.prog 13 #[v, rgV r] w fun u w' => Kn w w' ∧ ∃ s us, u = .tuple #[.agg #[.int .i64 (if thereR l r = 0 then r.kind else 0), s], .int .i64 (thereR l r)] ∧ Tab (noB w) (fun _ => True) w' s us (takeM l r) := by
  obtain ⟨A, c, ad, rV, rc, ra, rfl, hR⟩ := h.rws
  have hlen := hR.len
  have hat := fun (w' : World) (hk : Kn w w') => at_calls (Kn.sl hk h) hr
  unfold rgV at *
  refine l_enter (fun _ => False) Try.func13 rfl rfl ?_
  by_cases ht : thereR l r = 0
  case neg =>
    unfold atT at hat
    simp only [if_neg ht] at hat
    unfold takeM
    rw [if_neg ht, if_neg ht]
    repeat(first|refine lrun_ ?_|(refine lo_boxA rfl rfl ?_;intro _ _ _)|(refine lo_box1 rfl rfl rfl ?_;intro _ _ _)|(refine lo_alloc rfl ?_;intro _ _ _))
    refine lo_call (n_call rfl) rfl (fun w hw => hat w hw.org) ?_
    repeat(first|refine lrun_ ?_|(refine lo_boxA rfl rfl ?_;intro _ _ _)|(refine lo_box1 rfl rfl rfl ?_;intro _ _ _)|(refine lo_alloc rfl ?_;intro _ _ _))
    refine l_yes rfl ht ?_
    repeat(first|refine lrun_ ?_|(refine lo_boxA rfl rfl ?_;intro _ _ _)|(refine lo_box1 rfl rfl rfl ?_;intro _ _ _)|(refine lo_alloc rfl ?_;intro _ _ _))
    exact l_retR2 rfl (by repeat(first|exact LRes.nil|refine LRes.tmp rfl ?_|refine LRes.agg rfl (by(repeat(first|exact MIn.hd|refine MIn.tl ?_));done) (by rfl) (by rfl) ?_|refine LRes.one rfl (by(repeat(first|exact MIn.hd|refine MIn.tl ?_));done) (by rfl) ?_)) fun w hw => ⟨hw.org, _, [], rfl, Tab.nil _ _ _⟩
  have hok := there_ok ht
  unfold atT at hat
  simp only [if_pos ht] at hat
  rw [ht] at hat ⊢
  have ha := hok.a.k
  have hb := hok.b.k
  have hai := hok.a.i
  have hbi := hok.b.i
  have hle := hok.le
  have hr1 : (rowOf l (endsR r).1).length ≤ 140737488355328 := hR.rl _
  have hr2 : (rowOf l (endsR r).2).length ≤ 140737488355328 := hR.rl _
  have hga := fun (w' : World) (hk : Kn w w') => gatherT_calls (f := 40) (cap := []) (k := r.kind) (a := (endsR r).1) (b := (endsR r).2) (i0 := (endsR r).1.1.toNat) (n := ((endsR r).2.1 + 1 - (endsR r).1.1).toNat) (res := inR l r) (Kn.sl hk h) (by omega) (by omega) (by omega) (by omega) (by omega) (fun w'' hk2 j u h1 h2 hS => by
    have hcn := cols_nat (l := l) (r := r) (i := j) hok (by omega)
    rw [colsA_R] at hcn
    rw [hcn.1]
    exact take1_calls hS hcn.2.1 hcn.2.2)
  unfold takeM
  rw [if_pos ht]
  have hll : l ≠ [] := hok.ne
  clear ha hb hai hbi hle hr1 hr2 h
  repeat(first|refine lrun_ ?_|(refine lo_boxA rfl rfl ?_;intro _ _ _)|(refine lo_box1 rfl rfl rfl ?_;intro _ _ _)|(refine lo_alloc rfl ?_;intro _ _ _))
  refine lo_call (n_call rfl) rfl (fun w hw => hat w hw.org) ?_
  unfold arV
  repeat(first|refine lrun_ ?_|(refine lo_boxA rfl rfl ?_;intro _ _ _)|(refine lo_box1 rfl rfl rfl ?_;intro _ _ _)|(refine lo_alloc rfl ?_;intro _ _ _))
  refine l_no rfl (fun h => h rfl) ?_
  repeat(first|refine lrun_ ?_|(refine lo_boxA rfl rfl ?_;intro _ _ _)|(refine lo_box1 rfl rfl rfl ?_;intro _ _ _)|(refine lo_alloc rfl ?_;intro _ _ _))
  refine l_draw [(0, 0), (1, 0), (2, 0), (3, 0), (4, 1), (5, 0), (6, 1), (7, 0)] (by kernel_rfl) (by kernel_rfl) rfl (by kernel_rfl) ?_
  repeat(first|refine lrund_ ?_|(refine ld_open rfl ?_;first|(refine ld_boxA rfl wy_ rfl ?_;intro _ _ _)|(refine ld_box1 rfl rfl wy_ rfl ?_;intro _ _ _)|(refine ld_alloc wy_ rfl ?_;intro _ _ _)))
  refine ld_open rfl ?_
  refine ld_callN (n_call rfl) wy_ rfl (fun w hw => hga w hw.org) ?_
  rintro w1 u w2 N hw1 kn1 ⟨us, hO⟩ hN
  obtain ⟨Au, cu, rfl, _⟩ := hO.form
  repeat(first|refine lrund_ ?_|(refine ld_open rfl ?_;first|(refine ld_boxA rfl wy_ rfl ?_;intro _ _ _)|(refine ld_box1 rfl rfl wy_ rfl ?_;intro _ _ _)|(refine ld_alloc wy_ rfl ?_;intro _ _ _)))
  refine ld_open rfl ?_
  refine ld_storeWM (mcat_app (by repeat constructor)) rfl rfl (min_app (by(repeat(first|exact MIn.hd|refine MIn.tl ?_));done)) (by rfl) rfl (by rfl) (by rfl) (mup_app (by first|exact .hd|exact .tl .hd|exact .tl (.tl .hd)|exact .tl (.tl (.tl .hd))|exact .tl (.tl (.tl (.tl .hd)))|exact .tl (.tl (.tl (.tl (.tl .hd))))|exact .tl (.tl (.tl (.tl (.tl (.tl .hd)))))|exact .tl (.tl (.tl (.tl (.tl (.tl (.tl .hd))))))|exact .tl (.tl (.tl (.tl (.tl (.tl (.tl (.tl .hd))))))))) (by kernel_rfl) wy_ rfl ?_
  repeat(first|refine lrund_ ?_|(refine ld_open rfl ?_;first|(refine ld_boxA rfl wy_ rfl ?_;intro _ _ _)|(refine ld_box1 rfl rfl wy_ rfl ?_;intro _ _ _)|(refine ld_alloc wy_ rfl ?_;intro _ _ _)))
  refine l_cover hN fun w3 hw3 ko _ => ?_
  have h1 := hO.move fun k hk hl => hw3 k hk hl
  refine l_retR2 rfl (by repeat(first|exact LRes.nil|refine LRes.tmp rfl ?_|refine LRes.agg rfl (by(repeat(first|exact MIn.hd|refine MIn.tl ?_));done) (by rfl) (by rfl) ?_|refine LRes.one rfl (by(repeat(first|exact MIn.hd|refine MIn.tl ?_));done) (by rfl) ?_)) fun w4 hw => ⟨hw.org, _, us, rfl, ?_⟩
  have hs1 := hw1.org.size
  have h2 := h1.kp hw.kp fun k hk hm => by have := hw1.ltI (by rfl) hm; unfold noB at hk; omega
  exact h2.mono fun k hk _ => by unfold noB at *; omega
theorem take_calls {F : Nat → Prop} {w : World} {v : Value} {l : List (List Int)} {r : Rg} (h : Sl kRow F w v l) (hr : RgP r) (hk : (l.map List.length).sum ≤ 4194304) :
    CallsR Try.prog 13 #[v, rgV r] w fun u w' => Kn w w' ∧ ∃ s, u = .tuple #[.agg #[.int .i64 (if thereR l r = 0 then r.kind else 0), s], .int .i64 (thereR l r)] ∧ Ow kRow (noB w) (noB w) w' s (takeM l r) :=
  (takeT_calls h hr hk).mono fun u w' ⟨h1, s, us, h2, h3⟩ => ⟨h1, s, h2, h3.ow fun _ _ => trivial⟩
end Go.Ink

set_option linter.unusedVariables false
set_option linter.unusedSimpArgs false
namespace Go.Ink
open Go Go.Proofs Go.RowKit

def firstI (x : List Int) : Nat := (x.findIdx? fun r => decide (classM r false ≠ 0)).getD (x.length - 1)
theorem first1_calls {w : World} {r : Int} : CallsR Try.prog 74 #[.int .i32 r] w fun u w' => Kn w w' ∧ u = .bool (decide (classM r false ≠ 0)) := by
  refine l_enter (fun _ => False) Try.func74 rfl rfl ?_
  repeat(first|refine lrun_ ?_|(refine lo_boxA rfl rfl ?_;intro _ _ _)|(refine lo_box1 rfl rfl rfl ?_;intro _ _ _)|(refine lo_alloc rfl ?_;intro _ _ _))
  refine lo_callP (n_call rfl) rfl (fun w hw => classP_calls) ?_
  repeat(first|refine lrun_ ?_|(refine lo_boxA rfl rfl ?_;intro _ _ _)|(refine lo_box1 rfl rfl rfl ?_;intro _ _ _)|(refine lo_alloc rfl ?_;intro _ _ _))
  exact l_ret1 rfl rfl fun w hw => ⟨hw.org, rfl⟩
theorem first_calls {F : Nat → Prop} {w : World} {v : Value} {l : List (List Int)} {i : Nat} (h : Sl kRow F w v l) (hi : i < l.length) :
    CallsR Try.prog 48 #[v, .int .i64 (i : Int)] w fun u w' => Kn w w' ∧ u = posV ((i : Int), (firstI (l.getD i []) : Int)) := by
  obtain ⟨A, c, ad, rV, rc, ra, rfl, hR⟩ := h.rws
  have hlen := hR.len
  have hrl := hR.rl i
  refine l_enter (fun _ => False) Try.func48 rfl rfl ?_
  repeat(first|refine lrun_ ?_|(refine lo_boxA rfl rfl ?_;intro _ _ _)|(refine lo_box1 rfl rfl rfl ?_;intro _ _ _)|(refine lo_alloc rfl ?_;intro _ _ _))
  refine lo_call (n_call rfl) rfl (fun w hw => indexF_calls (f := 74) (cap := []) (Kn.sl hw.org (hR.rs i hi)) fun w' _ r => first1_calls) ?_
  unfold firstI
  cases (l.getD i []).findIdx? fun r => decide (classM r false ≠ 0) with
  | some k =>
    unfold idxW
    repeat(first|refine lrun_ ?_|(refine lo_boxA rfl rfl ?_;intro _ _ _)|(refine lo_box1 rfl rfl rfl ?_;intro _ _ _)|(refine lo_alloc rfl ?_;intro _ _ _))
    refine l_no rfl (by omega) ?_
    refine l_go .skip ?_
    repeat(first|refine lrun_ ?_|(refine lo_boxA rfl rfl ?_;intro _ _ _)|(refine lo_box1 rfl rfl rfl ?_;intro _ _ _)|(refine lo_alloc rfl ?_;intro _ _ _))
    exact l_retR1 rfl (by repeat(first|exact LRes.nil|refine LRes.tmp rfl ?_|refine LRes.agg rfl (by(repeat(first|exact MIn.hd|refine MIn.tl ?_));done) (by rfl) (by rfl) ?_|refine LRes.one rfl (by(repeat(first|exact MIn.hd|refine MIn.tl ?_));done) (by rfl) ?_)) fun w hw => ⟨hw.org, rfl⟩
  | none =>
    unfold idxW
    repeat(first|refine lrun_ ?_|(refine lo_boxA rfl rfl ?_;intro _ _ _)|(refine lo_box1 rfl rfl rfl ?_;intro _ _ _)|(refine lo_alloc rfl ?_;intro _ _ _))
    refine l_yes rfl (by omega) ?_
    repeat(first|refine lrun_ ?_|(refine lo_boxA rfl rfl ?_;intro _ _ _)|(refine lo_box1 rfl rfl rfl ?_;intro _ _ _)|(refine lo_alloc rfl ?_;intro _ _ _))
    refine l_retR1 rfl (by repeat(first|exact LRes.nil|refine LRes.tmp rfl ?_|refine LRes.agg rfl (by(repeat(first|exact MIn.hd|refine MIn.tl ?_));done) (by rfl) (by rfl) ?_|refine LRes.one rfl (by(repeat(first|exact MIn.hd|refine MIn.tl ?_));done) (by rfl) ?_)) fun w hw => ⟨hw.org, ?_⟩
    have e : (if (0 : Int) < ((l.getD i []).length : Int) - 1 then ((l.getD i []).length : Int) - 1 else 0) = (((l.getD i []).length - 1 : Nat) : Int) := by split <;> omega
    simp only [e]
    rfl
end Go.Ink

set_option linter.unusedVariables false
set_option linter.unusedSimpArgs false
namespace Go.Ink
open Go Go.Proofs Go.RowKit

/-- From which line, how many. -/
def r0 (r : Rg) : Nat := (endsR r).1.1.toNat
def rn (r : Rg) : Nat := ((endsR r).2.1 + 1 - (endsR r).1.1).toNat
def cutM (l : List (List Int)) (r : Rg) : List (List Int) × Ps :=
  if thereR l r ≠ 0 then ([], (0, 0))
  else if r.kind = 1 then
    let o0 := l.take (r0 r) ++ l.drop (r0 r + rn r)
    let o := if o0 = [] then [[]] else o0
    let i := min (r0 r) (o.length - 1)
    (o, ((i : Int), (firstI (o.getD i []) : Int)))
  else if r.kind = 0 then
    let o := l.take (r0 r) ++ [(gatM (outR l r) (r0 r) (rn r)).flatten] ++ l.drop (r0 r + rn r)
    (o, clipM o (endsR r).1)
  else
    let o := l.take (r0 r) ++ gatM (outR l r) (r0 r) (rn r) ++ l.drop (r0 r + rn r)
    (o, clipM o ((endsR r).1.1, if (endsR r).2.2 < (endsR r).1.2 then (endsR r).2.2 else (endsR r).1.2))
theorem putI_calls {F F2 : Nat → Prop} {w : World} {v y : Value} {l ys : List (List Int)} {e0 e1 : Int} {i0 i1 : Nat} (h : Sl kRow F w v l) (hy : SlE kRow F2 w y ys) (he0 : e0 = (i0 : Int)) (he1 : e1 = (i1 : Int)) (h0 : i0 ≤ l.length) (h1 : i1 ≤ l.length) (hfit : (i0 + ys.length + (l.length - i1)) * 24 ≤ 140737488355328) :
    CallsR Try.prog 47 #[v, .int .i64 e0, .int .i64 e1, y] w fun u w' => Kn w w' ∧ Ow kRow (noB w) (fun k => noB w k ∨ F2 k) w' u (l.take i0 ++ ys ++ l.drop i1) := by
  subst he0 he1
  exact put_calls h hy h0 h1 hfit
theorem firstE_calls {F : Nat → Prop} {w : World} {v : Value} {l : List (List Int)} {e : Int} {i : Nat} (h : Sl kRow F w v l) (he : e = (i : Int)) (hi : i < l.length) :
    CallsR Try.prog 48 #[v, .int .i64 e] w fun u w' => Kn w w' ∧ u = posV ((i : Int), (firstI (l.getD i []) : Int)) := by
  subst he
  exact first_calls h hi
theorem outs_le (l : List (List Int)) (r : Rg) (i : Nat) : (outR l r i).length ≤ (l.getD i []).length + (l.getD i []).length := by
  unfold outR
  rw [List.length_append, List.length_take, List.length_drop]
  omega
set_option maxHeartbeats 8000000 in
theorem cut_tail {F : Nat → Prop} {w B : World} {A : Option Addr} {c : Nat} {l : List (List Int)} {y : Value} {ys : List (List Int)} {ka a1 a2 b1 b2 : Int} {p : Ps} {i0 i1 gp ga g5 : Nat} (h : Sl kRow F w (.slice A l.length c) l)
    (hy : SlE kRow (fun k => noB w k ∧ k ≠ gp ∧ k ≠ ga ∧ k ≠ g5) B y ys) (hyb : ∀ k, y.ownBlock = some k → k ≠ gp ∧ k ≠ ga ∧ k ≠ g5)
    (he0 : a1 = (i0 : Int)) (he1 : b1 + 1 = (i1 : Int)) (h0 : i0 ≤ l.length) (h1 : i1 ≤ l.length) (hl : l.length ≤ 4096) (hys : ys.length ≤ 4096) (hp : P64 p) :
    ∀ σ', SubB σ' [(0, .slice A l.length c), (5, .pointer (some ⟨g5, 0, none⟩)), (7, .pointer (some ⟨ga, 0, none⟩)), (9, y), (10, .pointer (some ⟨gp, 0, none⟩))] →
      WL Try.prog Try.f18 [.code (bodyC Try.f18 [1, 1, 1, 1, 1, 1])] σ' w (fun _ => False) B (MK [(gp, cb [.int .i64 p.1, .int .i64 p.2] 24), (ga, cb [.int .i64 ka, .int .i64 a1, .int .i64 a2, .int .i64 b1, .int .i64 b2] 68), (g5, cb [.int .i64 0, .int .i64 0] 24)]) [(gp, cb [.int .i64 p.1, .int .i64 p.2] 24), (ga, cb [.int .i64 ka, .int .i64 a1, .int .i64 a2, .int .i64 b1, .int .i64 b2] 68), (g5, cb [.int .i64 0, .int .i64 0] 24)] fun u w' => Kn w w' ∧ ∃ s, u = .tuple #[s, posV (clipM (l.take i0 ++ ys ++ l.drop i1) p), .int .i64 0] ∧ Ow kRow (noB w) (noB w) w' s (l.take i0 ++ ys ++ l.drop i1) := by
  have hmk : ∀ k, MK [(gp, cb [.int .i64 p.1, .int .i64 p.2] 24), (ga, cb [.int .i64 ka, .int .i64 a1, .int .i64 a2, .int .i64 b1, .int .i64 b2] 68), (g5, cb [.int .i64 0, .int .i64 0] 24)] k → ¬ (k ≠ gp ∧ k ≠ ga ∧ k ≠ g5) := fun k hm h => by
    obtain ⟨o, hm⟩ := hm
    cases hm with
    | hd => exact h.1 rfl
    | tl hm => cases hm with
      | hd => exact h.2.1 rfl
      | tl hm => cases hm with
        | hd => exact h.2.2 rfl
        | tl hm => cases hm
  obtain ⟨A', c', ad, rV, rc, ra, e, hR⟩ := h.rws
  cases e
  intro σ' hs
  refine WL.sub hs .refl ?_
  repeat(first|refine lrun_ ?_|(refine lo_boxA rfl rfl ?_;intro _ _ _)|(refine lo_box1 rfl rfl rfl ?_;intro _ _ _)|(refine lo_alloc rfl ?_;intro _ _ _))
  refine lo_callM (n_call rfl) rfl (fun w' hw => putI_calls (F2 := fun k => noB w k ∧ k ≠ gp ∧ k ≠ ga ∧ k ≠ g5) (Kn.sl hw.org h) (hy.kp hw.kp (fun k h1 h2 => hmk k h2 (hyb k h1)) fun k h1 h2 => hmk k h2 h1.2) he0 he1 h0 h1 (by omega)) ?_
  intro w3 u w4 hw3 kn3 kp3 hO3
  obtain ⟨Ao, co, rfl, _, _⟩ := hO3.form
  have hs3 := hw3.org.size
  clear kp3
  have hml := fun k hm => And.intro (hw3.lt (k := k) hm) (hmk k hm)
  have hfit := hO3.sl.form
  clear hw3
  repeat(first|refine lrun_ ?_|(refine lo_boxA rfl rfl ?_;intro _ _ _)|(refine lo_box1 rfl rfl rfl ?_;intro _ _ _)|(refine lo_alloc rfl ?_;intro _ _ _))
  refine lo_call (n_call rfl) rfl (fun w' hw => clipP_calls (Kp.sl hw.kp hO3.sl fun k hk hm => by
    have := hml k hm
    unfold noB at hk
    omega) hp) ?_
  repeat(first|refine lrun_ ?_|(refine lo_boxA rfl rfl ?_;intro _ _ _)|(refine lo_box1 rfl rfl rfl ?_;intro _ _ _)|(refine lo_alloc rfl ?_;intro _ _ _))
  refine l_retR3 rfl (by repeat(first|exact LRes.nil|refine LRes.tmp rfl ?_|refine LRes.agg rfl (by(repeat(first|exact MIn.hd|refine MIn.tl ?_));done) (by rfl) (by rfl) ?_|refine LRes.one rfl (by(repeat(first|exact MIn.hd|refine MIn.tl ?_));done) (by rfl) ?_)) fun w7 hw => ⟨hw.org, _, rfl, ?_⟩
  exact (Kp.ow hw.kp hO3 (fun k hk hm => by have := hml k hm; unfold noB at hk; omega) (fun k hk hm => by have := hml k hm; unfold noB at hk; omega)).mono (fun k hk _ => by unfold noB at *; omega) fun k hk _ => by unfold noB at *; omega
set_option maxHeartbeats 8000000 in
theorem cut_calls {F : Nat → Prop} {w : World} {v : Value} {l : List (List Int)} {r : Rg} (h : Sl kRow F w v l) (hr : RgP r) (hl : l.length ≤ 4096) (hk : ∀ j, (l.getD j []).length ≤ 4194304) (hg : runesM (gatM (outR l r) (r0 r) (rn r)) ≤ 4194304) :
    CallsR Try.prog 18 #[v, rgV r] w fun u w' => Kn w w' ∧ ∃ s, u = .tuple #[s, posV (cutM l r).2, .int .i64 (thereR l r)] ∧ Ow kRow (noB w) (noB w) w' s (cutM l r).1 := by
  obtain ⟨A, c, ad, rV, rc, ra, rfl, hR⟩ := h.rws
  have hat := fun (w' : World) (hk : Kn w w') => at_calls (Kn.sl hk h) hr
  unfold rgV at *
  refine l_enter (fun _ => False) Try.func18 rfl rfl ?_
  by_cases ht : thereR l r = 0
  case neg =>
    unfold atT at hat
    simp only [if_neg ht] at hat
    unfold cutM
    rw [if_pos ht]
    repeat(first|refine lrun_ ?_|(refine lo_boxA rfl rfl ?_;intro _ _ _)|(refine lo_box1 rfl rfl rfl ?_;intro _ _ _)|(refine lo_alloc rfl ?_;intro _ _ _))
    refine lo_call (n_call rfl) rfl (fun w hw => hat w hw.org) ?_
    repeat(first|refine lrun_ ?_|(refine lo_boxA rfl rfl ?_;intro _ _ _)|(refine lo_box1 rfl rfl rfl ?_;intro _ _ _)|(refine lo_alloc rfl ?_;intro _ _ _))
    refine l_yes rfl ht ?_
    repeat(first|refine lrun_ ?_|(refine lo_boxA rfl rfl ?_;intro _ _ _)|(refine lo_box1 rfl rfl rfl ?_;intro _ _ _)|(refine lo_alloc rfl ?_;intro _ _ _))
    exact l_retR3 rfl (by repeat(first|exact LRes.nil|refine LRes.tmp rfl ?_|refine LRes.agg rfl (by(repeat(first|exact MIn.hd|refine MIn.tl ?_));done) (by rfl) (by rfl) ?_|refine LRes.one rfl (by(repeat(first|exact MIn.hd|refine MIn.tl ?_));done) (by rfl) ?_)) fun w hw => ⟨hw.org, _, rfl, Ow.nil _ _ _ _⟩
  have hok := there_ok ht
  unfold atT at hat
  simp only [if_pos ht] at hat
  rw [ht] at hat ⊢
  have ha := hok.a.k
  have hb := hok.b.k
  have hai := hok.a.i
  have hbi := hok.b.i
  have hle := hok.le
  have hr1 : (rowOf l (endsR r).1).length ≤ 4194304 := hk _
  have hr2 : (rowOf l (endsR r).2).length ≤ 4194304 := hk _
  have e0 : (endsR r).1.1 = (r0 r : Int) := by unfold r0; omega
  have e1 : (endsR r).2.1 + 1 = ((r0 r + rn r : Nat) : Int) := by unfold r0 rn; omega
  have hin : r0 r + rn r ≤ l.length := by omega
  have hga := fun (w' : World) (hk2 : Kn w w') => gather_calls (f := 45) (cap := []) (k := r.kind) (a := (endsR r).1) (b := (endsR r).2) (i0 := r0 r) (n := rn r) (res := outR l r) (Kn.sl hk2 h) e0 e1 hin (by omega) (by omega) (fun w'' hk2 j u h1 h2 hS => by
    have hcn := cols_nat (l := l) (r := r) (i := j) hok (by omega)
    rw [colsA_R] at hcn
    rw [hcn.1]
    exact cut1_calls hS (by omega) hcn.2.2 hcn.2.1 (hk j))
  have hput := fun (w' : World) (hk2 : Kn w w') (F2 : Nat → Prop) (y : Value) (ys : List (List Int)) (hy : SlE kRow F2 w' y ys) (hys : ys.length ≤ 4096) => putI_calls (Kn.sl hk2 h) hy e0 e1 (by omega) hin (by omega)
  have hf := hok.kind
  unfold cutM
  rw [if_neg (fun h => h ht)]
  have hll : l ≠ [] := hok.ne
  have hpa : P64 (endsR r).1 := by unfold P64; omega
  have hpb : P64 ((endsR r).1.1, if (endsR r).2.2 < (endsR r).1.2 then (endsR r).2.2 else (endsR r).1.2) := by unfold P64; simp only; split <;> omega
  clear ha hb hr1 hr2
  repeat(first|refine lrun_ ?_|(refine lo_boxA rfl rfl ?_;intro _ _ _)|(refine lo_box1 rfl rfl rfl ?_;intro _ _ _)|(refine lo_alloc rfl ?_;intro _ _ _))
  rename_i g3 _ _ g5 _ _
  refine lo_call (n_call rfl) rfl (fun w hw => hat w hw.org) ?_
  unfold arV
  clear hat
  repeat(first|refine lrun_ ?_|(refine lo_boxA rfl rfl ?_;intro _ _ _)|(refine lo_box1 rfl rfl rfl ?_;intro _ _ _)|(refine lo_alloc rfl ?_;intro _ _ _))
  rename_i ga _ _
  refine l_no rfl (fun h => h rfl) ?_
  repeat(first|refine lrun_ ?_|(refine lo_boxA rfl rfl ?_;intro _ _ _)|(refine lo_box1 rfl rfl rfl ?_;intro _ _ _)|(refine lo_alloc rfl ?_;intro _ _ _))
  refine lo_callM (n_call rfl) rfl (fun w hw => hga w hw.org) ?_
  intro w1 u w2 hw1 kn1 kp1 hO
  obtain ⟨Au, cu, rfl, hau1, hau2⟩ := hO.form
  have hs1 := hw1.org.size
  have hgl : (gatM (outR l r) (r0 r) (rn r)).length ≤ 4096 := by rw [gat_len]; omega
  clear hga hai hbi hle
  by_cases hk1 : r.kind = 1
  · rw [if_pos hk1]
    clear hO kp1
    repeat(first|refine lrun_ ?_|(refine lo_boxA rfl rfl ?_;intro _ _ _)|(refine lo_box1 rfl rfl rfl ?_;intro _ _ _)|(refine lo_alloc rfl ?_;intro _ _ _))
    refine l_yes rfl hk1 ?_
    repeat(first|refine lrun_ ?_|(refine lo_boxA rfl rfl ?_;intro _ _ _)|(refine lo_box1 rfl rfl rfl ?_;intro _ _ _)|(refine lo_alloc rfl ?_;intro _ _ _))
    refine lo_callM (n_call rfl) rfl (fun w hw => hput w hw.org (fun _ => False) _ [] (Sl.nil _ _ _).e (by simp)) ?_
    intro w3 u w4 hw3 kn3 kp3 hO3
    rw [List.append_nil] at hO3
    obtain ⟨Ao, co, rfl, _, _⟩ := hO3.form
    have hs3 := hw3.org.size
    have hO4 : Ow kRow (noB w) (noB w) w4 _ _ := hO3.mono (fun k hk _ => by unfold noB at *; omega) fun k hk _ => hk.elim (fun h => by unfold noB at *; omega) False.elim
    have hb4 : ∀ k, noB w3 k ∨ False → noB w3 k := fun k h => h.elim id False.elim
    have hO5 : Ow kRow (noB w3) (noB w3) w4 _ _ := hO3.mono (fun _ h _ => h) fun k hk _ => hk.elim id False.elim
    clear hO3 kp3
    by_cases hnil : l.take (r0 r) ++ l.drop (r0 r + rn r) = []
    · have e : (l.take (r0 r) ++ l.drop (r0 r + rn r)).length = 0 := by rw [hnil]; rfl
      simp only [if_pos hnil]
      rw [show min (r0 r) (([[]] : List (List Int)).length - 1) = 0 by simp]
      rw [hnil] at hO4
      repeat(first|refine lrun_ ?_|(refine lo_boxA rfl rfl ?_;intro _ _ _)|(refine lo_box1 rfl rfl rfl ?_;intro _ _ _)|(refine lo_alloc rfl ?_;intro _ _ _))
      refine l_yes rfl (by omega) ?_
      repeat(first|refine lrun_ ?_|(refine lo_boxA rfl rfl ?_;intro _ _ _)|(refine lo_box1 rfl rfl rfl ?_;intro _ _ _)|(refine lo_alloc rfl ?_;intro _ _ _))
      refine lo_makeM (d := kRow) (n := 1) [] rfl rfl rfl rfl (by decide) (fun w => ⟨_, rfl, Sl.nil _ _ _⟩) rfl rfl rfl ?_
      intro w5 g5 w6 hw5 kn5 kp5 hO6
      have hs5 := hw5.org.size
      repeat(first|refine lrun_ ?_|(refine lo_boxA rfl rfl ?_;intro _ _ _)|(refine lo_box1 rfl rfl rfl ?_;intro _ _ _)|(refine lo_alloc rfl ?_;intro _ _ _))
      refine lo_call (n_call rfl) rfl (fun w' hw => firstE_calls (hw.owN hO6 fun k hm => hw5.ltI (by rfl) hm).sl (i := 0) (by split <;> omega) (by simp)) ?_
      repeat(first|refine lrun_ ?_|(refine lo_boxA rfl rfl ?_;intro _ _ _)|(refine lo_box1 rfl rfl rfl ?_;intro _ _ _)|(refine lo_alloc rfl ?_;intro _ _ _))
      refine l_retR3 rfl (by repeat(first|exact LRes.nil|refine LRes.tmp rfl ?_|refine LRes.agg rfl (by(repeat(first|exact MIn.hd|refine MIn.tl ?_));done) (by rfl) (by rfl) ?_|refine LRes.one rfl (by(repeat(first|exact MIn.hd|refine MIn.tl ?_));done) (by rfl) ?_)) fun w7 hw => ⟨hw.org, _, rfl, ?_⟩
      exact (hw.owN hO6 fun k hm => hw5.ltI (by rfl) hm).mono (fun k hk _ => by unfold noB at *; omega) fun k hk _ => hk.elim
    · have hol : (l.take (r0 r) ++ l.drop (r0 r + rn r)).length ≤ 4096 := by rw [List.length_append, List.length_take, List.length_drop]; omega
      have e : (l.take (r0 r) ++ l.drop (r0 r + rn r)).length ≠ 0 := fun h => hnil (List.length_eq_zero_iff.1 h)
      simp only [if_neg hnil]
      repeat(first|refine lrun_ ?_|(refine lo_boxA rfl rfl ?_;intro _ _ _)|(refine lo_box1 rfl rfl rfl ?_;intro _ _ _)|(refine lo_alloc rfl ?_;intro _ _ _))
      refine l_no rfl (by omega) ?_
      refine l_go .skip ?_
      repeat(first|refine lrun_ ?_|(refine lo_boxA rfl rfl ?_;intro _ _ _)|(refine lo_box1 rfl rfl rfl ?_;intro _ _ _)|(refine lo_alloc rfl ?_;intro _ _ _))
      refine lo_call (n_call rfl) rfl (fun w' hw => firstE_calls (hw.owN hO5 fun k hm => hw3.ltI (by rfl) hm).sl (i := min (r0 r) ((l.take (r0 r) ++ l.drop (r0 r + rn r)).length - 1)) (by split <;> omega) (by omega)) ?_
      repeat(first|refine lrun_ ?_|(refine lo_boxA rfl rfl ?_;intro _ _ _)|(refine lo_box1 rfl rfl rfl ?_;intro _ _ _)|(refine lo_alloc rfl ?_;intro _ _ _))
      refine l_retR3 rfl (by repeat(first|exact LRes.nil|refine LRes.tmp rfl ?_|refine LRes.agg rfl (by(repeat(first|exact MIn.hd|refine MIn.tl ?_));done) (by rfl) (by rfl) ?_|refine LRes.one rfl (by(repeat(first|exact MIn.hd|refine MIn.tl ?_));done) (by rfl) ?_)) fun w7 hw => ⟨hw.org, _, rfl, ?_⟩
      exact (hw.owN hO5 fun k hm => hw3.ltI (by rfl) hm).mono (fun k hk _ => by unfold noB at *; omega) fun k hk _ => by unfold noB at *; omega
  · rw [if_neg hk1]
    by_cases hk0 : r.kind = 0
    · rw [if_pos hk0]
      repeat(first|refine lrun_ ?_|(refine lo_boxA rfl rfl ?_;intro _ _ _)|(refine lo_box1 rfl rfl rfl ?_;intro _ _ _)|(refine lo_alloc rfl ?_;intro _ _ _))
      refine l_no rfl hk1 ?_
      repeat(first|refine lrun_ ?_|(refine lo_boxA rfl rfl ?_;intro _ _ _)|(refine lo_box1 rfl rfl rfl ?_;intro _ _ _)|(refine lo_alloc rfl ?_;intro _ _ _))
      rename_i gp hgp1 hgp2
      refine l_yes rfl hk0 ?_
      repeat(first|refine lrun_ ?_|(refine lo_boxA rfl rfl ?_;intro _ _ _)|(refine lo_box1 rfl rfl rfl ?_;intro _ _ _)|(refine lo_alloc rfl ?_;intro _ _ _))
      refine lo_callM (n_call rfl) rfl (fun w' hw => concat_calls (hw.owN hO fun k hm => hw1.ltI (by rfl) hm).sl hg) ?_
      intro w3 u w4 hw3 kn3 kp3 hO3
      obtain ⟨Ao, co, rfl, _, _⟩ := hO3.form
      have hs3 := hw3.org.size
      have hgp3 : gp < w3.heap.size := hw3.lt (MK_iff.2 (by simp))
      have hga3 : ga < w3.heap.size := hw3.lt (MK_iff.2 (by simp))
      have hg53 : g5 < w3.heap.size := hw3.lt (MK_iff.2 (by simp))
      clear hO kp1 kp3
      repeat(first|refine lrun_ ?_|(refine lo_boxA rfl rfl ?_;intro _ _ _)|(refine lo_box1 rfl rfl rfl ?_;intro _ _ _)|(refine lo_alloc rfl ?_;intro _ _ _))
      refine lo_lit (cs := [.slice Ao (gatM (outR l r) (r0 r) (rn r)).flatten.length co]) rfl (by decide) (by kernel_rfl) rfl ?_
      intro g4 hg4 hg4'
      repeat(first|refine lops_ ?_|(refine lo_boxA rfl rfl ?_;intro _ _ _)|(refine lo_box1 rfl rfl rfl ?_;intro _ _ _)|(refine lo_alloc rfl ?_;intro _ _ _))
      refine lo_nil ?_
      refine l_go .inBlock ?_
      refine l_baseM (M3 := [(gp, _), (ga, _), (g5, _)]) (by repeat(first|exact MSub.refl|refine MSub.keep rfl ?_|exact MSub.nil|apply MSub.drop)) fun w5 hw5 => ?_
      refine cut_tail (p := (endsR r).1) (ys := [(gatM (outR l r) (r0 r) (rn r)).flatten]) h ?_ ?_ e0 e1 (by omega) hin hl (by simp) ?_ _ (by repeat (first | exact SubB.nil | refine SubB.cons rfl ?_))
      · have hSf := (Kp.sl hw5.kp hO3.sl fun k hk hm => by
          have := hw3.ltI (by rfl) hm
          have := hk.elim id False.elim
          unfold noB at this
          omega)
        exact slE_blk (d := kRow) (xs := [(gatM (outR l r) (r0 r) (rn r)).flatten]) (hw5.mem g4 _ .hd) ⟨_, [], rfl, ⟨_, rfl, hSf.mono fun k hk _ => by
          have := hk.elim id False.elim
          unfold noB at *
          omega⟩, rfl⟩
      · intro k hk
        have e : k = g4 := by cases hk; rfl
        have := kn3.size
        omega
      · exact hpa
    · rw [if_neg hk0]
      repeat(first|refine lrun_ ?_|(refine lo_boxA rfl rfl ?_;intro _ _ _)|(refine lo_box1 rfl rfl rfl ?_;intro _ _ _)|(refine lo_alloc rfl ?_;intro _ _ _))
      refine l_no rfl hk1 ?_
      repeat(first|refine lrun_ ?_|(refine lo_boxA rfl rfl ?_;intro _ _ _)|(refine lo_box1 rfl rfl rfl ?_;intro _ _ _)|(refine lo_alloc rfl ?_;intro _ _ _))
      rename_i gp hgp1 hgp2
      have hga3 : ga < w1.heap.size := hw1.lt (MK_iff.2 (by simp))
      have hg53 : g5 < w1.heap.size := hw1.lt (MK_iff.2 (by simp))
      refine l_no rfl hk0 ?_
      refine l_region ?_;(repeat(first|refine lops_ ?_|(refine lo_boxA rfl rfl ?_;intro _ _ _)|(refine lo_box1 rfl rfl rfl ?_;intro _ _ _)|(refine lo_alloc rfl ?_;intro _ _ _)));refine lo_nil ?_
      refine l_go .inBlock ?_
      refine l_baseM (M3 := [(gp, _), (ga, _), (g5, _)]) (by repeat(first|exact MSub.refl|refine MSub.keep rfl ?_|exact MSub.nil|apply MSub.drop)) fun w5 hw5 => ?_
      have hO2 : Sl kRow (fun k => w1.heap.size ≤ k ∧ k < w2.heap.size) w2 _ _ := hO.sl.mono fun k hk hl => ⟨hk.elim id id, hl⟩
      refine cut_tail (p := ((endsR r).1.1, if (endsR r).2.2 < (endsR r).1.2 then (endsR r).2.2 else (endsR r).1.2)) (ys := gatM (outR l r) (r0 r) (rn r)) h ?_ ?_ e0 e1 (by omega) hin hl hgl hpb _ (by repeat (first | exact SubB.nil | refine SubB.cons rfl ?_))
      · exact ((Kp.sl hw5.kp hO2 fun k hk hm => by
          have := hw1.ltI (by rfl) hm
          omega).mono fun k hk _ => by unfold noB; omega).e
      · intro k hk
        have := hO.block k hk
        unfold noB at this
        omega
end Go.Ink
