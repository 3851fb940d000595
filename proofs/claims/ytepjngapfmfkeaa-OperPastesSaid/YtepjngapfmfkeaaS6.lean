/-
  oper.Shift.
  The reference: Shift.
  OperLines.
-/
import Derived.Test.YtepjngapfmfkeaaQE
import Derived.Test.YtepjngapfmfkeaaLx
import Derived.Test.YtepjngapfmfkeaaHd
import Derived.Test.YtepjngapfmfkeaaS1
import Derived.Test.YtepjngapfmfkeaaLap
import Derived.Test.YtepjngapfmfkeaaTw
import Derived.Test.YtepjngapfmfkeaaNw
import Derived.Test.YtepjngapfmfkeaaR3
import Derived.Test.YtepjngapfmfkeaaArr
import Derived.Test.YtepjngapfmfkeaaRead
set_option linter.unusedVariables false
set_option linter.unusedSimpArgs false
namespace Go.Ink
open Go Go.Proofs Go.RowKit

/-- So many runes ahead are blank, of n at most. -/
def ldN : Nat → List Int → Nat
  | 0, _ => 0
  | _ + 1, [] => 0
  | n + 1, r :: x => if classM r false = 0 then ldN n x + 1 else 0
theorem ld_eq : ∀ {k n : Nat} {x : List Int}, k ≤ n → k ≤ x.length → (∀ j, j < k → classM (x.getD j 0) false = 0) → (k < n → k < x.length → classM (x.getD k 0) false ≠ 0) → ldN n x = k
  | 0, 0, x, _, _, _, _ => by cases x <;> rfl
  | 0, n + 1, [], _, _, _, _ => rfl
  | 0, n + 1, r :: x, _, _, _, h4 => by
    have := h4 (Nat.succ_pos _) (by simp)
    show (if classM r false = 0 then _ else 0) = 0
    rw [if_neg (by simpa using this)]
  | k + 1, 0, x, h1, _, _, _ => by omega
  | k + 1, n + 1, [], _, h2, _, _ => by simp at h2
  | k + 1, n + 1, r :: x, h1, h2, h3, h4 => by
    have h0 := h3 0 (Nat.succ_pos _)
    show (if classM r false = 0 then ldN n x + 1 else 0) = k + 1
    rw [if_pos (by simpa using h0), ld_eq (k := k) (by omega) (by simpa using h2) (fun j hj => by simpa using h3 (j + 1) (by omega)) (fun a b => by simpa using h4 (by omega) (by simpa using b))]
/-- A row that is moved. -/
def shX (by_ : Int) (x : List Int) : List Int := if 0 < by_ ∧ 0 < x.length then repX [32] by_.toNat ++ x else x.drop (ldN (-by_).toNat x)
def shP (l : List (List Int)) (by_ : Int) (f : Nat) : Nat → List (List Int)
  | 0 => l
  | n + 1 => (shP l by_ f n).set (f + n) (shX by_ (l.getD (f + n) []))
theorem shP_len (l : List (List Int)) (by_ : Int) (f : Nat) : ∀ n, (shP l by_ f n).length = l.length
  | 0 => rfl
  | n + 1 => by show ((shP l by_ f n).set _ _).length = _; rw [List.length_set, shP_len l by_ f n]
theorem shP_get (l : List (List Int)) (by_ : Int) (f : Nat) : ∀ n j, f + n ≤ j → (shP l by_ f n).getD j [] = l.getD j []
  | 0, _, _ => rfl
  | n + 1, j, h => by
    show ((shP l by_ f n).set _ _).getD j [] = _
    rw [List.getD_eq_getElem?_getD, List.getElem?_set_ne (by omega), ← List.getD_eq_getElem?_getD, shP_get l by_ f n j (by omega)]
theorem shX_len {by_ : Int} {x : List Int} (hb : by_ ≤ 64) : (shX by_ x).length ≤ x.length + 64 := by
  unfold shX
  split
  · rw [List.length_append, repX_len, List.length_singleton]; omega
  · rw [List.length_drop]; omega
theorem shP_runes {l : List (List Int)} {by_ : Int} (hb : by_ ≤ 64) (f : Nat) : ∀ n, runesM (shP l by_ f n) ≤ runesM l + n * (runesM l + 64)
  | 0 => by simp [shP]
  | n + 1 => by
    have h1 := shP_runes hb f n (l := l)
    have h2 := runes_set (l := shP l by_ f n) (x := shX by_ (l.getD (f + n) [])) (j := f + n)
    have h3 := shX_len (x := l.getD (f + n) []) hb
    have h4 := runes_getD l (f + n)
    show runesM ((shP l by_ f n).set _ _) ≤ _
    rw [Nat.add_mul]
    omega
def shiftM (l : List (List Int)) (f t by_ : Int) : List (List Int) × Int :=
  if by_ < -64 ∨ 64 < by_ then ([], 1)
  else if f < 0 ∨ t < f ∨ (l.length : Int) ≤ t then ([], 2)
  else if 65536 < sizeM (shP l by_ f.toNat (t + 1 - f).toNat) then ([], 3) else (shP l by_ f.toNat (t + 1 - f).toNat, 0)
/-- A row of an own table. -/
theorem Ow.rowAt {G F : Nat → Prop} {w : World} {ad : Addr} {n c j : Nat} {l : List (List Int)} (h : Ow kRow G F w (.slice (some ad) n c) l) (hj : j < l.length) :
    ∃ A c' ra, w.cell? (ad.add (j * 1)) = some (.slice A (l.getD j []).length c') ∧ Rns (fun k => F k ∧ ad.block ≠ k) w A c' (l.getD j []) ra := by
  obtain ⟨g, o, cap, cur, e, cells, rfl, rfl, rfl, hg, hh, h4, h5, h6, hE, h7⟩ := h.cellAt
  obtain ⟨cs, ⟨u, rfl, hr⟩, h8⟩ := hE.at_ j _ (getD_of (d := []) hj)
  obtain ⟨A, c', ra, rfl, hR⟩ := hr.rns
  refine ⟨A, c', ra, ?_, hR⟩
  have := h8 0 _ rfl
  rw [show kRow.sz = 1 from rfl, Nat.mul_one, Nat.add_zero] at this
  rw [add_plain, blk_cell hh, Nat.mul_one]
  exact h7 j _ this
section
variable {F : Nat → Prop} {w B : World} {ad : Addr} {n c f m : Nat} {bi tt : Int} {l : List (List Int)} {kk : List Item} {R : Value → World → Prop}
/-- What the loop keeps. -/
abbrev ShI (w b : World) (v : Value) (rows : List (List Int)) : Prop := Ow kRow (noB w) (noB w) b v rows
theorem ShI.now {b w' : World} {K : Nat → Prop} {v : Value} {rows : List (List Int)} (h : Ow kRow (fre w K) (fre w K) b v rows) (hw : Kp K b w') : ShI w w' v rows :=
  (Kp.ow hw h (fun _ h => h.2) fun _ h => h.2).mono (fun k hk _ => hk.1) fun k hk _ => hk.1
theorem ShI.nil {b : World} {v : Value} {rows : List (List Int)} (h : ShI w b v rows) : Ow kRow (fre w (MK [])) (fre w (MK [])) b v rows := h.mono (fun k hk _ => ⟨hk, mk_nil⟩) fun k hk _ => ⟨hk, mk_nil⟩
/-- In a world behind it. -/
theorem ShI.at_ {b b' : World} {K : Nat → Prop} {v : Value} {rows : List (List Int)} (h : ShI w b v rows) (hb : Kp (fun k => b.heap.size ≤ k) b b') (hK : ∀ k, K k → b.heap.size ≤ k) : Ow kRow (fre w K) (fre w K) b' v rows :=
  (Kp.ow hb (h.mono (G' := fun k => noB w k ∧ k < b.heap.size) (F' := fun k => noB w k ∧ k < b.heap.size) (fun k hk hl => ⟨hk, hl⟩) fun k hk hl => ⟨hk, hl⟩) (fun k hk h => by have := hk.2; omega) fun k hk h => by have := hk.2; omega).mono (fun k hk _ => ⟨hk.1, fun hm => by have := hK k hm; have := hk.2; omega⟩) fun k hk _ => ⟨hk.1, fun hm => by have := hK k hm; have := hk.2; omega⟩
set_option maxHeartbeats 8000000 in
theorem sh_loop (hn : l.length = n) (hfm : f + m ≤ n) (hb : -64 ≤ bi ∧ bi ≤ 64) (ht : tt + 1 = ((f + m : Nat) : Int)) (hnl : n ≤ 4096) (hlr : runesM l ≤ 1048576) (h0 : ShI w B (.slice (some ad) n c) l)
    (done : ∀ b, ShI w b (.slice (some ad) n c) (shP l bi f m) → ∀ σ', SubB σ' [(10, .slice (some ad) n c)] → ∀ M', WL Try.prog Try.f31 kk σ' w (fun _ => False) b (MK []) M' R) :
    ∀ σ', SubB σ' [(2, .int .i64 tt), (3, .int .i64 bi), (10, .slice (some ad) n c), (11, .int .i64 (f : Int))] → ∀ M',
      WL Try.prog Try.f31 (.code (.loop (bodyC Try.f31 [1, 1, 1, 1, 0, 1, 0, 0])) :: .inBlock 0 :: kk) σ' w (fun _ => False) B (MK []) M' R := by
  intro σ' hs M'
  refine WL.sub (M' := []) hs .nil ?_
  refine l_whileB (fun j : Nat => m - j) (fun j => [(2, .int .i64 tt), (3, .int .i64 bi), (10, .slice (some ad) n c), (11, .int .i64 ((f + j : Nat) : Int))]) (fun _ => [])
    (fun j b => j ≤ m ∧ ShI w b (.slice (some ad) n c) (shP l bi f j)) 0 (by repeat (first | exact SubB.nil | refine SubB.cons rfl ?_)) (by repeat(first|exact MSub.refl|refine MSub.keep rfl ?_|exact MSub.nil|apply MSub.drop)) (fun w' hw => ⟨Nat.zero_le _, Kp.ow hw.kp h0 (fun _ _ => mk_nil) fun _ _ => mk_nil⟩) ?_
  rintro j b ⟨hj, hI⟩ hkb ih
  have hsl := shP_len l bi f j
  by_cases hlt : j < m
  case neg =>
    obtain rfl : j = m := by omega
    repeat(first|refine lrun_ ?_|(refine lo_boxA rfl rfl ?_;intro _ _ _)|(refine lo_box1 rfl rfl rfl ?_;intro _ _ _)|(refine lo_alloc rfl ?_;intro _ _ _))
    refine l_no rfl (by omega) ?_
    refine l_go (.exit rfl) ?_
    exact done b hI _ (by repeat (first | exact SubB.nil | refine SubB.cons rfl ?_)) _
  have hil : f + j < l.length := by omega
  have hil' : f + j < (shP l bi f j).length := by omega
  obtain ⟨A1, c1, ra, hcell, hX⟩ := hI.rowAt hil'
  have hget : (shP l bi f j).getD (f + j) [] = l.getD (f + j) [] := shP_get l bi f j _ (Nat.le_refl _)
  rw [hget] at hcell hX
  have hxl := runes_getD l (f + j)
  have hstep : shP l bi f (j + 1) = (shP l bi f j).set (f + j) (shX bi (l.getD (f + j) [])) := rfl
  generalize l.getD (f + j) [] = x at *
  have hxc := hX.cap
  have hab := hI.block ad.block rfl
  have JK : ¬ (0 < bi ∧ 0 < x.length) → ∀ σ', SubB σ' [(2, .int .i64 tt), (3, .int .i64 bi), (10, .slice (some ad) n c), (11, .int .i64 ((f + j : Nat) : Int)), (12, .slice A1 x.length c1)] → ∀ M',
      WL Try.prog Try.f31 (.code (bodyC Try.f31 [1, 1, 1, 1, 0, 1, 0, 0, 1, 0, 0, 1, 1]) :: .inBlock 1 :: .code (bodyC Try.f31 [1, 1, 1, 1, 0, 1, 0, 0, 1, 1]) :: .inLoop (bodyC Try.f31 [1, 1, 1, 1, 0, 1, 0, 0]) :: .inBlock 0 :: kk) σ' w (fun _ => False) b (MK []) M' R := by
    intro hnp σ' hs M'
    refine WL.sub (M' := []) hs .nil ?_
    repeat(first|refine lrun_ ?_|(refine lo_boxA rfl rfl ?_;intro _ _ _)|(refine lo_box1 rfl rfl rfl ?_;intro _ _ _)|(refine lo_alloc rfl ?_;intro _ _ _))
    refine l_while (fun q : Nat => x.length - q) (fun q => [(2, .int .i64 tt), (3, .int .i64 bi), (10, .slice (some ad) n c), (11, .int .i64 ((f + j : Nat) : Int)), (12, .slice A1 x.length c1), (13, .int .i64 (q : Int))]) (fun _ => [])
      (fun q => q ≤ (-bi).toNat ∧ q ≤ x.length ∧ ∀ i, i < q → classM (x.getD i 0) false = 0) 0 (by repeat (first | exact SubB.nil | refine SubB.cons rfl ?_)) (by repeat(first|exact MSub.refl|refine MSub.keep rfl ?_|exact MSub.nil|apply MSub.drop)) ⟨Nat.zero_le _, Nat.zero_le _, fun i h => absurd h (Nat.not_lt_zero _)⟩ ?_
    rintro q ⟨hq1, hq2, hq3⟩ ih2
    have JE : ldN (-bi).toNat x = q → ∀ σ', SubB σ' [(2, .int .i64 tt), (3, .int .i64 bi), (10, .slice (some ad) n c), (11, .int .i64 ((f + j : Nat) : Int)), (12, .slice A1 x.length c1), (13, .int .i64 (q : Int))] → ∀ M',
        WL Try.prog Try.f31 (.code (bodyC Try.f31 [1, 1, 1, 1, 0, 1, 0, 0, 1, 0, 0, 1, 1, 1, 1]) :: .inBlock 1 :: .code (bodyC Try.f31 [1, 1, 1, 1, 0, 1, 0, 0, 1, 1]) :: .inLoop (bodyC Try.f31 [1, 1, 1, 1, 0, 1, 0, 0]) :: .inBlock 0 :: kk) σ' w (fun _ => False) b (MK []) M' R := by
      intro hq σ' hs M'
      refine WL.sub (M' := []) hs .nil ?_
      have hcut : Sl kRune (fun k => noB w k ∧ ad.block ≠ k) b (cutV A1 q x.length c1 1) (x.drop q) := by
        have := Sl.cutV (d := kRune) hX.sl hq2 (Nat.le_refl _) hxc (Nat.le_refl _)
        rwa [List.take_length] at this
      refine l_region ?_
      repeat(first|refine lops_ ?_|(refine lo_boxA rfl rfl ?_;intro _ _ _)|(refine lo_box1 rfl rfl rfl ?_;intro _ _ _)|(refine lo_alloc rfl ?_;intro _ _ _))
      refine lo_suf (j := q) rfl rfl rfl hq2 hxc rfl ?_
      refine lo_index rfl rfl rfl (by omega) rfl rfl ?_
      refine lo_setM (d := kRow) (j := f + j) (q := x.drop q) rfl rfl hI.nil (fun _ h => h.2) hil' (fun w' hw => ⟨_, rfl, (Kp.sl hw.kp hcut fun _ _ => mk_nil).mono fun k hk _ => ⟨⟨hk.1, mk_nil⟩, hk.2⟩⟩) rfl rfl ?_
      intro w3 w4 hw3 ko3 kp3 hog
      have e1 : shP l bi f (j + 1) = (shP l bi f j).set (f + j) (x.drop q) := by rw [hstep]; unfold shX; rw [if_neg hnp, hq]
      rw [← e1] at hog
      repeat(first|refine lrun_ ?_|(refine lo_boxA rfl rfl ?_;intro _ _ _)|(refine lo_box1 rfl rfl rfl ?_;intro _ _ _)|(refine lo_alloc rfl ?_;intro _ _ _))
      exact ih (j + 1) w4 _ ⟨hlt, ShI.now hog (Kp.refl _ _)⟩ (by omega) _ _ (by repeat (first | exact SubB.nil | refine SubB.cons rfl ?_)) (by repeat(first|exact MSub.refl|refine MSub.keep rfl ?_|exact MSub.nil|apply MSub.drop)) fun w' hw' => ⟨hlt, ShI.now hog hw'.kp⟩
    by_cases c1 : q < (-bi).toNat
    case neg =>
      repeat(first|refine lrun_ ?_|(refine lo_boxA rfl rfl ?_;intro _ _ _)|(refine lo_box1 rfl rfl rfl ?_;intro _ _ _)|(refine lo_alloc rfl ?_;intro _ _ _))
      refine l_false rfl ?_
      refine l_go (.exit rfl) ?_
      exact JE (ld_eq hq1 hq2 hq3 fun h => absurd h c1) _ (by repeat (first | exact SubB.nil | refine SubB.cons rfl ?_)) _
    by_cases c2 : q < x.length
    case neg =>
      repeat(first|refine lrun_ ?_|(refine lo_boxA rfl rfl ?_;intro _ _ _)|(refine lo_box1 rfl rfl rfl ?_;intro _ _ _)|(refine lo_alloc rfl ?_;intro _ _ _))
      refine l_false rfl ?_
      refine l_go (.exit rfl) ?_
      exact JE (ld_eq hq1 hq2 hq3 fun _ h => absurd h c2) _ (by repeat (first | exact SubB.nil | refine SubB.cons rfl ?_)) _
    repeat(first|refine lrun_ ?_|(refine lo_boxA rfl rfl ?_;intro _ _ _)|(refine lo_box1 rfl rfl rfl ?_;intro _ _ _)|(refine lo_alloc rfl ?_;intro _ _ _))
    refine lo_loadB rfl (hX.run q c2) mk_nil rfl ?_
    repeat(first|refine lrun_ ?_|(refine lo_boxA rfl rfl ?_;intro _ _ _)|(refine lo_box1 rfl rfl rfl ?_;intro _ _ _)|(refine lo_alloc rfl ?_;intro _ _ _))
    refine lo_callP (n_call rfl) rfl (fun w' hw => classP_calls) ?_
    repeat(first|refine lrun_ ?_|(refine lo_boxA rfl rfl ?_;intro _ _ _)|(refine lo_box1 rfl rfl rfl ?_;intro _ _ _)|(refine lo_alloc rfl ?_;intro _ _ _))
    by_cases c3 : classM (x.getD q 0) false = 0
    · refine l_yes rfl c3 ?_
      repeat(first|refine lrun_ ?_|(refine lo_boxA rfl rfl ?_;intro _ _ _)|(refine lo_box1 rfl rfl rfl ?_;intro _ _ _)|(refine lo_alloc rfl ?_;intro _ _ _))
      exact ih2 (q + 1) ⟨c1, c2, fun i hi => (Nat.lt_succ_iff_lt_or_eq.1 hi).elim (hq3 i) fun e => by rw [e]; exact c3⟩ (by omega) _ _ (by repeat (first | exact SubB.nil | refine SubB.cons rfl ?_)) (by repeat(first|exact MSub.refl|refine MSub.keep rfl ?_|exact MSub.nil|apply MSub.drop))
    · refine l_no rfl c3 ?_
      refine l_go (.exit rfl) ?_
      exact JE (ld_eq hq1 hq2 hq3 fun _ _ => c3) _ (by repeat (first | exact SubB.nil | refine SubB.cons rfl ?_)) _
  by_cases hb0 : 0 < bi
  case neg =>
    repeat(first|refine lrun_ ?_|(refine lo_boxA rfl rfl ?_;intro _ _ _)|(refine lo_box1 rfl rfl rfl ?_;intro _ _ _)|(refine lo_alloc rfl ?_;intro _ _ _))
    refine l_yes rfl (by omega) ?_
    repeat(first|refine lrun_ ?_|(refine lo_boxA rfl rfl ?_;intro _ _ _)|(refine lo_box1 rfl rfl rfl ?_;intro _ _ _)|(refine lo_alloc rfl ?_;intro _ _ _))
    refine lo_index rfl rfl rfl (by omega) rfl rfl ?_
    refine lo_loadB rfl hcell mk_nil rfl ?_
    repeat(first|refine lrun_ ?_|(refine lo_boxA rfl rfl ?_;intro _ _ _)|(refine lo_box1 rfl rfl rfl ?_;intro _ _ _)|(refine lo_alloc rfl ?_;intro _ _ _))
    refine l_false rfl ?_
    refine l_go .skip ?_
    exact JK (fun h => hb0 h.1) _ (by repeat (first | exact SubB.nil | refine SubB.cons rfl ?_)) _
  by_cases hx0 : 0 < x.length
  case neg =>
    repeat(first|refine lrun_ ?_|(refine lo_boxA rfl rfl ?_;intro _ _ _)|(refine lo_box1 rfl rfl rfl ?_;intro _ _ _)|(refine lo_alloc rfl ?_;intro _ _ _))
    refine l_yes rfl (by omega) ?_
    repeat(first|refine lrun_ ?_|(refine lo_boxA rfl rfl ?_;intro _ _ _)|(refine lo_box1 rfl rfl rfl ?_;intro _ _ _)|(refine lo_alloc rfl ?_;intro _ _ _))
    refine lo_index rfl rfl rfl (by omega) rfl rfl ?_
    refine lo_loadB rfl hcell mk_nil rfl ?_
    repeat(first|refine lrun_ ?_|(refine lo_boxA rfl rfl ?_;intro _ _ _)|(refine lo_box1 rfl rfl rfl ?_;intro _ _ _)|(refine lo_alloc rfl ?_;intro _ _ _))
    refine l_no rfl (by omega) ?_
    refine l_go .skip ?_
    exact JK (fun h => hx0 h.2) _ (by repeat (first | exact SubB.nil | refine SubB.cons rfl ?_)) _
  clear JK
  obtain ⟨bn, rfl⟩ : ∃ bn : Nat, bi = (bn : Int) := ⟨bi.toNat, by omega⟩
  repeat(first|refine lrun_ ?_|(refine lo_boxA rfl rfl ?_;intro _ _ _)|(refine lo_box1 rfl rfl rfl ?_;intro _ _ _)|(refine lo_alloc rfl ?_;intro _ _ _))
  refine l_yes rfl (by omega) ?_
  repeat(first|refine lrun_ ?_|(refine lo_boxA rfl rfl ?_;intro _ _ _)|(refine lo_box1 rfl rfl rfl ?_;intro _ _ _)|(refine lo_alloc rfl ?_;intro _ _ _))
  refine lo_index rfl rfl rfl (by omega) rfl rfl ?_
  refine lo_loadB rfl hcell mk_nil rfl ?_
  repeat(first|refine lrun_ ?_|(refine lo_boxA rfl rfl ?_;intro _ _ _)|(refine lo_box1 rfl rfl rfl ?_;intro _ _ _)|(refine lo_alloc rfl ?_;intro _ _ _))
  refine l_yes rfl (by omega) ?_
  repeat(first|refine lrun_ ?_|(refine lo_boxA rfl rfl ?_;intro _ _ _)|(refine lo_box1 rfl rfl rfl ?_;intro _ _ _)|(refine lo_alloc rfl ?_;intro _ _ _))
  refine lo_lit (cs := [.int .i32 32]) rfl (by decide) (by kernel_rfl) rfl ?_
  intro g56 hg56 hg56'
  repeat(first|refine lrun_ ?_|(refine lo_boxA rfl rfl ?_;intro _ _ _)|(refine lo_box1 rfl rfl rfl ?_;intro _ _ _)|(refine lo_alloc rfl ?_;intro _ _ _))
  refine lo_callM (n_call rfl) rfl (fun w' hw => repeat_calls (F := fun _ => True) (x := [32]) (n := bn) (sl_row (xs := [32]) (hw.mem g56 _ .hd) trivial (fun y hy => by cases hy with | head => decide | tail _ h => cases h) (by decide)) (show bn * 1 ≤ 4194304 by omega) (show 1 ≤ 4194304 by decide) (by omega)) ?_
  intro w3 u w4 hw3 kn3 ko3 hO3
  obtain ⟨Au, cu, rfl, _, _⟩ := hO3.form
  have hs3 := hw3.kp.size
  have hk4 : Kn b w4 := (hw3.kp.mono fun _ _ h => (mk_nil h).elim).trans kn3
  repeat(first|refine lrun_ ?_|(refine lo_boxA rfl rfl ?_;intro _ _ _)|(refine lo_box1 rfl rfl rfl ?_;intro _ _ _)|(refine lo_alloc rfl ?_;intro _ _ _))
  refine lo_lit (cs := [.slice Au (repX [32] bn).length cu, .slice A1 x.length c1]) rfl (by decide) (by kernel_rfl) rfl ?_
  intro g60 hg60 hg60'
  repeat(first|refine lrun_ ?_|(refine lo_boxA rfl rfl ?_;intro _ _ _)|(refine lo_box1 rfl rfl rfl ?_;intro _ _ _)|(refine lo_alloc rfl ?_;intro _ _ _))
  have hX4 := Kn.sl hk4 (hX.sl.mono (F' := fun k => (noB w k ∧ ad.block ≠ k) ∧ k < b.heap.size) fun k hk hl => ⟨hk, hl⟩)
  have hm1 : ∀ k, MK [(g56, cb [.int .i32 32] 21)] k → b.heap.size ≤ k := fun k hm => by
    rw [MK_iff] at hm
    simp only [List.map_cons, List.map_nil, List.mem_cons, List.not_mem_nil, or_false] at hm
    omega
  have hm56 : ∀ (M : Mm), M = [(g60, cb [.slice Au (repX [32] bn).length cu, .slice A1 x.length c1] 35), (g56, cb [.int .i32 32] 21)] → ∀ k, MK M k → b.heap.size ≤ k := fun M e k hm => by
    subst e
    rw [MK_iff] at hm
    simp only [List.map_cons, List.map_nil, List.mem_cons, List.not_mem_nil, or_false] at hm
    have := hk4.size
    omega
  refine lo_callM (n_call rfl) rfl (fun w' hw => concat_calls (F := fun _ => True) (xs := [repX [32] bn, x]) (sl_lines2 (hw.mem g60 _ .hd) trivial (hw.owN hO3 fun k hm => hw3.lt hm).sl.any (Kp.sl hw.kp hX4 fun k hk hm => by have := hk.2; have := hm1 k hm; omega).any) (by simp [runesM, repX_len]; omega)) ?_
  intro w5 u w6 hw5 kn5 ko5 hO5
  rw [show [repX [32] bn, x].flatten = repX [32] bn ++ x by simp] at hO5
  obtain ⟨A5, c5, rfl, _, _⟩ := hO5.form
  repeat(first|refine lrun_ ?_|(refine lo_boxA rfl rfl ?_;intro _ _ _)|(refine lo_box1 rfl rfl rfl ?_;intro _ _ _)|(refine lo_alloc rfl ?_;intro _ _ _))
  refine lo_index rfl rfl rfl (by omega) rfl rfl ?_
  have hk6 : Kp (fun k => b.heap.size ≤ k) b w6 := (Kp.then hk4 hw5.kp (T := fun k => b.heap.size ≤ k) (fun _ h => h.elim) fun k _ hm => hm1 k hm).then kn5 (fun _ h => h) fun _ _ h => h.elim
  have hs5 := (Kp.then hk4 hw5.kp (T := fun k => b.heap.size ≤ k) (fun _ h => h.elim) fun k _ hm => hm1 k hm).size
  have hs5o := hw5.org.size
  refine lo_setM (d := kRow) (j := f + j) (q := repX [32] bn ++ x) rfl rfl (hI.at_ hk6 (hm56 _ rfl)) (fun _ h => h.2) hil' (fun w' hw => ⟨_, rfl, (hw.owN hO5 fun k hm => hw5.lt hm).slF (fun k hk => by
    have hk' : w5.heap.size ≤ k := hk
    exact ⟨⟨by omega, fun hm => by have := hw5.lt hm; omega⟩, fun e => by omega⟩) fun _ h => h.elim⟩) rfl rfl ?_
  intro w7 w8 hw7 ko7 kp7 hog
  have e1 : shP l (bn : Int) f (j + 1) = (shP l (bn : Int) f j).set (f + j) (repX [32] bn ++ x) := by rw [hstep]; unfold shX; rw [if_pos ⟨hb0, hx0⟩, Int.toNat_natCast]
  rw [← e1] at hog
  repeat(first|refine lrun_ ?_|(refine lo_boxA rfl rfl ?_;intro _ _ _)|(refine lo_box1 rfl rfl rfl ?_;intro _ _ _)|(refine lo_alloc rfl ?_;intro _ _ _))
  exact ih (j + 1) w8 _ ⟨hlt, ShI.now hog (Kp.refl _ _)⟩ (by omega) _ _ (by repeat (first | exact SubB.nil | refine SubB.cons rfl ?_)) (by repeat(first|exact MSub.refl|refine MSub.keep rfl ?_|exact MSub.nil|apply MSub.drop)) fun w' hw' => ⟨hlt, ShI.now hog hw'.kp⟩
set_option maxHeartbeats 8000000 in
theorem shift_calls {v : Value} {f t bi : Int} (h : Sl kRow F w v l) (hf : -9223372036854775808 ≤ f ∧ f ≤ 9223372036854775807) (ht : -9223372036854775808 ≤ t ∧ t ≤ 9223372036854775807) (hb : -9223372036854775808 ≤ bi ∧ bi ≤ 9223372036854775807) (hl : l.length ≤ 4096) (hlr : runesM l ≤ 1048576) :
    CallsR Try.prog 31 #[v, .int .i64 f, .int .i64 t, .int .i64 bi] w fun u w' => Kn w w' ∧ ∃ s, u = .tuple #[s, .int .i64 (shiftM l f t bi).2] ∧ Ow kRow (noB w) (noB w) w' s (shiftM l f t bi).1 := by
  obtain ⟨A, c, ad, rV, rc, ra, rfl, hR⟩ := h.rws
  refine l_enter (fun _ => False) Try.func31 rfl rfl ?_
  by_cases h1 : bi < -64
  · unfold shiftM
    rw [if_pos (.inl h1)]
    repeat(first|refine lrun_ ?_|(refine lo_boxA rfl rfl ?_;intro _ _ _)|(refine lo_box1 rfl rfl rfl ?_;intro _ _ _)|(refine lo_alloc rfl ?_;intro _ _ _))
    refine l_true rfl ?_
    repeat(first|refine lrun_ ?_|(refine lo_boxA rfl rfl ?_;intro _ _ _)|(refine lo_box1 rfl rfl rfl ?_;intro _ _ _)|(refine lo_alloc rfl ?_;intro _ _ _))
    exact l_retR2 rfl (by repeat(first|exact LRes.nil|refine LRes.tmp rfl ?_|refine LRes.agg rfl (by(repeat(first|exact MIn.hd|refine MIn.tl ?_));done) (by rfl) (by rfl) ?_|refine LRes.one rfl (by(repeat(first|exact MIn.hd|refine MIn.tl ?_));done) (by rfl) ?_)) fun w hw => ⟨hw.org, _, rfl, Ow.nil _ _ _ _⟩
  by_cases h2 : 64 < bi
  · unfold shiftM
    rw [if_pos (.inr h2)]
    repeat(first|refine lrun_ ?_|(refine lo_boxA rfl rfl ?_;intro _ _ _)|(refine lo_box1 rfl rfl rfl ?_;intro _ _ _)|(refine lo_alloc rfl ?_;intro _ _ _))
    refine l_yes rfl h2 ?_
    repeat(first|refine lrun_ ?_|(refine lo_boxA rfl rfl ?_;intro _ _ _)|(refine lo_box1 rfl rfl rfl ?_;intro _ _ _)|(refine lo_alloc rfl ?_;intro _ _ _))
    exact l_retR2 rfl (by repeat(first|exact LRes.nil|refine LRes.tmp rfl ?_|refine LRes.agg rfl (by(repeat(first|exact MIn.hd|refine MIn.tl ?_));done) (by rfl) (by rfl) ?_|refine LRes.one rfl (by(repeat(first|exact MIn.hd|refine MIn.tl ?_));done) (by rfl) ?_)) fun w hw => ⟨hw.org, _, rfl, Ow.nil _ _ _ _⟩
  unfold shiftM
  rw [if_neg (fun h => h.elim h1 h2)]
  by_cases h3 : f < 0
  · rw [if_pos (.inl h3)]
    repeat(first|refine lrun_ ?_|(refine lo_boxA rfl rfl ?_;intro _ _ _)|(refine lo_box1 rfl rfl rfl ?_;intro _ _ _)|(refine lo_alloc rfl ?_;intro _ _ _))
    refine l_no rfl h2 ?_
    refine l_go .skip ?_
    repeat(first|refine lrun_ ?_|(refine lo_boxA rfl rfl ?_;intro _ _ _)|(refine lo_box1 rfl rfl rfl ?_;intro _ _ _)|(refine lo_alloc rfl ?_;intro _ _ _))
    refine l_true rfl ?_
    repeat(first|refine lrun_ ?_|(refine lo_boxA rfl rfl ?_;intro _ _ _)|(refine lo_box1 rfl rfl rfl ?_;intro _ _ _)|(refine lo_alloc rfl ?_;intro _ _ _))
    exact l_retR2 rfl (by repeat(first|exact LRes.nil|refine LRes.tmp rfl ?_|refine LRes.agg rfl (by(repeat(first|exact MIn.hd|refine MIn.tl ?_));done) (by rfl) (by rfl) ?_|refine LRes.one rfl (by(repeat(first|exact MIn.hd|refine MIn.tl ?_));done) (by rfl) ?_)) fun w hw => ⟨hw.org, _, rfl, Ow.nil _ _ _ _⟩
  by_cases h4 : t < f
  · rw [if_pos (.inr (.inl h4))]
    repeat(first|refine lrun_ ?_|(refine lo_boxA rfl rfl ?_;intro _ _ _)|(refine lo_box1 rfl rfl rfl ?_;intro _ _ _)|(refine lo_alloc rfl ?_;intro _ _ _))
    refine l_no rfl h2 ?_
    refine l_go .skip ?_
    repeat(first|refine lrun_ ?_|(refine lo_boxA rfl rfl ?_;intro _ _ _)|(refine lo_box1 rfl rfl rfl ?_;intro _ _ _)|(refine lo_alloc rfl ?_;intro _ _ _))
    refine l_true rfl ?_
    repeat(first|refine lrun_ ?_|(refine lo_boxA rfl rfl ?_;intro _ _ _)|(refine lo_box1 rfl rfl rfl ?_;intro _ _ _)|(refine lo_alloc rfl ?_;intro _ _ _))
    exact l_retR2 rfl (by repeat(first|exact LRes.nil|refine LRes.tmp rfl ?_|refine LRes.agg rfl (by(repeat(first|exact MIn.hd|refine MIn.tl ?_));done) (by rfl) (by rfl) ?_|refine LRes.one rfl (by(repeat(first|exact MIn.hd|refine MIn.tl ?_));done) (by rfl) ?_)) fun w hw => ⟨hw.org, _, rfl, Ow.nil _ _ _ _⟩
  by_cases h5 : (l.length : Int) ≤ t
  · rw [if_pos (.inr (.inr h5))]
    repeat(first|refine lrun_ ?_|(refine lo_boxA rfl rfl ?_;intro _ _ _)|(refine lo_box1 rfl rfl rfl ?_;intro _ _ _)|(refine lo_alloc rfl ?_;intro _ _ _))
    refine l_no rfl h2 ?_
    refine l_go .skip ?_
    repeat(first|refine lrun_ ?_|(refine lo_boxA rfl rfl ?_;intro _ _ _)|(refine lo_box1 rfl rfl rfl ?_;intro _ _ _)|(refine lo_alloc rfl ?_;intro _ _ _))
    refine l_yes rfl h5 ?_
    repeat(first|refine lrun_ ?_|(refine lo_boxA rfl rfl ?_;intro _ _ _)|(refine lo_box1 rfl rfl rfl ?_;intro _ _ _)|(refine lo_alloc rfl ?_;intro _ _ _))
    exact l_retR2 rfl (by repeat(first|exact LRes.nil|refine LRes.tmp rfl ?_|refine LRes.agg rfl (by(repeat(first|exact MIn.hd|refine MIn.tl ?_));done) (by rfl) (by rfl) ?_|refine LRes.one rfl (by(repeat(first|exact MIn.hd|refine MIn.tl ?_));done) (by rfl) ?_)) fun w hw => ⟨hw.org, _, rfl, Ow.nil _ _ _ _⟩
  rw [if_neg (fun h => h.elim h3 fun h => h.elim h4 h5)]
  obtain ⟨i, rfl⟩ : ∃ i : Nat, f = (i : Int) := ⟨f.toNat, by omega⟩
  obtain ⟨m, hm⟩ : ∃ m : Nat, (t + 1 - (i : Int)).toNat = m := ⟨_, rfl⟩
  rw [Int.toNat_natCast, hm]
  have hrun := shP_runes (l := l) (by_ := bi) (by omega) i m
  have hmul : m * (runesM l + 64) ≤ 4096 * (1048576 + 64) := Nat.mul_le_mul (by omega) (by omega)
  repeat(first|refine lrun_ ?_|(refine lo_boxA rfl rfl ?_;intro _ _ _)|(refine lo_box1 rfl rfl rfl ?_;intro _ _ _)|(refine lo_alloc rfl ?_;intro _ _ _))
  refine l_no rfl h2 ?_
  refine l_go .skip ?_
  repeat(first|refine lrun_ ?_|(refine lo_boxA rfl rfl ?_;intro _ _ _)|(refine lo_box1 rfl rfl rfl ?_;intro _ _ _)|(refine lo_alloc rfl ?_;intro _ _ _))
  refine l_no rfl h5 ?_
  refine l_go .skip ?_
  repeat(first|refine lrun_ ?_|(refine lo_boxA rfl rfl ?_;intro _ _ _)|(refine lo_box1 rfl rfl rfl ?_;intro _ _ _)|(refine lo_alloc rfl ?_;intro _ _ _))
  refine lo_callM (n_call rfl) rfl (fun w' hw => lines_calls (Kn.sl hw.org h)) ?_
  intro w3 u w4 hw3 kn3 ko3 hO3
  obtain ⟨A3, c3, rfl, _, _⟩ := hO3.form
  have hs3 := hw3.org.size
  have hI : ShI w w4 (.slice A3 l.length c3) l := hO3.mono (fun k hk _ => by unfold noB at *; omega) fun k hk _ => by unfold noB at *; omega
  obtain ⟨ad3, rfl⟩ : ∃ ad3, A3 = some ad3 := by
    obtain ⟨_, _, _, h8⟩ := hI
    rcases h8 with ⟨_, h8⟩ | ⟨_, _, _, _, _, h8, _⟩
    · have : l.length = 0 := by rw [h8]; rfl
      omega
    · cases h8; exact ⟨_, rfl⟩
  clear hO3 hw3 kn3 ko3
  repeat(first|refine lrun_ ?_|(refine lo_boxA rfl rfl ?_;intro _ _ _)|(refine lo_box1 rfl rfl rfl ?_;intro _ _ _)|(refine lo_alloc rfl ?_;intro _ _ _))
  refine sh_loop (f := i) (m := m) (bi := bi) (tt := t) rfl (by omega) (by omega) (by omega) hl hlr hI ?_ _ (by repeat (first | exact SubB.nil | refine SubB.cons rfl ?_)) _
  intro b hB σ' hs M'
  refine WL.sub (M' := []) hs .nil ?_
  repeat(first|refine lrun_ ?_|(refine lo_boxA rfl rfl ?_;intro _ _ _)|(refine lo_box1 rfl rfl rfl ?_;intro _ _ _)|(refine lo_alloc rfl ?_;intro _ _ _))
  refine lo_callM (n_call rfl) rfl (fun w' hw => fits_calls (p := (0, 0)) (G := noB w) (H := noB w) (l := shP l bi i m) (Kp.ow hw.kp hB (fun _ _ => mk_nil) fun _ _ => mk_nil) (by omega)) ?_
  rintro w5 _ w6 hw5 kn5 ko5 ⟨s, rfl, hO5⟩
  obtain ⟨A5, c5, rfl, _, _⟩ := hO5.form
  unfold fitsM at hO5 ⊢
  by_cases h6 : 65536 < sizeM (shP l bi i m)
  · rw [if_pos h6] at hO5 ⊢
    rw [if_pos h6]
    repeat(first|refine lrun_ ?_|(refine lo_boxA rfl rfl ?_;intro _ _ _)|(refine lo_box1 rfl rfl rfl ?_;intro _ _ _)|(refine lo_alloc rfl ?_;intro _ _ _))
    exact l_retR2 rfl (by repeat(first|exact LRes.nil|refine LRes.tmp rfl ?_|refine LRes.agg rfl (by(repeat(first|exact MIn.hd|refine MIn.tl ?_));done) (by rfl) (by rfl) ?_|refine LRes.one rfl (by(repeat(first|exact MIn.hd|refine MIn.tl ?_));done) (by rfl) ?_)) fun w' hw => ⟨hw.org, _, rfl, Kp.ow hw.kp hO5 (fun _ _ => mk_nil) fun _ _ => mk_nil⟩
  · rw [if_neg h6] at hO5 ⊢
    rw [if_neg h6]
    repeat(first|refine lrun_ ?_|(refine lo_boxA rfl rfl ?_;intro _ _ _)|(refine lo_box1 rfl rfl rfl ?_;intro _ _ _)|(refine lo_alloc rfl ?_;intro _ _ _))
    exact l_retR2 rfl (by repeat(first|exact LRes.nil|refine LRes.tmp rfl ?_|refine LRes.agg rfl (by(repeat(first|exact MIn.hd|refine MIn.tl ?_));done) (by rfl) (by rfl) ?_|refine LRes.one rfl (by(repeat(first|exact MIn.hd|refine MIn.tl ?_));done) (by rfl) ?_)) fun w' hw => ⟨hw.org, _, rfl, Kp.ow hw.kp hO5 (fun _ _ => mk_nil) fun _ _ => mk_nil⟩
end
end Go.Ink

set_option linter.unusedVariables false
set_option linter.unusedSimpArgs false
namespace Go.Ink
open Go Go.Proofs Go.RowKit

section
variable {P : Program} {fn : Func} {k : List Item} {σ : Sig} {O B : World} {S K : Nat → Prop} {X M Y : Mm} {R : Pt} {ops : Array Oper} {listed : Array Bool} {l : List (Nat × Nat)} {i : Nat}
variable {dd : Option Nat} {op : Op} {oty : TypeId} {opos : String} {oaf : Array Edge} {og : Option (Nat × Bool)}
/-- As ld_callO, and whose the block is. -/
theorem ld_callO2 {f : FuncId} {args : Array Value} {α : Type} {d : Kd α} {F : Nat → Prop} {xs : List α} (hrun : En P fn.ntmps σ ⟨dd, op, oty, opos, oaf, og⟩ f args) (hg : wants ops σ ⟨dd, op, oty, opos, oaf, og⟩ true) (hd : okD dd fn.ntmps = true) (hc : ∀ w, Lw O S B K (X ++ M) w → CallsR P f args w fun u w' => Kn w w' ∧ Ow d (noB w) (fun k => noB w k ∧ F k) w' u xs)
    (h : ∀ A n N, (∀ k, MK N k → O.heap.size ≤ k ∧ B.heap.size ≤ k) → (∀ k, (Value.slice A xs.length n).ownBlock = some k → MK N k) → (∀ w' : World, (∀ g o, MIn g o N → w'.heap[g]? = some o) → Ow d (MK N) (MK N) w' (.slice A xs.length n) xs) → WLd P fn ops (listed.setIfInBounds i true) l k (putS dd (.slice A xs.length n) σ) O S B K (N ++ X) M R) : WLdo P fn ops listed i 1 (⟨dd, op, oty, opos, oaf, og⟩ : Oper) l k σ O S B K X M R := by
  refine ld_callX (Φ := fun u N => ∃ w w', Lw O S B K (X ++ M) w ∧ News w w' N ∧ Ow d (noB w) (fun k => noB w k ∧ F k) w' u xs ∧ Cover w w' N) hrun hg hd (fun w hw => (hc w hw).mono fun u w' ⟨h1, h2⟩ => by
    obtain ⟨N, h3, h4⟩ := news_of h1
    exact ⟨N, h3, w, w', hw, h3, h2, h4⟩) fun u N ⟨w, w', h1, h2, h3, h4⟩ => ?_
  have hb := h3.block
  obtain ⟨A, n, rfl, _⟩ := h3.form
  refine h A n N (fun k hk => by have := h2.ge k hk; have := h1.org.size; have := h1.kp.size; omega) (fun k hk => by obtain ⟨o, hm, _⟩ := h4 k (hb k hk).1 (hb k hk).2; exact ⟨o, hm⟩) fun w'' hw'' => ?_
  refine (h3.mono (G' := fun k => noB w k ∧ k < w'.heap.size) (F' := fun k => noB w k ∧ k < w'.heap.size) (fun k hk hl => ⟨hk, hl⟩) fun k hk hl => ⟨hk.1, hl⟩).move (fun k hk hl => ?_) |>.mono (fun k hk _ => ?_) fun k hk _ => ?_
  · have hk' : noB w k ∧ k < w'.heap.size := hk.elim id id
    obtain ⟨o, hm, ho⟩ := h4 k hk'.1 hk'.2
    rw [hw'' k o hm, ho]
  · obtain ⟨o, hm, ho⟩ := h4 k hk.1 hk.2
    exact ⟨o, hm⟩
  · obtain ⟨o, hm, ho⟩ := h4 k hk.1 hk.2
    exact ⟨o, hm⟩
/-- A row that is new since the region began is stored among own lines; of the own blocks only Y' are told of then. -/
theorem ld_rowSetD {Y' : Mm} {x y : Operand} {t : TypeId} [hT : CellT P t] {ad : Addr} {n c j : Nat} {rows : List (List Int)} {u : Value} {r : List Int} (hY : MCat X M Y) (hs : MSub Y' Y) (hwa : waitsAll ops i = true) (hx : ev σ x = some (.pointer (some (ad.add (j * 1))))) (hy : ev σ y = some u)
    (hO : Ow kRow (fre O K) (fre O K) B (.slice (some ad) n c) rows) (hj : j < rows.length) (hr : ∀ w, Lw O S B K Y w → Ow kRune (fun k => u.ownBlock = some k) (fun _ => False) w u r) (hu : ∀ k, u.ownBlock = some k → O.heap.size ≤ k ∧ ¬ MK Y' k ∧ ad.block ≠ k) (hg : wants ops σ ⟨dd, .store t x y, oty, opos, oaf, og⟩ true) (hd : okD dd fn.ntmps = true)
    (h : ∀ w w', Lw O S B K Y w → Kp S O w' → Ow kRow (fre O (MK Y')) (fre O (MK Y')) w' (.slice (some ad) n c) (rows.set j r) → WLd P fn ops (listed.setIfInBounds i true) l k (putS dd undef σ) O S w' (MK Y') [] Y' R) :
    WLdo P fn ops listed i 1 (⟨dd, .store t x y, oty, opos, oaf, og⟩ : Oper) l k σ O S B K X M R := by
  unfold WLdo
  refine fun w w2 h1 h2 h3 h4 h5 => ?_
  rw [hY.eq] at h2
  have hOB := hO.mono (G' := fun k => fre O K k ∧ k < B.heap.size) (F' := fun k => fre O K k ∧ k < B.heap.size) (fun k hk hl => ⟨hk, hl⟩) (fun k hk hl => ⟨hk, hl⟩)
  have hO2 := (Kp.ow h2.kp hOB (fun k hk => hk.1.2) fun k hk => hk.1.2).mono (G' := fun k => fre O K k ∧ k < B.heap.size) (F' := fun k => (fre O K k ∧ k < B.heap.size) ∨ u.ownBlock = some k) (fun k hk _ => hk) fun k hk _ => .inl hk
  refine x_unit (u_set (d := kRow) (j := j) (q := r) hx hy hO2 hj ⟨u, rfl, (hr w2 h2).slF (fun k hk => ⟨.inr hk, (hu k hk).2.2⟩) fun _ h => h.elim⟩ rfl) hg hd fun w' ⟨k1, k2⟩ => .inr ⟨hwa, ?_⟩
  have hb := hO.block ad.block rfl
  have hl := h2.ownW hb.1 hb.2 k1
  have hsub : ∀ k, MK Y' k → MK Y k := fun k ⟨o, hm⟩ => ⟨o, hs.mem hm⟩
  have hn : Ow kRow (fre O (MK Y')) (fre O (MK Y')) w' (.slice (some ad) n c) (rows.set j r) := k2.mono (fun k hk _ => ⟨hk.1.1, fun hm => h2.apart hk.1.2 hk.2 (hsub k hm)⟩) fun k hk _ => hk.elim (fun hk => ⟨hk.1.1, fun hm => h2.apart hk.1.2 hk.2 (hsub k hm)⟩) fun hk => ⟨(hu k hk).1, (hu k hk).2.1⟩
  have hl' : Lw O S w' (MK Y') Y' w' := ⟨hl.org, Kp.refl _ _, fun g o hm => hl.mem g o (hs.mem hm), hs.sub.map _ |>.nodup hl.nd, fun k hm => ⟨(hl.ge k (hsub k hm)).1, .inr hm⟩⟩
  exact ld_goM hl' (h w2 w' h2 hl.org hn)
end
section
variable {F : Nat → Prop} {w B : World} {ad : Addr} {n c f m : Nat} {bi tt : Int} {l : List (List Int)} {kk : List Item} {R : Value → World → Prop}
set_option maxHeartbeats 8000000 in
theorem shR_loop (hn : l.length = n) (hfm : f + m ≤ n) (hb : -64 ≤ bi ∧ bi ≤ 64) (ht : tt + 1 = ((f + m : Nat) : Int)) (hnl : n ≤ 4096) (hlr : runesM l ≤ 1048576) (h0 : ShI w B (.slice (some ad) n c) l)
    (done : ∀ b, ShI w b (.slice (some ad) n c) (shP l bi f m) → ∀ σ', SubB σ' [(10, .slice (some ad) n c)] → ∀ M', WL Try.prog Try.f32 kk σ' w (fun _ => False) b (MK []) M' R) :
    ∀ σ', SubB σ' [(2, .int .i64 tt), (3, .int .i64 bi), (10, .slice (some ad) n c), (11, .int .i64 (f : Int))] → ∀ M',
      WL Try.prog Try.f32 (.code (.loop (bodyC Try.f32 [1, 1, 1, 1, 0, 1, 0, 0])) :: .inBlock 0 :: kk) σ' w (fun _ => False) B (MK []) M' R := by
  intro σ' hs M'
  refine WL.sub (M' := []) hs .nil ?_
  refine l_whileB (fun j : Nat => m - j) (fun j => [(2, .int .i64 tt), (3, .int .i64 bi), (10, .slice (some ad) n c), (11, .int .i64 ((f + j : Nat) : Int))]) (fun _ => [])
    (fun j b => j ≤ m ∧ ShI w b (.slice (some ad) n c) (shP l bi f j)) 0 (by repeat (first | exact SubB.nil | refine SubB.cons rfl ?_)) (by repeat(first|exact MSub.refl|refine MSub.keep rfl ?_|exact MSub.nil|apply MSub.drop)) (fun w' hw => ⟨Nat.zero_le _, Kp.ow hw.kp h0 (fun _ _ => mk_nil) fun _ _ => mk_nil⟩) ?_
  rintro j b ⟨hj, hI⟩ hkb ih
  have hsl := shP_len l bi f j
  by_cases hlt : j < m
  case neg =>
    obtain rfl : j = m := by omega
    repeat(first|refine lrun_ ?_|(refine lo_boxA rfl rfl ?_;intro _ _ _)|(refine lo_box1 rfl rfl rfl ?_;intro _ _ _)|(refine lo_alloc rfl ?_;intro _ _ _))
    refine l_no rfl (by omega) ?_
    refine l_go (.exit rfl) ?_
    exact done b hI _ (by repeat (first | exact SubB.nil | refine SubB.cons rfl ?_)) _
  have hil : f + j < l.length := by omega
  have hil' : f + j < (shP l bi f j).length := by omega
  obtain ⟨A1, c1, ra, hcell, hX⟩ := hI.rowAt hil'
  have hget : (shP l bi f j).getD (f + j) [] = l.getD (f + j) [] := shP_get l bi f j _ (Nat.le_refl _)
  rw [hget] at hcell hX
  have hxl := runes_getD l (f + j)
  have hstep : shP l bi f (j + 1) = (shP l bi f j).set (f + j) (shX bi (l.getD (f + j) [])) := rfl
  generalize hx : l.getD (f + j) [] = x at *
  have hxc := hX.cap
  have hab := hI.block ad.block rfl
  have JK : ∀ (b2 : World) (rows : List (List Int)) (y : List Int), ShI w b2 (.slice (some ad) n c) rows → rows.length = n → rows.getD (f + j) [] = y → rows.set (f + j) (y.drop (ldN (-bi).toNat y)) = shP l bi f (j + 1) →
      ∀ σ', SubB σ' [(2, .int .i64 tt), (3, .int .i64 bi), (10, .slice (some ad) n c), (11, .int .i64 ((f + j : Nat) : Int))] → ∀ M',
      WL Try.prog Try.f32 (.code (bodyC Try.f32 [1, 1, 1, 1, 0, 1, 0, 0, 1, 0, 0, 1]) :: .inBlock 1 :: .code (bodyC Try.f32 [1, 1, 1, 1, 0, 1, 0, 0, 1, 1]) :: .inLoop (bodyC Try.f32 [1, 1, 1, 1, 0, 1, 0, 0]) :: .inBlock 0 :: kk) σ' w (fun _ => False) b2 (MK []) M' R := by
    clear hI hcell hX hab hkb
    intro b2 rows y hI hrl hry hfin σ' hs M'
    refine WL.sub (M' := []) hs .nil ?_
    repeat(first|refine lrun_ ?_|(refine lo_boxA rfl rfl ?_;intro _ _ _)|(refine lo_box1 rfl rfl rfl ?_;intro _ _ _)|(refine lo_alloc rfl ?_;intro _ _ _))
    refine l_whileB (fun q : Nat => y.length - q) (fun q => [(2, .int .i64 tt), (3, .int .i64 bi), (10, .slice (some ad) n c), (11, .int .i64 ((f + j : Nat) : Int)), (12, .int .i64 (bi + (q : Int)))]) (fun _ => [])
      (fun q b => (q ≤ (-bi).toNat ∧ q ≤ y.length ∧ ∀ i, i < q → classM (y.getD i 0) false = 0) ∧ ShI w b (.slice (some ad) n c) (rows.set (f + j) (y.drop q))) 0 (by rw [show bi + ((0 : Nat) : Int) = bi by omega]; exact (by repeat (first | exact SubB.nil | refine SubB.cons rfl ?_))) (by repeat(first|exact MSub.refl|refine MSub.keep rfl ?_|exact MSub.nil|apply MSub.drop)) (fun w' hw => ⟨⟨Nat.zero_le _, Nat.zero_le _, fun i h => absurd h (Nat.not_lt_zero _)⟩, ?_⟩) ?_
    · have e : rows.set (f + j) (y.drop 0) = rows := by
        rw [List.drop_zero, ← hry, List.getD_eq_getElem?_getD, List.getElem?_eq_getElem (by omega)]
        exact List.set_getElem_self _
      rw [e]
      exact Kp.ow hw.kp hI (fun _ _ => mk_nil) fun _ _ => mk_nil
    rintro q b3 ⟨⟨hq1, hq2, hq3⟩, hI3⟩ hkb3 ih2
    have hl3 : f + j < (rows.set (f + j) (y.drop q)).length := by rw [List.length_set]; omega
    obtain ⟨A3, c3, ra3, hcell3, hX⟩ := hI3.rowAt hl3
    rw [show (rows.set (f + j) (y.drop q)).getD (f + j) [] = y.drop q by rw [List.getD_eq_getElem?_getD, List.getElem?_set_self (by omega)]; rfl] at hcell3 hX
    have hdl : (y.drop q).length = y.length - q := List.length_drop
    have eg : (y.drop q).getD 0 0 = y.getD q 0 := by rw [List.getD_eq_getElem?_getD, List.getD_eq_getElem?_getD, List.getElem?_drop, Nat.add_zero]
    have JE : ldN (-bi).toNat y = q → ∀ σ', SubB σ' [(2, .int .i64 tt), (3, .int .i64 bi), (10, .slice (some ad) n c), (11, .int .i64 ((f + j : Nat) : Int))] → ∀ M',
        WL Try.prog Try.f32 (.inBlock 1 :: .code (bodyC Try.f32 [1, 1, 1, 1, 0, 1, 0, 0, 1, 1]) :: .inLoop (bodyC Try.f32 [1, 1, 1, 1, 0, 1, 0, 0]) :: .inBlock 0 :: kk) σ' w (fun _ => False) b3 (MK []) M' R := by
      intro hq σ' hs M'
      refine WL.sub (M' := []) hs .nil ?_
      rw [hq] at hfin
      rw [hfin] at hI3
      repeat(first|refine lrun_ ?_|(refine lo_boxA rfl rfl ?_;intro _ _ _)|(refine lo_box1 rfl rfl rfl ?_;intro _ _ _)|(refine lo_alloc rfl ?_;intro _ _ _))
      exact ih (j + 1) b3 _ ⟨hlt, hI3⟩ (by omega) _ _ (by repeat (first | exact SubB.nil | refine SubB.cons rfl ?_)) (by repeat(first|exact MSub.refl|refine MSub.keep rfl ?_|exact MSub.nil|apply MSub.drop)) fun w' hw' => ⟨hlt, Kp.ow hw'.kp hI3 (fun _ _ => mk_nil) fun _ _ => mk_nil⟩
    by_cases c1 : q < (-bi).toNat
    case neg =>
      repeat(first|refine lrun_ ?_|(refine lo_boxA rfl rfl ?_;intro _ _ _)|(refine lo_box1 rfl rfl rfl ?_;intro _ _ _)|(refine lo_alloc rfl ?_;intro _ _ _))
      refine l_false rfl ?_
      refine l_go (.exit rfl) ?_
      exact JE (ld_eq hq1 hq2 hq3 fun h => absurd h c1) _ (by repeat (first | exact SubB.nil | refine SubB.cons rfl ?_)) _
    repeat(first|refine lrun_ ?_|(refine lo_boxA rfl rfl ?_;intro _ _ _)|(refine lo_box1 rfl rfl rfl ?_;intro _ _ _)|(refine lo_alloc rfl ?_;intro _ _ _))
    refine lo_index rfl rfl rfl (by omega) rfl rfl ?_
    repeat(first|refine lrun_ ?_|(refine lo_boxA rfl rfl ?_;intro _ _ _)|(refine lo_box1 rfl rfl rfl ?_;intro _ _ _)|(refine lo_alloc rfl ?_;intro _ _ _))
    refine lo_loadB rfl hcell3 mk_nil rfl ?_
    by_cases c2 : 0 < (y.drop q).length
    case neg =>
      repeat(first|refine lrun_ ?_|(refine lo_boxA rfl rfl ?_;intro _ _ _)|(refine lo_box1 rfl rfl rfl ?_;intro _ _ _)|(refine lo_alloc rfl ?_;intro _ _ _))
      refine l_false rfl ?_
      refine l_go (.exit rfl) ?_
      exact JE (ld_eq hq1 hq2 hq3 fun _ h => absurd h (by omega)) _ (by repeat (first | exact SubB.nil | refine SubB.cons rfl ?_)) _
    have hxc3 := hX.cap
    repeat(first|refine lrun_ ?_|(refine lo_boxA rfl rfl ?_;intro _ _ _)|(refine lo_box1 rfl rfl rfl ?_;intro _ _ _)|(refine lo_alloc rfl ?_;intro _ _ _))
    refine lo_index rfl rfl rfl (by omega) rfl rfl ?_
    repeat(first|refine lrun_ ?_|(refine lo_boxA rfl rfl ?_;intro _ _ _)|(refine lo_box1 rfl rfl rfl ?_;intro _ _ _)|(refine lo_alloc rfl ?_;intro _ _ _))
    refine lo_loadB rfl hcell3 mk_nil rfl ?_
    repeat(first|refine lrun_ ?_|(refine lo_boxA rfl rfl ?_;intro _ _ _)|(refine lo_box1 rfl rfl rfl ?_;intro _ _ _)|(refine lo_alloc rfl ?_;intro _ _ _))
    refine lo_loadB rfl (hX.run 0 c2) mk_nil rfl ?_
    repeat(first|refine lrun_ ?_|(refine lo_boxA rfl rfl ?_;intro _ _ _)|(refine lo_box1 rfl rfl rfl ?_;intro _ _ _)|(refine lo_alloc rfl ?_;intro _ _ _))
    refine lo_callP (n_call rfl) rfl (fun w' hw => classR_calls) ?_
    repeat(first|refine lrun_ ?_|(refine lo_boxA rfl rfl ?_;intro _ _ _)|(refine lo_box1 rfl rfl rfl ?_;intro _ _ _)|(refine lo_alloc rfl ?_;intro _ _ _))
    by_cases hc0 : classM ((y.drop q).getD 0 0) false = 0
    case neg =>
      refine l_no rfl hc0 ?_
      refine l_go (.exit rfl) ?_
      exact JE (ld_eq hq1 hq2 hq3 fun _ _ => eg ▸ hc0) _ (by repeat (first | exact SubB.nil | refine SubB.cons rfl ?_)) _
    refine l_yes rfl hc0 ?_
    repeat(first|refine lrun_ ?_|(refine lo_boxA rfl rfl ?_;intro _ _ _)|(refine lo_box1 rfl rfl rfl ?_;intro _ _ _)|(refine lo_alloc rfl ?_;intro _ _ _))
    refine lo_index rfl rfl rfl (by omega) rfl rfl ?_
    repeat(first|refine lrun_ ?_|(refine lo_boxA rfl rfl ?_;intro _ _ _)|(refine lo_box1 rfl rfl rfl ?_;intro _ _ _)|(refine lo_alloc rfl ?_;intro _ _ _))
    refine lo_loadB rfl hcell3 mk_nil rfl ?_
    repeat(first|refine lrun_ ?_|(refine lo_boxA rfl rfl ?_;intro _ _ _)|(refine lo_box1 rfl rfl rfl ?_;intro _ _ _)|(refine lo_alloc rfl ?_;intro _ _ _))
    have hcut : Sl kRune (fun k => noB w k ∧ ad.block ≠ k) b3 (cutV A3 1 (y.drop q).length c3 1) (y.drop (q + 1)) := by
      have := Sl.cutV (d := kRune) hX.sl (l := 1) (show 1 ≤ (y.drop q).length from c2) (Nat.le_refl _) hxc3 (Nat.le_refl _)
      rwa [List.take_length, List.drop_drop] at this
    refine lo_suf (j := 1) rfl rfl rfl c2 hxc3 rfl ?_
    refine lo_index rfl rfl rfl (by omega) rfl rfl ?_
    refine lo_setM (d := kRow) (j := f + j) (q := y.drop (q + 1)) rfl rfl hI3.nil (fun _ h => h.2) hl3 (fun w' hw => ⟨_, rfl, (Kp.sl hw.kp hcut fun _ _ => mk_nil).mono fun k hk _ => ⟨⟨hk.1, mk_nil⟩, hk.2⟩⟩) rfl rfl ?_
    intro w3 w4 hw3 ko3 kp3 hog
    rw [List.set_set] at hog
    have hq3' : ∀ i, i < q + 1 → classM (y.getD i 0) false = 0 := fun i hi => (Nat.lt_succ_iff_lt_or_eq.1 hi).elim (hq3 i) fun e => by rw [e, ← eg]; exact hc0
    repeat(first|refine lrun_ ?_|(refine lo_boxA rfl rfl ?_;intro _ _ _)|(refine lo_box1 rfl rfl rfl ?_;intro _ _ _)|(refine lo_alloc rfl ?_;intro _ _ _))
    exact ih2 (q + 1) w4 _ ⟨⟨c1, by omega, hq3'⟩, ShI.now hog (Kp.refl _ _)⟩ (by omega) _ _ (by rw [show bi + ((q + 1 : Nat) : Int) = bi + (q : Int) + 1 by omega]; exact (by repeat (first | exact SubB.nil | refine SubB.cons rfl ?_))) (by repeat(first|exact MSub.refl|refine MSub.keep rfl ?_|exact MSub.nil|apply MSub.drop)) fun w' hw' => ⟨⟨c1, by omega, hq3'⟩, ShI.now hog hw'.kp⟩
  by_cases hb0 : 0 < bi
  case neg =>
    repeat(first|refine lrun_ ?_|(refine lo_boxA rfl rfl ?_;intro _ _ _)|(refine lo_box1 rfl rfl rfl ?_;intro _ _ _)|(refine lo_alloc rfl ?_;intro _ _ _))
    refine l_yes rfl (by omega) ?_
    repeat(first|refine lrun_ ?_|(refine lo_boxA rfl rfl ?_;intro _ _ _)|(refine lo_box1 rfl rfl rfl ?_;intro _ _ _)|(refine lo_alloc rfl ?_;intro _ _ _))
    refine l_false rfl ?_
    refine l_go .skip ?_
    exact JK b _ x hI (by omega) hget (by rw [hstep]; unfold shX; rw [if_neg fun h => hb0 h.1]) _ (by repeat (first | exact SubB.nil | refine SubB.cons rfl ?_)) _
  by_cases hx0 : 0 < x.length
  case neg =>
    repeat(first|refine lrun_ ?_|(refine lo_boxA rfl rfl ?_;intro _ _ _)|(refine lo_box1 rfl rfl rfl ?_;intro _ _ _)|(refine lo_alloc rfl ?_;intro _ _ _))
    refine l_yes rfl (by omega) ?_
    repeat(first|refine lrun_ ?_|(refine lo_boxA rfl rfl ?_;intro _ _ _)|(refine lo_box1 rfl rfl rfl ?_;intro _ _ _)|(refine lo_alloc rfl ?_;intro _ _ _))
    refine lo_index rfl rfl rfl (by omega) rfl rfl ?_
    repeat(first|refine lrun_ ?_|(refine lo_boxA rfl rfl ?_;intro _ _ _)|(refine lo_box1 rfl rfl rfl ?_;intro _ _ _)|(refine lo_alloc rfl ?_;intro _ _ _))
    refine lo_loadB rfl hcell mk_nil rfl ?_
    repeat(first|refine lrun_ ?_|(refine lo_boxA rfl rfl ?_;intro _ _ _)|(refine lo_box1 rfl rfl rfl ?_;intro _ _ _)|(refine lo_alloc rfl ?_;intro _ _ _))
    refine l_no rfl (by omega) ?_
    refine l_go .skip ?_
    exact JK b _ x hI (by omega) hget (by rw [hstep]; unfold shX; rw [if_neg fun h => hx0 h.2]) _ (by repeat (first | exact SubB.nil | refine SubB.cons rfl ?_)) _
  repeat(first|refine lrun_ ?_|(refine lo_boxA rfl rfl ?_;intro _ _ _)|(refine lo_box1 rfl rfl rfl ?_;intro _ _ _)|(refine lo_alloc rfl ?_;intro _ _ _))
  refine l_yes rfl (by omega) ?_
  repeat(first|refine lrun_ ?_|(refine lo_boxA rfl rfl ?_;intro _ _ _)|(refine lo_box1 rfl rfl rfl ?_;intro _ _ _)|(refine lo_alloc rfl ?_;intro _ _ _))
  refine lo_index rfl rfl rfl (by omega) rfl rfl ?_
  repeat(first|refine lrun_ ?_|(refine lo_boxA rfl rfl ?_;intro _ _ _)|(refine lo_box1 rfl rfl rfl ?_;intro _ _ _)|(refine lo_alloc rfl ?_;intro _ _ _))
  refine lo_loadB rfl hcell mk_nil rfl ?_
  repeat(first|refine lrun_ ?_|(refine lo_boxA rfl rfl ?_;intro _ _ _)|(refine lo_box1 rfl rfl rfl ?_;intro _ _ _)|(refine lo_alloc rfl ?_;intro _ _ _))
  refine l_yes rfl (by omega) ?_
  refine l_draw [(0, 0), (1, 0), (2, 0), (4, 0), (5, 0), (6, 0), (7, 0), (3, 1), (8, 1), (9, 0), (10, 1)] (by kernel_rfl) (by kernel_rfl) rfl (by kernel_rfl) ?_
  repeat(first|refine lrund_ ?_|(refine ld_open rfl ?_;first|(refine ld_boxA rfl wy_ rfl ?_;intro _ _ _)|(refine ld_box1 rfl rfl wy_ rfl ?_;intro _ _ _)|(refine ld_alloc wy_ rfl ?_;intro _ _ _)))
  refine ld_open rfl ?_; refine ld_index rfl rfl rfl (by omega) rfl wy_ rfl ?_
  refine ld_open rfl ?_; refine ld_loadB rfl hcell mk_nil wy_ rfl ?_
  repeat(first|refine lrund_ ?_|(refine ld_open rfl ?_;first|(refine ld_boxA rfl wy_ rfl ?_;intro _ _ _)|(refine ld_box1 rfl rfl wy_ rfl ?_;intro _ _ _)|(refine ld_alloc wy_ rfl ?_;intro _ _ _)))
  refine ld_open rfl ?_; refine ld_callO2 (d := kRune) (F := fun _ => False) (xs := List.replicate bi.toNat 32) (n_call rfl) wy_ rfl (fun w' hw' => (blanksR_calls (by omega)).mono fun u w'' ⟨h1, h2⟩ => ⟨h1, h2.mono (fun _ h _ => h) fun _ h _ => h.elim⟩) ?_
  intro A3 n3 N3 hNg hNb hN3
  have hrl : (List.replicate bi.toNat (32 : Int)).length = bi.toNat := List.length_replicate
  refine ld_open rfl ?_; refine ld_appendN (d := kRune) (F2 := fun k => k < b.heap.size) (xs := List.replicate bi.toNat 32) (ys := x) rfl rfl (fun w' hw' => ((hN3 w' fun g o hm => hw'.mem g o (min_l (min_l hm))).sc).mono (fun k hk _ => mk_app.2 (.inl hk)) fun _ h _ => h) (fun w' hw' => Kp.sl hw'.kp hX.sl.old fun _ _ => mk_nil) (fun k hk hk2 => by have := (hNg k (hNb k hk2)).2; omega) (by rw [hrl]; show (bi.toNat + x.length) * 4 ≤ 140737488355328; omega) rfl rfl rfl wy_ rfl ?_
  intro A4 n4 X4 hX4k hX4b hX4
  have hX4g : ∀ k, MK X4 k → w.heap.size ≤ k ∧ b.heap.size ≤ k := fun k hk => (hX4k k hk).elim (fun h => (mk_app.1 h).elim (hNg k) fun h => (mk_nil h).elim) id
  have er : List.replicate bi.toNat 32 ++ x = shX bi x := by unfold shX; rw [if_pos ⟨hb0, hx0⟩]; simp [repX]
  have hyl : ldN (-bi).toNat (shX bi x) = 0 := by rw [show (-bi).toNat = 0 by omega]; cases shX bi x <;> rfl
  rw [er] at hX4b hX4 ⊢
  refine ld_open rfl ?_; refine ld_index (j := f + j) rfl rfl rfl (by omega) rfl wy_ rfl ?_
  refine ld_open rfl ?_; refine ld_rowSetD (Y' := []) (r := shX bi x) (j := f + j) mcat_self .nil (by kernel_rfl) rfl rfl hI.nil hil' (fun w' hw' => (hX4 w' fun g o hm => hw'.mem g o (min_l hm)).nW.mono (fun k hk _ => hk.2) fun _ h _ => h) (fun k hk => by have h8 := hX4g k (hX4b k hk); have h9 := hab.2; exact ⟨h8.1, mk_nil, by omega⟩) wy_ rfl ?_
  intro w5 w6 hw5 ko5 hog
  repeat(first|refine lrund_ ?_|(refine ld_open rfl ?_;first|(refine ld_boxA rfl wy_ rfl ?_;intro _ _ _)|(refine ld_box1 rfl rfl wy_ rfl ?_;intro _ _ _)|(refine ld_alloc wy_ rfl ?_;intro _ _ _)))
  exact JK w6 _ (shX bi x) (ShI.now hog (Kp.refl _ _)) (by rw [List.length_set]; omega) (by rw [List.getD_eq_getElem?_getD, List.getElem?_set_self (by omega)]; rfl) (by rw [hyl, List.drop_zero, List.set_set, hstep]) _ (by repeat (first | exact SubB.nil | refine SubB.cons rfl ?_)) _
set_option maxHeartbeats 8000000 in
theorem shiftR_calls {v : Value} {f t bi : Int} (h : Sl kRow F w v l) (hf : -9223372036854775808 ≤ f ∧ f ≤ 9223372036854775807) (ht : -9223372036854775808 ≤ t ∧ t ≤ 9223372036854775807) (hb : -9223372036854775808 ≤ bi ∧ bi ≤ 9223372036854775807) (hl : l.length ≤ 300) (hlr : runesM l ≤ 1048576) :
    CallsR Try.prog 32 #[v, .int .i64 f, .int .i64 t, .int .i64 bi] w fun u w' => Kn w w' ∧ ∃ s, u = .tuple #[s, .int .i64 (shiftM l f t bi).2] ∧ Ow kRow (noB w) (noB w) w' s (shiftM l f t bi).1 := by
  obtain ⟨A, c, ad, rV, rc, ra, rfl, hR⟩ := h.rws
  refine l_enter (fun _ => False) Try.func32 rfl rfl ?_
  by_cases h1 : bi < -64
  · unfold shiftM
    rw [if_pos (.inl h1)]
    repeat(first|refine lrun_ ?_|(refine lo_boxA rfl rfl ?_;intro _ _ _)|(refine lo_box1 rfl rfl rfl ?_;intro _ _ _)|(refine lo_alloc rfl ?_;intro _ _ _))
    refine l_true rfl ?_
    repeat(first|refine lrun_ ?_|(refine lo_boxA rfl rfl ?_;intro _ _ _)|(refine lo_box1 rfl rfl rfl ?_;intro _ _ _)|(refine lo_alloc rfl ?_;intro _ _ _))
    exact l_retR2 rfl (by repeat(first|exact LRes.nil|refine LRes.tmp rfl ?_|refine LRes.agg rfl (by(repeat(first|exact MIn.hd|refine MIn.tl ?_));done) (by rfl) (by rfl) ?_|refine LRes.one rfl (by(repeat(first|exact MIn.hd|refine MIn.tl ?_));done) (by rfl) ?_)) fun w hw => ⟨hw.org, _, rfl, Ow.nil _ _ _ _⟩
  by_cases h2 : 64 < bi
  · unfold shiftM
    rw [if_pos (.inr h2)]
    repeat(first|refine lrun_ ?_|(refine lo_boxA rfl rfl ?_;intro _ _ _)|(refine lo_box1 rfl rfl rfl ?_;intro _ _ _)|(refine lo_alloc rfl ?_;intro _ _ _))
    refine l_yes rfl h2 ?_
    repeat(first|refine lrun_ ?_|(refine lo_boxA rfl rfl ?_;intro _ _ _)|(refine lo_box1 rfl rfl rfl ?_;intro _ _ _)|(refine lo_alloc rfl ?_;intro _ _ _))
    exact l_retR2 rfl (by repeat(first|exact LRes.nil|refine LRes.tmp rfl ?_|refine LRes.agg rfl (by(repeat(first|exact MIn.hd|refine MIn.tl ?_));done) (by rfl) (by rfl) ?_|refine LRes.one rfl (by(repeat(first|exact MIn.hd|refine MIn.tl ?_));done) (by rfl) ?_)) fun w hw => ⟨hw.org, _, rfl, Ow.nil _ _ _ _⟩
  unfold shiftM
  rw [if_neg (fun h => h.elim h1 h2)]
  by_cases h3 : f < 0
  · rw [if_pos (.inl h3)]
    repeat(first|refine lrun_ ?_|(refine lo_boxA rfl rfl ?_;intro _ _ _)|(refine lo_box1 rfl rfl rfl ?_;intro _ _ _)|(refine lo_alloc rfl ?_;intro _ _ _))
    refine l_no rfl h2 ?_
    refine l_go .skip ?_
    repeat(first|refine lrun_ ?_|(refine lo_boxA rfl rfl ?_;intro _ _ _)|(refine lo_box1 rfl rfl rfl ?_;intro _ _ _)|(refine lo_alloc rfl ?_;intro _ _ _))
    refine l_true rfl ?_
    repeat(first|refine lrun_ ?_|(refine lo_boxA rfl rfl ?_;intro _ _ _)|(refine lo_box1 rfl rfl rfl ?_;intro _ _ _)|(refine lo_alloc rfl ?_;intro _ _ _))
    exact l_retR2 rfl (by repeat(first|exact LRes.nil|refine LRes.tmp rfl ?_|refine LRes.agg rfl (by(repeat(first|exact MIn.hd|refine MIn.tl ?_));done) (by rfl) (by rfl) ?_|refine LRes.one rfl (by(repeat(first|exact MIn.hd|refine MIn.tl ?_));done) (by rfl) ?_)) fun w hw => ⟨hw.org, _, rfl, Ow.nil _ _ _ _⟩
  by_cases h4 : t < f
  · rw [if_pos (.inr (.inl h4))]
    repeat(first|refine lrun_ ?_|(refine lo_boxA rfl rfl ?_;intro _ _ _)|(refine lo_box1 rfl rfl rfl ?_;intro _ _ _)|(refine lo_alloc rfl ?_;intro _ _ _))
    refine l_no rfl h2 ?_
    refine l_go .skip ?_
    repeat(first|refine lrun_ ?_|(refine lo_boxA rfl rfl ?_;intro _ _ _)|(refine lo_box1 rfl rfl rfl ?_;intro _ _ _)|(refine lo_alloc rfl ?_;intro _ _ _))
    refine l_true rfl ?_
    repeat(first|refine lrun_ ?_|(refine lo_boxA rfl rfl ?_;intro _ _ _)|(refine lo_box1 rfl rfl rfl ?_;intro _ _ _)|(refine lo_alloc rfl ?_;intro _ _ _))
    exact l_retR2 rfl (by repeat(first|exact LRes.nil|refine LRes.tmp rfl ?_|refine LRes.agg rfl (by(repeat(first|exact MIn.hd|refine MIn.tl ?_));done) (by rfl) (by rfl) ?_|refine LRes.one rfl (by(repeat(first|exact MIn.hd|refine MIn.tl ?_));done) (by rfl) ?_)) fun w hw => ⟨hw.org, _, rfl, Ow.nil _ _ _ _⟩
  by_cases h5 : (l.length : Int) ≤ t
  · rw [if_pos (.inr (.inr h5))]
    repeat(first|refine lrun_ ?_|(refine lo_boxA rfl rfl ?_;intro _ _ _)|(refine lo_box1 rfl rfl rfl ?_;intro _ _ _)|(refine lo_alloc rfl ?_;intro _ _ _))
    refine l_no rfl h2 ?_
    refine l_go .skip ?_
    repeat(first|refine lrun_ ?_|(refine lo_boxA rfl rfl ?_;intro _ _ _)|(refine lo_box1 rfl rfl rfl ?_;intro _ _ _)|(refine lo_alloc rfl ?_;intro _ _ _))
    refine l_yes rfl h5 ?_
    repeat(first|refine lrun_ ?_|(refine lo_boxA rfl rfl ?_;intro _ _ _)|(refine lo_box1 rfl rfl rfl ?_;intro _ _ _)|(refine lo_alloc rfl ?_;intro _ _ _))
    exact l_retR2 rfl (by repeat(first|exact LRes.nil|refine LRes.tmp rfl ?_|refine LRes.agg rfl (by(repeat(first|exact MIn.hd|refine MIn.tl ?_));done) (by rfl) (by rfl) ?_|refine LRes.one rfl (by(repeat(first|exact MIn.hd|refine MIn.tl ?_));done) (by rfl) ?_)) fun w hw => ⟨hw.org, _, rfl, Ow.nil _ _ _ _⟩
  rw [if_neg (fun h => h.elim h3 fun h => h.elim h4 h5)]
  obtain ⟨i, rfl⟩ : ∃ i : Nat, f = (i : Int) := ⟨f.toNat, by omega⟩
  obtain ⟨m, hm⟩ : ∃ m : Nat, (t + 1 - (i : Int)).toNat = m := ⟨_, rfl⟩
  rw [Int.toNat_natCast, hm]
  have hrun := shP_runes (l := l) (by_ := bi) (by omega) i m
  have hmul : m * (runesM l + 64) ≤ 4096 * (1048576 + 64) := Nat.mul_le_mul (by omega) (by omega)
  repeat(first|refine lrun_ ?_|(refine lo_boxA rfl rfl ?_;intro _ _ _)|(refine lo_box1 rfl rfl rfl ?_;intro _ _ _)|(refine lo_alloc rfl ?_;intro _ _ _))
  refine l_no rfl h2 ?_
  refine l_go .skip ?_
  repeat(first|refine lrun_ ?_|(refine lo_boxA rfl rfl ?_;intro _ _ _)|(refine lo_box1 rfl rfl rfl ?_;intro _ _ _)|(refine lo_alloc rfl ?_;intro _ _ _))
  refine l_no rfl h5 ?_
  refine l_go .skip ?_
  repeat(first|refine lrun_ ?_|(refine lo_boxA rfl rfl ?_;intro _ _ _)|(refine lo_box1 rfl rfl rfl ?_;intro _ _ _)|(refine lo_alloc rfl ?_;intro _ _ _))
  refine lo_callM (n_call rfl) rfl (fun w' hw => twinT_calls (Kn.sl hw.org h)) ?_
  rintro w3 u w4 hw3 kn3 ko3 ⟨us3, hT3⟩
  have hO3 := hT3.ow fun _ _ => trivial
  obtain ⟨A3, c3, rfl, _, _⟩ := hO3.form
  have hs3 := hw3.org.size
  have hI : ShI w w4 (.slice A3 l.length c3) l := hO3.mono (fun k hk _ => by unfold noB at *; omega) fun k hk _ => by unfold noB at *; omega
  obtain ⟨ad3, rfl⟩ : ∃ ad3, A3 = some ad3 := by
    obtain ⟨_, _, _, h8⟩ := hI
    rcases h8 with ⟨_, h8⟩ | ⟨_, _, _, _, _, h8, _⟩
    · have : l.length = 0 := by rw [h8]; rfl
      omega
    · cases h8; exact ⟨_, rfl⟩
  clear hO3 hw3 kn3 ko3 hT3
  repeat(first|refine lrun_ ?_|(refine lo_boxA rfl rfl ?_;intro _ _ _)|(refine lo_box1 rfl rfl rfl ?_;intro _ _ _)|(refine lo_alloc rfl ?_;intro _ _ _))
  refine shR_loop (f := i) (m := m) (bi := bi) (tt := t) rfl (by omega) (by omega) (by omega) (by omega) hlr hI ?_ _ (by repeat (first | exact SubB.nil | refine SubB.cons rfl ?_)) _
  intro b hB σ' hs M'
  refine WL.sub (M' := []) hs .nil ?_
  have hsl := shP_len l bi i m
  have hB' : ShI w b (.slice (some ad3) (shP l bi i m).length c3) (shP l bi i m) := by rw [hsl]; exact hB
  rw [← hsl]
  repeat(first|refine lrun_ ?_|(refine lo_boxA rfl rfl ?_;intro _ _ _)|(refine lo_box1 rfl rfl rfl ?_;intro _ _ _)|(refine lo_alloc rfl ?_;intro _ _ _))
  refine lo_callP (n_call rfl) rfl (fun w' hw => runes04_calls (Kp.ow hw.kp hB' (fun _ _ => mk_nil) fun _ _ => mk_nil).sl (by omega)) ?_
  have hsz : (if ((shP l bi i m).length : Int) - 1 + runesM (shP l bi i m) < 0 then 0 else ((shP l bi i m).length : Int) - 1 + runesM (shP l bi i m)) = (sizeM (shP l bi i m) : Nat) := by
    unfold sizeM
    rw [if_neg (by omega)]
    omega
  rw [hsz]
  by_cases h6 : 65536 < sizeM (shP l bi i m)
  · rw [if_pos h6]
    repeat(first|refine lrun_ ?_|(refine lo_boxA rfl rfl ?_;intro _ _ _)|(refine lo_box1 rfl rfl rfl ?_;intro _ _ _)|(refine lo_alloc rfl ?_;intro _ _ _))
    refine l_yes rfl (by omega) ?_
    repeat(first|refine lrun_ ?_|(refine lo_boxA rfl rfl ?_;intro _ _ _)|(refine lo_box1 rfl rfl rfl ?_;intro _ _ _)|(refine lo_alloc rfl ?_;intro _ _ _))
    exact l_retR2 rfl (by repeat(first|exact LRes.nil|refine LRes.tmp rfl ?_|refine LRes.agg rfl (by(repeat(first|exact MIn.hd|refine MIn.tl ?_));done) (by rfl) (by rfl) ?_|refine LRes.one rfl (by(repeat(first|exact MIn.hd|refine MIn.tl ?_));done) (by rfl) ?_)) fun w' hw => ⟨hw.org, _, rfl, Ow.nil _ _ _ _⟩
  · rw [if_neg h6]
    repeat(first|refine lrun_ ?_|(refine lo_boxA rfl rfl ?_;intro _ _ _)|(refine lo_box1 rfl rfl rfl ?_;intro _ _ _)|(refine lo_alloc rfl ?_;intro _ _ _))
    refine l_no rfl (by omega) ?_
    refine l_go .skip ?_
    repeat(first|refine lrun_ ?_|(refine lo_boxA rfl rfl ?_;intro _ _ _)|(refine lo_box1 rfl rfl rfl ?_;intro _ _ _)|(refine lo_alloc rfl ?_;intro _ _ _))
    exact l_retR2 rfl (by repeat(first|exact LRes.nil|refine LRes.tmp rfl ?_|refine LRes.agg rfl (by(repeat(first|exact MIn.hd|refine MIn.tl ?_));done) (by rfl) (by rfl) ?_|refine LRes.one rfl (by(repeat(first|exact MIn.hd|refine MIn.tl ?_));done) (by rfl) ?_)) fun w' hw => ⟨hw.org, _, rfl, Kp.ow hw.kp hB' (fun _ _ => mk_nil) fun _ _ => mk_nil⟩
end
end Go.Ink

set_option linter.unusedVariables false
set_option linter.unusedSimpArgs false
namespace Go.Ink
open Go Go.Proofs Go.RowKit

section
variable {F : Nat → Prop} {w : World} {v : Value} {l : List (List Int)}
def JnT (l : List (List Int)) (a n : Int) (u : Value) (N : Mm) : Prop := ∃ s, u = .tuple #[s, posV (joinM l a n).2.1, .int .i64 (joinM l a n).2.2] ∧ NwT (joinM l a n).1 s N
theorem joinN_calls {v : Value} {a n : Int} (h : Sl kRow F w v l) (ha : -9223372036854775808 ≤ a ∧ a ≤ 9223372036854775807) (hn : -9223372036854775808 ≤ n ∧ n ≤ 9223372036854775807) (hl : l.length ≤ 4096) (hk : ∀ j, (l.getD j []).length ≤ 4194304) :
    CallsR Try.prog 33 #[v, .int .i64 a, .int .i64 n] w fun u w' => ∃ N, News w w' N ∧ JnT l a n u N :=
  (join_calls h ha hn hl hk).mono fun u w' ⟨h1, s, e, h2⟩ => by
    obtain ⟨N, h3, h4⟩ := nwT_of h1 h2
    exact ⟨N, h3, s, e, h4⟩
def ShT (l : List (List Int)) (f t b : Int) (u : Value) (N : Mm) : Prop := ∃ s, u = .tuple #[s, .int .i64 (shiftM l f t b).2] ∧ NwT (shiftM l f t b).1 s N
theorem shiftN_calls {v : Value} {f t bi : Int} (h : Sl kRow F w v l) (hf : -9223372036854775808 ≤ f ∧ f ≤ 9223372036854775807) (ht : -9223372036854775808 ≤ t ∧ t ≤ 9223372036854775807) (hb : -9223372036854775808 ≤ bi ∧ bi ≤ 9223372036854775807) (hl : l.length ≤ 4096) (hlr : runesM l ≤ 1048576) :
    CallsR Try.prog 31 #[v, .int .i64 f, .int .i64 t, .int .i64 bi] w fun u w' => ∃ N, News w w' N ∧ ShT l f t bi u N :=
  (shift_calls h hf ht hb hl hlr).mono fun u w' ⟨h1, s, e, h2⟩ => by
    obtain ⟨N, h3, h4⟩ := nwT_of h1 h2
    exact ⟨N, h3, s, e, h4⟩
set_option maxHeartbeats 8000000 in
/-- Behind the fifth region. -/
theorem ol_tail {B : World} {A : Option Addr} {c g4 g12 : Nat} {a b n : Int} {A7 A9 A11 : Option Addr} {c7 c9 c11 : Nat} {rows : List (List Int)} {e8 : Int} (h : Sl kRow F w (.slice A l.length c) l) (ha : -9223372036854775808 ≤ a ∧ a ≤ 9223372036854775807) (hn : -9223372036854775808 ≤ n ∧ n ≤ 9223372036854775807) (hl : l.length ≤ 300) (hr : runesM l ≤ 4096)
    (h7 : Hd kRow B (MK ((g12, cb [.int .i64 (joinM l a n).2.1.1, .int .i64 (joinM l a n).2.1.2] 24) :: [(g4, cb [.int .i64 a, .int .i64 b] 55)])) (.slice A7 rows.length c7) rows) (h9 : Hd kRow B (MK ((g12, cb [.int .i64 (joinM l a n).2.1.1, .int .i64 (joinM l a n).2.1.2] 24) :: [(g4, cb [.int .i64 a, .int .i64 b] 55)])) (.slice A9 rows.length c9) rows) (h11 : Hd kRow B (MK ((g12, cb [.int .i64 (joinM l a n).2.1.1, .int .i64 (joinM l a n).2.1.2] 24) :: [(g4, cb [.int .i64 a, .int .i64 b] 55)])) (.slice A11 (joinM l a n).1.length c11) (joinM l a n).1) :
    ∀ σ', SubB σ' [(0, .slice A l.length c), (2, .int .i64 n), (4, .pointer (some ⟨g4, 0, none⟩)), (7, .slice A7 rows.length c7), (8, .int .i64 e8), (9, .slice A9 rows.length c9), (10, .int .i64 e8), (11, .slice A11 (joinM l a n).1.length c11), (12, .pointer (some ⟨g12, 0, none⟩)), (13, .int .i64 (joinM l a n).2.2)] → ∀ M', MSub ((g12, cb [.int .i64 (joinM l a n).2.1.1, .int .i64 (joinM l a n).2.1.2] 24) :: [(g4, cb [.int .i64 a, .int .i64 b] 55)]) M' →
      WL Try.prog Try.f9 [.code (bodyC Try.f9 [1, 1, 1, 1, 1])] σ' w (fun _ => False) B (MK ((g12, cb [.int .i64 (joinM l a n).2.1.1, .int .i64 (joinM l a n).2.1.2] 24) :: [(g4, cb [.int .i64 a, .int .i64 b] 55)])) M' fun u w' => Kn w w' ∧ u = .bool true := by
  intro σ' hs M' hM
  refine WL.sub hs hM ?_
  repeat(first|refine lrun_ ?_|(refine lo_boxA rfl rfl ?_;intro _ _ _)|(refine lo_box1 rfl rfl rfl ?_;intro _ _ _)|(refine lo_alloc rfl ?_;intro _ _ _))
  refine lo_rn (fun _ => r_indexA rfl rfl (by decide) (by decide)) rfl ?_
  repeat(first|refine lrun_ ?_|(refine lo_boxA rfl rfl ?_;intro _ _ _)|(refine lo_box1 rfl rfl rfl ?_;intro _ _ _)|(refine lo_alloc rfl ?_;intro _ _ _))
  refine lo_callM (n_call rfl) rfl (fun w' hw => joinR_calls (Kn.sl hw.org h) ha hn (by omega) fun j => Nat.le_trans (runes_getD _ j) (by omega)) ?_
  rintro w7 _ w8 hw7 kn7 ko7 ⟨s8, rfl, hO8⟩
  have h7 := h7.next hw7 kn7
  have h9 := h9.next hw7 kn7
  have h11 := h11.next hw7 kn7
  have hs8 := Hd.of hO8 hw7
  obtain ⟨A8, c8, rfl, _, _⟩ := hO8.form
  clear hO8
  generalize joinM l a n = J at *
  repeat(first|refine lrun_ ?_|(refine lo_boxA rfl rfl ?_;intro _ _ _)|(refine lo_box1 rfl rfl rfl ?_;intro _ _ _)|(refine lo_alloc rfl ?_;intro _ _ _))
  rw [decide_eq_true (rfl : e8 = e8), decide_eq_true (rfl : J.2.2 = J.2.2)]
  repeat(first|refine lrun_ ?_|(refine lo_boxA rfl rfl ?_;intro _ _ _)|(refine lo_box1 rfl rfl rfl ?_;intro _ _ _)|(refine lo_alloc rfl ?_;intro _ _ _))
  rw [decide_eq_true (⟨rfl, rfl⟩ : J.2.1.1 = J.2.1.1 ∧ J.2.1.2 = J.2.1.2)]
  repeat(first|refine lrun_ ?_|(refine lo_boxA rfl rfl ?_;intro _ _ _)|(refine lo_box1 rfl rfl rfl ?_;intro _ _ _)|(refine lo_alloc rfl ?_;intro _ _ _))
  refine lo_call (n_call rfl) rfl (fun w' hw => same04_calls (h7.now hw) (h9.now hw)) ?_
  rw [decide_eq_true (rfl : rows = rows)]
  repeat(first|refine lrun_ ?_|(refine lo_boxA rfl rfl ?_;intro _ _ _)|(refine lo_box1 rfl rfl rfl ?_;intro _ _ _)|(refine lo_alloc rfl ?_;intro _ _ _))
  refine lo_call (n_call rfl) rfl (fun w' hw => same04_calls (h11.now hw) (hs8.now hw)) ?_
  rw [decide_eq_true (rfl : J.1 = J.1)]
  repeat(first|refine lrun_ ?_|(refine lo_boxA rfl rfl ?_;intro _ _ _)|(refine lo_box1 rfl rfl rfl ?_;intro _ _ _)|(refine lo_alloc rfl ?_;intro _ _ _))
  refine lo_call (n_call (args := []) rfl) rfl (fun w' hw => awake_calls) ?_
  repeat(first|refine lrun_ ?_|(refine lo_boxA rfl rfl ?_;intro _ _ _)|(refine lo_box1 rfl rfl rfl ?_;intro _ _ _)|(refine lo_alloc rfl ?_;intro _ _ _))
  exact l_ret1 rfl rfl fun w' hw => ⟨hw.org, rfl⟩
set_option maxHeartbeats 8000000 in
theorem opl_calls {a b n : Int} (h : Sl kRow F w v l) (ha : -9223372036854775808 ≤ a ∧ a ≤ 9223372036854775807) (hb : -9223372036854775808 ≤ b ∧ b ≤ 9223372036854775807) (hn : -9223372036854775808 ≤ n ∧ n ≤ 9223372036854775807) :
    CallsR Try.prog 9 #[v, .agg #[.int .i64 a, .int .i64 b], .int .i64 n] w fun u w' => Kn w w' ∧ u = .bool true := by
  obtain ⟨A, c, e⟩ : ∃ A c, v = .slice A l.length c := by obtain ⟨A, c, e, _⟩ := h.form; exact ⟨A, c, e⟩
  subst e
  refine l_enter (fun _ => False) Try.func9 rfl rfl ?_
  repeat(first|refine lrun_ ?_|(refine lo_boxA rfl rfl ?_;intro _ _ _)|(refine lo_box1 rfl rfl rfl ?_;intro _ _ _)|(refine lo_alloc rfl ?_;intro _ _ _))
  rename_i g4 _ _
  refine lo_call (n_call rfl) rfl (fun w' hw => fit_calls (Kn.sl hw.org h)) ?_
  cases hf : fitB l with
  | false =>
    repeat(first|refine lrun_ ?_|(refine lo_boxA rfl rfl ?_;intro _ _ _)|(refine lo_box1 rfl rfl rfl ?_;intro _ _ _)|(refine lo_alloc rfl ?_;intro _ _ _))
    refine l_true rfl ?_
    repeat(first|refine lrun_ ?_|(refine lo_boxA rfl rfl ?_;intro _ _ _)|(refine lo_box1 rfl rfl rfl ?_;intro _ _ _)|(refine lo_alloc rfl ?_;intro _ _ _))
    exact l_ret1 rfl rfl fun w' hw => ⟨hw.org, rfl⟩
  | true =>
  obtain ⟨⟨hll, hlr⟩, hpl⟩ := fit_iff.1 hf
  repeat(first|refine lrun_ ?_|(refine lo_boxA rfl rfl ?_;intro _ _ _)|(refine lo_box1 rfl rfl rfl ?_;intro _ _ _)|(refine lo_alloc rfl ?_;intro _ _ _))
  refine l_false rfl ?_
  refine l_go .skip ?_
  repeat(first|refine lrun_ ?_|(refine lo_boxA rfl rfl ?_;intro _ _ _)|(refine lo_box1 rfl rfl rfl ?_;intro _ _ _)|(refine lo_alloc rfl ?_;intro _ _ _))
  refine l_draw [(0, 0), (2, 0), (3, 0), (4, 0), (5, 0), (6, 0), (1, 1), (7, 1), (8, 0), (9, 0), (10, 0), (11, 0), (12, 0)] (by kernel_rfl) (by kernel_rfl) rfl (by kernel_rfl) ?_
  repeat(first|refine lrund_ ?_|(refine ld_open rfl ?_;first|(refine ld_boxA rfl wy_ rfl ?_;intro _ _ _)|(refine ld_box1 rfl rfl wy_ rfl ?_;intro _ _ _)|(refine ld_alloc wy_ rfl ?_;intro _ _ _)))
  refine ld_open rfl ?_; refine ld_still (fun _ _ => r_indexA rfl rfl (by decide) (by decide)) wy_ rfl ?_
  repeat(first|refine lrund_ ?_|(refine ld_open rfl ?_;first|(refine ld_boxA rfl wy_ rfl ?_;intro _ _ _)|(refine ld_box1 rfl rfl wy_ rfl ?_;intro _ _ _)|(refine ld_alloc wy_ rfl ?_;intro _ _ _)))
  refine ld_open rfl ?_; refine ld_still (fun _ _ => r_indexA rfl rfl (by decide) (by decide)) wy_ rfl ?_
  repeat(first|refine lrund_ ?_|(refine ld_open rfl ?_;first|(refine ld_boxA rfl wy_ rfl ?_;intro _ _ _)|(refine ld_box1 rfl rfl wy_ rfl ?_;intro _ _ _)|(refine ld_alloc wy_ rfl ?_;intro _ _ _)))
  refine ld_open rfl ?_; refine ld_callX (n_call rfl) wy_ rfl (fun w' hw' => twinN_calls (Kn.sl hw'.org h)) ?_
  intro u1 N1 hN1
  obtain ⟨A1, c1, rfl⟩ := hN1.1
  refine ld_open rfl ?_; refine ld_callX (n_call rfl) wy_ rfl (fun w' hw' => shiftN_calls (hN1.now hw' fun g o hm => min_l (min_l hm)) ha hb hn (by omega) (by omega)) ?_
  rintro _ N2 ⟨s2, rfl, hN2⟩
  obtain ⟨A7, c7, rfl⟩ := hN2.1
  repeat(first|refine lrund_ ?_|(refine ld_open rfl ?_;first|(refine ld_boxA rfl wy_ rfl ?_;intro _ _ _)|(refine ld_box1 rfl rfl wy_ rfl ?_;intro _ _ _)|(refine ld_alloc wy_ rfl ?_;intro _ _ _)))
  refine ld_nil mcat_self ?_
  refine l_baseM (M3 := [(g4, cb [.int .i64 a, .int .i64 b] 55)]) msub_app fun w5 hw5 => ?_
  have h7 := hN2.hd hw5 (fun g o hm => min_l (min_l hm)) msub_app (fun k hk hm => nd_l hw5.nd (mk_app.2 (.inl hk)) hm)
  clear hN1 hN2 hw5
  repeat(first|refine lrun_ ?_|(refine lo_boxA rfl rfl ?_;intro _ _ _)|(refine lo_box1 rfl rfl rfl ?_;intro _ _ _)|(refine lo_alloc rfl ?_;intro _ _ _))
  refine lo_rn (fun _ => r_indexA rfl rfl (by decide) (by decide)) rfl ?_
  repeat(first|refine lrun_ ?_|(refine lo_boxA rfl rfl ?_;intro _ _ _)|(refine lo_box1 rfl rfl rfl ?_;intro _ _ _)|(refine lo_alloc rfl ?_;intro _ _ _))
  refine lo_rn (fun _ => r_indexA rfl rfl (by decide) (by decide)) rfl ?_
  repeat(first|refine lrun_ ?_|(refine lo_boxA rfl rfl ?_;intro _ _ _)|(refine lo_box1 rfl rfl rfl ?_;intro _ _ _)|(refine lo_alloc rfl ?_;intro _ _ _))
  refine lo_callM (n_call rfl) rfl (fun w' hw => shiftR_calls (Kn.sl hw.org h) ha hb hn hll (by omega)) ?_
  rintro w7 _ w8 hw7 kn7 ko7 ⟨s9, rfl, hO9⟩
  have h7 := h7.next hw7 kn7
  have h9 := Hd.of hO9 hw7
  obtain ⟨A9, c9, rfl, _, _⟩ := hO9.form
  clear hO9 hw7
  generalize shiftM l a b n = J at *
  repeat(first|refine lrun_ ?_|(refine lo_boxA rfl rfl ?_;intro _ _ _)|(refine lo_box1 rfl rfl rfl ?_;intro _ _ _)|(refine lo_alloc rfl ?_;intro _ _ _))
  refine l_draw [(0, 0), (2, 0), (3, 0), (4, 0), (0, 2), (0, 0), (0, 0), (0, 0), (0, 0), (0, 0), (0, 0), (0, 0), (0, 0), (0, 0)] (by kernel_rfl) (by kernel_rfl) rfl (by kernel_rfl) ?_
  repeat(first|refine lrund_ ?_|(refine ld_open rfl ?_;first|(refine ld_boxA rfl wy_ rfl ?_;intro _ _ _)|(refine ld_box1 rfl rfl wy_ rfl ?_;intro _ _ _)|(refine ld_alloc wy_ rfl ?_;intro _ _ _)))
  refine ld_open rfl ?_; refine ld_still (fun _ _ => r_indexA rfl rfl (by decide) (by decide)) wy_ rfl ?_
  repeat(first|refine lrund_ ?_|(refine ld_open rfl ?_;first|(refine ld_boxA rfl wy_ rfl ?_;intro _ _ _)|(refine ld_box1 rfl rfl wy_ rfl ?_;intro _ _ _)|(refine ld_alloc wy_ rfl ?_;intro _ _ _)))
  refine ld_branch2 1 10 [(0, 2), (0, 0), (0, 0), (0, 0), (0, 0), (0, 0), (0, 0), (0, 0), (0, 0)] [(1, 1), (5, 1), (6, 0), (7, 0), (8, 0), (9, 0), (11, 0), (12, 1), (13, 0)] (by kernel_rfl) rfl rfl (by kernel_rfl) (by kernel_rfl) ?_ ?_
  · refine lb_open rfl ?_
    refine lb_callX (n_call rfl) wy_ rfl (fun w' hw' => twinN_calls (Kn.sl hw'.org h)) ?_
    intro u1 N1 hN1
    obtain ⟨A1, c1, rfl⟩ := hN1.1
    refine ld_branch2 5 10 [(6, 0), (7, 0), (8, 0), (9, 0), (10, 1), (11, 0), (12, 1), (13, 0)] [(5, 1), (6, 0), (7, 0), (8, 0), (9, 0), (11, 0), (12, 1), (13, 0)] (by kernel_rfl) rfl rfl (by kernel_rfl) (by kernel_rfl) ?_ ?_
    · refine lb_open rfl ?_
      refine lb_callX (n_call rfl) wy_ rfl (fun w' hw' => joinN_calls (hN1.now hw' fun g o hm => min_l (min_l hm)) ha hn (by omega) fun j => Nat.le_trans (runes_getD _ j) (by omega)) ?_
      rintro _ N2 ⟨s2, rfl, hN2⟩
      obtain ⟨A11, c11, rfl⟩ := hN2.1
      refine st_ ?_
      refine st_ ?_
      refine st_ ?_
      refine st_ ?_
      refine ld_open rfl ?_; refine ld_alloc wy_ rfl ?_
      intro g12 _ _
      refine st_ ?_
      refine st_ ?_
      refine st_ ?_
      refine ld_nil (MCat.cons (mcat_app (mcat_app .nil))) ?_
      refine l_baseM (M3 := (g12, _) :: [(g4, cb [.int .i64 a, .int .i64 b] 55)]) (.keep rfl (msub_appL msub_app)) fun w9 hw9 => ?_
      exact ol_tail h ha hn hll (by omega) (h7.re hw9 (.keep rfl (msub_appL msub_app))) (h9.re hw9 (.keep rfl (msub_appL msub_app))) (hN2.hd hw9 (fun g o hm => .tl (min_l hm)) (.keep rfl (msub_appL msub_app)) fun k hk hm => nd_c hw9.nd hk (msub_mk msub_app) hm) _ (by repeat (first | exact SubB.nil | refine SubB.cons rfl ?_)) _ (by repeat(first|exact MSub.refl|refine MSub.keep rfl ?_|exact MSub.nil|apply MSub.drop))
    · refine lb_open rfl ?_
      refine lb_alloc wy_ rfl ?_
      intro g12 _ _
      refine ld_open rfl ?_; refine ld_callX (n_call rfl) wy_ rfl (fun w' hw' => joinN_calls (hN1.now hw' fun g o hm => .tl (min_l (min_l hm))) ha hn (by omega) fun j => Nat.le_trans (runes_getD _ j) (by omega)) ?_
      rintro _ N2 ⟨s2, rfl, hN2⟩
      obtain ⟨A11, c11, rfl⟩ := hN2.1
      repeat(first|refine lrund_ ?_|(refine ld_open rfl ?_;first|(refine ld_boxA rfl wy_ rfl ?_;intro _ _ _)|(refine ld_box1 rfl rfl wy_ rfl ?_;intro _ _ _)|(refine ld_alloc wy_ rfl ?_;intro _ _ _)))
      refine ld_open rfl ?_; refine ld_storeWX rfl rfl (min_l (min_app .hd)) (by rfl) rfl (by rfl) (by rfl) (mup_app .hd) wy_ rfl ?_
      repeat(first|refine lrund_ ?_|(refine ld_open rfl ?_;first|(refine ld_boxA rfl wy_ rfl ?_;intro _ _ _)|(refine ld_box1 rfl rfl wy_ rfl ?_;intro _ _ _)|(refine ld_alloc wy_ rfl ?_;intro _ _ _)))
      refine ld_nil (mcat_app (MCat.cons (mcat_app .nil))) ?_
      refine l_baseM (M3 := (g12, _) :: [(g4, cb [.int .i64 a, .int .i64 b] 55)]) (msub_appL (.keep rfl msub_app)) fun w9 hw9 => ?_
      exact ol_tail h ha hn hll (by omega) (h7.re hw9 (msub_appL (.keep rfl msub_app))) (h9.re hw9 (msub_appL (.keep rfl msub_app))) (hN2.hd hw9 (fun g o hm => min_l hm) (msub_appL (.keep rfl msub_app)) fun k hk hm => nd_l hw9.nd hk (msub_mk (.keep rfl msub_app) k hm)) _ (by repeat (first | exact SubB.nil | refine SubB.cons rfl ?_)) _ (by repeat(first|exact MSub.refl|refine MSub.keep rfl ?_|exact MSub.nil|apply MSub.drop))
  · refine lb_open rfl ?_
    refine lb_alloc wy_ rfl ?_
    intro g12 _ _
    refine ld_open rfl ?_; refine ld_callX (n_call rfl) wy_ rfl (fun w' hw' => twinN_calls (Kn.sl hw'.org h)) ?_
    intro u1 N1 hN1
    obtain ⟨A1, c1, rfl⟩ := hN1.1
    refine ld_open rfl ?_; refine ld_callX (n_call rfl) wy_ rfl (fun w' hw' => joinN_calls (hN1.now hw' fun g o hm => min_l (min_l hm)) ha hn (by omega) fun j => Nat.le_trans (runes_getD _ j) (by omega)) ?_
    rintro _ N2 ⟨s2, rfl, hN2⟩
    obtain ⟨A11, c11, rfl⟩ := hN2.1
    repeat(first|refine lrund_ ?_|(refine ld_open rfl ?_;first|(refine ld_boxA rfl wy_ rfl ?_;intro _ _ _)|(refine ld_box1 rfl rfl wy_ rfl ?_;intro _ _ _)|(refine ld_alloc wy_ rfl ?_;intro _ _ _)))
    refine ld_open rfl ?_; refine ld_storeWX rfl rfl (min_l (min_app (min_app .hd))) (by rfl) rfl (by rfl) (by rfl) (mup_app (mup_app .hd)) wy_ rfl ?_
    repeat(first|refine lrund_ ?_|(refine ld_open rfl ?_;first|(refine ld_boxA rfl wy_ rfl ?_;intro _ _ _)|(refine ld_box1 rfl rfl wy_ rfl ?_;intro _ _ _)|(refine ld_alloc wy_ rfl ?_;intro _ _ _)))
    refine ld_nil (mcat_app (mcat_app (MCat.cons .nil))) ?_
    refine l_baseM (M3 := (g12, _) :: [(g4, cb [.int .i64 a, .int .i64 b] 55)]) (msub_appL msub_app) fun w9 hw9 => ?_
    exact ol_tail h ha hn hll (by omega) (h7.re hw9 (msub_appL msub_app)) (h9.re hw9 (msub_appL msub_app)) (hN2.hd hw9 (fun g o hm => min_l hm) (msub_appL msub_app) fun k hk hm => nd_l hw9.nd hk (msub_mk msub_app k hm)) _ (by repeat (first | exact SubB.nil | refine SubB.cons rfl ?_)) _ (by repeat(first|exact MSub.refl|refine MSub.keep rfl ?_|exact MSub.nil|apply MSub.drop))
end
abbrev kAt2 : Kd (List Int) := kArr 2 (by decide) kI64
instance : RdT Try.prog 55 kAt2 := rd_array (e := 3) (by kernel_rfl) (by kernel_rfl) (by kernel_rfl) inferInstance
theorem law_OperLines {W : World} {u : Value} {l : List (List Int)} {ds : List Value} {x : List Int} {n : Int} (h : Sl kRow (fun _ => True) W u l) (hx : kAt2.R (fun _ => True) W x ds) (hn : -9223372036854775808 ≤ n ∧ n ≤ 9223372036854775807) :
    CallsR Try.prog 9 #[u, .agg ds.toArray, .int .i64 n] W fun r w' => r = .bool true ∧ Kn W w' := by
  obtain ⟨a, b, rfl, rfl, ha, hb⟩ := arr2_cells hx
  exact (opl_calls h ha hb hn).mono fun r w' ⟨h1, h2⟩ => ⟨h2, h1⟩
end Go.Ink
