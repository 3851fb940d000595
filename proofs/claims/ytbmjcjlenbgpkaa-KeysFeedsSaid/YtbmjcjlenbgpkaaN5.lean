/-
  What the reference tells: the machine over rows; in, times, counts, end, arg.
-/
import Derived.Test.YtbmjcjlenbgpkaaK8
import Derived.Test.YtbmjcjlenbgpkaaRead
set_option linter.unusedVariables false
set_option linter.unusedSimpArgs false
namespace Go.Ink
open Go Go.Proofs Go.RowKit

/-- What a row of runes tells, from a want on. -/
def runT (vis : Bool) : List Int → Wa → Cmd → Int → Cmd × Int
  | [], _, _, _ => (cmd0, 0)
  | r :: t, n, c, cnt => match (takeM n vis c cnt r).1 with
    | .ended => if t = [] then ((takeM n vis c cnt r).2.1, 1) else (cmd0, 2)
    | .none => (cmd0, 2)
    | n' => runT vis t n' (takeM n vis c cnt r).2.1 (takeM n vis c cnt r).2.2
def contT (vis : Bool) (t : List Int) (x : Wa × Cmd × Int) : Cmd × Int :=
  match x.1 with
  | .ended => if t = [] then (x.2.1, 1) else (cmd0, 2)
  | .none => (cmd0, 2)
  | n => runT vis t n x.2.1 x.2.2
theorem run_cons {vis : Bool} {r cnt : Int} {t : List Int} {n : Wa} {c : Cmd} : runT vis (r :: t) n c cnt = contT vis t (takeM n vis c cnt r) := rfl
theorem run_at {vis : Bool} {cnt : Int} {l : List Int} {i : Nat} {n : Wa} {c : Cmd} (h : i < l.length) : runT vis (l.drop i) n c cnt = contT vis (l.drop (i + 1)) (takeM n vis c cnt (l.getD i 0)) := by
  rw [List.drop_eq_getElem_cons h, run_cons, List.getD_eq_getElem?_getD, List.getElem?_eq_getElem h]
  rfl
theorem run_end {vis : Bool} {cnt : Int} {l : List Int} {i : Nat} {n : Wa} {c : Cmd} (h : l.length ≤ i) : runT vis (l.drop i) n c cnt = (cmd0, 0) := by
  rw [List.drop_of_length_le h]; rfl
def endM (t : List Int) (c : Cmd) : Cmd × Int := if t = [] then (c, 1) else (cmd0, 2)
theorem cont_end {vis : Bool} {t : List Int} {c : Cmd} {x : Int} : contT vis t (.ended, c, x) = endM t c := rfl
theorem cont_none {vis : Bool} {t : List Int} {c : Cmd} {x : Int} : contT vis t (.none, c, x) = (cmd0, 2) := rfl
theorem end_at {l : List Int} {i : Nat} {c : Cmd} (hi : i ≤ l.length) : endM (l.drop i) c = if i = l.length then (c, 1) else (cmd0, 2) := by
  unfold endM
  by_cases h : i = l.length
  · rw [if_pos h, if_pos (List.drop_of_length_le (by omega))]
  · rw [if_neg h, if_neg fun e => by have := List.drop_eq_nil_iff.1 e; omega]
def afN (n : Wa) : Prop := n = .start ∨ n = .after
/-- One digit. -/
theorem run_dig {vis : Bool} {l : List Int} {i : Nat} {n : Wa} {c : Cmd} {x : Int} (hn : afN n) (h : i < l.length) (h1 : 48 ≤ l.getD i 0 ∧ l.getD i 0 ≤ 57) (h2 : ¬ (l.getD i 0 = 48 ∧ x = 0)) : runT vis (l.drop i) n c x = runT vis (l.drop (i + 1)) n c (min (x * 10 + (l.getD i 0 - 48)) 2147483647) := by
  have hd : isDg (l.getD i 0) x = true := by unfold isDg; exact decide_eq_true ⟨h1.1, h1.2, h2⟩
  have hg : dgN (l.getD i 0) x = min (x * 10 + (l.getD i 0 - 48)) 2147483647 := by
    unfold dgN
    rw [if_pos hd]
    split <;> omega
  rw [run_at h]
  rcases hn with rfl | rfl
  · rw [take_start, hd, if_pos rfl, hg]; rfl
  · rw [take_after, hd, if_pos rfl, hg]; rfl
/-- A count has ended. -/
theorem run_num {vis : Bool} {l : List Int} {i : Nat} {n : Wa} {c : Cmd} {x : Int} (hn : afN n) (hx : 1 ≤ x) (h : i < l.length → ¬ (48 ≤ l.getD i 0 ∧ l.getD i 0 ≤ 57)) : runT vis (l.drop i) n c x = runT vis (l.drop i) n { c with count := timesM c.count x } 0 := by
  by_cases hi : i < l.length
  · have hd : ∀ y, isDg (l.getD i 0) y = false := fun y => by unfold isDg; exact decide_eq_false fun e => h hi ⟨e.1, e.2.1⟩
    have hc : countedM c x = { c with count := timesM c.count x } := by unfold countedM; rw [if_neg (by omega)]
    have hc0 : ∀ c, countedM c 0 = c := fun c => rfl
    rw [run_at hi, run_at hi]
    rcases hn with rfl | rfl
    · rw [take_start, take_start, hd, hd, hc, hc0]; rfl
    · rw [take_after, take_after, hd, hd, hc, hc0]; rfl
  · rw [run_end (by omega), run_end (by omega)]
/-- Counts, from a place to a place. -/
def CntE (l : List Int) (i0 : Nat) (a : Int) (i : Nat) (b : Int) : Prop := ∀ (vis : Bool) (n : Wa) (c : Cmd), afN n → c.count = a → runT vis (l.drop i0) n c 0 = runT vis (l.drop i) n { c with count := b } 0
theorem CntE.refl {l : List Int} {i : Nat} {a : Int} : CntE l i a i a := fun vis n c hn hc => by subst hc; rfl
abbrev tupT (x : Cmd × Int) : Value := .tuple #[.agg (cmdL x.1).toArray, .int .i64 x.2]
section
variable {w : World} {F : Nat → Prop} {A : Option Addr} {cp : Nat} {l : List Int}
set_option maxHeartbeats 4000000 in
theorem in_calls {r : Int} {s : ByteArray} (hs : asciiB s = true) (hlen : s.size ≤ 1000) : CallsR Try.prog 40 #[.int .i32 r, .string s] w fun u w' => Kn w w' ∧ u = .bool (decide (r ∈ bytesL s)) := by
  refine l_enter (args := [.int .i32 r, .string s]) (fun _ => False) Try.func40 rfl rfl ?_
  have hbl := bytes_len s
  repeat(first|refine lrun_ ?_|(refine lo_boxA rfl rfl ?_;intro _ _ _)|(refine lo_box1 rfl rfl rfl ?_;intro _ _ _)|(refine lo_alloc rfl ?_;intro _ _ _))
  refine l_while (fun q : Nat => s.size - q) (fun q => [(0, .int .i32 r), (1, .string s), (5, .int .i64 (q : Int))]) (fun q => []) (fun q => q ≤ s.size ∧ ∀ j, j < q → r ≠ (bytesL s).getD j 0) 0 (by repeat (first | exact SubB.nil | refine SubB.cons rfl ?_)) (by repeat(first|exact MSub.refl|refine MSub.keep rfl ?_|exact MSub.nil|apply MSub.drop)) ⟨Nat.zero_le _, fun j hj => by omega⟩ ?_
  rintro q ⟨hq, hne⟩ ih
  by_cases hlt : q < s.size
  · have hb := bytes_at hlt
    have ha := ascii_at hs hlt
    have hrg : 0 ≤ (bytesL s).getD q 0 ∧ (bytesL s).getD q 0 < 128 := by rw [hb]; omega
    repeat(first|refine lrun_ ?_|(refine lo_boxA rfl rfl ?_;intro _ _ _)|(refine lo_box1 rfl rfl rfl ?_;intro _ _ _)|(refine lo_alloc rfl ?_;intro _ _ _))
    refine l_yes rfl (by omega) ?_
    repeat(first|refine lrun_ ?_|(refine lo_boxA rfl rfl ?_;intro _ _ _)|(refine lo_box1 rfl rfl rfl ?_;intro _ _ _)|(refine lo_alloc rfl ?_;intro _ _ _))
    refine lo_rn (fun _ => r_indexS rfl rfl (by omega) (by omega)) rfl ?_
    rw [byte_eq hlt]
    generalize hbe : (bytesL s).getD q 0 = b at *
    repeat(first|refine lrun_ ?_|(refine lo_boxA rfl rfl ?_;intro _ _ _)|(refine lo_box1 rfl rfl rfl ?_;intro _ _ _)|(refine lo_alloc rfl ?_;intro _ _ _))
    by_cases he : r = b
    · refine l_yes rfl he ?_
      repeat(first|refine lrun_ ?_|(refine lo_boxA rfl rfl ?_;intro _ _ _)|(refine lo_box1 rfl rfl rfl ?_;intro _ _ _)|(refine lo_alloc rfl ?_;intro _ _ _))
      refine l_ret1 rfl rfl fun w' hw => ⟨hw.org, ?_⟩
      rw [decide_eq_true]
      rw [he, ← hbe, List.getD_eq_getElem?_getD, List.getElem?_eq_getElem (by omega)]
      exact List.getElem_mem (by omega)
    · refine l_no rfl he ?_
      refine l_go .skip ?_
      repeat(first|refine lrun_ ?_|(refine lo_boxA rfl rfl ?_;intro _ _ _)|(refine lo_box1 rfl rfl rfl ?_;intro _ _ _)|(refine lo_alloc rfl ?_;intro _ _ _))
      exact ih (q + 1) ⟨hlt, fun j hj => by
        by_cases e : j = q
        · subst e; rw [hbe]; exact he
        · exact hne j (by omega)⟩ (by omega) _ _ (by repeat (first | exact SubB.nil | refine SubB.cons rfl ?_)) (by repeat(first|exact MSub.refl|refine MSub.keep rfl ?_|exact MSub.nil|apply MSub.drop))
  · repeat(first|refine lrun_ ?_|(refine lo_boxA rfl rfl ?_;intro _ _ _)|(refine lo_box1 rfl rfl rfl ?_;intro _ _ _)|(refine lo_alloc rfl ?_;intro _ _ _))
    refine l_no rfl (by omega) ?_
    refine l_go (.exit rfl) ?_
    repeat(first|refine lrun_ ?_|(refine lo_boxA rfl rfl ?_;intro _ _ _)|(refine lo_box1 rfl rfl rfl ?_;intro _ _ _)|(refine lo_alloc rfl ?_;intro _ _ _))
    refine l_ret1 rfl rfl fun w' hw => ⟨hw.org, ?_⟩
    rw [decide_eq_false]
    intro hm
    obtain ⟨j, hj, e⟩ := List.getElem_of_mem hm
    have := hne j (by omega)
    rw [List.getD_eq_getElem?_getD, List.getElem?_eq_getElem hj] at this
    exact this e.symm
theorem times_calls {a b : Int} (ha : 0 ≤ a ∧ a ≤ 2147483647) (hb : 1 ≤ b ∧ b ≤ 2147483647) : CallsR Try.prog 50 #[.int .i64 a, .int .i64 b] w fun u w' => Kn w w' ∧ u = .int .i64 (timesM a b) := by
  refine l_enter (args := [.int .i64 a, .int .i64 b]) (fun _ => False) Try.func50 rfl rfl ?_
  unfold timesM
  repeat(first|refine lrun_ ?_|(refine lo_boxA rfl rfl ?_;intro _ _ _)|(refine lo_box1 rfl rfl rfl ?_;intro _ _ _)|(refine lo_alloc rfl ?_;intro _ _ _))
  by_cases h0 : a = 0
  · rw [if_pos h0]
    refine l_yes rfl h0 ?_
    repeat(first|refine lrun_ ?_|(refine lo_boxA rfl rfl ?_;intro _ _ _)|(refine lo_box1 rfl rfl rfl ?_;intro _ _ _)|(refine lo_alloc rfl ?_;intro _ _ _))
    exact l_ret1 rfl rfl fun w' hw => ⟨hw.org, rfl⟩
  rw [if_neg h0]
  refine l_no rfl h0 ?_
  refine l_go .skip ?_
  repeat(first|refine lrun_ ?_|(refine lo_boxA rfl rfl ?_;intro _ _ _)|(refine lo_box1 rfl rfl rfl ?_;intro _ _ _)|(refine lo_alloc rfl ?_;intro _ _ _))
  refine lo_rn (v := .int .i64 ((2147483647 : Int).tdiv b)) (fun _ => by have := quo_wrap (b := b) (by omega); exact this ▸ r_quo rfl rfl (by omega)) rfl ?_
  by_cases h : (2147483647 : Int).tdiv b < a
  · rw [if_pos h]
    repeat(first|refine lrun_ ?_|(refine lo_boxA rfl rfl ?_;intro _ _ _)|(refine lo_box1 rfl rfl rfl ?_;intro _ _ _)|(refine lo_alloc rfl ?_;intro _ _ _))
    refine l_yes rfl h ?_
    repeat(first|refine lrun_ ?_|(refine lo_boxA rfl rfl ?_;intro _ _ _)|(refine lo_box1 rfl rfl rfl ?_;intro _ _ _)|(refine lo_alloc rfl ?_;intro _ _ _))
    exact l_ret1 rfl rfl fun w' hw => ⟨hw.org, rfl⟩
  · rw [if_neg h]
    have := times_le h (by omega) ha.1
    repeat(first|refine lrun_ ?_|(refine lo_boxA rfl rfl ?_;intro _ _ _)|(refine lo_box1 rfl rfl rfl ?_;intro _ _ _)|(refine lo_alloc rfl ?_;intro _ _ _))
    refine l_no rfl h ?_
    refine l_go .skip ?_
    repeat(first|refine lrun_ ?_|(refine lo_boxA rfl rfl ?_;intro _ _ _)|(refine lo_box1 rfl rfl rfl ?_;intro _ _ _)|(refine lo_alloc rfl ?_;intro _ _ _))
    exact l_ret1 rfl rfl fun w' hw => ⟨hw.org, rfl⟩
set_option maxHeartbeats 4000000 in
theorem end_calls {i : Nat} {c : Cmd} (h : Sl kRune F w (.slice A l.length cp) l) (hi : i < l.length) (hl : l.length ≤ 1000000) : CallsR Try.prog 41 #[.slice A l.length cp, .int .i64 (i : Int), .agg (cmdL c).toArray] w fun u w' => Kn w w' ∧ u = tupT (endM (l.drop (i + 1)) c) := by
  refine l_enter (args := [.slice A l.length cp, .int .i64 (i : Int), .agg (cmdL c).toArray]) (fun _ => False) Try.func41 rfl rfl ?_
  rw [end_at (by omega)]
  repeat(first|refine lrun_ ?_|(refine lo_boxA rfl rfl ?_;intro _ _ _)|(refine lo_box1 rfl rfl rfl ?_;intro _ _ _)|(refine lo_alloc rfl ?_;intro _ _ _))
  by_cases h1 : i + 1 = l.length
  · rw [if_pos h1]
    refine l_yes rfl (by omega) ?_
    repeat(first|refine lrun_ ?_|(refine lo_boxA rfl rfl ?_;intro _ _ _)|(refine lo_box1 rfl rfl rfl ?_;intro _ _ _)|(refine lo_alloc rfl ?_;intro _ _ _))
    exact l_retR2 rfl (by repeat(first|exact LRes.nil|refine LRes.tmp rfl ?_|refine LRes.agg rfl (by(repeat(first|exact MIn.hd|refine MIn.tl ?_));done) (by rfl) (by rfl) ?_|refine LRes.one rfl (by(repeat(first|exact MIn.hd|refine MIn.tl ?_));done) (by rfl) ?_)) fun w' hw => ⟨hw.org, rfl⟩
  · rw [if_neg h1]
    refine l_no rfl (by omega) ?_
    refine l_go .skip ?_
    repeat(first|refine lrun_ ?_|(refine lo_boxA rfl rfl ?_;intro _ _ _)|(refine lo_box1 rfl rfl rfl ?_;intro _ _ _)|(refine lo_alloc rfl ?_;intro _ _ _))
    exact l_retR2 rfl (by repeat(first|exact LRes.nil|refine LRes.tmp rfl ?_|refine LRes.agg rfl (by(repeat(first|exact MIn.hd|refine MIn.tl ?_));done) (by rfl) (by rfl) ?_|refine LRes.one rfl (by(repeat(first|exact MIn.hd|refine MIn.tl ?_));done) (by rfl) ?_)) fun w' hw => ⟨hw.org, rfl⟩
set_option maxHeartbeats 4000000 in
theorem arg_calls {vis : Bool} {x : Int} {i : Nat} {c : Cmd} (h : Sl kRune F w (.slice A l.length cp) l) (hi : i ≤ l.length) (hl : l.length ≤ 1000000) : CallsR Try.prog 44 #[.slice A l.length cp, .int .i64 (i : Int), .agg (cmdL c).toArray] w fun u w' => Kn w w' ∧ u = tupT (runT vis (l.drop i) .arg c x) := by
  obtain ⟨A', c', ad, e, hX⟩ := h.rns
  cases e
  refine l_enter (args := [.slice A l.length cp, .int .i64 (i : Int), .agg (cmdL c).toArray]) (fun _ => False) Try.func44 rfl rfl ?_
  repeat(first|refine lrun_ ?_|(refine lo_boxA rfl rfl ?_;intro _ _ _)|(refine lo_box1 rfl rfl rfl ?_;intro _ _ _)|(refine lo_alloc rfl ?_;intro _ _ _))
  by_cases h1 : i = l.length
  · rw [run_end (by omega)]
    refine l_yes rfl (by omega) ?_
    repeat(first|refine lrun_ ?_|(refine lo_boxA rfl rfl ?_;intro _ _ _)|(refine lo_box1 rfl rfl rfl ?_;intro _ _ _)|(refine lo_alloc rfl ?_;intro _ _ _))
    exact l_retR2 rfl (by repeat(first|exact LRes.nil|refine LRes.tmp rfl ?_|refine LRes.agg rfl (by(repeat(first|exact MIn.hd|refine MIn.tl ?_));done) (by rfl) (by rfl) ?_|refine LRes.one rfl (by(repeat(first|exact MIn.hd|refine MIn.tl ?_));done) (by rfl) ?_)) fun w' hw => ⟨hw.org, rfl⟩
  · have hlt : i < l.length := by omega
    rw [run_at hlt, take_arg]
    refine l_no rfl (by omega) ?_
    refine l_go .skip ?_
    repeat(first|refine lrun_ ?_|(refine lo_boxA rfl rfl ?_;intro _ _ _)|(refine lo_box1 rfl rfl rfl ?_;intro _ _ _)|(refine lo_alloc rfl ?_;intro _ _ _))
    by_cases h2 : l.getD i 0 = 27
    · rw [if_pos h2, cont_none]
      refine l_yes rfl h2 ?_
      repeat(first|refine lrun_ ?_|(refine lo_boxA rfl rfl ?_;intro _ _ _)|(refine lo_box1 rfl rfl rfl ?_;intro _ _ _)|(refine lo_alloc rfl ?_;intro _ _ _))
      exact l_retR2 rfl (by repeat(first|exact LRes.nil|refine LRes.tmp rfl ?_|refine LRes.agg rfl (by(repeat(first|exact MIn.hd|refine MIn.tl ?_));done) (by rfl) (by rfl) ?_|refine LRes.one rfl (by(repeat(first|exact MIn.hd|refine MIn.tl ?_));done) (by rfl) ?_)) fun w' hw => ⟨hw.org, rfl⟩
    · rw [if_neg h2, cont_end]
      refine l_no rfl h2 ?_
      refine l_go .skip ?_
      repeat(first|refine lrun_ ?_|(refine lo_boxA rfl rfl ?_;intro _ _ _)|(refine lo_box1 rfl rfl rfl ?_;intro _ _ _)|(refine lo_alloc rfl ?_;intro _ _ _))
      refine lo_call (n_call rfl) rfl (fun w' hw => end_calls (c := { c with arg := l.getD i 0 }) (Kn.sl hw.org h) hlt hl) ?_
      repeat(first|refine lrun_ ?_|(refine lo_boxA rfl rfl ?_;intro _ _ _)|(refine lo_box1 rfl rfl rfl ?_;intro _ _ _)|(refine lo_alloc rfl ?_;intro _ _ _))
      exact l_retR2 rfl (by repeat(first|exact LRes.nil|refine LRes.tmp rfl ?_|refine LRes.agg rfl (by(repeat(first|exact MIn.hd|refine MIn.tl ?_));done) (by rfl) (by rfl) ?_|refine LRes.one rfl (by(repeat(first|exact MIn.hd|refine MIn.tl ?_));done) (by rfl) ?_)) fun w' hw => ⟨hw.org, rfl⟩
end
end Go.Ink
