/-
  table.
  here, left, right, column, first, below.
  first, end, down, lines, number.
  repeat.
  words, blocks: a step, any number of times.
  blocks.
  blocks.
  words.
  find: plain.
-/
import Derived.Test.YthiblbcjebmanaaGA
import Derived.Test.YthiblbcjebmanaaLx
set_option linter.unusedVariables false
set_option linter.unusedSimpArgs false
namespace Go.Ink
open Go Go.Proofs

instance : MapT Try.prog 44 .i32 41 .nilFunc := ⟨⟨21, by kernel_rfl, by kernel_rfl⟩, fun _ => by kernel_rfl⟩
def fnV (f : FuncId) : Value := .func (.func f) #[] #[]
/-- What a key does. -/
def tabM : List (Int × Value) := [(104, fnV 15), (108, fnV 16), (48, fnV 17), (124, fnV 17), (94, fnV 18), (36, fnV 19), (106, fnV 20), (107, fnV 20), (43, fnV 21), (45, fnV 21), (95, fnV 21), (71, fnV 22), (103, fnV 22), (102, fnV 23), (116, fnV 23), (70, fnV 23), (84, fnV 23), (37, fnV 24), (119, fnV 25), (87, fnV 25), (98, fnV 25), (66, fnV 25), (101, fnV 25), (69, fnV 25), (125, fnV 26), (123, fnV 26), (41, fnV 26), (40, fnV 26)]
def tabV (key : Int) : Value := (entFind key tabM).getD .nilFunc
set_option maxHeartbeats 4000000 in
theorem table_calls {w : World} {key : Int} : CallsR Try.prog 14 #[.int .i32 key] w fun u w' => Kn w w' ∧ u = tabV key := by
  refine l_enter (fun _ => False) Try.func14 rfl rfl ?_
  repeat(first|refine lrun_ ?_|(refine lo_boxA rfl rfl ?_;intro _ _ _)|(refine lo_box1 rfl rfl rfl ?_;intro _ _ _)|(refine lo_alloc rfl ?_;intro _ _ _))
  refine lo_makeMap rfl ?_
  intro g _ _
  repeat(first|refine lrun_ ?_|(refine lo_boxA rfl rfl ?_;intro _ _ _)|(refine lo_box1 rfl rfl rfl ?_;intro _ _ _)|(refine lo_alloc rfl ?_;intro _ _ _))
  exact l_ret1 rfl rfl fun w hw => ⟨hw.org, rfl⟩
end Go.Ink

set_option linter.unusedVariables false
set_option linter.unusedSimpArgs false
namespace Go.Ink
open Go Go.Proofs

/-- A motion. -/
structure Mo where
  key : Int
  count : Int
  arg : Int
  want : Int
/-- Where a motion begins, and what it is told. -/
def atV (v : Value) (p : Ps) (m : Mo) (n : Int) (op : Bool) (row : Value) : Value := .agg #[v, .int .i64 p.1, .int .i64 p.2, .int .i32 m.key, .int .i64 m.count, .int .i32 m.arg, .int .i64 m.want, .int .i64 n, .bool op, row]
def mvV (r : Ps × Int × Bool) : Value := .tuple #[posV r.1, .int .i64 r.2.1, .bool r.2.2]
instance : FvT Try.prog 40 0 22 0 := ⟨fun _ _ => by kernel_rfl⟩
def leftM (p : Ps) (n : Int) : Ps × Int × Bool := ((p.1, p.2 - if p.2 < n then p.2 else n), 0, decide (0 < p.2))
def roomM (l : List (List Int)) (p : Ps) (op : Bool) : Int := ((rowOf l p).length : Int) - 1 - p.2 + if op then 1 else 0
def rightM (l : List (List Int)) (p : Ps) (n : Int) (op : Bool) : Ps × Int × Bool := ((p.1, p.2 + if roomM l p op < n then roomM l p op else n), 0, decide (0 < roomM l p op))
def columnM (l : List (List Int)) (p : Ps) (key n : Int) : Ps × Int × Bool := (if key = 48 then (p.1, 0) else clipM l (p.1, n - 1), 0, true)
def firstI (x : List Int) : Nat := (x.findIdx? fun r => decide (classM r false ≠ 0)).getD (x.length - 1)
def firstM (l : List (List Int)) (p : Ps) : Ps × Int × Bool := ((p.1, (firstI (rowOf l p) : Int)), 0, true)
def belowM (l : List (List Int)) (p : Ps) (k : Int) : Int × Bool := if (l.length : Int) - 1 - p.1 < k ∨ k < 0 - p.1 then (0, false) else (p.1 + k, true)
section
variable {F : Nat → Prop} {w : World} {A : Option Addr} {c : Nat} {l : List (List Int)} {ad : Addr} {rV : Nat → Option Addr} {rc : Nat → Nat} {ra : Nat → Addr} {p : Ps} {m : Mo} {n k : Int} {op : Bool} {v row : Value}
theorem here_calls : CallsR Try.prog 27 #[atV v p m n op row, .int .i64 k] w fun u w' => Kn w w' ∧ u = posV (p.1, k) := by
  refine l_enter (fun _ => False) Try.func27 rfl rfl ?_
  repeat(first|refine lrun_ ?_|(refine lo_boxA rfl rfl ?_;intro _ _ _)|(refine lo_box1 rfl rfl rfl ?_;intro _ _ _)|(refine lo_alloc rfl ?_;intro _ _ _))
  exact l_retR1 rfl (by repeat(first|exact LRes.nil|refine LRes.tmp rfl ?_|refine LRes.agg rfl (by(repeat(first|exact MIn.hd|refine MIn.tl ?_));done) (by rfl) (by rfl) ?_|refine LRes.one rfl (by(repeat(first|exact MIn.hd|refine MIn.tl ?_));done) (by rfl) ?_)) fun w hw => ⟨hw.org, rfl⟩
theorem left_calls (hp : P64 p) (hn : 0 ≤ n) (hp2 : 0 ≤ p.2) (hnl : n ≤ 9223372036854775807) : CallsR Try.prog 15 #[atV v p m n op row] w fun u w' => Kn w w' ∧ u = mvV (leftM p n) := by
  unfold P64 at hp
  refine l_enter (fun _ => False) Try.func15 rfl rfl ?_
  repeat(first|refine lrun_ ?_|(refine lo_boxA rfl rfl ?_;intro _ _ _)|(refine lo_box1 rfl rfl rfl ?_;intro _ _ _)|(refine lo_alloc rfl ?_;intro _ _ _))
  rename_i g1 _ _ g2 _ _
  refine l_drawQ [g2] (by repeat(first|exact MPart.nil|apply MPart.turn|apply MPart.keep)) [(0, 0), (1, 0), (2, 0), (3, 0), (4, 0), (5, 0), (6, 0), (7, 0), (8, 0), (9, 0), (10, 0), (12, 0), (13, 0), (14, 0), (15, 0), (11, 1), (16, 1), (17, 0), (18, 0)] (by kernel_rfl) (by kernel_rfl) rfl (by kernel_rfl) ?_
  repeat(refine lrunq_ ?_)
  refine lq_open rfl ?_; refine lq_call (n_call rfl) wy_ rfl (fun w hw => here_calls (p := p) (m := m) (n := n) (op := op)) ?_
  repeat(refine lrunq_ ?_)
  exact l_retR3 rfl (by repeat(first|exact LRes.nil|refine LRes.tmp rfl ?_|refine LRes.agg rfl (by(repeat(first|exact MIn.hd|refine MIn.tl ?_));done) (by rfl) (by rfl) ?_|refine LRes.one rfl (by(repeat(first|exact MIn.hd|refine MIn.tl ?_));done) (by rfl) ?_)) fun w hw => ⟨hw.org, rfl⟩
theorem right_calls (hp : P64 p) (hl : (rowOf l p).length ≤ 140737488355328) (hrow : row = .slice (rV p.1.toNat) (rowOf l p).length c) (hk : 0 ≤ p.2) (hk2 : p.2 ≤ (rowOf l p).length) (hn : 0 ≤ n) (hnl : n ≤ 9223372036854775807) : CallsR Try.prog 16 #[atV v p m n op row] w fun u w' => Kn w w' ∧ u = mvV (rightM l p n op) := by
  unfold P64 at hp
  subst hrow
  refine l_enter (fun _ => False) Try.func16 rfl rfl ?_
  cases op with
  | true =>
    repeat(first|refine lrun_ ?_|(refine lo_boxA rfl rfl ?_;intro _ _ _)|(refine lo_box1 rfl rfl rfl ?_;intro _ _ _)|(refine lo_alloc rfl ?_;intro _ _ _))
    refine l_true rfl ?_
    repeat(first|refine lrun_ ?_|(refine lo_boxA rfl rfl ?_;intro _ _ _)|(refine lo_box1 rfl rfl rfl ?_;intro _ _ _)|(refine lo_alloc rfl ?_;intro _ _ _))
    refine lo_call (n_call rfl) rfl (fun w hw => here_calls (p := p) (m := m) (n := n) (op := true)) ?_
    repeat(first|refine lrun_ ?_|(refine lo_boxA rfl rfl ?_;intro _ _ _)|(refine lo_box1 rfl rfl rfl ?_;intro _ _ _)|(refine lo_alloc rfl ?_;intro _ _ _))
    exact l_retR3 rfl (by repeat(first|exact LRes.nil|refine LRes.tmp rfl ?_|refine LRes.agg rfl (by(repeat(first|exact MIn.hd|refine MIn.tl ?_));done) (by rfl) (by rfl) ?_|refine LRes.one rfl (by(repeat(first|exact MIn.hd|refine MIn.tl ?_));done) (by rfl) ?_)) fun w hw => ⟨hw.org, rfl⟩
  | false =>
    repeat(first|refine lrun_ ?_|(refine lo_boxA rfl rfl ?_;intro _ _ _)|(refine lo_box1 rfl rfl rfl ?_;intro _ _ _)|(refine lo_alloc rfl ?_;intro _ _ _))
    refine l_false rfl ?_
    repeat(first|refine lrun_ ?_|(refine lo_boxA rfl rfl ?_;intro _ _ _)|(refine lo_box1 rfl rfl rfl ?_;intro _ _ _)|(refine lo_alloc rfl ?_;intro _ _ _))
    refine lo_call (n_call rfl) rfl (fun w hw => here_calls (p := p) (m := m) (n := n) (op := false)) ?_
    repeat(first|refine lrun_ ?_|(refine lo_boxA rfl rfl ?_;intro _ _ _)|(refine lo_box1 rfl rfl rfl ?_;intro _ _ _)|(refine lo_alloc rfl ?_;intro _ _ _))
    refine l_retR3 rfl (by repeat(first|exact LRes.nil|refine LRes.tmp rfl ?_|refine LRes.agg rfl (by(repeat(first|exact MIn.hd|refine MIn.tl ?_));done) (by rfl) (by rfl) ?_|refine LRes.one rfl (by(repeat(first|exact MIn.hd|refine MIn.tl ?_));done) (by rfl) ?_)) fun w hw => ⟨hw.org, ?_⟩
    unfold mvV rightM roomM
    simp
theorem column_calls (h : Sl kRow F w v l) (hp : P64 p) (hn : 1 ≤ n) (hnl : n ≤ 9223372036854775807) : CallsR Try.prog 17 #[atV v p m n op row] w fun u w' => Kn w w' ∧ u = mvV (columnM l p m.key n) := by
  obtain ⟨A, c, ad, rV, rc, ra, rfl, hR⟩ := h.rws
  refine l_enter (fun _ => False) Try.func17 rfl rfl ?_
  repeat(first|refine lrun_ ?_|(refine lo_boxA rfl rfl ?_;intro _ _ _)|(refine lo_box1 rfl rfl rfl ?_;intro _ _ _)|(refine lo_alloc rfl ?_;intro _ _ _))
  rename_i g1 _ _ g2 _ _
  refine l_ite rfl (fun h48 => ?_) (fun h48 => ?_)
  · repeat(first|refine lrun_ ?_|(refine lo_boxA rfl rfl ?_;intro _ _ _)|(refine lo_box1 rfl rfl rfl ?_;intro _ _ _)|(refine lo_alloc rfl ?_;intro _ _ _))
    refine lo_call (n_call rfl) rfl (fun w hw => here_calls (p := p) (m := m) (n := n) (op := op)) ?_
    repeat(first|refine lrun_ ?_|(refine lo_boxA rfl rfl ?_;intro _ _ _)|(refine lo_box1 rfl rfl rfl ?_;intro _ _ _)|(refine lo_alloc rfl ?_;intro _ _ _))
    refine l_retR3 rfl (by repeat(first|exact LRes.nil|refine LRes.tmp rfl ?_|refine LRes.agg rfl (by(repeat(first|exact MIn.hd|refine MIn.tl ?_));done) (by rfl) (by rfl) ?_|refine LRes.one rfl (by(repeat(first|exact MIn.hd|refine MIn.tl ?_));done) (by rfl) ?_)) fun w hw => ⟨hw.org, ?_⟩
    unfold columnM
    rw [if_pos h48]
    rfl
  · repeat(first|refine lrun_ ?_|(refine lo_boxA rfl rfl ?_;intro _ _ _)|(refine lo_box1 rfl rfl rfl ?_;intro _ _ _)|(refine lo_alloc rfl ?_;intro _ _ _))
    refine l_drawQ [g2] (by repeat(first|exact MPart.nil|apply MPart.turn|apply MPart.keep)) [(0, 0), (1, 0), (2, 0), (3, 0), (4, 0), (5, 0), (6, 1), (7, 1), (8, 1), (9, 0), (10, 0)] (by kernel_rfl) (by kernel_rfl) rfl (by kernel_rfl) ?_
    repeat(refine lrunq_ ?_)
    refine lq_open rfl ?_; refine lq_call (n_call rfl) wy_ rfl (fun w hw => here_calls (p := p) (m := m) (n := n) (op := op)) ?_
    repeat(refine lrunq_ ?_)
    refine lq_open rfl ?_; refine lq_call (n_call rfl) wy_ rfl (fun w hw => clipP_calls (p := (p.1, n - 1)) (Kn.sl hw.org h) (by unfold P64 at *; simp only; omega)) ?_
    repeat(refine lrunq_ ?_)
    refine l_retR3 rfl (by repeat(first|exact LRes.nil|refine LRes.tmp rfl ?_|refine LRes.agg rfl (by(repeat(first|exact MIn.hd|refine MIn.tl ?_));done) (by rfl) (by rfl) ?_|refine LRes.one rfl (by(repeat(first|exact MIn.hd|refine MIn.tl ?_));done) (by rfl) ?_)) fun w hw => ⟨hw.org, ?_⟩
    unfold columnM
    rw [if_neg h48]
    rfl
theorem below_calls (h : Sl kRow F w v l) (hp : P64 p) (hi : 0 ≤ p.1) (hi2 : p.1 < l.length) (hk : -9223372036854775807 ≤ k) (hk2 : k ≤ 9223372036854775807) : CallsR Try.prog 29 #[atV v p m n op row, .int .i64 k] w fun u w' => Kn w w' ∧ u = .tuple #[.int .i64 (belowM l p k).1, .bool (belowM l p k).2] := by
  obtain ⟨A, c, ad, rV, rc, ra, rfl, hR⟩ := h.rws
  have hll := hR.len
  unfold P64 at hp
  unfold belowM
  refine l_enter (fun _ => False) Try.func29 rfl rfl ?_
  by_cases h1 : (l.length : Int) - 1 - p.1 < k
  · rw [if_pos (.inl h1)]
    repeat(first|refine lrun_ ?_|(refine lo_boxA rfl rfl ?_;intro _ _ _)|(refine lo_box1 rfl rfl rfl ?_;intro _ _ _)|(refine lo_alloc rfl ?_;intro _ _ _))
    refine l_true rfl ?_
    repeat(first|refine lrun_ ?_|(refine lo_boxA rfl rfl ?_;intro _ _ _)|(refine lo_box1 rfl rfl rfl ?_;intro _ _ _)|(refine lo_alloc rfl ?_;intro _ _ _))
    exact l_retR2 rfl (by repeat(first|exact LRes.nil|refine LRes.tmp rfl ?_|refine LRes.agg rfl (by(repeat(first|exact MIn.hd|refine MIn.tl ?_));done) (by rfl) (by rfl) ?_|refine LRes.one rfl (by(repeat(first|exact MIn.hd|refine MIn.tl ?_));done) (by rfl) ?_)) fun w hw => ⟨hw.org, rfl⟩
  by_cases h2 : k < 0 - p.1
  · rw [if_pos (.inr h2)]
    repeat(first|refine lrun_ ?_|(refine lo_boxA rfl rfl ?_;intro _ _ _)|(refine lo_box1 rfl rfl rfl ?_;intro _ _ _)|(refine lo_alloc rfl ?_;intro _ _ _))
    refine l_yes rfl h2 ?_
    repeat(first|refine lrun_ ?_|(refine lo_boxA rfl rfl ?_;intro _ _ _)|(refine lo_box1 rfl rfl rfl ?_;intro _ _ _)|(refine lo_alloc rfl ?_;intro _ _ _))
    exact l_retR2 rfl (by repeat(first|exact LRes.nil|refine LRes.tmp rfl ?_|refine LRes.agg rfl (by(repeat(first|exact MIn.hd|refine MIn.tl ?_));done) (by rfl) (by rfl) ?_|refine LRes.one rfl (by(repeat(first|exact MIn.hd|refine MIn.tl ?_));done) (by rfl) ?_)) fun w hw => ⟨hw.org, rfl⟩
  rw [if_neg (by omega)]
  repeat(first|refine lrun_ ?_|(refine lo_boxA rfl rfl ?_;intro _ _ _)|(refine lo_box1 rfl rfl rfl ?_;intro _ _ _)|(refine lo_alloc rfl ?_;intro _ _ _))
  refine l_no rfl h2 ?_
  repeat(first|refine lrun_ ?_|(refine lo_boxA rfl rfl ?_;intro _ _ _)|(refine lo_box1 rfl rfl rfl ?_;intro _ _ _)|(refine lo_alloc rfl ?_;intro _ _ _))
  exact l_retR2 rfl (by repeat(first|exact LRes.nil|refine LRes.tmp rfl ?_|refine LRes.agg rfl (by(repeat(first|exact MIn.hd|refine MIn.tl ?_));done) (by rfl) (by rfl) ?_|refine LRes.one rfl (by(repeat(first|exact MIn.hd|refine MIn.tl ?_));done) (by rfl) ?_)) fun w hw => ⟨hw.org, rfl⟩
theorem isBl_calls {r : Int} : CallsR Try.prog 43 #[.int .i32 r] w fun u w' => Kn w w' ∧ u = .bool (decide (classM r false ≠ 0)) := by
  refine l_enter (fun _ => False) Try.func43 rfl rfl ?_
  repeat(first|refine lrun_ ?_|(refine lo_boxA rfl rfl ?_;intro _ _ _)|(refine lo_box1 rfl rfl rfl ?_;intro _ _ _)|(refine lo_alloc rfl ?_;intro _ _ _))
  refine lo_callP (n_call rfl) rfl (fun w hw => classP_calls) ?_
  repeat(first|refine lrun_ ?_|(refine lo_boxA rfl rfl ?_;intro _ _ _)|(refine lo_box1 rfl rfl rfl ?_;intro _ _ _)|(refine lo_alloc rfl ?_;intro _ _ _))
  exact l_ret1 rfl rfl fun w hw => ⟨hw.org, rfl⟩
end
end Go.Ink

set_option linter.unusedVariables false
set_option linter.unusedSimpArgs false
namespace Go.Ink
open Go Go.Proofs

theorem nb_some {x : List Int} {m : Nat} (hm : m < x.length) (h1 : classM (x.getD m 0) false ≠ 0) (h2 : ∀ j, j < m → classM (x.getD j 0) false = 0) : (x.findIdx? fun r => decide (classM r false ≠ 0)) = some m := by
  rw [List.findIdx?_eq_some_iff_getElem]
  have e : ∀ j (hj : j < x.length), x[j] = x.getD j 0 := fun j hj => by rw [List.getD_eq_getElem?_getD, List.getElem?_eq_getElem hj]; rfl
  refine ⟨hm, by rw [e]; exact decide_eq_true h1, fun j hj => ?_⟩
  rw [e]
  simpa using h2 j hj
theorem nb_none {x : List Int} (h2 : ∀ j, j < x.length → classM (x.getD j 0) false = 0) : (x.findIdx? fun r => decide (classM r false ≠ 0)) = none := by
  rw [List.findIdx?_eq_none_iff]
  intro r hr
  obtain ⟨j, hj, rfl⟩ := List.getElem_of_mem hr
  have := h2 j hj
  rw [List.getD_eq_getElem?_getD, List.getElem?_eq_getElem hj] at this
  exact decide_eq_false (Decidable.not_not.2 this)
def idxV (o : Option Nat) : Value := match o with | some i => .int .i64 (i : Int) | none => .int .i64 (-1)
section
variable {F : Nat → Prop} {w : World} {A : Option Addr} {c cx : Nat} {l : List (List Int)} {ad : Addr} {rV : Nat → Option Addr} {rc : Nat → Nat} {ra : Nat → Addr} {p : Ps} {m : Mo} {n k : Int} {op : Bool} {v row : Value} {x : List Int}
theorem indexFunc_calls (hX : Rns F w A cx x ad) : CallsR Try.prog 42 #[.slice A x.length cx, .func (.func 43) #[] #[]] w fun u w' => Kn w w' ∧ u = idxV (x.findIdx? fun r => decide (classM r false ≠ 0)) := by
  have hl := hX.len
  have hc := hX.cap
  refine l_enter (fun _ => False) Try.func42 rfl rfl ?_
  repeat(first|refine lrun_ ?_|(refine lo_boxA rfl rfl ?_;intro _ _ _)|(refine lo_box1 rfl rfl rfl ?_;intro _ _ _)|(refine lo_alloc rfl ?_;intro _ _ _))
  refine l_while (fun i => x.length - i) (fun i : Nat => [(0, .slice A x.length cx), (1, .func (.func 43) #[] #[]), (7, .int .i64 x.length), (8, .int .i64 i)]) (fun _ => []) (fun i => i ≤ x.length ∧ ∀ j, j < i → classM (x.getD j 0) false = 0) 0 (by repeat (first | exact SubB.nil | refine SubB.cons rfl ?_)) (by repeat(first|exact MSub.refl|refine MSub.keep rfl ?_|exact MSub.nil|apply MSub.drop)) ⟨Nat.zero_le _, fun j hj => by omega⟩ ?_
  rintro i ⟨hi, hno⟩ ih
  repeat(first|refine lrun_ ?_|(refine lo_boxA rfl rfl ?_;intro _ _ _)|(refine lo_box1 rfl rfl rfl ?_;intro _ _ _)|(refine lo_alloc rfl ?_;intro _ _ _))
  refine l_ite rfl (fun hlt => ?_) (fun hge => ?_)
  · repeat(first|refine lrun_ ?_|(refine lo_boxA rfl rfl ?_;intro _ _ _)|(refine lo_box1 rfl rfl rfl ?_;intro _ _ _)|(refine lo_alloc rfl ?_;intro _ _ _))
    refine lo_call (n_callV rfl rfl) rfl (fun w hw => isBl_calls (r := x.getD i 0)) ?_
    repeat(first|refine lrun_ ?_|(refine lo_boxA rfl rfl ?_;intro _ _ _)|(refine lo_box1 rfl rfl rfl ?_;intro _ _ _)|(refine lo_alloc rfl ?_;intro _ _ _))
    refine l_ite rfl (fun hb => ?_) (fun hb => ?_)
    · repeat(first|refine lrun_ ?_|(refine lo_boxA rfl rfl ?_;intro _ _ _)|(refine lo_box1 rfl rfl rfl ?_;intro _ _ _)|(refine lo_alloc rfl ?_;intro _ _ _))
      exact l_ret1 rfl rfl fun w hw => ⟨hw.org, by rw [nb_some (by omega) hb hno]; rfl⟩
    · repeat(first|refine lrun_ ?_|(refine lo_boxA rfl rfl ?_;intro _ _ _)|(refine lo_box1 rfl rfl rfl ?_;intro _ _ _)|(refine lo_alloc rfl ?_;intro _ _ _))
      exact ih (i + 1) ⟨by omega, fun j hj => by
        by_cases e : j = i
        · subst e; exact Decidable.not_not.1 hb
        · exact hno j (by omega)⟩ (by omega) _ _ (by repeat (first | exact SubB.nil | refine SubB.cons rfl ?_)) (by repeat(first|exact MSub.refl|refine MSub.keep rfl ?_|exact MSub.nil|apply MSub.drop))
  · obtain rfl : i = x.length := by omega
    repeat(first|refine lrun_ ?_|(refine lo_boxA rfl rfl ?_;intro _ _ _)|(refine lo_box1 rfl rfl rfl ?_;intro _ _ _)|(refine lo_alloc rfl ?_;intro _ _ _))
    exact l_ret1 rfl rfl fun w hw => ⟨hw.org, by rw [nb_none hno]; rfl⟩
theorem firstF_calls (h : Sl kRune F w v x) : CallsR Try.prog 28 #[v] w fun u w' => Kn w w' ∧ u = .int .i64 (firstI x) := by
  obtain ⟨A, cx, ad, rfl, hX⟩ := h.rns
  have hl := hX.len
  refine l_enter (fun _ => False) Try.func28 rfl rfl ?_
  repeat(first|refine lrun_ ?_|(refine lo_boxA rfl rfl ?_;intro _ _ _)|(refine lo_box1 rfl rfl rfl ?_;intro _ _ _)|(refine lo_alloc rfl ?_;intro _ _ _))
  refine lo_call (n_call rfl) rfl (fun w hw => by obtain ⟨_, hX'⟩ := hX.move hw.org.st_all; exact indexFunc_calls hX') ?_
  unfold firstI
  cases x.findIdx? fun r => decide (classM r false ≠ 0) with
  | some i =>
    unfold idxV
    repeat(first|refine lrun_ ?_|(refine lo_boxA rfl rfl ?_;intro _ _ _)|(refine lo_box1 rfl rfl rfl ?_;intro _ _ _)|(refine lo_alloc rfl ?_;intro _ _ _))
    refine l_no rfl (by omega) ?_
    repeat(first|refine lrun_ ?_|(refine lo_boxA rfl rfl ?_;intro _ _ _)|(refine lo_box1 rfl rfl rfl ?_;intro _ _ _)|(refine lo_alloc rfl ?_;intro _ _ _))
    exact l_ret1 rfl rfl fun w hw => ⟨hw.org, rfl⟩
  | none =>
    unfold idxV
    repeat(first|refine lrun_ ?_|(refine lo_boxA rfl rfl ?_;intro _ _ _)|(refine lo_box1 rfl rfl rfl ?_;intro _ _ _)|(refine lo_alloc rfl ?_;intro _ _ _))
    refine l_yes rfl (by omega) ?_
    repeat(first|refine lrun_ ?_|(refine lo_boxA rfl rfl ?_;intro _ _ _)|(refine lo_box1 rfl rfl rfl ?_;intro _ _ _)|(refine lo_alloc rfl ?_;intro _ _ _))
    have e : (if (0 : Int) < (x.length : Int) - 1 then (x.length : Int) - 1 else 0) = ((x.length - 1 : Nat) : Int) := by split <;> omega
    exact l_ret1 rfl rfl fun w hw => ⟨hw.org, congrArg (Value.int .i64) e⟩
theorem first_calls (h : Sl kRune F w row (rowOf l p)) : CallsR Try.prog 18 #[atV v p m n op row] w fun u w' => Kn w w' ∧ u = mvV (firstM l p) := by
  refine l_enter (fun _ => False) Try.func18 rfl rfl ?_
  repeat(first|refine lrun_ ?_|(refine lo_boxA rfl rfl ?_;intro _ _ _)|(refine lo_box1 rfl rfl rfl ?_;intro _ _ _)|(refine lo_alloc rfl ?_;intro _ _ _))
  rename_i g1 _ _ g2 _ _
  refine l_drawQ [g2] (by repeat(first|exact MPart.nil|apply MPart.turn|apply MPart.keep)) [(0, 0), (1, 0), (2, 0), (3, 1), (4, 1), (5, 1), (6, 0), (7, 0)] (by kernel_rfl) (by kernel_rfl) rfl (by kernel_rfl) ?_
  repeat(refine lrunq_ ?_)
  refine lq_open rfl ?_; refine lq_call (n_call rfl) wy_ rfl (fun w hw => firstF_calls (Kn.sl hw.org h)) ?_
  repeat(refine lrunq_ ?_)
  refine lq_open rfl ?_; refine lq_call (n_call rfl) wy_ rfl (fun w hw => here_calls (p := p) (m := m) (n := n) (op := op)) ?_
  repeat(refine lrunq_ ?_)
  exact l_retR3 rfl (by repeat(first|exact LRes.nil|refine LRes.tmp rfl ?_|refine LRes.agg rfl (by(repeat(first|exact MIn.hd|refine MIn.tl ?_));done) (by rfl) (by rfl) ?_|refine LRes.one rfl (by(repeat(first|exact MIn.hd|refine MIn.tl ?_));done) (by rfl) ?_)) fun w hw => ⟨hw.org, rfl⟩
/-- $ -/
def endsM (l : List (List Int)) (p : Ps) (n : Int) : Ps × Int × Bool := if (belowM l p (n - 1)).2 then (((belowM l p (n - 1)).1, (((l.getD (belowM l p (n - 1)).1.toNat []).length - 1 : Nat) : Int)), 1, true) else (p, 0, false)
theorem below_nat (hi : 0 ≤ p.1) (hi2 : p.1 < l.length) : ∃ i : Nat, (belowM l p k).1 = (i : Int) ∧ i < l.length := by
  unfold belowM
  split
  · exact ⟨0, rfl, by omega⟩
  · exact ⟨(p.1 + k).toNat, by show p.1 + k = _; omega, by omega⟩
theorem end_calls' (h : Sl kRow F w v l) (hp : P64 p) (hi : 0 ≤ p.1) (hi2 : p.1 < l.length) (hn : 1 ≤ n) (hnl : n ≤ 9223372036854775807) : CallsR Try.prog 19 #[atV v p m n op row] w fun u w' => Kn w w' ∧ u = mvV (endsM l p n) := by
  obtain ⟨A, c, ad, rV, rc, ra, rfl, hR⟩ := h.rws
  obtain ⟨i, hbi, hil⟩ := below_nat (k := n - 1) hi hi2
  have hrl := hR.rl i
  refine l_enter (fun _ => False) Try.func19 rfl rfl ?_
  repeat(first|refine lrun_ ?_|(refine lo_boxA rfl rfl ?_;intro _ _ _)|(refine lo_box1 rfl rfl rfl ?_;intro _ _ _)|(refine lo_alloc rfl ?_;intro _ _ _))
  refine lo_call (n_call rfl) rfl (fun w hw => below_calls (p := p) (m := m) (n := n) (op := op) (row := row) (Kn.sl hw.org h) hp hi hi2 (by omega) (by omega)) ?_
  unfold endsM
  rw [hbi, Int.toNat_natCast]
  cases hb : (belowM l p (n - 1)).2 with
  | true =>
    repeat(first|refine lrun_ ?_|(refine lo_boxA rfl rfl ?_;intro _ _ _)|(refine lo_box1 rfl rfl rfl ?_;intro _ _ _)|(refine lo_alloc rfl ?_;intro _ _ _))
    refine l_false rfl ?_
    repeat(first|refine lrun_ ?_|(refine lo_boxA rfl rfl ?_;intro _ _ _)|(refine lo_box1 rfl rfl rfl ?_;intro _ _ _)|(refine lo_alloc rfl ?_;intro _ _ _))
    refine l_retR3 rfl (by repeat(first|exact LRes.nil|refine LRes.tmp rfl ?_|refine LRes.agg rfl (by(repeat(first|exact MIn.hd|refine MIn.tl ?_));done) (by rfl) (by rfl) ?_|refine LRes.one rfl (by(repeat(first|exact MIn.hd|refine MIn.tl ?_));done) (by rfl) ?_)) fun w hw => ⟨hw.org, ?_⟩
    have : (if 0 < ((l.getD i []).length : Int) - 1 then ((l.getD i []).length : Int) - 1 else 0) = (((l.getD i []).length - 1 : Nat) : Int) := by split <;> omega
    rw [if_pos rfl]
    unfold mvV posV
    simp only
    rw [← this]
    rfl
  | false =>
    repeat(first|refine lrun_ ?_|(refine lo_boxA rfl rfl ?_;intro _ _ _)|(refine lo_box1 rfl rfl rfl ?_;intro _ _ _)|(refine lo_alloc rfl ?_;intro _ _ _))
    refine l_true rfl ?_
    repeat(first|refine lrun_ ?_|(refine lo_boxA rfl rfl ?_;intro _ _ _)|(refine lo_box1 rfl rfl rfl ?_;intro _ _ _)|(refine lo_alloc rfl ?_;intro _ _ _))
    exact l_retR3 rfl (by repeat(first|exact LRes.nil|refine LRes.tmp rfl ?_|refine LRes.agg rfl (by(repeat(first|exact MIn.hd|refine MIn.tl ?_));done) (by rfl) (by rfl) ?_|refine LRes.one rfl (by(repeat(first|exact MIn.hd|refine MIn.tl ?_));done) (by rfl) ?_)) fun w hw => ⟨hw.org, rfl⟩
/-- j, k -/
def downM (l : List (List Int)) (p : Ps) (m : Mo) (n : Int) : Ps × Int × Bool :=
  let b := belowM l p (if m.key = 107 then 0 - n else n)
  (clipM l (b.1, if 0 ≤ m.want then m.want else p.2), 2, b.2)
theorem down_calls (h : Sl kRow F w v l) (hp : P64 p) (hw : -9223372036854775808 ≤ m.want ∧ m.want ≤ 9223372036854775807) (hi : 0 ≤ p.1) (hi2 : p.1 < l.length) (hn : 1 ≤ n) (hnl : n ≤ 9223372036854775807) : CallsR Try.prog 20 #[atV v p m n op row] w fun u w' => Kn w w' ∧ u = mvV (downM l p m n) := by
  obtain ⟨A, c, ad, rV, rc, ra, rfl, hR⟩ := h.rws
  have hlen := hR.len
  have J : ∀ k : Int, k = (if m.key = 107 then 0 - n else n) → ∀ g1 g2, ∀ σ', SubB σ' [(1, .pointer (some ⟨g1, 0, none⟩)), (2, .pointer (some ⟨g2, 0, none⟩)), (5, .int .i64 k)] → ∀ M', MSub [(g2, cb [.int .i64 0, .int .i64 0] 24), (g1, cb [.slice A l.length c, .int .i64 p.1, .int .i64 p.2, .int .i32 m.key, .int .i64 m.count, .int .i32 m.arg, .int .i64 m.want, .int .i64 n, .bool op, row] 40)] M' →
      WL Try.prog Try.f20 [.code (bodyC Try.f20 [1, 1, 1])] σ' w (fun _ => False) w (fun _ => False) M' fun u w' => Kn w w' ∧ u = mvV (downM l p m n) := by
    intro k hk g1 g2 σ' hs M' hM
    refine WL.sub hs hM ?_
    obtain ⟨i, hbi, hil⟩ := below_nat (k := k) hi hi2
    repeat(first|refine lrun_ ?_|(refine lo_boxA rfl rfl ?_;intro _ _ _)|(refine lo_box1 rfl rfl rfl ?_;intro _ _ _)|(refine lo_alloc rfl ?_;intro _ _ _))
    refine lo_call (n_call rfl) rfl (fun w hw => below_calls (p := p) (m := m) (n := n) (op := op) (row := row) (Kn.sl hw.org h) hp hi hi2 (by split at hk <;> omega) (by split at hk <;> omega)) ?_
    have e : downM l p m n = (clipM l ((belowM l p k).1, if 0 ≤ m.want then m.want else p.2), 2, (belowM l p k).2) := by unfold downM; rw [hk]
    rw [e]
    generalize (belowM l p k).2 = ok
    rw [hbi]
    have hP : P64 ((i : Int), if 0 ≤ m.want then m.want else p.2) := by unfold P64 at *; simp only; refine ⟨by omega, ?_⟩; split <;> omega
    by_cases hw0 : 0 ≤ m.want
    · rw [if_pos hw0] at hP ⊢
      repeat(first|refine lrun_ ?_|(refine lo_boxA rfl rfl ?_;intro _ _ _)|(refine lo_box1 rfl rfl rfl ?_;intro _ _ _)|(refine lo_alloc rfl ?_;intro _ _ _))
      refine l_yes rfl hw0 ?_
      repeat(first|refine lrun_ ?_|(refine lo_boxA rfl rfl ?_;intro _ _ _)|(refine lo_box1 rfl rfl rfl ?_;intro _ _ _)|(refine lo_alloc rfl ?_;intro _ _ _))
      refine lo_call (n_call rfl) rfl (fun w hw => clipP_calls (p := ((i : Int), m.want)) (Kn.sl hw.org h) hP) ?_
      repeat(first|refine lrun_ ?_|(refine lo_boxA rfl rfl ?_;intro _ _ _)|(refine lo_box1 rfl rfl rfl ?_;intro _ _ _)|(refine lo_alloc rfl ?_;intro _ _ _))
      exact l_retR3 rfl (by repeat(first|exact LRes.nil|refine LRes.tmp rfl ?_|refine LRes.agg rfl (by(repeat(first|exact MIn.hd|refine MIn.tl ?_));done) (by rfl) (by rfl) ?_|refine LRes.one rfl (by(repeat(first|exact MIn.hd|refine MIn.tl ?_));done) (by rfl) ?_)) fun w hw => ⟨hw.org, rfl⟩
    · rw [if_neg hw0] at hP ⊢
      repeat(first|refine lrun_ ?_|(refine lo_boxA rfl rfl ?_;intro _ _ _)|(refine lo_box1 rfl rfl rfl ?_;intro _ _ _)|(refine lo_alloc rfl ?_;intro _ _ _))
      refine l_no rfl hw0 ?_
      repeat(first|refine lrun_ ?_|(refine lo_boxA rfl rfl ?_;intro _ _ _)|(refine lo_box1 rfl rfl rfl ?_;intro _ _ _)|(refine lo_alloc rfl ?_;intro _ _ _))
      refine lo_call (n_call rfl) rfl (fun w hw => clipP_calls (p := ((i : Int), p.2)) (Kn.sl hw.org h) hP) ?_
      repeat(first|refine lrun_ ?_|(refine lo_boxA rfl rfl ?_;intro _ _ _)|(refine lo_box1 rfl rfl rfl ?_;intro _ _ _)|(refine lo_alloc rfl ?_;intro _ _ _))
      exact l_retR3 rfl (by repeat(first|exact LRes.nil|refine LRes.tmp rfl ?_|refine LRes.agg rfl (by(repeat(first|exact MIn.hd|refine MIn.tl ?_));done) (by rfl) (by rfl) ?_|refine LRes.one rfl (by(repeat(first|exact MIn.hd|refine MIn.tl ?_));done) (by rfl) ?_)) fun w hw => ⟨hw.org, rfl⟩
  refine l_enter (fun _ => False) Try.func20 rfl rfl ?_
  repeat(first|refine lrun_ ?_|(refine lo_boxA rfl rfl ?_;intro _ _ _)|(refine lo_box1 rfl rfl rfl ?_;intro _ _ _)|(refine lo_alloc rfl ?_;intro _ _ _))
  refine l_ite rfl (fun hk => ?_) (fun hk => ?_)
  · refine l_region ?_;(repeat(first|refine lops_ ?_|(refine lo_boxA rfl rfl ?_;intro _ _ _)|(refine lo_box1 rfl rfl rfl ?_;intro _ _ _)|(refine lo_alloc rfl ?_;intro _ _ _)));refine lo_nil ?_
    exact J (0 - n) (by rw [if_pos hk]) _ _ _ (by repeat (first | exact SubB.nil | refine SubB.cons rfl ?_)) _ (by repeat(first|exact MSub.refl|refine MSub.keep rfl ?_|exact MSub.nil|apply MSub.drop))
  · refine l_go .skip ?_
    exact J n (by rw [if_neg hk]) _ _ _ (by repeat (first | exact SubB.nil | refine SubB.cons rfl ?_)) _ (by repeat(first|exact MSub.refl|refine MSub.keep rfl ?_|exact MSub.nil|apply MSub.drop))
/-- +, -, _ -/
def linesM (l : List (List Int)) (p : Ps) (m : Mo) (n : Int) : Ps × Int × Bool :=
  let b := belowM l p (if m.key = 45 then 0 - n else if m.key = 95 then n - 1 else n)
  ((b.1, (firstI (l.getD b.1.toNat []) : Int)), 2, b.2)
theorem lines_calls (h : Sl kRow F w v l) (hp : P64 p) (hi : 0 ≤ p.1) (hi2 : p.1 < l.length) (hn : 1 ≤ n) (hnl : n ≤ 9223372036854775807) : CallsR Try.prog 21 #[atV v p m n op row] w fun u w' => Kn w w' ∧ u = mvV (linesM l p m n) := by
  obtain ⟨A, c, ad, rV, rc, ra, rfl, hR⟩ := h.rws
  have hlen := hR.len
  have J : ∀ k : Int, k = (if m.key = 45 then 0 - n else if m.key = 95 then n - 1 else n) → ∀ g1 g2, ∀ σ', SubB σ' [(1, .pointer (some ⟨g1, 0, none⟩)), (2, .pointer (some ⟨g2, 0, none⟩)), (5, .int .i64 k)] → ∀ M', MSub [(g2, cb [.int .i64 0, .int .i64 0] 24), (g1, cb [.slice A l.length c, .int .i64 p.1, .int .i64 p.2, .int .i32 m.key, .int .i64 m.count, .int .i32 m.arg, .int .i64 m.want, .int .i64 n, .bool op, row] 40)] M' →
      WL Try.prog Try.f21 [.code (bodyC Try.f21 [1, 1, 1])] σ' w (fun _ => False) w (fun _ => False) M' fun u w' => Kn w w' ∧ u = mvV (linesM l p m n) := by
    intro k hk g1 g2 σ' hs M' hM
    refine WL.sub hs hM ?_
    obtain ⟨i, hbi, hil⟩ := below_nat (k := k) hi hi2
    repeat(first|refine lrun_ ?_|(refine lo_boxA rfl rfl ?_;intro _ _ _)|(refine lo_box1 rfl rfl rfl ?_;intro _ _ _)|(refine lo_alloc rfl ?_;intro _ _ _))
    refine lo_call (n_call rfl) rfl (fun w hw => below_calls (p := p) (m := m) (n := n) (op := op) (row := row) (Kn.sl hw.org h) hp hi hi2 (by (repeat' split at hk) <;> omega) (by (repeat' split at hk) <;> omega)) ?_
    have e : linesM l p m n = (((belowM l p k).1, (firstI (l.getD (belowM l p k).1.toNat []) : Int)), 2, (belowM l p k).2) := by unfold linesM; rw [hk]
    rw [e]
    generalize (belowM l p k).2 = ok
    rw [hbi, Int.toNat_natCast]
    repeat(first|refine lrun_ ?_|(refine lo_boxA rfl rfl ?_;intro _ _ _)|(refine lo_box1 rfl rfl rfl ?_;intro _ _ _)|(refine lo_alloc rfl ?_;intro _ _ _))
    refine lo_call (n_call rfl) rfl (fun w hw => firstF_calls (Kn.sl hw.org (hR.rs i hil))) ?_
    repeat(first|refine lrun_ ?_|(refine lo_boxA rfl rfl ?_;intro _ _ _)|(refine lo_box1 rfl rfl rfl ?_;intro _ _ _)|(refine lo_alloc rfl ?_;intro _ _ _))
    exact l_retR3 rfl (by repeat(first|exact LRes.nil|refine LRes.tmp rfl ?_|refine LRes.agg rfl (by(repeat(first|exact MIn.hd|refine MIn.tl ?_));done) (by rfl) (by rfl) ?_|refine LRes.one rfl (by(repeat(first|exact MIn.hd|refine MIn.tl ?_));done) (by rfl) ?_)) fun w hw => ⟨hw.org, rfl⟩
  refine l_enter (fun _ => False) Try.func21 rfl rfl ?_
  repeat(first|refine lrun_ ?_|(refine lo_boxA rfl rfl ?_;intro _ _ _)|(refine lo_box1 rfl rfl rfl ?_;intro _ _ _)|(refine lo_alloc rfl ?_;intro _ _ _))
  refine l_ite rfl (fun hk => ?_) (fun hk => ?_)
  · refine l_region ?_;(repeat(first|refine lops_ ?_|(refine lo_boxA rfl rfl ?_;intro _ _ _)|(refine lo_box1 rfl rfl rfl ?_;intro _ _ _)|(refine lo_alloc rfl ?_;intro _ _ _)));refine lo_nil ?_
    refine l_go .inBlock ?_
    exact J (0 - n) (by rw [if_pos hk]) _ _ _ (by repeat (first | exact SubB.nil | refine SubB.cons rfl ?_)) _ (by repeat(first|exact MSub.refl|refine MSub.keep rfl ?_|exact MSub.nil|apply MSub.drop))
  · repeat(first|refine lrun_ ?_|(refine lo_boxA rfl rfl ?_;intro _ _ _)|(refine lo_box1 rfl rfl rfl ?_;intro _ _ _)|(refine lo_alloc rfl ?_;intro _ _ _))
    refine l_ite rfl (fun hk2 => ?_) (fun hk2 => ?_)
    · refine l_region ?_;(repeat(first|refine lops_ ?_|(refine lo_boxA rfl rfl ?_;intro _ _ _)|(refine lo_box1 rfl rfl rfl ?_;intro _ _ _)|(refine lo_alloc rfl ?_;intro _ _ _)));refine lo_nil ?_
      refine l_go .inBlock ?_
      exact J (n - 1) (by rw [if_neg hk, if_pos hk2]) _ _ _ (by repeat (first | exact SubB.nil | refine SubB.cons rfl ?_)) _ (by repeat(first|exact MSub.refl|refine MSub.keep rfl ?_|exact MSub.nil|apply MSub.drop))
    · refine l_go .skip ?_
      refine l_go .inBlock ?_
      exact J n (by rw [if_neg hk, if_neg hk2]) _ _ _ (by repeat (first | exact SubB.nil | refine SubB.cons rfl ?_)) _ (by repeat(first|exact MSub.refl|refine MSub.keep rfl ?_|exact MSub.nil|apply MSub.drop))
/-- G, g -/
def numberI (l : List (List Int)) (m : Mo) (n : Int) : Nat := if m.key = 71 ∧ m.count ≤ 0 then l.length - 1 else ((if (l.length : Int) < n then (l.length : Int) else n) - 1).toNat
def numberM (l : List (List Int)) (m : Mo) (n : Int) : Ps × Int × Bool := (((numberI l m n : Int), (firstI (l.getD (numberI l m n) []) : Int)), 2, true)
theorem number_calls (h : Sl kRow F w v l) (hl0 : 0 < l.length) (hn : 1 ≤ n) (hnl : n ≤ 9223372036854775807) : CallsR Try.prog 22 #[atV v p m n op row] w fun u w' => Kn w w' ∧ u = mvV (numberM l m n) := by
  obtain ⟨A, c, ad, rV, rc, ra, rfl, hR⟩ := h.rws
  have hlen := hR.len
  have J : ∀ i : Nat, i = numberI l m n → i < l.length → ∀ g1 g2, ∀ σ', SubB σ' [(1, .pointer (some ⟨g1, 0, none⟩)), (2, .pointer (some ⟨g2, 0, none⟩)), (5, .int .i64 i)] → ∀ M', MSub [(g2, cb [.int .i64 0, .int .i64 0] 24), (g1, cb [.slice A l.length c, .int .i64 p.1, .int .i64 p.2, .int .i32 m.key, .int .i64 m.count, .int .i32 m.arg, .int .i64 m.want, .int .i64 n, .bool op, row] 40)] M' →
      WL Try.prog Try.f22 [.code (bodyC Try.f22 [1, 1, 1])] σ' w (fun _ => False) w (fun _ => False) M' fun u w' => Kn w w' ∧ u = mvV (numberM l m n) := by
    intro i hk hil g1 g2 σ' hs M' hM
    refine WL.sub hs hM ?_
    unfold numberM
    rw [← hk]
    repeat(first|refine lrun_ ?_|(refine lo_boxA rfl rfl ?_;intro _ _ _)|(refine lo_box1 rfl rfl rfl ?_;intro _ _ _)|(refine lo_alloc rfl ?_;intro _ _ _))
    refine lo_call (n_call rfl) rfl (fun w hw => firstF_calls (Kn.sl hw.org (hR.rs i hil))) ?_
    repeat(first|refine lrun_ ?_|(refine lo_boxA rfl rfl ?_;intro _ _ _)|(refine lo_box1 rfl rfl rfl ?_;intro _ _ _)|(refine lo_alloc rfl ?_;intro _ _ _))
    exact l_retR3 rfl (by repeat(first|exact LRes.nil|refine LRes.tmp rfl ?_|refine LRes.agg rfl (by(repeat(first|exact MIn.hd|refine MIn.tl ?_));done) (by rfl) (by rfl) ?_|refine LRes.one rfl (by(repeat(first|exact MIn.hd|refine MIn.tl ?_));done) (by rfl) ?_)) fun w hw => ⟨hw.org, rfl⟩
  refine l_enter (fun _ => False) Try.func22 rfl rfl ?_
  by_cases h1 : m.key = 71
  · by_cases h2 : m.count ≤ 0
    · repeat(first|refine lrun_ ?_|(refine lo_boxA rfl rfl ?_;intro _ _ _)|(refine lo_box1 rfl rfl rfl ?_;intro _ _ _)|(refine lo_alloc rfl ?_;intro _ _ _))
      refine l_yes rfl h2 ?_
      refine l_region ?_;(repeat(first|refine lops_ ?_|(refine lo_boxA rfl rfl ?_;intro _ _ _)|(refine lo_box1 rfl rfl rfl ?_;intro _ _ _)|(refine lo_alloc rfl ?_;intro _ _ _)));refine lo_nil ?_
      rw [show (l.length : Int) - 1 = ((l.length - 1 : Nat) : Int) by omega]
      exact J _ (by unfold numberI; rw [if_pos ⟨h1, h2⟩]) (by omega) _ _ _ (by repeat (first | exact SubB.nil | refine SubB.cons rfl ?_)) _ (by repeat(first|exact MSub.refl|refine MSub.keep rfl ?_|exact MSub.nil|apply MSub.drop))
    · have e : numberI l m n = ((if (l.length : Int) < n then (l.length : Int) else n) - 1).toNat := by unfold numberI; rw [if_neg (fun h => h2 h.2)]
      have e2 : (if (l.length : Int) < n then (l.length : Int) else n) - 1 = ((numberI l m n : Nat) : Int) := by rw [e]; split <;> omega
      have e3 : numberI l m n < l.length := by split at e <;> omega
      repeat(first|refine lrun_ ?_|(refine lo_boxA rfl rfl ?_;intro _ _ _)|(refine lo_box1 rfl rfl rfl ?_;intro _ _ _)|(refine lo_alloc rfl ?_;intro _ _ _))
      refine l_no rfl h2 ?_
      refine l_go .skip ?_
      rw [e2]
      exact J _ rfl e3 _ _ _ (by repeat (first | exact SubB.nil | refine SubB.cons rfl ?_)) _ (by repeat(first|exact MSub.refl|refine MSub.keep rfl ?_|exact MSub.nil|apply MSub.drop))
  · have e : numberI l m n = ((if (l.length : Int) < n then (l.length : Int) else n) - 1).toNat := by unfold numberI; rw [if_neg (fun h => h1 h.1)]
    have e2 : (if (l.length : Int) < n then (l.length : Int) else n) - 1 = ((numberI l m n : Nat) : Int) := by rw [e]; split <;> omega
    have e3 : numberI l m n < l.length := by split at e <;> omega
    repeat(first|refine lrun_ ?_|(refine lo_boxA rfl rfl ?_;intro _ _ _)|(refine lo_box1 rfl rfl rfl ?_;intro _ _ _)|(refine lo_alloc rfl ?_;intro _ _ _))
    refine l_false rfl ?_
    refine l_go .skip ?_
    rw [e2]
    exact J _ rfl e3 _ _ _ (by repeat (first | exact SubB.nil | refine SubB.cons rfl ?_)) _ (by repeat(first|exact MSub.refl|refine MSub.keep rfl ?_|exact MSub.nil|apply MSub.drop))
end
end Go.Ink

set_option linter.unusedVariables false
set_option linter.unusedSimpArgs false
namespace Go.Ink
open Go Go.Proofs

instance : Eq2T Try.prog 24 .i64 := eq2_struct (e := 3) (by kernel_rfl) (by kernel_rfl) (by kernel_rfl) (by kernel_rfl) (by kernel_rfl)
/-- A step done so often; where the last one began. -/
def repM (s : Ps → Ps) : Nat → Ps → Ps → Ps × Ps
  | 0, q, last => (q, last)
  | k + 1, q, last => if s q = q then (q, last) else repM s k (s q) q
theorem repM_succ (s : Ps → Ps) (k : Nat) (q last : Ps) : repM s (k + 1) q last = if s q = q then (q, last) else repM s k (s q) q := rfl
section
variable {F : Nat → Prop} {w : World} {A : Option Addr} {c cx : Nat} {l : List (List Int)} {p : Ps} {m : Mo} {n k : Int} {op : Bool} {v row : Value} {x : List Int}
set_option maxHeartbeats 4000000 in
theorem repeat_calls {f : FuncId} [hFn : FnT Try.prog f] {cap : List Value} {s : Ps → Ps} {I : Ps → Prop} (hI0 : I p) (hI : ∀ q, I q → I (s q)) (hn : 0 ≤ n) (hnl : n ≤ 9223372036854775807)
    (hcall : ∀ q w', Kn w w' → I q → CallsR Try.prog f (posV q :: cap).toArray w' fun u w'' => Kn w' w'' ∧ u = posV (s q)) :
    CallsR Try.prog 35 #[atV v p m n op row, .func (.func f) #[] cap.toArray] w fun u w' => Kn w w' ∧ u = .tuple #[posV (repM s n.toNat p p).1, posV (repM s n.toNat p p).2, .bool (decide (¬ ((repM s n.toNat p p).1.1 = p.1 ∧ (repM s n.toNat p p).1.2 = p.2)))] := by
  obtain ⟨N, rfl⟩ : ∃ N : Nat, n = N := ⟨n.toNat, by omega⟩
  rw [Int.toNat_natCast]
  refine l_enter (fun _ => False) Try.func35 rfl rfl ?_
  repeat(first|refine lrun_ ?_|(refine lo_boxA rfl rfl ?_;intro _ _ _)|(refine lo_box1 rfl rfl rfl ?_;intro _ _ _)|(refine lo_alloc rfl ?_;intro _ _ _))
  rename_i g2 _ _ g4 _ _ g5 _ _
  refine l_drawQ [g5, g4] (by repeat(first|exact MPart.nil|apply MPart.turn|apply MPart.keep)) [(0, 0), (1, 0), (2, 0), (3, 0), (4, 1), (5, 1)] (by kernel_rfl) (by kernel_rfl) rfl (by kernel_rfl) ?_
  repeat(refine lrunq_ ?_)
  have J : ∀ q last : Ps, (repM s N p p) = (q, last) → ∀ σ', SubB σ' [(2, .pointer (some ⟨g2, 0, none⟩)), (4, .pointer (some ⟨g4, 0, none⟩)), (5, .pointer (some ⟨g5, 0, none⟩))] → ∀ M', MSub [(g5, cb [.int .i64 last.1, .int .i64 last.2] 24), (g4, cb [.int .i64 q.1, .int .i64 q.2] 24), (g2, cb [v, .int .i64 p.1, .int .i64 p.2, .int .i32 m.key, .int .i64 m.count, .int .i32 m.arg, .int .i64 m.want, .int .i64 (N : Int), .bool op, row] 40)] M' →
      WL Try.prog Try.f35 [.code (bodyC Try.f35 [1, 1, 1])] σ' w (fun _ => False) w (fun _ => False) M' fun u w' => Kn w w' ∧ u = .tuple #[posV (repM s N p p).1, posV (repM s N p p).2, .bool (decide (¬ ((repM s N p p).1.1 = p.1 ∧ (repM s N p p).1.2 = p.2)))] := by
    intro q last hr σ' hs M' hM
    refine WL.sub hs hM ?_
    rw [hr]
    clear hr hcall hI hI0
    repeat(first|refine lrun_ ?_|(refine lo_boxA rfl rfl ?_;intro _ _ _)|(refine lo_box1 rfl rfl rfl ?_;intro _ _ _)|(refine lo_alloc rfl ?_;intro _ _ _))
    refine l_draw [(0, 0), (1, 0), (2, 0), (3, 0), (4, 0), (5, 0), (6, 1), (7, 1), (8, 0)] (by kernel_rfl) (by kernel_rfl) rfl (by kernel_rfl) ?_
    (repeat(first|refine ld_nil (by repeat constructor) ?_|(refine ld_open rfl ?_;first|refine ld_storeWS rfl rfl (by(repeat(first|exact MIn.hd|refine MIn.tl ?_));done) (by rfl) rfl (by rfl) wy_ rfl ?_|refine ld_loadW rfl rfl (by(repeat(first|exact MIn.hd|refine MIn.tl ?_));done) (by rfl) wy_ rfl ?_|refine ld_loadP rfl rfl (by(repeat(first|exact MIn.hd|refine MIn.tl ?_));done) (by simp only [List.drop,List.take];rfl) (by rfl) wy_ rfl ?_|refine ld_still (fun _ _=>r_ne2 rfl rfl) wy_ rfl ?_|((first|apply ld_s|apply ld_n);(focus(first|(constructor<;>first|rfl|omega)|(apply Ri.add3<;>first|rfl|omega)|(apply Ri.sub3<;>first|rfl|omega)|(apply Ri.conv3<;>first|rfl|omega)|(apply Ri.eqb<;>rfl)|(apply Ri.neb<;>rfl)|(apply Ri.pT;(focus rfl);(focus(first|rfl|assumption|(refine decide_eq_true ?_;first|assumption|omega|(dsimp only;omega))|(refine decide_eq_false ?_;first|assumption|omega|(dsimp only;omega))|(simp;done)|(simp;omega)));(focus rfl))|(apply Ri.pF;(focus rfl);(focus(first|rfl|assumption|(refine decide_eq_true ?_;first|assumption|omega|(dsimp only;omega))|(refine decide_eq_false ?_;first|assumption|omega|(dsimp only;omega))|(simp;done)|(simp;omega)));(focus rfl))));(focus(exact wy_));(focus rfl)))))
    exact l_retR3 rfl (by repeat(first|exact LRes.nil|refine LRes.tmp rfl ?_|refine LRes.agg rfl (by(repeat(first|exact MIn.hd|refine MIn.tl ?_));done) (by rfl) (by rfl) ?_|refine LRes.one rfl (by(repeat(first|exact MIn.hd|refine MIn.tl ?_));done) (by rfl) ?_)) fun w hw => ⟨hw.org, rfl⟩
  repeat(first|refine lrun_ ?_|(refine lo_boxA rfl rfl ?_;intro _ _ _)|(refine lo_box1 rfl rfl rfl ?_;intro _ _ _)|(refine lo_alloc rfl ?_;intro _ _ _))
  refine l_while (fun s : Nat × Ps × Ps => N - s.1) (fun s => [(1, .func (.func f) #[] cap.toArray), (2, .pointer (some ⟨g2, 0, none⟩)), (4, .pointer (some ⟨g4, 0, none⟩)), (5, .pointer (some ⟨g5, 0, none⟩)), (13, .int .i64 (N : Int)), (14, .int .i64 s.1)])
    (fun s => [(g5, cb [.int .i64 s.2.2.1, .int .i64 s.2.2.2] 24), (g4, cb [.int .i64 s.2.1.1, .int .i64 s.2.1.2] 24), (g2, cb [v, .int .i64 p.1, .int .i64 p.2, .int .i32 m.key, .int .i64 m.count, .int .i32 m.arg, .int .i64 m.want, .int .i64 (N : Int), .bool op, row] 40)])
    (fun t => t.1 ≤ N ∧ I t.2.1 ∧ repM s (N - t.1) t.2.1 t.2.2 = repM s N p p) (0, p, p) (by repeat (first | exact SubB.nil | refine SubB.cons rfl ?_)) (by repeat(first|exact MSub.refl|refine MSub.keep rfl ?_|exact MSub.nil|apply MSub.drop)) ⟨Nat.zero_le _, hI0, rfl⟩ ?_
  rintro ⟨i, q, last⟩ ⟨hi, hIq, hrep⟩ ih
  simp only at hi hIq hrep
  repeat(first|refine lrun_ ?_|(refine lo_boxA rfl rfl ?_;intro _ _ _)|(refine lo_box1 rfl rfl rfl ?_;intro _ _ _)|(refine lo_alloc rfl ?_;intro _ _ _))
  refine l_ite rfl (fun hlt => ?_) (fun hge => ?_)
  · have hiN : i < N := by omega
    rw [show N - i = (N - (i + 1)) + 1 by omega] at hrep
    rw [repM_succ] at hrep
    repeat(first|refine lrun_ ?_|(refine lo_boxA rfl rfl ?_;intro _ _ _)|(refine lo_box1 rfl rfl rfl ?_;intro _ _ _)|(refine lo_alloc rfl ?_;intro _ _ _))
    refine lo_call (n_callV rfl rfl) rfl (fun w hw => hcall q w hw.org hIq) ?_
    generalize hsq : s q = r at *
    repeat(first|refine lrun_ ?_|(refine lo_boxA rfl rfl ?_;intro _ _ _)|(refine lo_box1 rfl rfl rfl ?_;intro _ _ _)|(refine lo_alloc rfl ?_;intro _ _ _))
    by_cases hrq : r = q
    · subst hrq
      rw [if_pos rfl] at hrep
      refine l_yes rfl (by simp) ?_
      refine l_go (.exit rfl) ?_
      exact J _ _ hrep.symm _ (by repeat (first | exact SubB.nil | refine SubB.cons rfl ?_)) _ (by repeat(first|exact MSub.refl|refine MSub.keep rfl ?_|exact MSub.nil|apply MSub.drop))
    · rw [if_neg hrq] at hrep
      refine l_no rfl (fun h => hrq (Prod.ext h.1 h.2)) ?_
      repeat(first|refine lrun_ ?_|(refine lo_boxA rfl rfl ?_;intro _ _ _)|(refine lo_box1 rfl rfl rfl ?_;intro _ _ _)|(refine lo_alloc rfl ?_;intro _ _ _))
      exact ih (i + 1, r, q) ⟨hiN, by rw [← hsq]; exact hI q hIq, hrep⟩ (by show N - (i + 1) < N - i; omega) _ _ (by repeat (first | exact SubB.nil | refine SubB.cons rfl ?_)) (by repeat(first|exact MSub.refl|refine MSub.keep rfl ?_|exact MSub.nil|apply MSub.drop))
  · obtain rfl : i = N := by omega
    rw [Nat.sub_self] at hrep
    refine l_go (.exit rfl) ?_
    exact J q last hrep.symm _ (by repeat (first | exact SubB.nil | refine SubB.cons rfl ?_)) _ (by repeat(first|exact MSub.refl|refine MSub.keep rfl ?_|exact MSub.nil|apply MSub.drop))
end
end Go.Ink

set_option linter.unusedVariables false
set_option linter.unusedSimpArgs false
namespace Go.Ink
open Go Go.Proofs

open Classical in
/-- What is told. -/
noncomputable def seekC (f : Ps → Bool) (l : List (List Int)) (by_ : Int) (p : Ps) : Ps := if h : ∃ q, SeekM f l by_ p q then h.choose else (0, 0)
theorem SeekM.eq {f : Ps → Bool} {l : List (List Int)} {by_ : Int} {p q q' : Ps} (h : SeekM f l by_ p q) (h' : SeekM f l by_ p q') : q = q' := by
  rcases h with ⟨h1, h2⟩ | ⟨t, r, h1, h2, h3⟩
  · rcases h' with ⟨k1, k2⟩ | ⟨t', r', k1, k2, k3⟩
    · rw [h2, k2]
    · subst h1; simp [placesTo] at k1
  · rcases h' with ⟨k1, k2⟩ | ⟨t', r', k1, k2, k3⟩
    · subst k1; simp [placesTo] at h1
    · have := places_inj h1 k1
      subst this
      rw [h3, k3, h2.eq k2]
theorem seekC_eq {f : Ps → Bool} {l : List (List Int)} {by_ : Int} {p q : Ps} (h : SeekM f l by_ p q) : q = seekC f l by_ p := by
  unfold seekC
  rw [dif_pos ⟨q, h⟩]
  exact h.eq (Exists.choose_spec _)
theorem calls_seekC {f : FuncId} {args : Array Value} {w : World} {g : Ps → Bool} {l : List (List Int)} {by_ : Int} {p : Ps} (h : CallsR Try.prog f args w fun u w' => Kn w w' ∧ ∃ q, u = posV q ∧ SeekM g l by_ p q) : CallsR Try.prog f args w fun u w' => Kn w w' ∧ u = posV (seekC g l by_ p) :=
  h.mono fun _ _ ⟨h1, q, h2, h3⟩ => ⟨h1, by rw [h2, seekC_eq h3]⟩
section
variable {F : Nat → Prop} {w : World} {A : Option Addr} {c g1 g2 g3 : Nat} {l : List (List Int)} {p q : Ps} {m : Mo} {n k : Int} {op big : Bool} {v row : Value} {f : FuncId} {s : Ps → Ps}
theorem words1_calls [hFn : FnT Try.prog f] (hc1 : w.cell? ⟨g1, 0, none⟩ = some (.func (.func f) #[] #[])) (hc2 : w.heap[g2]? = some (cb [.slice A l.length c, .int .i64 p.1, .int .i64 p.2, .int .i32 m.key, .int .i64 m.count, .int .i32 m.arg, .int .i64 m.want, .int .i64 n, .bool op, row] 40))
    (hc3 : w.cell? ⟨g3, 0, none⟩ = some (.bool big)) (hcall : ∀ w', Kn w w' → CallsR Try.prog f #[.slice A l.length c, posV q, .bool big] w' fun u w'' => Kn w' w'' ∧ u = posV (s q)) :
    CallsR Try.prog 36 #[posV q, .pointer (some ⟨g1, 0, none⟩), .pointer (some ⟨g2, 0, none⟩), .pointer (some ⟨g3, 0, none⟩)] w fun u w' => Kn w w' ∧ u = posV (s q) := by
  have hc20 : w.cell? ⟨g2, 0, none⟩ = some (.slice A l.length c) := blk_cell hc2
  refine l_enter (fun _ => False) Try.func36 rfl rfl ?_
  repeat(first|refine lrun_ ?_|(refine lo_boxA rfl rfl ?_;intro _ _ _)|(refine lo_box1 rfl rfl rfl ?_;intro _ _ _)|(refine lo_alloc rfl ?_;intro _ _ _))
  refine lo_call (n_callV rfl rfl) rfl (fun w hw => hcall w hw.org) ?_
  repeat(first|refine lrun_ ?_|(refine lo_boxA rfl rfl ?_;intro _ _ _)|(refine lo_box1 rfl rfl rfl ?_;intro _ _ _)|(refine lo_alloc rfl ?_;intro _ _ _))
  exact l_retR1 rfl (by repeat(first|exact LRes.nil|refine LRes.tmp rfl ?_|refine LRes.agg rfl (by(repeat(first|exact MIn.hd|refine MIn.tl ?_));done) (by rfl) (by rfl) ?_|refine LRes.one rfl (by(repeat(first|exact MIn.hd|refine MIn.tl ?_));done) (by rfl) ?_)) fun w hw => ⟨hw.org, rfl⟩
theorem blocks1_calls [hFn : FnT Try.prog f] (hc1 : w.cell? ⟨g1, 0, none⟩ = some (.func (.func f) #[] #[])) (hc2 : w.heap[g2]? = some (cb [.slice A l.length c, .int .i64 p.1, .int .i64 p.2, .int .i32 m.key, .int .i64 m.count, .int .i32 m.arg, .int .i64 m.want, .int .i64 n, .bool op, row] 40))
    (hcall : ∀ w', Kn w w' → CallsR Try.prog f #[.slice A l.length c, posV q] w' fun u w'' => Kn w' w'' ∧ u = posV (s q)) :
    CallsR Try.prog 41 #[posV q, .pointer (some ⟨g1, 0, none⟩), .pointer (some ⟨g2, 0, none⟩)] w fun u w' => Kn w w' ∧ u = posV (s q) := by
  have hc20 : w.cell? ⟨g2, 0, none⟩ = some (.slice A l.length c) := blk_cell hc2
  refine l_enter (fun _ => False) Try.func41 rfl rfl ?_
  repeat(first|refine lrun_ ?_|(refine lo_boxA rfl rfl ?_;intro _ _ _)|(refine lo_box1 rfl rfl rfl ?_;intro _ _ _)|(refine lo_alloc rfl ?_;intro _ _ _))
  refine lo_call (n_callV rfl rfl) rfl (fun w hw => hcall w hw.org) ?_
  repeat(first|refine lrun_ ?_|(refine lo_boxA rfl rfl ?_;intro _ _ _)|(refine lo_box1 rfl rfl rfl ?_;intro _ _ _)|(refine lo_alloc rfl ?_;intro _ _ _))
  exact l_retR1 rfl (by repeat(first|exact LRes.nil|refine LRes.tmp rfl ?_|refine LRes.agg rfl (by(repeat(first|exact MIn.hd|refine MIn.tl ?_));done) (by rfl) (by rfl) ?_|refine LRes.one rfl (by(repeat(first|exact MIn.hd|refine MIn.tl ?_));done) (by rfl) ?_)) fun w hw => ⟨hw.org, rfl⟩
end
end Go.Ink

set_option linter.unusedVariables false
set_option linter.unusedSimpArgs false
namespace Go.Ink
open Go Go.Proofs

theorem last_get (l : List (List Int)) (h0 : l ≠ []) : (placesTo l l.length)[(placesTo l l.length).length - 1]? = some (lastM l) := by
  obtain ⟨n, hn⟩ : ∃ n, l.length = n + 1 := ⟨l.length - 1, by have := List.length_pos_iff.2 h0; omega⟩
  have e : lastM l = ((n : Int), (((l.getD n []).length - 1 : Nat) : Int)) := by
    unfold lastM
    rw [if_neg h0, hn, Nat.add_sub_cancel]
  rw [hn, placesTo_succ, e]
  unfold placesAt
  by_cases h1 : (l.getD n []).length = 0
  · rw [if_pos h1, h1]
    simp
  · rw [if_neg h1]
    obtain ⟨m, hm⟩ : ∃ m, (l.getD n []).length = m + 1 := ⟨(l.getD n []).length - 1, by omega⟩
    rw [hm, colsTo_succ, ← List.append_assoc, Nat.add_sub_cancel]
    simp
theorem first_at {l : List (List Int)} (h0 : l ≠ []) : At l (0, 0) := by
  have := List.length_pos_iff.2 h0
  refine ⟨⟨Int.le_refl _, by omega⟩, ?_⟩
  by_cases h : (rowOf l (0, 0)).length = 0
  · exact .inl ⟨h, rfl⟩
  · exact .inr ⟨Int.le_refl _, by show (0 : Int) < _; omega⟩
theorem seek_At {l : List (List Int)} {f : Ps → Bool} {by_ : Int} {p q : Ps} (h0 : l ≠ []) (h : SeekM f l by_ p q) : At l q := by
  rcases h with ⟨h1, -⟩ | ⟨t, r, h1, h2, rfl⟩
  · exact absurd h1 h0
  · match r, h2 with
    | none, _ =>
      unfold tellM
      by_cases hb : 0 < by_
      · simp only [if_pos hb]; exact get_at (last_get l h0)
      · simp only [if_neg hb]; exact first_at h0
    | some u, h2 =>
      have hu : (placesTo l l.length)[u]? = some (tellM l by_ (some u)) := by
        unfold tellM
        exact getD_of h2.1
      exact get_at hu
theorem at_P64 {l : List (List Int)} {q : Ps} (hl : l.length ≤ 140737488355328) (hr : ∀ j, (l.getD j []).length ≤ 140737488355328) (h : At l q) : P64 q := by
  obtain ⟨i, k, rfl, hi, hk, -⟩ := at_index h
  have := hr i
  unfold P64
  simp only
  omega
noncomputable def blockS (l : List (List Int)) (key : Int) : Ps → Ps := if key = 123 then seekC (parB l) l (-1) else if key = 41 then seekC (sentM l) l 1 else if key = 40 then seekC (sentM l) l (-1) else seekC (parE l) l 1
section
variable {F : Nat → Prop} {w : World} {A : Option Addr} {c : Nat} {l : List (List Int)} {p : Ps} {m : Mo} {n k : Int} {op : Bool} {v row : Value}
/-- A step that seeks keeps to cursor's places. -/
theorem seekC_at {f : Ps → Bool} {by_ : Int} {q : Ps} (h0 : l ≠ []) (h : ∃ q', SeekM f l by_ q q') : At l (seekC f l by_ q) := by
  obtain ⟨q', h⟩ := h
  rw [← seekC_eq h]
  exact seek_At h0 h
end
theorem min_of {Q : Nat → Prop} (h : ∃ v, Q v) : ∃ v, Q v ∧ ∀ u, u < v → ¬ Q u := by
  obtain ⟨v, hv⟩ := h
  induction v using Nat.strongRecOn with
  | ind v ih =>
    by_cases h : ∃ u, u < v ∧ Q u
    · obtain ⟨u, h1, h2⟩ := h; exact ih u h1 h2
    · exact ⟨v, hv, fun u hu hq => h ⟨u, hu, hq⟩⟩
theorem seek_exists {l : List (List Int)} {by_ : Int} (f : Ps → Bool) (p : Ps) (h0 : l ≠ []) (hby : by_ = 1 ∨ by_ = -1) : ∃ q, SeekM f l by_ p q := by
  obtain ⟨t, ht⟩ := at_get (clip_at (p := p) h0)
  have htl := (List.getElem?_eq_some_iff.1 ht).1
  by_cases h : ∃ v, v < (placesTo l l.length).length ∧ On by_ t v ∧ f ((placesTo l l.length).getD v (0, 0)) = true
  · have : ∃ d, ∃ v, v < (placesTo l l.length).length ∧ On by_ t v ∧ f ((placesTo l l.length).getD v (0, 0)) = true ∧ d = (if t < v then v - t else t - v) := by
      obtain ⟨v, h1, h2, h3⟩ := h
      exact ⟨_, v, h1, h2, h3, rfl⟩
    obtain ⟨d, ⟨v, h1, h2, h3, h4⟩, hmin⟩ := min_of this
    refine ⟨_, .inr ⟨t, some v, ht, ⟨h1, h2, h3, fun u hu1 hu2 => ?_⟩, rfl⟩⟩
    by_cases hf : f ((placesTo l l.length).getD u (0, 0)) = true
    · exfalso
      refine hmin (if t < u then u - t else t - u) ?_ ⟨u, ?_, hu1, hf, rfl⟩
      · subst h4
        unfold On at *
        rcases hby with rfl | rfl
        · rw [if_pos (by omega), if_pos (by omega)]; omega
        · rw [if_neg (by omega), if_neg (by omega)]; omega
      · unfold On at *; omega
    · exact Bool.eq_false_iff.2 hf
  · refine ⟨_, .inr ⟨t, none, ht, fun v h1 h2 => ?_, rfl⟩⟩
    by_cases hf : f ((placesTo l l.length).getD v (0, 0)) = true
    · exact absurd ⟨v, h1, h2, hf⟩ h
    · exact Bool.eq_false_iff.2 hf
end Go.Ink

set_option linter.unusedVariables false
set_option linter.unusedSimpArgs false
namespace Go.Ink
open Go Go.Proofs

def repV (s : Ps → Ps) (n : Int) (p : Ps) (how : Int) : Ps × Int × Bool := ((repM s n.toNat p p).1, how, decide (¬ ((repM s n.toNat p p).1.1 = p.1 ∧ (repM s n.toNat p p).1.2 = p.2)))
section
variable {F : Nat → Prop} {w : World} {A : Option Addr} {c : Nat} {l : List (List Int)} {p : Ps} {m : Mo} {n k : Int} {op : Bool} {v row : Value}
set_option maxHeartbeats 4000000 in
theorem blocks_calls (hs0 : l.length + runesM l ≤ 4000) (h : Sl kRow F w v l) (hp : At l p) (hn : 0 ≤ n) (hnl : n ≤ 9223372036854775807) : CallsR Try.prog 26 #[atV v p m n op row] w fun u w' => Kn w w' ∧ u = mvV (repV (blockS l m.key) n p 0) := by
  obtain ⟨A, c, ad, rV, rc, ra, rfl, hR⟩ := h.rws
  have hlen := hR.len
  have hl0 : l ≠ [] := by rintro rfl; have := hp.i; simp at this; omega
  have hP : ∀ q, At l q → P64 q := fun q hq => at_P64 hlen hR.rl hq
  have J : ∀ (f : FuncId) [FnT Try.prog f] (s : Ps → Ps) (e : TypeId), s = blockS l m.key → (∀ q, At l q → At l (s q)) → (∀ q w', Kn w w' → At l q → CallsR Try.prog f #[.slice A l.length c, posV q] w' fun u w'' => Kn w' w'' ∧ u = posV (s q)) →
      ∀ g1 g2 g5, ∀ σ', SubB σ' [(1, .pointer (some ⟨g1, 0, none⟩)), (2, .pointer (some ⟨g2, 0, none⟩)), (5, .pointer (some ⟨g5, 0, none⟩))] → ∀ M', MSub [(g5, cb [.func (.func f) #[] #[]] e), (g2, cb [.int .i64 0, .int .i64 0] 24), (g1, cb [.slice A l.length c, .int .i64 p.1, .int .i64 p.2, .int .i32 m.key, .int .i64 m.count, .int .i32 m.arg, .int .i64 m.want, .int .i64 n, .bool op, row] 40)] M' →
      WL Try.prog Try.f26 [.code (bodyC Try.f26 [1, 1, 1])] σ' w (fun _ => False) w (fun _ => False) M' fun u w' => Kn w w' ∧ u = mvV (repV (blockS l m.key) n p 0) := by
    intro f hF s e hs hI hcall g1 g2 g5 σ' hsu M' hM
    refine WL.sub hsu hM ?_
    rw [← hs]
    repeat(first|refine lrun_ ?_|(refine lo_boxA rfl rfl ?_;intro _ _ _)|(refine lo_box1 rfl rfl rfl ?_;intro _ _ _)|(refine lo_alloc rfl ?_;intro _ _ _))
    refine lo_call (n_call rfl) rfl (fun w hw => repeat_calls (f := 41) (cap := [_, _]) (s := s) (I := At l) (p := p) (m := m) (n := n) (op := op) (row := row) hp hI hn hnl fun q w' hk hq =>
      blocks1_calls (f := f) (hk.cell (hw.cell (by(repeat(first|exact MIn.hd|refine MIn.tl ?_));done) rfl) id) (hk.blk (hw.mem g1 _ (by(repeat(first|exact MIn.hd|refine MIn.tl ?_));done)) id) fun w'' hk' => hcall q w'' ((hw.org.trans hk).trans hk') hq) ?_
    repeat(first|refine lrun_ ?_|(refine lo_boxA rfl rfl ?_;intro _ _ _)|(refine lo_box1 rfl rfl rfl ?_;intro _ _ _)|(refine lo_alloc rfl ?_;intro _ _ _))
    exact l_retR3 rfl (by repeat(first|exact LRes.nil|refine LRes.tmp rfl ?_|refine LRes.agg rfl (by(repeat(first|exact MIn.hd|refine MIn.tl ?_));done) (by rfl) (by rfl) ?_|refine LRes.one rfl (by(repeat(first|exact MIn.hd|refine MIn.tl ?_));done) (by rfl) ?_)) fun w hw => ⟨hw.org, rfl⟩
  have hx : ∀ (f : Ps → Bool) (by_ : Int), (by_ = 1 ∨ by_ = -1) → ∀ q, At l q → At l (seekC f l by_ q) := fun f by_ hb q _ => seekC_at hl0 (seek_exists f q hl0 hb)
  refine l_enter (fun _ => False) Try.func26 rfl rfl ?_
  repeat(first|refine lrun_ ?_|(refine lo_boxA rfl rfl ?_;intro _ _ _)|(refine lo_box1 rfl rfl rfl ?_;intro _ _ _)|(refine lo_alloc rfl ?_;intro _ _ _))
  refine l_ite rfl (fun hk => ?_) (fun hk => ?_)
  · refine l_region ?_;(repeat(first|refine lops_ ?_|(refine lo_boxA rfl rfl ?_;intro _ _ _)|(refine lo_box1 rfl rfl rfl ?_;intro _ _ _)|(refine lo_alloc rfl ?_;intro _ _ _)));refine lo_nil ?_
    refine l_go .inBlock ?_
    exact J 38 (seekC (parB l) l (-1)) _ (by unfold blockS; rw [if_pos hk]) (hx _ _ (.inr rfl)) (fun q w' hk hq => calls_seekC (paraPrev_calls hs0 (Kn.sl hk h) (hP q hq))) _ _ _ _ (by repeat (first | exact SubB.nil | refine SubB.cons rfl ?_)) _ (by repeat(first|exact MSub.refl|refine MSub.keep rfl ?_|exact MSub.nil|apply MSub.drop))
  repeat(first|refine lrun_ ?_|(refine lo_boxA rfl rfl ?_;intro _ _ _)|(refine lo_box1 rfl rfl rfl ?_;intro _ _ _)|(refine lo_alloc rfl ?_;intro _ _ _))
  refine l_ite rfl (fun hk2 => ?_) (fun hk2 => ?_)
  · refine l_region ?_;(repeat(first|refine lops_ ?_|(refine lo_boxA rfl rfl ?_;intro _ _ _)|(refine lo_box1 rfl rfl rfl ?_;intro _ _ _)|(refine lo_alloc rfl ?_;intro _ _ _)));refine lo_nil ?_
    refine l_go .inBlock ?_
    exact J 39 (seekC (sentM l) l 1) _ (by unfold blockS; rw [if_neg hk, if_pos hk2]) (hx _ _ (.inl rfl)) (fun q w' hk hq => calls_seekC (sentNext_calls hs0 (Kn.sl hk h) (hP q hq))) _ _ _ _ (by repeat (first | exact SubB.nil | refine SubB.cons rfl ?_)) _ (by repeat(first|exact MSub.refl|refine MSub.keep rfl ?_|exact MSub.nil|apply MSub.drop))
  repeat(first|refine lrun_ ?_|(refine lo_boxA rfl rfl ?_;intro _ _ _)|(refine lo_box1 rfl rfl rfl ?_;intro _ _ _)|(refine lo_alloc rfl ?_;intro _ _ _))
  refine l_ite rfl (fun hk3 => ?_) (fun hk3 => ?_)
  · refine l_region ?_;(repeat(first|refine lops_ ?_|(refine lo_boxA rfl rfl ?_;intro _ _ _)|(refine lo_box1 rfl rfl rfl ?_;intro _ _ _)|(refine lo_alloc rfl ?_;intro _ _ _)));refine lo_nil ?_
    refine l_go .inBlock ?_
    exact J 40 (seekC (sentM l) l (-1)) _ (by unfold blockS; rw [if_neg hk, if_neg hk2, if_pos hk3]) (hx _ _ (.inr rfl)) (fun q w' hk hq => calls_seekC (sentPrev_calls hs0 (Kn.sl hk h) (hP q hq))) _ _ _ _ (by repeat (first | exact SubB.nil | refine SubB.cons rfl ?_)) _ (by repeat(first|exact MSub.refl|refine MSub.keep rfl ?_|exact MSub.nil|apply MSub.drop))
  · refine l_go .skip ?_
    refine l_go .inBlock ?_
    exact J 37 (seekC (parE l) l 1) _ (by unfold blockS; rw [if_neg hk, if_neg hk2, if_neg hk3]) (hx _ _ (.inl rfl)) (fun q w' hk hq => calls_seekC (paraNext_calls hs0 (Kn.sl hk h) (hP q hq))) _ _ _ _ (by repeat (first | exact SubB.nil | refine SubB.cons rfl ?_)) _ (by repeat(first|exact MSub.refl|refine MSub.keep rfl ?_|exact MSub.nil|apply MSub.drop))
end
end Go.Ink

set_option linter.unusedVariables false
set_option linter.unusedSimpArgs false
namespace Go.Ink
open Go Go.Proofs

noncomputable def wordS (l : List (List Int)) (big : Bool) (k : Int) : Ps → Ps := if k = 98 then seekC (edgeM l big (-1)) l (-1) else if k = 101 then seekC (edgeM l big 1) l 1 else seekC (edgeM l big (-1)) l 1
def wordsV (l : List (List Int)) (s : Ps → Ps) (k : Int) (p : Ps) (n : Int) (op : Bool) : Ps × Int × Bool :=
  (if op = true ∧ k = 119 ∧ (repM s n.toNat p p).1.1 ≠ (repM s n.toNat p p).2.1 then ((repM s n.toNat p p).2.1, (((rowOf l (repM s n.toNat p p).2).length : Nat) : Int)) else (repM s n.toNat p p).1, if k = 101 then 1 else 0, decide (¬ ((repM s n.toNat p p).1.1 = p.1 ∧ (repM s n.toNat p p).1.2 = p.2)))
def lowK (key : Int) : Int := if key < 97 then key + 32 else key
theorem repM_I {s : Ps → Ps} {I : Ps → Prop} (hI : ∀ q, I q → I (s q)) : ∀ (N : Nat) (q last : Ps), I q → I last → I (repM s N q last).1 ∧ I (repM s N q last).2
  | 0, q, last, h1, h2 => ⟨h1, h2⟩
  | N + 1, q, last, h1, h2 => by
    rw [repM_succ]
    split
    · exact ⟨h1, h2⟩
    · exact repM_I hI N (s q) q (hI q h1) h1
section
variable {F : Nat → Prop} {w : World} {A : Option Addr} {c : Nat} {l : List (List Int)} {p : Ps} {m : Mo} {n k : Int} {op : Bool} {v row : Value}
set_option maxHeartbeats 8000000 in
theorem words_calls (hs0 : l.length + runesM l ≤ 4000) (h : Sl kRow F w v l) (hp : At l p) (hkey : -2147483648 ≤ m.key ∧ m.key ≤ 2147483647) (hn : 0 ≤ n) (hnl : n ≤ 9223372036854775807) : CallsR Try.prog 25 #[atV v p m n op row] w fun u w' => Kn w w' ∧ u = mvV (wordsV l (wordS l (decide (m.key < 97)) (lowK m.key)) (lowK m.key) p n op) := by
  obtain ⟨A, c, ad, rV, rc, ra, rfl, hR⟩ := h.rws
  have hlen := hR.len
  have hl0 : l ≠ [] := by rintro rfl; have := hp.i; simp at this; omega
  have hP : ∀ q, At l q → P64 q := fun q hq => at_P64 hlen hR.rl hq
  have J : ∀ (f : FuncId) [FnT Try.prog f] (s : Ps → Ps) (e e3 : TypeId) (how k : Int) (big : Bool), s = wordS l big (lowK m.key) → k = lowK m.key → big = decide (m.key < 97) → how = (if k = 101 then 1 else 0) → (∀ q, At l q → At l (s q)) → (∀ q w', Kn w w' → At l q → CallsR Try.prog f #[.slice A l.length c, posV q, .bool big] w' fun u w'' => Kn w' w'' ∧ u = posV (s q)) →
      ∀ g1 g2 g6 g7, ∀ σ', SubB σ' [(1, .pointer (some ⟨g1, 0, none⟩)), (2, .pointer (some ⟨g2, 0, none⟩)), (5, .int .i32 k), (6, .pointer (some ⟨g6, 0, none⟩)), (7, .pointer (some ⟨g7, 0, none⟩)), (8, .int .i64 how)] → ∀ M', MSub [(g7, cb [.func (.func f) #[] #[]] e), (g6, cb [.bool big] e3), (g2, cb [.int .i64 0, .int .i64 0] 24), (g1, cb [.slice A l.length c, .int .i64 p.1, .int .i64 p.2, .int .i32 m.key, .int .i64 m.count, .int .i32 m.arg, .int .i64 m.want, .int .i64 n, .bool op, row] 40)] M' →
      WL Try.prog Try.f25 [.code (bodyC Try.f25 [1, 1, 1, 1, 1, 1])] σ' w (fun _ => False) w (fun _ => False) M' fun u w' => Kn w w' ∧ u = mvV (wordsV l (wordS l (decide (m.key < 97)) (lowK m.key)) (lowK m.key) p n op) := by
    intro f hF s e e3 how k big hs hk hbig hhow hI hcall g1 g2 g6 g7 σ' hsu M' hM
    refine WL.sub hsu hM ?_
    subst hbig
    rw [← hs, ← hk]
    repeat(first|refine lrun_ ?_|(refine lo_boxA rfl rfl ?_;intro _ _ _)|(refine lo_box1 rfl rfl rfl ?_;intro _ _ _)|(refine lo_alloc rfl ?_;intro _ _ _))
    refine lo_call (n_call rfl) rfl (fun w hw => repeat_calls (f := 36) (cap := [_, _, _]) (s := s) (I := At l) (p := p) (m := m) (n := n) (op := op) (row := row) hp hI hn hnl fun q w' hk hq =>
      words1_calls (f := f) (hk.cell (hw.cell (by(repeat(first|exact MIn.hd|refine MIn.tl ?_));done) rfl) id) (hk.blk (hw.mem g1 _ (by(repeat(first|exact MIn.hd|refine MIn.tl ?_));done)) id) (hk.cell (hw.cell (by(repeat(first|exact MIn.hd|refine MIn.tl ?_));done) rfl) id) fun w'' hk' => hcall q w'' ((hw.org.trans hk).trans hk') hq) ?_
    obtain ⟨hq, hla⟩ := repM_I hI n.toNat p p hp hp
    unfold wordsV
    generalize hr : repM s n.toNat p p = r at *
    obtain ⟨q, last⟩ := r
    simp only at hq hla
    obtain ⟨i, kk, rfl, hi, hkk, -⟩ := at_index hla
    have hrl := hR.rl i
    clear hr hcall hI hs hP
    cases op with
    | false =>
      rw [if_neg (fun h => by cases h.1)]
      repeat(first|refine lrun_ ?_|(refine lo_boxA rfl rfl ?_;intro _ _ _)|(refine lo_box1 rfl rfl rfl ?_;intro _ _ _)|(refine lo_alloc rfl ?_;intro _ _ _))
      refine l_false rfl ?_
      repeat(first|refine lrun_ ?_|(refine lo_boxA rfl rfl ?_;intro _ _ _)|(refine lo_box1 rfl rfl rfl ?_;intro _ _ _)|(refine lo_alloc rfl ?_;intro _ _ _))
      exact l_retR3 rfl (by repeat(first|exact LRes.nil|refine LRes.tmp rfl ?_|refine LRes.agg rfl (by(repeat(first|exact MIn.hd|refine MIn.tl ?_));done) (by rfl) (by rfl) ?_|refine LRes.one rfl (by(repeat(first|exact MIn.hd|refine MIn.tl ?_));done) (by rfl) ?_)) fun w hw => ⟨hw.org, by rw [hhow]; rfl⟩
    | true =>
      by_cases hk9 : k = 119
      · by_cases hne : q.1 = (i : Int)
        · rw [if_neg (fun h => h.2.2 hne)]
          repeat(first|refine lrun_ ?_|(refine lo_boxA rfl rfl ?_;intro _ _ _)|(refine lo_box1 rfl rfl rfl ?_;intro _ _ _)|(refine lo_alloc rfl ?_;intro _ _ _))
          refine l_no rfl (by simpa using hne) ?_
          repeat(first|refine lrun_ ?_|(refine lo_boxA rfl rfl ?_;intro _ _ _)|(refine lo_box1 rfl rfl rfl ?_;intro _ _ _)|(refine lo_alloc rfl ?_;intro _ _ _))
          exact l_retR3 rfl (by repeat(first|exact LRes.nil|refine LRes.tmp rfl ?_|refine LRes.agg rfl (by(repeat(first|exact MIn.hd|refine MIn.tl ?_));done) (by rfl) (by rfl) ?_|refine LRes.one rfl (by(repeat(first|exact MIn.hd|refine MIn.tl ?_));done) (by rfl) ?_)) fun w hw => ⟨hw.org, by rw [hhow]; rfl⟩
        · rw [if_pos ⟨rfl, hk9, hne⟩, rowOf_at]
          repeat(first|refine lrun_ ?_|(refine lo_boxA rfl rfl ?_;intro _ _ _)|(refine lo_box1 rfl rfl rfl ?_;intro _ _ _)|(refine lo_alloc rfl ?_;intro _ _ _))
          refine l_yes rfl hne ?_
          repeat(first|refine lrun_ ?_|(refine lo_boxA rfl rfl ?_;intro _ _ _)|(refine lo_box1 rfl rfl rfl ?_;intro _ _ _)|(refine lo_alloc rfl ?_;intro _ _ _))
          refine l_draw [(0, 0), (1, 0), (2, 0), (3, 0), (4, 0), (5, 0), (6, 0), (7, 0), (8, 0), (9, 0), (10, 1)] (by kernel_rfl) (by kernel_rfl) rfl (by kernel_rfl) ?_
          repeat(first|refine lrund_ ?_|(refine ld_open rfl ?_;first|(refine ld_boxA rfl wy_ rfl ?_;intro _ _ _)|(refine ld_box1 rfl rfl wy_ rfl ?_;intro _ _ _)|(refine ld_alloc wy_ rfl ?_;intro _ _ _)))
          repeat(first|refine lrun_ ?_|(refine lo_boxA rfl rfl ?_;intro _ _ _)|(refine lo_box1 rfl rfl rfl ?_;intro _ _ _)|(refine lo_alloc rfl ?_;intro _ _ _))
          exact l_retR3 rfl (by repeat(first|exact LRes.nil|refine LRes.tmp rfl ?_|refine LRes.agg rfl (by(repeat(first|exact MIn.hd|refine MIn.tl ?_));done) (by rfl) (by rfl) ?_|refine LRes.one rfl (by(repeat(first|exact MIn.hd|refine MIn.tl ?_));done) (by rfl) ?_)) fun w hw => ⟨hw.org, by rw [hhow]; rfl⟩
      · rw [if_neg (fun h => hk9 h.2.1)]
        repeat(first|refine lrun_ ?_|(refine lo_boxA rfl rfl ?_;intro _ _ _)|(refine lo_box1 rfl rfl rfl ?_;intro _ _ _)|(refine lo_alloc rfl ?_;intro _ _ _))
        refine l_false rfl ?_
        repeat(first|refine lrun_ ?_|(refine lo_boxA rfl rfl ?_;intro _ _ _)|(refine lo_box1 rfl rfl rfl ?_;intro _ _ _)|(refine lo_alloc rfl ?_;intro _ _ _))
        exact l_retR3 rfl (by repeat(first|exact LRes.nil|refine LRes.tmp rfl ?_|refine LRes.agg rfl (by(repeat(first|exact MIn.hd|refine MIn.tl ?_));done) (by rfl) (by rfl) ?_|refine LRes.one rfl (by(repeat(first|exact MIn.hd|refine MIn.tl ?_));done) (by rfl) ?_)) fun w hw => ⟨hw.org, by rw [hhow]; rfl⟩
  have hx : ∀ (f : Ps → Bool) (by_ : Int), (by_ = 1 ∨ by_ = -1) → ∀ q, At l q → At l (seekC f l by_ q) := fun f by_ hb q _ => seekC_at hl0 (seek_exists f q hl0 hb)
  have Z : ∀ (k : Int) (big : Bool), k = lowK m.key → big = decide (m.key < 97) → ∀ e3 g1 g2 g6, ∀ σ', SubB σ' [(1, .pointer (some ⟨g1, 0, none⟩)), (2, .pointer (some ⟨g2, 0, none⟩)), (5, .int .i32 k), (6, .pointer (some ⟨g6, 0, none⟩))] → ∀ M', MSub [(g6, cb [.bool big] e3), (g2, cb [.int .i64 0, .int .i64 0] 24), (g1, cb [.slice A l.length c, .int .i64 p.1, .int .i64 p.2, .int .i32 m.key, .int .i64 m.count, .int .i32 m.arg, .int .i64 m.want, .int .i64 n, .bool op, row] 40)] M' →
      WL Try.prog Try.f25 [.code (bodyC Try.f25 [1, 1, 1, 1])] σ' w (fun _ => False) w (fun _ => False) M' fun u w' => Kn w w' ∧ u = mvV (wordsV l (wordS l (decide (m.key < 97)) (lowK m.key)) (lowK m.key) p n op) := by
    intro k big hk hbig e3 g1 g2 g6 σ' hsu M' hM
    refine WL.sub hsu hM ?_
    repeat(first|refine lrun_ ?_|(refine lo_boxA rfl rfl ?_;intro _ _ _)|(refine lo_box1 rfl rfl rfl ?_;intro _ _ _)|(refine lo_alloc rfl ?_;intro _ _ _))
    refine l_ite rfl (fun hk1 => ?_) (fun hk1 => ?_)
    · refine l_region ?_;(repeat(first|refine lops_ ?_|(refine lo_boxA rfl rfl ?_;intro _ _ _)|(refine lo_box1 rfl rfl rfl ?_;intro _ _ _)|(refine lo_alloc rfl ?_;intro _ _ _)));refine lo_nil ?_
      refine l_go .inBlock ?_
      exact J 33 (seekC (edgeM l big (-1)) l (-1)) _ _ 0 k big (by unfold wordS; rw [if_pos (hk ▸ hk1)]) hk hbig (by rw [if_neg (by omega)]) (hx _ _ (.inr rfl)) (fun q w' hk hq => calls_seekC (prev_calls hs0 (Kn.sl hk h) (hP q hq))) _ _ _ _ _ (by repeat (first | exact SubB.nil | refine SubB.cons rfl ?_)) _ (by repeat(first|exact MSub.refl|refine MSub.keep rfl ?_|exact MSub.nil|apply MSub.drop))
    repeat(first|refine lrun_ ?_|(refine lo_boxA rfl rfl ?_;intro _ _ _)|(refine lo_box1 rfl rfl rfl ?_;intro _ _ _)|(refine lo_alloc rfl ?_;intro _ _ _))
    refine l_ite rfl (fun hk2 => ?_) (fun hk2 => ?_)
    · refine l_region ?_;(repeat(first|refine lops_ ?_|(refine lo_boxA rfl rfl ?_;intro _ _ _)|(refine lo_box1 rfl rfl rfl ?_;intro _ _ _)|(refine lo_alloc rfl ?_;intro _ _ _)));refine lo_nil ?_
      refine l_go .inBlock ?_
      exact J 34 (seekC (edgeM l big 1) l 1) _ _ 1 k big (by unfold wordS; rw [if_neg (hk ▸ hk1), if_pos (hk ▸ hk2)]) hk hbig (by rw [if_pos hk2]) (hx _ _ (.inl rfl)) (fun q w' hk hq => calls_seekC (end_calls hs0 (Kn.sl hk h) (hP q hq))) _ _ _ _ _ (by repeat (first | exact SubB.nil | refine SubB.cons rfl ?_)) _ (by repeat(first|exact MSub.refl|refine MSub.keep rfl ?_|exact MSub.nil|apply MSub.drop))
    · refine l_go .skip ?_
      refine l_go .inBlock ?_
      exact J 32 (seekC (edgeM l big (-1)) l 1) _ _ 0 k big (by unfold wordS; rw [if_neg (hk ▸ hk1), if_neg (hk ▸ hk2)]) hk hbig (by rw [if_neg hk2]) (hx _ _ (.inl rfl)) (fun q w' hk hq => calls_seekC (next_calls hs0 (Kn.sl hk h) (hP q hq))) _ _ _ _ _ (by repeat (first | exact SubB.nil | refine SubB.cons rfl ?_)) _ (by repeat(first|exact MSub.refl|refine MSub.keep rfl ?_|exact MSub.nil|apply MSub.drop))
  refine l_enter (fun _ => False) Try.func25 rfl rfl ?_
  repeat(first|refine lrun_ ?_|(refine lo_boxA rfl rfl ?_;intro _ _ _)|(refine lo_box1 rfl rfl rfl ?_;intro _ _ _)|(refine lo_alloc rfl ?_;intro _ _ _))
  refine l_ite rfl (fun hb => ?_) (fun hb => ?_)
  · refine l_region ?_;(repeat(first|refine lops_ ?_|(refine lo_boxA rfl rfl ?_;intro _ _ _)|(refine lo_box1 rfl rfl rfl ?_;intro _ _ _)|(refine lo_alloc rfl ?_;intro _ _ _)));refine lo_nil ?_
    exact Z (m.key + 32) _ (by unfold lowK; rw [if_pos hb]) rfl _ _ _ _ _ (by repeat (first | exact SubB.nil | refine SubB.cons rfl ?_)) _ (by repeat(first|exact MSub.refl|refine MSub.keep rfl ?_|exact MSub.nil|apply MSub.drop))
  · refine l_go .skip ?_
    exact Z m.key _ (by unfold lowK; rw [if_neg hb]) rfl _ _ _ _ _ (by repeat (first | exact SubB.nil | refine SubB.cons rfl ?_)) _ (by repeat(first|exact MSub.refl|refine MSub.keep rfl ?_|exact MSub.nil|apply MSub.drop))
end
end Go.Ink

set_option linter.unusedVariables false
set_option linter.unusedSimpArgs false
namespace Go.Ink
open Go Go.Proofs

/-- So many of the n runes from a on are r. -/
def cntU (x : List Int) (r : Int) (a : Nat) : Nat → Nat
  | 0 => 0
  | n + 1 => cntU x r a n + if x.getD (a + n) 0 = r then 1 else 0
/-- So many of the n runes ahead of b. -/
def cntD (x : List Int) (r : Int) (b : Nat) : Nat → Nat
  | 0 => 0
  | n + 1 => cntD x r b n + if x.getD (b - 1 - n) 0 = r then 1 else 0
theorem cntU_succ (x : List Int) (r : Int) (a n : Nat) : cntU x r a (n + 1) = cntU x r a n + if x.getD (a + n) 0 = r then 1 else 0 := rfl
theorem cntD_succ (x : List Int) (r : Int) (b n : Nat) : cntD x r b (n + 1) = cntD x r b n + if x.getD (b - 1 - n) 0 = r then 1 else 0 := rfl
theorem cntU_le (x : List Int) (r : Int) (a : Nat) : ∀ n, cntU x r a n ≤ n
  | 0 => Nat.le_refl _
  | n + 1 => by have := cntU_le x r a n; rw [cntU_succ]; split <;> omega
/-- What find tells: short is put on the place. -/
inductive FindM (x : List Int) (p : Ps) (r n : Int) (by_ how short : Int) : Ps × Int × Bool → Prop where
  | up (j : Nat) : by_ = 1 → p.2 < (j : Int) → j < x.length → x.getD j 0 = r → (cntU x r (p.2.toNat + 1) (j - p.2.toNat) : Int) = n → FindM x p r n by_ how short ((p.1, (j : Int) + short), how, true)
  | noUp : by_ = 1 → (cntU x r (p.2.toNat + 1) (x.length - (p.2.toNat + 1)) : Int) < n → FindM x p r n by_ how short (p, 0, false)
  | down (j : Nat) : by_ = -1 → (j : Int) < p.2 → x.getD j 0 = r → (cntD x r p.2.toNat (p.2.toNat - j) : Int) = n → FindM x p r n by_ how short ((p.1, (j : Int) + short), how, true)
  | noDown : by_ = -1 → (cntD x r p.2.toNat p.2.toNat : Int) < n → FindM x p r n by_ how short (p, 0, false)
end Go.Ink
