/-
  The parser: digit, counted, ends, motion.
-/
import Derived.Test.YtbmjcjlenbgpkaaK2
import Derived.Test.YtbmjcjlenbgpkaaIdx
set_option linter.unusedVariables false
set_option linter.unusedSimpArgs false
namespace Go.Ink
open Go Go.Proofs Go.RowKit

/-- A command. -/
structure Cmd where
  reg : Int
  count : Int
  op : Int
  key : Int
  pre : Int
  arg : Int
  line : Bool
abbrev cmd0 : Cmd := ⟨0, 0, 0, 0, 0, 0, false⟩
/-- What is wanted next. -/
inductive Wa where
  | start | reg | after | big (op : Bool) | obj | arg | key | ended | none
abbrev waV : Wa → Value
  | .start => .iface 83 (.agg #[])
  | .reg => .iface 110 (.agg #[])
  | .after => .iface 113 (.agg #[])
  | .big b => .iface 112 (.agg #[.bool b])
  | .obj => .iface 114 (.agg #[])
  | .arg => .iface 115 (.agg #[])
  | .key => .iface 116 (.agg #[])
  | .ended => .iface 81 (.agg #[])
  | .none => .nilIface
abbrev pcs (vh nv : Value) (c : Cmd) (cnt : Int) (vis : Bool) : List Value := [vh, nv, .int .i32 c.reg, .int .i64 c.count, .int .i32 c.op, .int .i32 c.key, .int .i32 c.pre, .int .i32 c.arg, .bool c.line, .int .i64 cnt, .bool vis]
def isDg (r cnt : Int) : Bool := decide (48 ≤ r ∧ r ≤ 57 ∧ ¬ (r = 48 ∧ cnt = 0))
def dgN (r cnt : Int) : Int := if isDg r cnt then (if 2147483647 < cnt * 10 + (r - 48) then 2147483647 else cnt * 10 + (r - 48)) else cnt
/-- Two counts. -/
def timesM (a b : Int) : Int := if a = 0 then b else if (2147483647 : Int).tdiv b < a then 2147483647 else a * b
def countedM (c : Cmd) (n : Int) : Cmd := if n = 0 then c else { c with count := timesM c.count n }
theorem times_le {a b : Int} (h : ¬ (2147483647 : Int).tdiv b < a) (hb : 0 < b) (ha : 0 ≤ a) : 0 ≤ a * b ∧ a * b ≤ 2147483647 := by
  rw [Int.tdiv_eq_ediv_of_nonneg (by decide)] at h
  have h1 : a ≤ 2147483647 / b := by omega
  have h2 := Int.ediv_mul_le 2147483647 (show b ≠ 0 by omega)
  have h3 := Int.mul_le_mul_of_nonneg_right h1 (show 0 ≤ b by omega)
  exact ⟨Int.mul_nonneg ha (by omega), by omega⟩
theorem timesM_ok {a b : Int} (ha : 0 ≤ a ∧ a ≤ 2147483647) (hb : 0 < b ∧ b ≤ 2147483647) : 0 ≤ timesM a b ∧ timesM a b ≤ 2147483647 := by
  unfold timesM
  split
  · omega
  · split
    · omega
    · next h => exact times_le h hb.1 ha.1
theorem quo_wrap {b : Int} (hb : 0 < b) : IntKind.i64.wrap ((2147483647 : Int).tdiv b) = (2147483647 : Int).tdiv b := by
  have h1 : 0 ≤ (2147483647 : Int).tdiv b := by rw [Int.tdiv_eq_ediv_of_nonneg (by decide)]; exact Int.ediv_nonneg (by decide) (by omega)
  have h2 : (2147483647 : Int).tdiv b ≤ 2147483647 := by rw [Int.tdiv_eq_ediv_of_nonneg (by decide)]; exact Int.ediv_le_self _ (by decide)
  generalize (2147483647 : Int).tdiv b = q at *
  simp [IntKind.wrap, IntKind.bits, IntKind.signed]; omega
abbrev PrR (g : Nat) (w : World) (cs : List Value) (v : Value) (u : Value) (w' : World) : Prop := Wr w w' g (cb cs 78) ∧ u = v
section
variable {w : World} {g : Nat} {vh nv : Value} {c : Cmd} {cnt r : Int} {vis : Bool}
set_option maxHeartbeats 4000000 in
theorem digit_calls (hg : w.heap[g]? = some (cb (pcs vh nv c cnt vis) 78)) (hc : 0 ≤ cnt ∧ cnt ≤ 2147483647) (hr : -2147483648 ≤ r ∧ r ≤ 2147483647) :
    CallsR Try.prog 73 #[.pointer (some ⟨g, 0, none⟩), .int .i32 r] w (PrR g w (pcs vh nv c (dgN r cnt) vis) (.bool (isDg r cnt))) := by
  refine l_enterM (args := [.pointer (some ⟨g, 0, none⟩), .int .i32 r]) (S := fun k => k = g) hg rfl Try.func73 rfl rfl ?_
  by_cases h1 : r < 48
  · have e : isDg r cnt = false := decide_eq_false (by omega)
    unfold dgN
    rw [e]
    repeat(first|refine lrun_ ?_|(refine lo_boxA rfl rfl ?_;intro _ _ _)|(refine lo_box1 rfl rfl rfl ?_;intro _ _ _)|(refine lo_alloc rfl ?_;intro _ _ _))
    refine l_true rfl ?_
    repeat(first|refine lrun_ ?_|(refine lo_boxA rfl rfl ?_;intro _ _ _)|(refine lo_box1 rfl rfl rfl ?_;intro _ _ _)|(refine lo_alloc rfl ?_;intro _ _ _))
    exact l_ret1 rfl rfl fun w' hw => ⟨⟨hw.org, hw.mem g _ .hd⟩, rfl⟩
  by_cases h2 : 57 < r
  · have e : isDg r cnt = false := decide_eq_false (by omega)
    unfold dgN
    rw [e]
    repeat(first|refine lrun_ ?_|(refine lo_boxA rfl rfl ?_;intro _ _ _)|(refine lo_box1 rfl rfl rfl ?_;intro _ _ _)|(refine lo_alloc rfl ?_;intro _ _ _))
    refine l_true rfl ?_
    repeat(first|refine lrun_ ?_|(refine lo_boxA rfl rfl ?_;intro _ _ _)|(refine lo_box1 rfl rfl rfl ?_;intro _ _ _)|(refine lo_alloc rfl ?_;intro _ _ _))
    exact l_ret1 rfl rfl fun w' hw => ⟨⟨hw.org, hw.mem g _ .hd⟩, rfl⟩
  by_cases h3 : r = 48 ∧ cnt = 0
  · have e : isDg r cnt = false := decide_eq_false (by omega)
    unfold dgN
    rw [e]
    obtain ⟨rfl, rfl⟩ := h3
    repeat(first|refine lrun_ ?_|(refine lo_boxA rfl rfl ?_;intro _ _ _)|(refine lo_box1 rfl rfl rfl ?_;intro _ _ _)|(refine lo_alloc rfl ?_;intro _ _ _))
    refine l_true rfl ?_
    repeat(first|refine lrun_ ?_|(refine lo_boxA rfl rfl ?_;intro _ _ _)|(refine lo_box1 rfl rfl rfl ?_;intro _ _ _)|(refine lo_alloc rfl ?_;intro _ _ _))
    exact l_ret1 rfl rfl fun w' hw => ⟨⟨hw.org, hw.mem g _ .hd⟩, rfl⟩
  have e : isDg r cnt = true := decide_eq_true ⟨by omega, by omega, h3⟩
  unfold dgN
  rw [e, if_pos rfl]
  have fin : ∀ σ' M', SubB σ' [(0, .pointer (some ⟨g, 0, none⟩)), (1, .int .i32 r)] → MSub [(g, cb (pcs vh nv c cnt vis) 78)] M' → WL Try.prog Try.f73 (.code (bodyC Try.f73 [1, 1]) :: []) σ' w (fun k => k = g) w (MK [(g, cb (pcs vh nv c cnt vis) 78)]) M' (PrR g w (pcs vh nv c (if 2147483647 < cnt * 10 + (r - 48) then 2147483647 else cnt * 10 + (r - 48)) vis) (.bool true)) := by
    intro σ' M' hs hM
    refine WL.sub hs hM ?_
    repeat(first|refine lrun_ ?_|(refine lo_boxA rfl rfl ?_;intro _ _ _)|(refine lo_box1 rfl rfl rfl ?_;intro _ _ _)|(refine lo_alloc rfl ?_;intro _ _ _))
    exact l_ret1 rfl rfl fun w' hw => ⟨⟨hw.org, hw.mem g _ .hd⟩, rfl⟩
  by_cases h4 : r = 48
  · have h5 : cnt ≠ 0 := fun e => h3 ⟨h4, e⟩
    subst h4
    repeat(first|refine lrun_ ?_|(refine lo_boxA rfl rfl ?_;intro _ _ _)|(refine lo_box1 rfl rfl rfl ?_;intro _ _ _)|(refine lo_alloc rfl ?_;intro _ _ _))
    refine l_no rfl (by omega) ?_
    refine l_go .skip ?_
    exact fin _ _ (by repeat (first | exact SubB.nil | refine SubB.cons rfl ?_)) (by repeat(first|exact MSub.refl|refine MSub.keep rfl ?_|exact MSub.nil|apply MSub.drop))
  · repeat(first|refine lrun_ ?_|(refine lo_boxA rfl rfl ?_;intro _ _ _)|(refine lo_box1 rfl rfl rfl ?_;intro _ _ _)|(refine lo_alloc rfl ?_;intro _ _ _))
    refine l_false rfl ?_
    refine l_go .skip ?_
    exact fin _ _ (by repeat (first | exact SubB.nil | refine SubB.cons rfl ?_)) (by repeat(first|exact MSub.refl|refine MSub.keep rfl ?_|exact MSub.nil|apply MSub.drop))
set_option maxHeartbeats 4000000 in
theorem counted_calls (hg : w.heap[g]? = some (cb (pcs vh nv c cnt vis) 78)) (hc : 0 ≤ cnt ∧ cnt ≤ 2147483647) (hcc : 0 ≤ c.count ∧ c.count ≤ 2147483647) :
    CallsR Try.prog 70 #[.pointer (some ⟨g, 0, none⟩)] w (PrR g w (pcs vh nv (countedM c cnt) 0 vis) (.tuple #[])) := by
  refine l_enterM (args := [.pointer (some ⟨g, 0, none⟩)]) (S := fun k => k = g) hg rfl Try.func70 rfl rfl ?_
  by_cases h1 : cnt = 0
  · subst h1
    repeat(first|refine lrun_ ?_|(refine lo_boxA rfl rfl ?_;intro _ _ _)|(refine lo_box1 rfl rfl rfl ?_;intro _ _ _)|(refine lo_alloc rfl ?_;intro _ _ _))
    refine l_true rfl ?_
    repeat(first|refine lrun_ ?_|(refine lo_boxA rfl rfl ?_;intro _ _ _)|(refine lo_box1 rfl rfl rfl ?_;intro _ _ _)|(refine lo_alloc rfl ?_;intro _ _ _))
    exact l_end0 rfl fun w' hw => ⟨⟨hw.org, hw.mem g _ .hd⟩, rfl⟩
  have e1 : countedM c cnt = { c with count := timesM c.count cnt } := by unfold countedM; rw [if_neg h1]
  rw [e1]
  unfold timesM
  by_cases h2 : c.count = 0
  · rw [if_pos h2]
    repeat(first|refine lrun_ ?_|(refine lo_boxA rfl rfl ?_;intro _ _ _)|(refine lo_box1 rfl rfl rfl ?_;intro _ _ _)|(refine lo_alloc rfl ?_;intro _ _ _))
    refine l_no rfl h1 ?_
    repeat(first|refine lrun_ ?_|(refine lo_boxA rfl rfl ?_;intro _ _ _)|(refine lo_box1 rfl rfl rfl ?_;intro _ _ _)|(refine lo_alloc rfl ?_;intro _ _ _))
    refine l_yes rfl h2 ?_
    repeat(first|refine lrun_ ?_|(refine lo_boxA rfl rfl ?_;intro _ _ _)|(refine lo_box1 rfl rfl rfl ?_;intro _ _ _)|(refine lo_alloc rfl ?_;intro _ _ _))
    exact l_end0 rfl fun w' hw => ⟨⟨hw.org, hw.mem g _ .hd⟩, rfl⟩
  rw [if_neg h2]
  repeat(first|refine lrun_ ?_|(refine lo_boxA rfl rfl ?_;intro _ _ _)|(refine lo_box1 rfl rfl rfl ?_;intro _ _ _)|(refine lo_alloc rfl ?_;intro _ _ _))
  refine l_no rfl h1 ?_
  repeat(first|refine lrun_ ?_|(refine lo_boxA rfl rfl ?_;intro _ _ _)|(refine lo_box1 rfl rfl rfl ?_;intro _ _ _)|(refine lo_alloc rfl ?_;intro _ _ _))
  refine l_no rfl h2 ?_
  repeat(first|refine lrun_ ?_|(refine lo_boxA rfl rfl ?_;intro _ _ _)|(refine lo_box1 rfl rfl rfl ?_;intro _ _ _)|(refine lo_alloc rfl ?_;intro _ _ _))
  refine l_draw [(0, 0), (1, 0), (2, 0), (3, 0), (4, 0), (5, 0), (6, 0), (7, 0), (8, 0)] (by kernel_rfl) (by kernel_rfl) rfl (by kernel_rfl) ?_
  repeat(first|refine lrund_ ?_|(refine ld_open rfl ?_;first|(refine ld_boxA rfl wy_ rfl ?_;intro _ _ _)|(refine ld_box1 rfl rfl wy_ rfl ?_;intro _ _ _)|(refine ld_alloc wy_ rfl ?_;intro _ _ _)))
  refine ld_open rfl ?_; refine ld_still (fun w' _ => r_quo rfl rfl h1) wy_ rfl ?_
  rw [quo_wrap (show 0 < cnt by omega)]
  repeat(first|refine lrund_ ?_|(refine ld_open rfl ?_;first|(refine ld_boxA rfl wy_ rfl ?_;intro _ _ _)|(refine ld_box1 rfl rfl wy_ rfl ?_;intro _ _ _)|(refine ld_alloc wy_ rfl ?_;intro _ _ _)))
  by_cases h3 : (2147483647 : Int).tdiv cnt < c.count
  · rw [if_pos h3]
    refine l_yes rfl h3 ?_
    repeat(first|refine lrun_ ?_|(refine lo_boxA rfl rfl ?_;intro _ _ _)|(refine lo_box1 rfl rfl rfl ?_;intro _ _ _)|(refine lo_alloc rfl ?_;intro _ _ _))
    exact l_end0 rfl fun w' hw => ⟨⟨hw.org, hw.mem g _ .hd⟩, rfl⟩
  · rw [if_neg h3]
    have h4 := times_le h3 (by omega) hcc.1
    refine l_no rfl h3 ?_
    repeat(first|refine lrun_ ?_|(refine lo_boxA rfl rfl ?_;intro _ _ _)|(refine lo_box1 rfl rfl rfl ?_;intro _ _ _)|(refine lo_alloc rfl ?_;intro _ _ _))
    exact l_end0 rfl fun w' hw => ⟨⟨hw.org, hw.mem g _ .hd⟩, rfl⟩
set_option maxHeartbeats 4000000 in
theorem ends_calls (hg : w.heap[g]? = some (cb (pcs vh nv c cnt vis) 78)) :
    CallsR Try.prog 75 #[.pointer (some ⟨g, 0, none⟩), .int .i32 r] w (PrR g w (pcs vh nv { c with key := r } cnt vis) (waV .ended)) := by
  refine l_enterM (args := [.pointer (some ⟨g, 0, none⟩), .int .i32 r]) (S := fun k => k = g) hg rfl Try.func75 rfl rfl ?_
  repeat(first|refine lrun_ ?_|(refine lo_boxA rfl rfl ?_;intro _ _ _)|(refine lo_box1 rfl rfl rfl ?_;intro _ _ _)|(refine lo_alloc rfl ?_;intro _ _ _))
  refine lo_rn (fun _ => r_makeI rfl) rfl ?_
  repeat(first|refine lrun_ ?_|(refine lo_boxA rfl rfl ?_;intro _ _ _)|(refine lo_box1 rfl rfl rfl ?_;intro _ _ _)|(refine lo_alloc rfl ?_;intro _ _ _))
  exact l_ret1 rfl rfl fun w' hw => ⟨⟨hw.org, hw.mem g _ .hd⟩, rfl⟩
/-- A motion's first rune. -/
def finds : List Int := [102, 116, 70, 84]
def marks : List Int := [39, 96]
def motionsL : List Int := [104, 108, 106, 107, 43, 45, 95, 71, 48, 94, 36, 124, 119, 87, 98, 66, 101, 69, 37, 123, 125, 40, 41, 72, 77, 76, 59, 44, 110, 78]
def motionM (c : Cmd) (r : Int) : Wa × Cmd := if r ∈ finds ∨ r ∈ marks then (.arg, { c with key := r }) else if r = 103 then (.big false, c) else if r ∈ motionsL then (.ended, { c with key := r }) else (.none, c)
set_option maxHeartbeats 4000000 in
theorem motion_calls (hg : w.heap[g]? = some (cb (pcs vh nv c cnt vis) 78)) :
    CallsR Try.prog 76 #[.pointer (some ⟨g, 0, none⟩), .int .i32 r] w (PrR g w (pcs vh nv (motionM c r).2 cnt vis) (waV (motionM c r).1)) := by
  refine l_enterM (args := [.pointer (some ⟨g, 0, none⟩), .int .i32 r]) (S := fun k => k = g) hg rfl Try.func76 rfl rfl ?_
  unfold motionM
  repeat(first|refine lrun_ ?_|(refine lo_boxA rfl rfl ?_;intro _ _ _)|(refine lo_box1 rfl rfl rfl ?_;intro _ _ _)|(refine lo_alloc rfl ?_;intro _ _ _))
  refine lo_call (n_call rfl) rfl (fun w' hw => one_calls (s := ⟨#[102, 116, 70, 84]⟩) (by decide)) ?_
  rw [show bytesL ⟨#[102, 116, 70, 84]⟩ = finds from rfl]
  by_cases h1 : r ∈ finds
  · rw [decide_eq_true h1, if_pos (show r ∈ finds ∨ r ∈ marks from .inl h1)]
    repeat(first|refine lrun_ ?_|(refine lo_boxA rfl rfl ?_;intro _ _ _)|(refine lo_box1 rfl rfl rfl ?_;intro _ _ _)|(refine lo_alloc rfl ?_;intro _ _ _))
    refine l_true rfl ?_
    repeat(first|refine lrun_ ?_|(refine lo_boxA rfl rfl ?_;intro _ _ _)|(refine lo_box1 rfl rfl rfl ?_;intro _ _ _)|(refine lo_alloc rfl ?_;intro _ _ _))
    refine lo_rn (fun _ => r_makeI rfl) rfl ?_
    repeat(first|refine lrun_ ?_|(refine lo_boxA rfl rfl ?_;intro _ _ _)|(refine lo_box1 rfl rfl rfl ?_;intro _ _ _)|(refine lo_alloc rfl ?_;intro _ _ _))
    exact l_ret1 rfl rfl fun w' hw => ⟨⟨hw.org, hw.mem g _ .hd⟩, rfl⟩
  rw [decide_eq_false h1]
  repeat(first|refine lrun_ ?_|(refine lo_boxA rfl rfl ?_;intro _ _ _)|(refine lo_box1 rfl rfl rfl ?_;intro _ _ _)|(refine lo_alloc rfl ?_;intro _ _ _))
  refine lo_call (n_call rfl) rfl (fun w' hw => one_calls (s := ⟨#[39, 96]⟩) (by decide)) ?_
  rw [show bytesL ⟨#[39, 96]⟩ = marks from rfl]
  by_cases h2 : r ∈ marks
  · rw [decide_eq_true h2, if_pos (show r ∈ finds ∨ r ∈ marks from .inr h2)]
    repeat(first|refine lrun_ ?_|(refine lo_boxA rfl rfl ?_;intro _ _ _)|(refine lo_box1 rfl rfl rfl ?_;intro _ _ _)|(refine lo_alloc rfl ?_;intro _ _ _))
    refine l_true rfl ?_
    repeat(first|refine lrun_ ?_|(refine lo_boxA rfl rfl ?_;intro _ _ _)|(refine lo_box1 rfl rfl rfl ?_;intro _ _ _)|(refine lo_alloc rfl ?_;intro _ _ _))
    refine lo_rn (fun _ => r_makeI rfl) rfl ?_
    repeat(first|refine lrun_ ?_|(refine lo_boxA rfl rfl ?_;intro _ _ _)|(refine lo_box1 rfl rfl rfl ?_;intro _ _ _)|(refine lo_alloc rfl ?_;intro _ _ _))
    exact l_ret1 rfl rfl fun w' hw => ⟨⟨hw.org, hw.mem g _ .hd⟩, rfl⟩
  rw [decide_eq_false h2, if_neg (show ¬ (r ∈ finds ∨ r ∈ marks) from fun h => h.elim h1 h2)]
  repeat(first|refine lrun_ ?_|(refine lo_boxA rfl rfl ?_;intro _ _ _)|(refine lo_box1 rfl rfl rfl ?_;intro _ _ _)|(refine lo_alloc rfl ?_;intro _ _ _))
  refine l_false rfl ?_
  repeat(first|refine lrun_ ?_|(refine lo_boxA rfl rfl ?_;intro _ _ _)|(refine lo_box1 rfl rfl rfl ?_;intro _ _ _)|(refine lo_alloc rfl ?_;intro _ _ _))
  by_cases h3 : r = 103
  · rw [if_pos h3]
    refine l_yes rfl h3 ?_
    repeat(first|refine lrun_ ?_|(refine lo_boxA rfl rfl ?_;intro _ _ _)|(refine lo_box1 rfl rfl rfl ?_;intro _ _ _)|(refine lo_alloc rfl ?_;intro _ _ _))
    refine lo_rn (fun _ => r_makeI rfl) rfl ?_
    repeat(first|refine lrun_ ?_|(refine lo_boxA rfl rfl ?_;intro _ _ _)|(refine lo_box1 rfl rfl rfl ?_;intro _ _ _)|(refine lo_alloc rfl ?_;intro _ _ _))
    exact l_ret1 rfl rfl fun w' hw => ⟨⟨hw.org, hw.mem g _ .hd⟩, rfl⟩
  rw [if_neg h3]
  refine l_no rfl h3 ?_
  repeat(first|refine lrun_ ?_|(refine lo_boxA rfl rfl ?_;intro _ _ _)|(refine lo_box1 rfl rfl rfl ?_;intro _ _ _)|(refine lo_alloc rfl ?_;intro _ _ _))
  refine lo_call (n_call rfl) rfl (fun w' hw => one_calls (s := ⟨#[104, 108, 106, 107, 43, 45, 95, 71, 48, 94, 36, 124, 119, 87, 98, 66, 101, 69, 37, 123, 125, 40, 41, 72, 77, 76, 59, 44, 110, 78]⟩) (by decide)) ?_
  rw [show bytesL ⟨#[104, 108, 106, 107, 43, 45, 95, 71, 48, 94, 36, 124, 119, 87, 98, 66, 101, 69, 37, 123, 125, 40, 41, 72, 77, 76, 59, 44, 110, 78]⟩ = motionsL from rfl]
  by_cases h4 : r ∈ motionsL
  · rw [decide_eq_true h4, if_pos h4]
    repeat(first|refine lrun_ ?_|(refine lo_boxA rfl rfl ?_;intro _ _ _)|(refine lo_box1 rfl rfl rfl ?_;intro _ _ _)|(refine lo_alloc rfl ?_;intro _ _ _))
    refine l_true rfl ?_
    repeat(first|refine lrun_ ?_|(refine lo_boxA rfl rfl ?_;intro _ _ _)|(refine lo_box1 rfl rfl rfl ?_;intro _ _ _)|(refine lo_alloc rfl ?_;intro _ _ _))
    refine lo_callG (by first|exact .hd|exact .tl .hd|exact .tl (.tl .hd)|exact .tl (.tl (.tl .hd))|exact .tl (.tl (.tl (.tl .hd)))|exact .tl (.tl (.tl (.tl (.tl .hd))))|exact .tl (.tl (.tl (.tl (.tl (.tl .hd)))))|exact .tl (.tl (.tl (.tl (.tl (.tl (.tl .hd))))))|exact .tl (.tl (.tl (.tl (.tl (.tl (.tl (.tl .hd)))))))) (n_call rfl) rfl (fun w' hw => ends_calls (hw.mem g _ .hd)) ?_
    repeat(first|refine lrun_ ?_|(refine lo_boxA rfl rfl ?_;intro _ _ _)|(refine lo_box1 rfl rfl rfl ?_;intro _ _ _)|(refine lo_alloc rfl ?_;intro _ _ _))
    exact l_ret1 rfl rfl fun w' hw => ⟨⟨hw.org, hw.mem g _ .hd⟩, rfl⟩
  · rw [decide_eq_false h4, if_neg h4]
    repeat(first|refine lrun_ ?_|(refine lo_boxA rfl rfl ?_;intro _ _ _)|(refine lo_box1 rfl rfl rfl ?_;intro _ _ _)|(refine lo_alloc rfl ?_;intro _ _ _))
    refine l_false rfl ?_
    refine l_go .skip ?_
    repeat(first|refine lrun_ ?_|(refine lo_boxA rfl rfl ?_;intro _ _ _)|(refine lo_box1 rfl rfl rfl ?_;intro _ _ _)|(refine lo_alloc rfl ?_;intro _ _ _))
    exact l_ret1 rfl rfl fun w' hw => ⟨⟨hw.org, hw.mem g _ .hd⟩, rfl⟩
end
end Go.Ink
