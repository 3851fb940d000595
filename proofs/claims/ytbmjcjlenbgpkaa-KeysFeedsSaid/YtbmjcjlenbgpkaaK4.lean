/-
  The parser: what each want takes.
-/
import Derived.Test.YtbmjcjlenbgpkaaK3
set_option linter.unusedVariables false
set_option linter.unusedSimpArgs false
namespace Go.Ink
open Go Go.Proofs Go.RowKit

def opsL : List Int := [100, 99, 121, 60, 62]
def turnsL : List Int := [126, 117, 85]
def objectsL : List Int := [119, 87, 112, 40, 41, 98, 91, 93, 123, 125, 66, 60, 62, 34, 39, 96]
def commandsL : List Int := [120, 88, 68, 67, 89, 115, 83, 74, 112, 80, 105, 73, 97, 65, 111, 79, 46, 117, 18, 118, 86, 22, 58, 47, 63, 82, 126, 15, 9, 5, 25, 4, 21, 12, 27]
def atOnceL : List Int := [126, 117, 85, 120, 68, 88, 115, 83, 67, 89, 74, 112]
def inVisL : List Int := [111, 79, 18, 118, 86, 22, 58, 47, 63, 15, 9, 5, 25, 4, 21, 12, 27]
/-- What a start takes, the count told. -/
def startC (vis : Bool) (c : Cmd) (r : Int) : Wa × Cmd :=
  if r = 34 then (.reg, c) else if r = 103 then (.big true, c) else
  if r ∈ opsL ∨ (vis = true ∧ r ∈ atOnceL) then ((if vis then .ended else .after), { c with op := r }) else
  if vis = true ∧ (r = 105 ∨ r = 97) then (.obj, { c with pre := r }) else
  if r = 114 ∧ vis = true then (.arg, { c with op := r }) else
  if r = 114 ∨ r = 109 then (.arg, { c with key := r }) else
  if r = 122 ∨ r = 23 then (.key, { c with pre := r }) else
  if (vis = false ∧ r ∈ commandsL) ∨ (vis = true ∧ r ∈ inVisL) then (.ended, { c with key := r }) else motionM c r
/-- What an operator's target takes, the count told. -/
def afterC (c : Cmd) (r : Int) : Wa × Cmd :=
  if r = c.op then (.ended, { c with line := true }) else if r = 105 ∨ r = 97 then (.obj, { c with pre := r }) else motionM c r
/-- What is taken: what is wanted then, the command, the count. -/
def takeM (n : Wa) (vis : Bool) (c : Cmd) (cnt r : Int) : Wa × Cmd × Int :=
  match n with
  | .start => if isDg r cnt then (.start, c, dgN r cnt) else ((startC vis (countedM c cnt) r).1, (startC vis (countedM c cnt) r).2, 0)
  | .after => if isDg r cnt then (.after, c, dgN r cnt) else ((afterC (countedM c cnt) r).1, (afterC (countedM c cnt) r).2, 0)
  | .reg => if r = 27 then (.none, c, cnt) else (.start, { c with reg := r }, cnt)
  | .big b => if r = 103 then (.ended, { c with pre := 103, key := r }, cnt) else if b = true ∧ r ∈ turnsL then ((if vis then .ended else .after), { c with op := r }, cnt) else (.none, c, cnt)
  | .obj => if r ∈ objectsL then (.ended, { c with key := r }, cnt) else (.none, c, cnt)
  | .arg => if r = 27 then (.none, c, cnt) else (.ended, { c with arg := r }, cnt)
  | .key => if r = 27 then (.none, c, cnt) else (.ended, { c with key := r }, cnt)
  | .ended => (.none, c, cnt)
  | .none => (.none, c, cnt)
section
variable {w : World} {g : Nat} {vh nv : Value} {c : Cmd} {cnt r : Int} {vis : Bool}
theorem take_start : takeM .start vis c cnt r = if isDg r cnt then (.start, c, dgN r cnt) else ((startC vis (countedM c cnt) r).1, (startC vis (countedM c cnt) r).2, 0) := rfl
theorem take_after : takeM .after vis c cnt r = if isDg r cnt then (.after, c, dgN r cnt) else ((afterC (countedM c cnt) r).1, (afterC (countedM c cnt) r).2, 0) := rfl
theorem take_reg : takeM .reg vis c cnt r = if r = 27 then (.none, c, cnt) else (.start, { c with reg := r }, cnt) := rfl
theorem take_big {bb : Bool} : takeM (.big bb) vis c cnt r = if r = 103 then (.ended, { c with pre := 103, key := r }, cnt) else if bb = true ∧ r ∈ turnsL then ((if vis then .ended else .after), { c with op := r }, cnt) else (.none, c, cnt) := rfl
theorem take_obj : takeM .obj vis c cnt r = if r ∈ objectsL then (.ended, { c with key := r }, cnt) else (.none, c, cnt) := rfl
theorem take_arg : takeM .arg vis c cnt r = if r = 27 then (.none, c, cnt) else (.ended, { c with arg := r }, cnt) := rfl
theorem take_key : takeM .key vis c cnt r = if r = 27 then (.none, c, cnt) else (.ended, { c with key := r }, cnt) := rfl
theorem take_ended : takeM .ended vis c cnt r = (.none, c, cnt) := rfl
set_option maxHeartbeats 8000000 in
theorem argW_calls (hg : w.heap[g]? = some (cb (pcs vh nv c cnt vis) 78)) :
    CallsR Try.prog 82 #[.agg #[], .pointer (some ⟨g, 0, none⟩), .int .i32 r] w (PrR g w (pcs vh nv (takeM .arg vis c cnt r).2.1 (takeM .arg vis c cnt r).2.2 vis) (waV (takeM .arg vis c cnt r).1)) := by
  rw [take_arg]
  refine l_enterM (args := [.agg #[], .pointer (some ⟨g, 0, none⟩), .int .i32 r]) (S := fun k => k = g) hg rfl Try.func82 rfl rfl ?_
  repeat(first|refine lrun_ ?_|(refine lo_boxA rfl rfl ?_;intro _ _ _)|(refine lo_box1 rfl rfl rfl ?_;intro _ _ _)|(refine lo_alloc rfl ?_;intro _ _ _))
  by_cases h1 : r = 27
  · rw [if_pos h1]
    refine l_yes rfl h1 ?_
    repeat(first|refine lrun_ ?_|(refine lo_boxA rfl rfl ?_;intro _ _ _)|(refine lo_box1 rfl rfl rfl ?_;intro _ _ _)|(refine lo_alloc rfl ?_;intro _ _ _))
    exact l_ret1 rfl rfl fun w' hw => ⟨⟨hw.org, hw.mem g _ (.tl .hd)⟩, rfl⟩
  rw [if_neg h1]
  refine l_no rfl h1 ?_
  refine l_go .skip ?_
  repeat(first|refine lrun_ ?_|(refine lo_boxA rfl rfl ?_;intro _ _ _)|(refine lo_box1 rfl rfl rfl ?_;intro _ _ _)|(refine lo_alloc rfl ?_;intro _ _ _))
  refine lo_rn (fun _ => r_makeI rfl) rfl ?_
  repeat(first|refine lrun_ ?_|(refine lo_boxA rfl rfl ?_;intro _ _ _)|(refine lo_box1 rfl rfl rfl ?_;intro _ _ _)|(refine lo_alloc rfl ?_;intro _ _ _))
  exact l_ret1 rfl rfl fun w' hw => ⟨⟨hw.org, hw.mem g _ (.tl .hd)⟩, rfl⟩
set_option maxHeartbeats 8000000 in
theorem keyW_calls (hg : w.heap[g]? = some (cb (pcs vh nv c cnt vis) 78)) :
    CallsR Try.prog 83 #[.agg #[], .pointer (some ⟨g, 0, none⟩), .int .i32 r] w (PrR g w (pcs vh nv (takeM .key vis c cnt r).2.1 (takeM .key vis c cnt r).2.2 vis) (waV (takeM .key vis c cnt r).1)) := by
  rw [take_key]
  refine l_enterM (args := [.agg #[], .pointer (some ⟨g, 0, none⟩), .int .i32 r]) (S := fun k => k = g) hg rfl Try.func83 rfl rfl ?_
  repeat(first|refine lrun_ ?_|(refine lo_boxA rfl rfl ?_;intro _ _ _)|(refine lo_box1 rfl rfl rfl ?_;intro _ _ _)|(refine lo_alloc rfl ?_;intro _ _ _))
  by_cases h1 : r = 27
  · rw [if_pos h1]
    refine l_yes rfl h1 ?_
    repeat(first|refine lrun_ ?_|(refine lo_boxA rfl rfl ?_;intro _ _ _)|(refine lo_box1 rfl rfl rfl ?_;intro _ _ _)|(refine lo_alloc rfl ?_;intro _ _ _))
    exact l_ret1 rfl rfl fun w' hw => ⟨⟨hw.org, hw.mem g _ (.tl .hd)⟩, rfl⟩
  rw [if_neg h1]
  refine l_no rfl h1 ?_
  refine l_go .skip ?_
  repeat(first|refine lrun_ ?_|(refine lo_boxA rfl rfl ?_;intro _ _ _)|(refine lo_box1 rfl rfl rfl ?_;intro _ _ _)|(refine lo_alloc rfl ?_;intro _ _ _))
  refine lo_callG (by first|exact .hd|exact .tl .hd|exact .tl (.tl .hd)|exact .tl (.tl (.tl .hd))|exact .tl (.tl (.tl (.tl .hd)))|exact .tl (.tl (.tl (.tl (.tl .hd))))|exact .tl (.tl (.tl (.tl (.tl (.tl .hd)))))|exact .tl (.tl (.tl (.tl (.tl (.tl (.tl .hd))))))|exact .tl (.tl (.tl (.tl (.tl (.tl (.tl (.tl .hd)))))))) (n_call rfl) rfl (fun w' hw => ends_calls (hw.mem g _ (.tl .hd))) ?_
  repeat(first|refine lrun_ ?_|(refine lo_boxA rfl rfl ?_;intro _ _ _)|(refine lo_box1 rfl rfl rfl ?_;intro _ _ _)|(refine lo_alloc rfl ?_;intro _ _ _))
  exact l_ret1 rfl rfl fun w' hw => ⟨⟨hw.org, hw.mem g _ (.tl .hd)⟩, rfl⟩
set_option maxHeartbeats 8000000 in
theorem regW_calls (hg : w.heap[g]? = some (cb (pcs vh nv c cnt vis) 78)) :
    CallsR Try.prog 78 #[.agg #[], .pointer (some ⟨g, 0, none⟩), .int .i32 r] w (PrR g w (pcs vh nv (takeM .reg vis c cnt r).2.1 (takeM .reg vis c cnt r).2.2 vis) (waV (takeM .reg vis c cnt r).1)) := by
  rw [take_reg]
  refine l_enterM (args := [.agg #[], .pointer (some ⟨g, 0, none⟩), .int .i32 r]) (S := fun k => k = g) hg rfl Try.func78 rfl rfl ?_
  repeat(first|refine lrun_ ?_|(refine lo_boxA rfl rfl ?_;intro _ _ _)|(refine lo_box1 rfl rfl rfl ?_;intro _ _ _)|(refine lo_alloc rfl ?_;intro _ _ _))
  by_cases h1 : r = 27
  · rw [if_pos h1]
    refine l_yes rfl h1 ?_
    repeat(first|refine lrun_ ?_|(refine lo_boxA rfl rfl ?_;intro _ _ _)|(refine lo_box1 rfl rfl rfl ?_;intro _ _ _)|(refine lo_alloc rfl ?_;intro _ _ _))
    exact l_ret1 rfl rfl fun w' hw => ⟨⟨hw.org, hw.mem g _ (.tl .hd)⟩, rfl⟩
  rw [if_neg h1]
  refine l_no rfl h1 ?_
  refine l_go .skip ?_
  repeat(first|refine lrun_ ?_|(refine lo_boxA rfl rfl ?_;intro _ _ _)|(refine lo_box1 rfl rfl rfl ?_;intro _ _ _)|(refine lo_alloc rfl ?_;intro _ _ _))
  refine lo_rn (fun _ => r_makeI rfl) rfl ?_
  repeat(first|refine lrun_ ?_|(refine lo_boxA rfl rfl ?_;intro _ _ _)|(refine lo_box1 rfl rfl rfl ?_;intro _ _ _)|(refine lo_alloc rfl ?_;intro _ _ _))
  exact l_ret1 rfl rfl fun w' hw => ⟨⟨hw.org, hw.mem g _ (.tl .hd)⟩, rfl⟩
set_option maxHeartbeats 8000000 in
theorem objW_calls (hg : w.heap[g]? = some (cb (pcs vh nv c cnt vis) 78)) :
    CallsR Try.prog 81 #[.agg #[], .pointer (some ⟨g, 0, none⟩), .int .i32 r] w (PrR g w (pcs vh nv (takeM .obj vis c cnt r).2.1 (takeM .obj vis c cnt r).2.2 vis) (waV (takeM .obj vis c cnt r).1)) := by
  rw [take_obj]
  refine l_enterM (args := [.agg #[], .pointer (some ⟨g, 0, none⟩), .int .i32 r]) (S := fun k => k = g) hg rfl Try.func81 rfl rfl ?_
  repeat(first|refine lrun_ ?_|(refine lo_boxA rfl rfl ?_;intro _ _ _)|(refine lo_box1 rfl rfl rfl ?_;intro _ _ _)|(refine lo_alloc rfl ?_;intro _ _ _))
  refine lo_call (n_call rfl) rfl (fun w' hw => one_calls (s := ⟨#[119, 87, 112, 40, 41, 98, 91, 93, 123, 125, 66, 60, 62, 34, 39, 96]⟩) (by decide)) ?_
  rw [show bytesL ⟨#[119, 87, 112, 40, 41, 98, 91, 93, 123, 125, 66, 60, 62, 34, 39, 96]⟩ = objectsL from rfl]
  by_cases h1 : r ∈ objectsL
  · rw [decide_eq_true h1, if_pos h1]
    repeat(first|refine lrun_ ?_|(refine lo_boxA rfl rfl ?_;intro _ _ _)|(refine lo_box1 rfl rfl rfl ?_;intro _ _ _)|(refine lo_alloc rfl ?_;intro _ _ _))
    refine l_false rfl ?_
    refine l_go .skip ?_
    repeat(first|refine lrun_ ?_|(refine lo_boxA rfl rfl ?_;intro _ _ _)|(refine lo_box1 rfl rfl rfl ?_;intro _ _ _)|(refine lo_alloc rfl ?_;intro _ _ _))
    refine lo_callG (by first|exact .hd|exact .tl .hd|exact .tl (.tl .hd)|exact .tl (.tl (.tl .hd))|exact .tl (.tl (.tl (.tl .hd)))|exact .tl (.tl (.tl (.tl (.tl .hd))))|exact .tl (.tl (.tl (.tl (.tl (.tl .hd)))))|exact .tl (.tl (.tl (.tl (.tl (.tl (.tl .hd))))))|exact .tl (.tl (.tl (.tl (.tl (.tl (.tl (.tl .hd)))))))) (n_call rfl) rfl (fun w' hw => ends_calls (hw.mem g _ (.tl .hd))) ?_
    repeat(first|refine lrun_ ?_|(refine lo_boxA rfl rfl ?_;intro _ _ _)|(refine lo_box1 rfl rfl rfl ?_;intro _ _ _)|(refine lo_alloc rfl ?_;intro _ _ _))
    exact l_ret1 rfl rfl fun w' hw => ⟨⟨hw.org, hw.mem g _ (.tl .hd)⟩, rfl⟩
  · rw [decide_eq_false h1, if_neg h1]
    repeat(first|refine lrun_ ?_|(refine lo_boxA rfl rfl ?_;intro _ _ _)|(refine lo_box1 rfl rfl rfl ?_;intro _ _ _)|(refine lo_alloc rfl ?_;intro _ _ _))
    refine l_true rfl ?_
    repeat(first|refine lrun_ ?_|(refine lo_boxA rfl rfl ?_;intro _ _ _)|(refine lo_box1 rfl rfl rfl ?_;intro _ _ _)|(refine lo_alloc rfl ?_;intro _ _ _))
    exact l_ret1 rfl rfl fun w' hw => ⟨⟨hw.org, hw.mem g _ (.tl .hd)⟩, rfl⟩
set_option maxHeartbeats 8000000 in
theorem endedW_calls (hg : w.heap[g]? = some (cb (pcs vh nv c cnt vis) 78)) :
    CallsR Try.prog 71 #[.agg #[], .pointer (some ⟨g, 0, none⟩), .int .i32 r] w (PrR g w (pcs vh nv (takeM .ended vis c cnt r).2.1 (takeM .ended vis c cnt r).2.2 vis) (waV (takeM .ended vis c cnt r).1)) := by
  rw [take_ended]
  refine l_enterM (args := [.agg #[], .pointer (some ⟨g, 0, none⟩), .int .i32 r]) (S := fun k => k = g) hg rfl Try.func71 rfl rfl ?_
  repeat(first|refine lrun_ ?_|(refine lo_boxA rfl rfl ?_;intro _ _ _)|(refine lo_box1 rfl rfl rfl ?_;intro _ _ _)|(refine lo_alloc rfl ?_;intro _ _ _))
  exact l_ret1 rfl rfl fun w' hw => ⟨⟨hw.org, hw.mem g _ (.tl .hd)⟩, rfl⟩
set_option maxHeartbeats 8000000 in
theorem bigW_calls {bb : Bool} (hg : w.heap[g]? = some (cb (pcs vh nv c cnt vis) 78)) :
    CallsR Try.prog 79 #[.agg #[.bool bb], .pointer (some ⟨g, 0, none⟩), .int .i32 r] w (PrR g w (pcs vh nv (takeM (.big bb) vis c cnt r).2.1 (takeM (.big bb) vis c cnt r).2.2 vis) (waV (takeM (.big bb) vis c cnt r).1)) := by
  rw [take_big]
  refine l_enterM (args := [.agg #[.bool bb], .pointer (some ⟨g, 0, none⟩), .int .i32 r]) (S := fun k => k = g) hg rfl Try.func79 rfl rfl ?_
  repeat(first|refine lrun_ ?_|(refine lo_boxA rfl rfl ?_;intro _ _ _)|(refine lo_box1 rfl rfl rfl ?_;intro _ _ _)|(refine lo_alloc rfl ?_;intro _ _ _))
  by_cases h1 : r = 103
  · rw [if_pos h1]
    refine l_yes rfl h1 ?_
    repeat(first|refine lrun_ ?_|(refine lo_boxA rfl rfl ?_;intro _ _ _)|(refine lo_box1 rfl rfl rfl ?_;intro _ _ _)|(refine lo_alloc rfl ?_;intro _ _ _))
    refine lo_callG (by first|exact .hd|exact .tl .hd|exact .tl (.tl .hd)|exact .tl (.tl (.tl .hd))|exact .tl (.tl (.tl (.tl .hd)))|exact .tl (.tl (.tl (.tl (.tl .hd))))|exact .tl (.tl (.tl (.tl (.tl (.tl .hd)))))|exact .tl (.tl (.tl (.tl (.tl (.tl (.tl .hd))))))|exact .tl (.tl (.tl (.tl (.tl (.tl (.tl (.tl .hd)))))))) (n_call rfl) rfl (fun w' hw => ends_calls (c := { c with pre := 103 }) (hw.mem g _ (.tl .hd))) ?_
    repeat(first|refine lrun_ ?_|(refine lo_boxA rfl rfl ?_;intro _ _ _)|(refine lo_box1 rfl rfl rfl ?_;intro _ _ _)|(refine lo_alloc rfl ?_;intro _ _ _))
    exact l_ret1 rfl rfl fun w' hw => ⟨⟨hw.org, hw.mem g _ (.tl .hd)⟩, rfl⟩
  rw [if_neg h1]
  refine l_no rfl h1 ?_
  repeat(first|refine lrun_ ?_|(refine lo_boxA rfl rfl ?_;intro _ _ _)|(refine lo_box1 rfl rfl rfl ?_;intro _ _ _)|(refine lo_alloc rfl ?_;intro _ _ _))
  cases bb
  case false =>
    rw [if_neg (show ¬ (false = true ∧ r ∈ turnsL) from fun h => by cases h.1)]
    repeat(first|refine lrun_ ?_|(refine lo_boxA rfl rfl ?_;intro _ _ _)|(refine lo_box1 rfl rfl rfl ?_;intro _ _ _)|(refine lo_alloc rfl ?_;intro _ _ _))
    refine l_true rfl ?_
    repeat(first|refine lrun_ ?_|(refine lo_boxA rfl rfl ?_;intro _ _ _)|(refine lo_box1 rfl rfl rfl ?_;intro _ _ _)|(refine lo_alloc rfl ?_;intro _ _ _))
    exact l_ret1 rfl rfl fun w' hw => ⟨⟨hw.org, hw.mem g _ (.tl .hd)⟩, rfl⟩
  repeat(first|refine lrun_ ?_|(refine lo_boxA rfl rfl ?_;intro _ _ _)|(refine lo_box1 rfl rfl rfl ?_;intro _ _ _)|(refine lo_alloc rfl ?_;intro _ _ _))
  refine lo_call (n_call rfl) rfl (fun w' hw => one_calls (s := ⟨#[126, 117, 85]⟩) (by decide)) ?_
  rw [show bytesL ⟨#[126, 117, 85]⟩ = turnsL from rfl]
  by_cases h2 : r ∈ turnsL
  case neg =>
    rw [decide_eq_false h2, if_neg (show ¬ (true = true ∧ r ∈ turnsL) from fun h => h2 h.2)]
    repeat(first|refine lrun_ ?_|(refine lo_boxA rfl rfl ?_;intro _ _ _)|(refine lo_box1 rfl rfl rfl ?_;intro _ _ _)|(refine lo_alloc rfl ?_;intro _ _ _))
    refine l_true rfl ?_
    repeat(first|refine lrun_ ?_|(refine lo_boxA rfl rfl ?_;intro _ _ _)|(refine lo_box1 rfl rfl rfl ?_;intro _ _ _)|(refine lo_alloc rfl ?_;intro _ _ _))
    exact l_ret1 rfl rfl fun w' hw => ⟨⟨hw.org, hw.mem g _ (.tl .hd)⟩, rfl⟩
  rw [decide_eq_true h2, if_pos (show true = true ∧ r ∈ turnsL from ⟨rfl, h2⟩)]
  repeat(first|refine lrun_ ?_|(refine lo_boxA rfl rfl ?_;intro _ _ _)|(refine lo_box1 rfl rfl rfl ?_;intro _ _ _)|(refine lo_alloc rfl ?_;intro _ _ _))
  refine l_false rfl ?_
  refine l_go .skip ?_
  repeat(first|refine lrun_ ?_|(refine lo_boxA rfl rfl ?_;intro _ _ _)|(refine lo_box1 rfl rfl rfl ?_;intro _ _ _)|(refine lo_alloc rfl ?_;intro _ _ _))
  cases vis
  · refine l_false rfl ?_
    refine l_go .skip ?_
    repeat(first|refine lrun_ ?_|(refine lo_boxA rfl rfl ?_;intro _ _ _)|(refine lo_box1 rfl rfl rfl ?_;intro _ _ _)|(refine lo_alloc rfl ?_;intro _ _ _))
    refine lo_rn (fun _ => r_makeI rfl) rfl ?_
    repeat(first|refine lrun_ ?_|(refine lo_boxA rfl rfl ?_;intro _ _ _)|(refine lo_box1 rfl rfl rfl ?_;intro _ _ _)|(refine lo_alloc rfl ?_;intro _ _ _))
    exact l_ret1 rfl rfl fun w' hw => ⟨⟨hw.org, hw.mem g _ (.tl .hd)⟩, rfl⟩
  · refine l_true rfl ?_
    repeat(first|refine lrun_ ?_|(refine lo_boxA rfl rfl ?_;intro _ _ _)|(refine lo_box1 rfl rfl rfl ?_;intro _ _ _)|(refine lo_alloc rfl ?_;intro _ _ _))
    refine lo_rn (fun _ => r_makeI rfl) rfl ?_
    repeat(first|refine lrun_ ?_|(refine lo_boxA rfl rfl ?_;intro _ _ _)|(refine lo_box1 rfl rfl rfl ?_;intro _ _ _)|(refine lo_alloc rfl ?_;intro _ _ _))
    exact l_ret1 rfl rfl fun w' hw => ⟨⟨hw.org, hw.mem g _ (.tl .hd)⟩, rfl⟩
set_option maxHeartbeats 8000000 in
theorem afterW_calls (hc : 0 ≤ cnt ∧ cnt ≤ 2147483647) (hcc : 0 ≤ c.count ∧ c.count ≤ 2147483647) (hr : -2147483648 ≤ r ∧ r ≤ 2147483647) (hg : w.heap[g]? = some (cb (pcs vh nv c cnt vis) 78)) :
    CallsR Try.prog 80 #[.agg #[], .pointer (some ⟨g, 0, none⟩), .int .i32 r] w (PrR g w (pcs vh nv (takeM .after vis c cnt r).2.1 (takeM .after vis c cnt r).2.2 vis) (waV (takeM .after vis c cnt r).1)) := by
  rw [take_after]
  refine l_enterM (args := [.agg #[], .pointer (some ⟨g, 0, none⟩), .int .i32 r]) (S := fun k => k = g) hg rfl Try.func80 rfl rfl ?_
  repeat(first|refine lrun_ ?_|(refine lo_boxA rfl rfl ?_;intro _ _ _)|(refine lo_box1 rfl rfl rfl ?_;intro _ _ _)|(refine lo_alloc rfl ?_;intro _ _ _))
  refine lo_callG (by first|exact .hd|exact .tl .hd|exact .tl (.tl .hd)|exact .tl (.tl (.tl .hd))|exact .tl (.tl (.tl (.tl .hd)))|exact .tl (.tl (.tl (.tl (.tl .hd))))|exact .tl (.tl (.tl (.tl (.tl (.tl .hd)))))|exact .tl (.tl (.tl (.tl (.tl (.tl (.tl .hd))))))|exact .tl (.tl (.tl (.tl (.tl (.tl (.tl (.tl .hd)))))))) (n_call rfl) rfl (fun w' hw => digit_calls (hw.mem g _ (.tl .hd)) hc hr) ?_
  cases hd : isDg r cnt
  case true =>
    rw [if_pos rfl]
    repeat(first|refine lrun_ ?_|(refine lo_boxA rfl rfl ?_;intro _ _ _)|(refine lo_box1 rfl rfl rfl ?_;intro _ _ _)|(refine lo_alloc rfl ?_;intro _ _ _))
    refine l_true rfl ?_
    repeat(first|refine lrun_ ?_|(refine lo_boxA rfl rfl ?_;intro _ _ _)|(refine lo_box1 rfl rfl rfl ?_;intro _ _ _)|(refine lo_alloc rfl ?_;intro _ _ _))
    refine lo_rn (fun _ => r_makeI rfl) rfl ?_
    repeat(first|refine lrun_ ?_|(refine lo_boxA rfl rfl ?_;intro _ _ _)|(refine lo_box1 rfl rfl rfl ?_;intro _ _ _)|(refine lo_alloc rfl ?_;intro _ _ _))
    exact l_ret1 rfl rfl fun w' hw => ⟨⟨hw.org, hw.mem g _ (.tl .hd)⟩, rfl⟩
  have hdn : dgN r cnt = cnt := by unfold dgN; rw [hd]; rfl
  rw [if_neg (by decide), hdn]
  repeat(first|refine lrun_ ?_|(refine lo_boxA rfl rfl ?_;intro _ _ _)|(refine lo_box1 rfl rfl rfl ?_;intro _ _ _)|(refine lo_alloc rfl ?_;intro _ _ _))
  refine l_false rfl ?_
  refine l_go .skip ?_
  repeat(first|refine lrun_ ?_|(refine lo_boxA rfl rfl ?_;intro _ _ _)|(refine lo_box1 rfl rfl rfl ?_;intro _ _ _)|(refine lo_alloc rfl ?_;intro _ _ _))
  refine lo_callG (by first|exact .hd|exact .tl .hd|exact .tl (.tl .hd)|exact .tl (.tl (.tl .hd))|exact .tl (.tl (.tl (.tl .hd)))|exact .tl (.tl (.tl (.tl (.tl .hd))))|exact .tl (.tl (.tl (.tl (.tl (.tl .hd)))))|exact .tl (.tl (.tl (.tl (.tl (.tl (.tl .hd))))))|exact .tl (.tl (.tl (.tl (.tl (.tl (.tl (.tl .hd)))))))) (n_call rfl) rfl (fun w' hw => counted_calls (hw.mem g _ (.tl .hd)) hc hcc) ?_
  generalize countedM c cnt = c
  repeat(first|refine lrun_ ?_|(refine lo_boxA rfl rfl ?_;intro _ _ _)|(refine lo_box1 rfl rfl rfl ?_;intro _ _ _)|(refine lo_alloc rfl ?_;intro _ _ _))
  unfold afterC
  by_cases h1 : r = c.op
  · rw [if_pos h1]
    refine l_yes rfl h1 ?_
    repeat(first|refine lrun_ ?_|(refine lo_boxA rfl rfl ?_;intro _ _ _)|(refine lo_box1 rfl rfl rfl ?_;intro _ _ _)|(refine lo_alloc rfl ?_;intro _ _ _))
    refine lo_rn (fun _ => r_makeI rfl) rfl ?_
    repeat(first|refine lrun_ ?_|(refine lo_boxA rfl rfl ?_;intro _ _ _)|(refine lo_box1 rfl rfl rfl ?_;intro _ _ _)|(refine lo_alloc rfl ?_;intro _ _ _))
    exact l_ret1 rfl rfl fun w' hw => ⟨⟨hw.org, hw.mem g _ (.tl .hd)⟩, rfl⟩
  rw [if_neg h1]
  refine l_no rfl h1 ?_
  repeat(first|refine lrun_ ?_|(refine lo_boxA rfl rfl ?_;intro _ _ _)|(refine lo_box1 rfl rfl rfl ?_;intro _ _ _)|(refine lo_alloc rfl ?_;intro _ _ _))
  by_cases h2 : r = 105
  · rw [if_pos (show r = 105 ∨ r = 97 from .inl h2)]
    repeat(first|refine lrun_ ?_|(refine lo_boxA rfl rfl ?_;intro _ _ _)|(refine lo_box1 rfl rfl rfl ?_;intro _ _ _)|(refine lo_alloc rfl ?_;intro _ _ _))
    refine l_true rfl ?_
    repeat(first|refine lrun_ ?_|(refine lo_boxA rfl rfl ?_;intro _ _ _)|(refine lo_box1 rfl rfl rfl ?_;intro _ _ _)|(refine lo_alloc rfl ?_;intro _ _ _))
    refine lo_rn (fun _ => r_makeI rfl) rfl ?_
    repeat(first|refine lrun_ ?_|(refine lo_boxA rfl rfl ?_;intro _ _ _)|(refine lo_box1 rfl rfl rfl ?_;intro _ _ _)|(refine lo_alloc rfl ?_;intro _ _ _))
    exact l_ret1 rfl rfl fun w' hw => ⟨⟨hw.org, hw.mem g _ (.tl .hd)⟩, rfl⟩
  by_cases h3 : r = 97
  · rw [if_pos (show r = 105 ∨ r = 97 from .inr h3)]
    repeat(first|refine lrun_ ?_|(refine lo_boxA rfl rfl ?_;intro _ _ _)|(refine lo_box1 rfl rfl rfl ?_;intro _ _ _)|(refine lo_alloc rfl ?_;intro _ _ _))
    refine l_yes rfl h3 ?_
    repeat(first|refine lrun_ ?_|(refine lo_boxA rfl rfl ?_;intro _ _ _)|(refine lo_box1 rfl rfl rfl ?_;intro _ _ _)|(refine lo_alloc rfl ?_;intro _ _ _))
    refine lo_rn (fun _ => r_makeI rfl) rfl ?_
    repeat(first|refine lrun_ ?_|(refine lo_boxA rfl rfl ?_;intro _ _ _)|(refine lo_box1 rfl rfl rfl ?_;intro _ _ _)|(refine lo_alloc rfl ?_;intro _ _ _))
    exact l_ret1 rfl rfl fun w' hw => ⟨⟨hw.org, hw.mem g _ (.tl .hd)⟩, rfl⟩
  rw [if_neg (show ¬ (r = 105 ∨ r = 97) from fun h => h.elim h2 h3)]
  repeat(first|refine lrun_ ?_|(refine lo_boxA rfl rfl ?_;intro _ _ _)|(refine lo_box1 rfl rfl rfl ?_;intro _ _ _)|(refine lo_alloc rfl ?_;intro _ _ _))
  refine l_no rfl h3 ?_
  refine l_go .skip ?_
  repeat(first|refine lrun_ ?_|(refine lo_boxA rfl rfl ?_;intro _ _ _)|(refine lo_box1 rfl rfl rfl ?_;intro _ _ _)|(refine lo_alloc rfl ?_;intro _ _ _))
  refine lo_callG (by first|exact .hd|exact .tl .hd|exact .tl (.tl .hd)|exact .tl (.tl (.tl .hd))|exact .tl (.tl (.tl (.tl .hd)))|exact .tl (.tl (.tl (.tl (.tl .hd))))|exact .tl (.tl (.tl (.tl (.tl (.tl .hd)))))|exact .tl (.tl (.tl (.tl (.tl (.tl (.tl .hd))))))|exact .tl (.tl (.tl (.tl (.tl (.tl (.tl (.tl .hd)))))))) (n_call rfl) rfl (fun w' hw => motion_calls (hw.mem g _ (.tl .hd))) ?_
  repeat(first|refine lrun_ ?_|(refine lo_boxA rfl rfl ?_;intro _ _ _)|(refine lo_box1 rfl rfl rfl ?_;intro _ _ _)|(refine lo_alloc rfl ?_;intro _ _ _))
  exact l_ret1 rfl rfl fun w' hw => ⟨⟨hw.org, hw.mem g _ (.tl .hd)⟩, rfl⟩
set_option maxHeartbeats 8000000 in
theorem startW_calls (hc : 0 ≤ cnt ∧ cnt ≤ 2147483647) (hcc : 0 ≤ c.count ∧ c.count ≤ 2147483647) (hr : -2147483648 ≤ r ∧ r ≤ 2147483647) (hg : w.heap[g]? = some (cb (pcs vh nv c cnt vis) 78)) :
    CallsR Try.prog 72 #[.agg #[], .pointer (some ⟨g, 0, none⟩), .int .i32 r] w (PrR g w (pcs vh nv (takeM .start vis c cnt r).2.1 (takeM .start vis c cnt r).2.2 vis) (waV (takeM .start vis c cnt r).1)) := by
  rw [take_start]
  refine l_enterM (args := [.agg #[], .pointer (some ⟨g, 0, none⟩), .int .i32 r]) (S := fun k => k = g) hg rfl Try.func72 rfl rfl ?_
  repeat(first|refine lrun_ ?_|(refine lo_boxA rfl rfl ?_;intro _ _ _)|(refine lo_box1 rfl rfl rfl ?_;intro _ _ _)|(refine lo_alloc rfl ?_;intro _ _ _))
  refine lo_callG (by first|exact .hd|exact .tl .hd|exact .tl (.tl .hd)|exact .tl (.tl (.tl .hd))|exact .tl (.tl (.tl (.tl .hd)))|exact .tl (.tl (.tl (.tl (.tl .hd))))|exact .tl (.tl (.tl (.tl (.tl (.tl .hd)))))|exact .tl (.tl (.tl (.tl (.tl (.tl (.tl .hd))))))|exact .tl (.tl (.tl (.tl (.tl (.tl (.tl (.tl .hd)))))))) (n_call rfl) rfl (fun w' hw => digit_calls (hw.mem g _ (.tl .hd)) hc hr) ?_
  cases hd : isDg r cnt
  case true =>
    rw [if_pos rfl]
    repeat(first|refine lrun_ ?_|(refine lo_boxA rfl rfl ?_;intro _ _ _)|(refine lo_box1 rfl rfl rfl ?_;intro _ _ _)|(refine lo_alloc rfl ?_;intro _ _ _))
    refine l_true rfl ?_
    repeat(first|refine lrun_ ?_|(refine lo_boxA rfl rfl ?_;intro _ _ _)|(refine lo_box1 rfl rfl rfl ?_;intro _ _ _)|(refine lo_alloc rfl ?_;intro _ _ _))
    refine lo_rn (fun _ => r_makeI rfl) rfl ?_
    repeat(first|refine lrun_ ?_|(refine lo_boxA rfl rfl ?_;intro _ _ _)|(refine lo_box1 rfl rfl rfl ?_;intro _ _ _)|(refine lo_alloc rfl ?_;intro _ _ _))
    exact l_ret1 rfl rfl fun w' hw => ⟨⟨hw.org, hw.mem g _ (.tl .hd)⟩, rfl⟩
  have hdn : dgN r cnt = cnt := by unfold dgN; rw [hd]; rfl
  rw [if_neg (by decide), hdn]
  repeat(first|refine lrun_ ?_|(refine lo_boxA rfl rfl ?_;intro _ _ _)|(refine lo_box1 rfl rfl rfl ?_;intro _ _ _)|(refine lo_alloc rfl ?_;intro _ _ _))
  refine l_false rfl ?_
  refine l_go .skip ?_
  repeat(first|refine lrun_ ?_|(refine lo_boxA rfl rfl ?_;intro _ _ _)|(refine lo_box1 rfl rfl rfl ?_;intro _ _ _)|(refine lo_alloc rfl ?_;intro _ _ _))
  refine lo_callG (by first|exact .hd|exact .tl .hd|exact .tl (.tl .hd)|exact .tl (.tl (.tl .hd))|exact .tl (.tl (.tl (.tl .hd)))|exact .tl (.tl (.tl (.tl (.tl .hd))))|exact .tl (.tl (.tl (.tl (.tl (.tl .hd)))))|exact .tl (.tl (.tl (.tl (.tl (.tl (.tl .hd))))))|exact .tl (.tl (.tl (.tl (.tl (.tl (.tl (.tl .hd)))))))) (n_call rfl) rfl (fun w' hw => counted_calls (hw.mem g _ (.tl .hd)) hc hcc) ?_
  generalize countedM c cnt = c
  repeat(first|refine lrun_ ?_|(refine lo_boxA rfl rfl ?_;intro _ _ _)|(refine lo_box1 rfl rfl rfl ?_;intro _ _ _)|(refine lo_alloc rfl ?_;intro _ _ _))
  unfold startC
  by_cases h1 : r = 34
  · rw [if_pos h1]
    refine l_yes rfl h1 ?_
    repeat(first|refine lrun_ ?_|(refine lo_boxA rfl rfl ?_;intro _ _ _)|(refine lo_box1 rfl rfl rfl ?_;intro _ _ _)|(refine lo_alloc rfl ?_;intro _ _ _))
    refine lo_rn (fun _ => r_makeI rfl) rfl ?_
    repeat(first|refine lrun_ ?_|(refine lo_boxA rfl rfl ?_;intro _ _ _)|(refine lo_box1 rfl rfl rfl ?_;intro _ _ _)|(refine lo_alloc rfl ?_;intro _ _ _))
    exact l_ret1 rfl rfl fun w' hw => ⟨⟨hw.org, hw.mem g _ (.tl .hd)⟩, rfl⟩
  rw [if_neg h1]
  refine l_no rfl h1 ?_
  repeat(first|refine lrun_ ?_|(refine lo_boxA rfl rfl ?_;intro _ _ _)|(refine lo_box1 rfl rfl rfl ?_;intro _ _ _)|(refine lo_alloc rfl ?_;intro _ _ _))
  by_cases h2 : r = 103
  · rw [if_pos h2]
    refine l_yes rfl h2 ?_
    repeat(first|refine lrun_ ?_|(refine lo_boxA rfl rfl ?_;intro _ _ _)|(refine lo_box1 rfl rfl rfl ?_;intro _ _ _)|(refine lo_alloc rfl ?_;intro _ _ _))
    refine lo_rn (fun _ => r_makeI rfl) rfl ?_
    repeat(first|refine lrun_ ?_|(refine lo_boxA rfl rfl ?_;intro _ _ _)|(refine lo_box1 rfl rfl rfl ?_;intro _ _ _)|(refine lo_alloc rfl ?_;intro _ _ _))
    exact l_ret1 rfl rfl fun w' hw => ⟨⟨hw.org, hw.mem g _ (.tl .hd)⟩, rfl⟩
  rw [if_neg h2]
  refine l_no rfl h2 ?_
  repeat(first|refine lrun_ ?_|(refine lo_boxA rfl rfl ?_;intro _ _ _)|(refine lo_box1 rfl rfl rfl ?_;intro _ _ _)|(refine lo_alloc rfl ?_;intro _ _ _))
  refine lo_call (n_call rfl) rfl (fun w' hw => one_calls (s := ⟨#[100, 99, 121, 60, 62]⟩) (by decide)) ?_
  rw [show bytesL ⟨#[100, 99, 121, 60, 62]⟩ = opsL from rfl]
  by_cases h3 : r ∈ opsL
  · rw [decide_eq_true h3, if_pos (show r ∈ opsL ∨ (vis = true ∧ r ∈ atOnceL) from .inl h3)]
    repeat(first|refine lrun_ ?_|(refine lo_boxA rfl rfl ?_;intro _ _ _)|(refine lo_box1 rfl rfl rfl ?_;intro _ _ _)|(refine lo_alloc rfl ?_;intro _ _ _))
    refine l_true rfl ?_
    repeat(first|refine lrun_ ?_|(refine lo_boxA rfl rfl ?_;intro _ _ _)|(refine lo_box1 rfl rfl rfl ?_;intro _ _ _)|(refine lo_alloc rfl ?_;intro _ _ _))
    cases vis
    · refine l_false rfl ?_
      refine l_go .skip ?_
      repeat(first|refine lrun_ ?_|(refine lo_boxA rfl rfl ?_;intro _ _ _)|(refine lo_box1 rfl rfl rfl ?_;intro _ _ _)|(refine lo_alloc rfl ?_;intro _ _ _))
      refine lo_rn (fun _ => r_makeI rfl) rfl ?_
      repeat(first|refine lrun_ ?_|(refine lo_boxA rfl rfl ?_;intro _ _ _)|(refine lo_box1 rfl rfl rfl ?_;intro _ _ _)|(refine lo_alloc rfl ?_;intro _ _ _))
      exact l_ret1 rfl rfl fun w' hw => ⟨⟨hw.org, hw.mem g _ (.tl .hd)⟩, rfl⟩
    · refine l_true rfl ?_
      repeat(first|refine lrun_ ?_|(refine lo_boxA rfl rfl ?_;intro _ _ _)|(refine lo_box1 rfl rfl rfl ?_;intro _ _ _)|(refine lo_alloc rfl ?_;intro _ _ _))
      refine lo_rn (fun _ => r_makeI rfl) rfl ?_
      repeat(first|refine lrun_ ?_|(refine lo_boxA rfl rfl ?_;intro _ _ _)|(refine lo_box1 rfl rfl rfl ?_;intro _ _ _)|(refine lo_alloc rfl ?_;intro _ _ _))
      exact l_ret1 rfl rfl fun w' hw => ⟨⟨hw.org, hw.mem g _ (.tl .hd)⟩, rfl⟩
  rw [decide_eq_false h3]
  repeat(first|refine lrun_ ?_|(refine lo_boxA rfl rfl ?_;intro _ _ _)|(refine lo_box1 rfl rfl rfl ?_;intro _ _ _)|(refine lo_alloc rfl ?_;intro _ _ _))
  cases vis
  case true =>
    repeat(first|refine lrun_ ?_|(refine lo_boxA rfl rfl ?_;intro _ _ _)|(refine lo_box1 rfl rfl rfl ?_;intro _ _ _)|(refine lo_alloc rfl ?_;intro _ _ _))
    refine lo_call (n_call rfl) rfl (fun w' hw => one_calls (s := ⟨#[126, 117, 85, 120, 68, 88, 115, 83, 67, 89, 74, 112]⟩) (by decide)) ?_
    rw [show bytesL ⟨#[126, 117, 85, 120, 68, 88, 115, 83, 67, 89, 74, 112]⟩ = atOnceL from rfl]
    by_cases h4 : r ∈ atOnceL
    · rw [decide_eq_true h4, if_pos (show r ∈ opsL ∨ (true = true ∧ r ∈ atOnceL) from .inr ⟨rfl, h4⟩)]
      repeat(first|refine lrun_ ?_|(refine lo_boxA rfl rfl ?_;intro _ _ _)|(refine lo_box1 rfl rfl rfl ?_;intro _ _ _)|(refine lo_alloc rfl ?_;intro _ _ _))
      refine l_true rfl ?_
      repeat(first|refine lrun_ ?_|(refine lo_boxA rfl rfl ?_;intro _ _ _)|(refine lo_box1 rfl rfl rfl ?_;intro _ _ _)|(refine lo_alloc rfl ?_;intro _ _ _))
      refine l_true rfl ?_
      repeat(first|refine lrun_ ?_|(refine lo_boxA rfl rfl ?_;intro _ _ _)|(refine lo_box1 rfl rfl rfl ?_;intro _ _ _)|(refine lo_alloc rfl ?_;intro _ _ _))
      refine lo_rn (fun _ => r_makeI rfl) rfl ?_
      repeat(first|refine lrun_ ?_|(refine lo_boxA rfl rfl ?_;intro _ _ _)|(refine lo_box1 rfl rfl rfl ?_;intro _ _ _)|(refine lo_alloc rfl ?_;intro _ _ _))
      exact l_ret1 rfl rfl fun w' hw => ⟨⟨hw.org, hw.mem g _ (.tl .hd)⟩, rfl⟩
    rw [decide_eq_false h4, if_neg (show ¬ (r ∈ opsL ∨ (true = true ∧ r ∈ atOnceL)) from fun h => h.elim h3 fun h => h4 h.2)]
    repeat(first|refine lrun_ ?_|(refine lo_boxA rfl rfl ?_;intro _ _ _)|(refine lo_box1 rfl rfl rfl ?_;intro _ _ _)|(refine lo_alloc rfl ?_;intro _ _ _))
    refine l_false rfl ?_
    repeat(first|refine lrun_ ?_|(refine lo_boxA rfl rfl ?_;intro _ _ _)|(refine lo_box1 rfl rfl rfl ?_;intro _ _ _)|(refine lo_alloc rfl ?_;intro _ _ _))
    by_cases h5 : r = 105
    · rw [if_pos (show true = true ∧ (r = 105 ∨ r = 97) from ⟨rfl, .inl h5⟩)]
      repeat(first|refine lrun_ ?_|(refine lo_boxA rfl rfl ?_;intro _ _ _)|(refine lo_box1 rfl rfl rfl ?_;intro _ _ _)|(refine lo_alloc rfl ?_;intro _ _ _))
      refine l_true rfl ?_
      repeat(first|refine lrun_ ?_|(refine lo_boxA rfl rfl ?_;intro _ _ _)|(refine lo_box1 rfl rfl rfl ?_;intro _ _ _)|(refine lo_alloc rfl ?_;intro _ _ _))
      refine lo_rn (fun _ => r_makeI rfl) rfl ?_
      repeat(first|refine lrun_ ?_|(refine lo_boxA rfl rfl ?_;intro _ _ _)|(refine lo_box1 rfl rfl rfl ?_;intro _ _ _)|(refine lo_alloc rfl ?_;intro _ _ _))
      exact l_ret1 rfl rfl fun w' hw => ⟨⟨hw.org, hw.mem g _ (.tl .hd)⟩, rfl⟩
    by_cases h6 : r = 97
    · rw [if_pos (show true = true ∧ (r = 105 ∨ r = 97) from ⟨rfl, .inr h6⟩)]
      repeat(first|refine lrun_ ?_|(refine lo_boxA rfl rfl ?_;intro _ _ _)|(refine lo_box1 rfl rfl rfl ?_;intro _ _ _)|(refine lo_alloc rfl ?_;intro _ _ _))
      refine l_yes rfl h6 ?_
      repeat(first|refine lrun_ ?_|(refine lo_boxA rfl rfl ?_;intro _ _ _)|(refine lo_box1 rfl rfl rfl ?_;intro _ _ _)|(refine lo_alloc rfl ?_;intro _ _ _))
      refine lo_rn (fun _ => r_makeI rfl) rfl ?_
      repeat(first|refine lrun_ ?_|(refine lo_boxA rfl rfl ?_;intro _ _ _)|(refine lo_box1 rfl rfl rfl ?_;intro _ _ _)|(refine lo_alloc rfl ?_;intro _ _ _))
      exact l_ret1 rfl rfl fun w' hw => ⟨⟨hw.org, hw.mem g _ (.tl .hd)⟩, rfl⟩
    rw [if_neg (show ¬ (true = true ∧ (r = 105 ∨ r = 97)) from fun h => h.2.elim h5 h6)]
    repeat(first|refine lrun_ ?_|(refine lo_boxA rfl rfl ?_;intro _ _ _)|(refine lo_box1 rfl rfl rfl ?_;intro _ _ _)|(refine lo_alloc rfl ?_;intro _ _ _))
    refine l_no rfl h6 ?_
    repeat(first|refine lrun_ ?_|(refine lo_boxA rfl rfl ?_;intro _ _ _)|(refine lo_box1 rfl rfl rfl ?_;intro _ _ _)|(refine lo_alloc rfl ?_;intro _ _ _))
    by_cases h7 : r = 114
    · rw [if_pos (show r = 114 ∧ true = true from ⟨h7, rfl⟩)]
      repeat(first|refine lrun_ ?_|(refine lo_boxA rfl rfl ?_;intro _ _ _)|(refine lo_box1 rfl rfl rfl ?_;intro _ _ _)|(refine lo_alloc rfl ?_;intro _ _ _))
      refine l_true rfl ?_
      repeat(first|refine lrun_ ?_|(refine lo_boxA rfl rfl ?_;intro _ _ _)|(refine lo_box1 rfl rfl rfl ?_;intro _ _ _)|(refine lo_alloc rfl ?_;intro _ _ _))
      refine lo_rn (fun _ => r_makeI rfl) rfl ?_
      repeat(first|refine lrun_ ?_|(refine lo_boxA rfl rfl ?_;intro _ _ _)|(refine lo_box1 rfl rfl rfl ?_;intro _ _ _)|(refine lo_alloc rfl ?_;intro _ _ _))
      exact l_ret1 rfl rfl fun w' hw => ⟨⟨hw.org, hw.mem g _ (.tl .hd)⟩, rfl⟩
    rw [if_neg (show ¬ (r = 114 ∧ true = true) from fun h => h7 h.1)]
    repeat(first|refine lrun_ ?_|(refine lo_boxA rfl rfl ?_;intro _ _ _)|(refine lo_box1 rfl rfl rfl ?_;intro _ _ _)|(refine lo_alloc rfl ?_;intro _ _ _))
    refine l_false rfl ?_
    repeat(first|refine lrun_ ?_|(refine lo_boxA rfl rfl ?_;intro _ _ _)|(refine lo_box1 rfl rfl rfl ?_;intro _ _ _)|(refine lo_alloc rfl ?_;intro _ _ _))
    by_cases h8 : r = 109
    · rw [if_pos (show r = 114 ∨ r = 109 from .inr h8)]
      repeat(first|refine lrun_ ?_|(refine lo_boxA rfl rfl ?_;intro _ _ _)|(refine lo_box1 rfl rfl rfl ?_;intro _ _ _)|(refine lo_alloc rfl ?_;intro _ _ _))
      refine l_yes rfl h8 ?_
      repeat(first|refine lrun_ ?_|(refine lo_boxA rfl rfl ?_;intro _ _ _)|(refine lo_box1 rfl rfl rfl ?_;intro _ _ _)|(refine lo_alloc rfl ?_;intro _ _ _))
      refine lo_rn (fun _ => r_makeI rfl) rfl ?_
      repeat(first|refine lrun_ ?_|(refine lo_boxA rfl rfl ?_;intro _ _ _)|(refine lo_box1 rfl rfl rfl ?_;intro _ _ _)|(refine lo_alloc rfl ?_;intro _ _ _))
      exact l_ret1 rfl rfl fun w' hw => ⟨⟨hw.org, hw.mem g _ (.tl .hd)⟩, rfl⟩
    rw [if_neg (show ¬ (r = 114 ∨ r = 109) from fun h => h.elim h7 h8)]
    repeat(first|refine lrun_ ?_|(refine lo_boxA rfl rfl ?_;intro _ _ _)|(refine lo_box1 rfl rfl rfl ?_;intro _ _ _)|(refine lo_alloc rfl ?_;intro _ _ _))
    refine l_no rfl h8 ?_
    repeat(first|refine lrun_ ?_|(refine lo_boxA rfl rfl ?_;intro _ _ _)|(refine lo_box1 rfl rfl rfl ?_;intro _ _ _)|(refine lo_alloc rfl ?_;intro _ _ _))
    by_cases h9 : r = 122
    · rw [if_pos (show r = 122 ∨ r = 23 from .inl h9)]
      repeat(first|refine lrun_ ?_|(refine lo_boxA rfl rfl ?_;intro _ _ _)|(refine lo_box1 rfl rfl rfl ?_;intro _ _ _)|(refine lo_alloc rfl ?_;intro _ _ _))
      refine l_true rfl ?_
      repeat(first|refine lrun_ ?_|(refine lo_boxA rfl rfl ?_;intro _ _ _)|(refine lo_box1 rfl rfl rfl ?_;intro _ _ _)|(refine lo_alloc rfl ?_;intro _ _ _))
      refine lo_rn (fun _ => r_makeI rfl) rfl ?_
      repeat(first|refine lrun_ ?_|(refine lo_boxA rfl rfl ?_;intro _ _ _)|(refine lo_box1 rfl rfl rfl ?_;intro _ _ _)|(refine lo_alloc rfl ?_;intro _ _ _))
      exact l_ret1 rfl rfl fun w' hw => ⟨⟨hw.org, hw.mem g _ (.tl .hd)⟩, rfl⟩
    by_cases h10 : r = 23
    · rw [if_pos (show r = 122 ∨ r = 23 from .inr h10)]
      repeat(first|refine lrun_ ?_|(refine lo_boxA rfl rfl ?_;intro _ _ _)|(refine lo_box1 rfl rfl rfl ?_;intro _ _ _)|(refine lo_alloc rfl ?_;intro _ _ _))
      refine l_yes rfl h10 ?_
      repeat(first|refine lrun_ ?_|(refine lo_boxA rfl rfl ?_;intro _ _ _)|(refine lo_box1 rfl rfl rfl ?_;intro _ _ _)|(refine lo_alloc rfl ?_;intro _ _ _))
      refine lo_rn (fun _ => r_makeI rfl) rfl ?_
      repeat(first|refine lrun_ ?_|(refine lo_boxA rfl rfl ?_;intro _ _ _)|(refine lo_box1 rfl rfl rfl ?_;intro _ _ _)|(refine lo_alloc rfl ?_;intro _ _ _))
      exact l_ret1 rfl rfl fun w' hw => ⟨⟨hw.org, hw.mem g _ (.tl .hd)⟩, rfl⟩
    rw [if_neg (show ¬ (r = 122 ∨ r = 23) from fun h => h.elim h9 h10)]
    repeat(first|refine lrun_ ?_|(refine lo_boxA rfl rfl ?_;intro _ _ _)|(refine lo_box1 rfl rfl rfl ?_;intro _ _ _)|(refine lo_alloc rfl ?_;intro _ _ _))
    refine l_no rfl h10 ?_
    repeat(first|refine lrun_ ?_|(refine lo_boxA rfl rfl ?_;intro _ _ _)|(refine lo_box1 rfl rfl rfl ?_;intro _ _ _)|(refine lo_alloc rfl ?_;intro _ _ _))
    refine lo_call (n_call rfl) rfl (fun w' hw => one_calls (s := ⟨#[111, 79, 18, 118, 86, 22, 58, 47, 63, 15, 9, 5, 25, 4, 21, 12, 27]⟩) (by decide)) ?_
    rw [show bytesL ⟨#[111, 79, 18, 118, 86, 22, 58, 47, 63, 15, 9, 5, 25, 4, 21, 12, 27]⟩ = inVisL from rfl]
    by_cases h11 : r ∈ inVisL
    · rw [decide_eq_true h11, if_pos (show (true = false ∧ r ∈ commandsL) ∨ (true = true ∧ r ∈ inVisL) from .inr ⟨rfl, h11⟩)]
      repeat(first|refine lrun_ ?_|(refine lo_boxA rfl rfl ?_;intro _ _ _)|(refine lo_box1 rfl rfl rfl ?_;intro _ _ _)|(refine lo_alloc rfl ?_;intro _ _ _))
      refine l_true rfl ?_
      repeat(first|refine lrun_ ?_|(refine lo_boxA rfl rfl ?_;intro _ _ _)|(refine lo_box1 rfl rfl rfl ?_;intro _ _ _)|(refine lo_alloc rfl ?_;intro _ _ _))
      refine lo_callG (by first|exact .hd|exact .tl .hd|exact .tl (.tl .hd)|exact .tl (.tl (.tl .hd))|exact .tl (.tl (.tl (.tl .hd)))|exact .tl (.tl (.tl (.tl (.tl .hd))))|exact .tl (.tl (.tl (.tl (.tl (.tl .hd)))))|exact .tl (.tl (.tl (.tl (.tl (.tl (.tl .hd))))))|exact .tl (.tl (.tl (.tl (.tl (.tl (.tl (.tl .hd)))))))) (n_call rfl) rfl (fun w' hw => ends_calls (hw.mem g _ (.tl .hd))) ?_
      repeat(first|refine lrun_ ?_|(refine lo_boxA rfl rfl ?_;intro _ _ _)|(refine lo_box1 rfl rfl rfl ?_;intro _ _ _)|(refine lo_alloc rfl ?_;intro _ _ _))
      exact l_ret1 rfl rfl fun w' hw => ⟨⟨hw.org, hw.mem g _ (.tl .hd)⟩, rfl⟩
    rw [decide_eq_false h11, if_neg (show ¬ ((true = false ∧ r ∈ commandsL) ∨ (true = true ∧ r ∈ inVisL)) from fun h => h.elim (fun h => by cases h.1) fun h => h11 h.2)]
    repeat(first|refine lrun_ ?_|(refine lo_boxA rfl rfl ?_;intro _ _ _)|(refine lo_box1 rfl rfl rfl ?_;intro _ _ _)|(refine lo_alloc rfl ?_;intro _ _ _))
    refine l_false rfl ?_
    refine l_go .skip ?_
    repeat(first|refine lrun_ ?_|(refine lo_boxA rfl rfl ?_;intro _ _ _)|(refine lo_box1 rfl rfl rfl ?_;intro _ _ _)|(refine lo_alloc rfl ?_;intro _ _ _))
    refine lo_callG (by first|exact .hd|exact .tl .hd|exact .tl (.tl .hd)|exact .tl (.tl (.tl .hd))|exact .tl (.tl (.tl (.tl .hd)))|exact .tl (.tl (.tl (.tl (.tl .hd))))|exact .tl (.tl (.tl (.tl (.tl (.tl .hd)))))|exact .tl (.tl (.tl (.tl (.tl (.tl (.tl .hd))))))|exact .tl (.tl (.tl (.tl (.tl (.tl (.tl (.tl .hd)))))))) (n_call rfl) rfl (fun w' hw => motion_calls (hw.mem g _ (.tl .hd))) ?_
    repeat(first|refine lrun_ ?_|(refine lo_boxA rfl rfl ?_;intro _ _ _)|(refine lo_box1 rfl rfl rfl ?_;intro _ _ _)|(refine lo_alloc rfl ?_;intro _ _ _))
    exact l_ret1 rfl rfl fun w' hw => ⟨⟨hw.org, hw.mem g _ (.tl .hd)⟩, rfl⟩
  rw [if_neg (show ¬ (r ∈ opsL ∨ (false = true ∧ r ∈ atOnceL)) from fun h => h.elim h3 fun h => by cases h.1), if_neg (show ¬ (false = true ∧ (r = 105 ∨ r = 97)) from fun h => by cases h.1), if_neg (show ¬ (r = 114 ∧ false = true) from fun h => by cases h.2)]
  repeat(first|refine lrun_ ?_|(refine lo_boxA rfl rfl ?_;intro _ _ _)|(refine lo_box1 rfl rfl rfl ?_;intro _ _ _)|(refine lo_alloc rfl ?_;intro _ _ _))
  refine l_false rfl ?_
  repeat(first|refine lrun_ ?_|(refine lo_boxA rfl rfl ?_;intro _ _ _)|(refine lo_box1 rfl rfl rfl ?_;intro _ _ _)|(refine lo_alloc rfl ?_;intro _ _ _))
  refine l_false rfl ?_
  repeat(first|refine lrun_ ?_|(refine lo_boxA rfl rfl ?_;intro _ _ _)|(refine lo_box1 rfl rfl rfl ?_;intro _ _ _)|(refine lo_alloc rfl ?_;intro _ _ _))
  by_cases h7 : r = 114
  · rw [if_pos (show r = 114 ∨ r = 109 from .inl h7)]
    subst h7
    repeat(first|refine lrun_ ?_|(refine lo_boxA rfl rfl ?_;intro _ _ _)|(refine lo_box1 rfl rfl rfl ?_;intro _ _ _)|(refine lo_alloc rfl ?_;intro _ _ _))
    refine l_false rfl ?_
    repeat(first|refine lrun_ ?_|(refine lo_boxA rfl rfl ?_;intro _ _ _)|(refine lo_box1 rfl rfl rfl ?_;intro _ _ _)|(refine lo_alloc rfl ?_;intro _ _ _))
    refine l_true rfl ?_
    repeat(first|refine lrun_ ?_|(refine lo_boxA rfl rfl ?_;intro _ _ _)|(refine lo_box1 rfl rfl rfl ?_;intro _ _ _)|(refine lo_alloc rfl ?_;intro _ _ _))
    refine lo_rn (fun _ => r_makeI rfl) rfl ?_
    repeat(first|refine lrun_ ?_|(refine lo_boxA rfl rfl ?_;intro _ _ _)|(refine lo_box1 rfl rfl rfl ?_;intro _ _ _)|(refine lo_alloc rfl ?_;intro _ _ _))
    exact l_ret1 rfl rfl fun w' hw => ⟨⟨hw.org, hw.mem g _ (.tl .hd)⟩, rfl⟩
  repeat(first|refine lrun_ ?_|(refine lo_boxA rfl rfl ?_;intro _ _ _)|(refine lo_box1 rfl rfl rfl ?_;intro _ _ _)|(refine lo_alloc rfl ?_;intro _ _ _))
  refine l_false rfl ?_
  repeat(first|refine lrun_ ?_|(refine lo_boxA rfl rfl ?_;intro _ _ _)|(refine lo_box1 rfl rfl rfl ?_;intro _ _ _)|(refine lo_alloc rfl ?_;intro _ _ _))
  by_cases h8 : r = 109
  · rw [if_pos (show r = 114 ∨ r = 109 from .inr h8)]
    repeat(first|refine lrun_ ?_|(refine lo_boxA rfl rfl ?_;intro _ _ _)|(refine lo_box1 rfl rfl rfl ?_;intro _ _ _)|(refine lo_alloc rfl ?_;intro _ _ _))
    refine l_yes rfl h8 ?_
    repeat(first|refine lrun_ ?_|(refine lo_boxA rfl rfl ?_;intro _ _ _)|(refine lo_box1 rfl rfl rfl ?_;intro _ _ _)|(refine lo_alloc rfl ?_;intro _ _ _))
    refine lo_rn (fun _ => r_makeI rfl) rfl ?_
    repeat(first|refine lrun_ ?_|(refine lo_boxA rfl rfl ?_;intro _ _ _)|(refine lo_box1 rfl rfl rfl ?_;intro _ _ _)|(refine lo_alloc rfl ?_;intro _ _ _))
    exact l_ret1 rfl rfl fun w' hw => ⟨⟨hw.org, hw.mem g _ (.tl .hd)⟩, rfl⟩
  rw [if_neg (show ¬ (r = 114 ∨ r = 109) from fun h => h.elim h7 h8)]
  repeat(first|refine lrun_ ?_|(refine lo_boxA rfl rfl ?_;intro _ _ _)|(refine lo_box1 rfl rfl rfl ?_;intro _ _ _)|(refine lo_alloc rfl ?_;intro _ _ _))
  refine l_no rfl h8 ?_
  repeat(first|refine lrun_ ?_|(refine lo_boxA rfl rfl ?_;intro _ _ _)|(refine lo_box1 rfl rfl rfl ?_;intro _ _ _)|(refine lo_alloc rfl ?_;intro _ _ _))
  by_cases h9 : r = 122
  · rw [if_pos (show r = 122 ∨ r = 23 from .inl h9)]
    repeat(first|refine lrun_ ?_|(refine lo_boxA rfl rfl ?_;intro _ _ _)|(refine lo_box1 rfl rfl rfl ?_;intro _ _ _)|(refine lo_alloc rfl ?_;intro _ _ _))
    refine l_true rfl ?_
    repeat(first|refine lrun_ ?_|(refine lo_boxA rfl rfl ?_;intro _ _ _)|(refine lo_box1 rfl rfl rfl ?_;intro _ _ _)|(refine lo_alloc rfl ?_;intro _ _ _))
    refine lo_rn (fun _ => r_makeI rfl) rfl ?_
    repeat(first|refine lrun_ ?_|(refine lo_boxA rfl rfl ?_;intro _ _ _)|(refine lo_box1 rfl rfl rfl ?_;intro _ _ _)|(refine lo_alloc rfl ?_;intro _ _ _))
    exact l_ret1 rfl rfl fun w' hw => ⟨⟨hw.org, hw.mem g _ (.tl .hd)⟩, rfl⟩
  by_cases h10 : r = 23
  · rw [if_pos (show r = 122 ∨ r = 23 from .inr h10)]
    repeat(first|refine lrun_ ?_|(refine lo_boxA rfl rfl ?_;intro _ _ _)|(refine lo_box1 rfl rfl rfl ?_;intro _ _ _)|(refine lo_alloc rfl ?_;intro _ _ _))
    refine l_yes rfl h10 ?_
    repeat(first|refine lrun_ ?_|(refine lo_boxA rfl rfl ?_;intro _ _ _)|(refine lo_box1 rfl rfl rfl ?_;intro _ _ _)|(refine lo_alloc rfl ?_;intro _ _ _))
    refine lo_rn (fun _ => r_makeI rfl) rfl ?_
    repeat(first|refine lrun_ ?_|(refine lo_boxA rfl rfl ?_;intro _ _ _)|(refine lo_box1 rfl rfl rfl ?_;intro _ _ _)|(refine lo_alloc rfl ?_;intro _ _ _))
    exact l_ret1 rfl rfl fun w' hw => ⟨⟨hw.org, hw.mem g _ (.tl .hd)⟩, rfl⟩
  rw [if_neg (show ¬ (r = 122 ∨ r = 23) from fun h => h.elim h9 h10)]
  repeat(first|refine lrun_ ?_|(refine lo_boxA rfl rfl ?_;intro _ _ _)|(refine lo_box1 rfl rfl rfl ?_;intro _ _ _)|(refine lo_alloc rfl ?_;intro _ _ _))
  refine l_no rfl h10 ?_
  repeat(first|refine lrun_ ?_|(refine lo_boxA rfl rfl ?_;intro _ _ _)|(refine lo_box1 rfl rfl rfl ?_;intro _ _ _)|(refine lo_alloc rfl ?_;intro _ _ _))
  refine lo_call (n_call rfl) rfl (fun w' hw => one_calls (s := ⟨#[120, 88, 68, 67, 89, 115, 83, 74, 112, 80, 105, 73, 97, 65, 111, 79, 46, 117, 18, 118, 86, 22, 58, 47, 63, 82, 126, 15, 9, 5, 25, 4, 21, 12, 27]⟩) (by decide)) ?_
  rw [show bytesL ⟨#[120, 88, 68, 67, 89, 115, 83, 74, 112, 80, 105, 73, 97, 65, 111, 79, 46, 117, 18, 118, 86, 22, 58, 47, 63, 82, 126, 15, 9, 5, 25, 4, 21, 12, 27]⟩ = commandsL from rfl]
  by_cases h11 : r ∈ commandsL
  · rw [decide_eq_true h11, if_pos (show (false = false ∧ r ∈ commandsL) ∨ (false = true ∧ r ∈ inVisL) from .inl ⟨rfl, h11⟩)]
    repeat(first|refine lrun_ ?_|(refine lo_boxA rfl rfl ?_;intro _ _ _)|(refine lo_box1 rfl rfl rfl ?_;intro _ _ _)|(refine lo_alloc rfl ?_;intro _ _ _))
    refine l_true rfl ?_
    repeat(first|refine lrun_ ?_|(refine lo_boxA rfl rfl ?_;intro _ _ _)|(refine lo_box1 rfl rfl rfl ?_;intro _ _ _)|(refine lo_alloc rfl ?_;intro _ _ _))
    refine lo_callG (by first|exact .hd|exact .tl .hd|exact .tl (.tl .hd)|exact .tl (.tl (.tl .hd))|exact .tl (.tl (.tl (.tl .hd)))|exact .tl (.tl (.tl (.tl (.tl .hd))))|exact .tl (.tl (.tl (.tl (.tl (.tl .hd)))))|exact .tl (.tl (.tl (.tl (.tl (.tl (.tl .hd))))))|exact .tl (.tl (.tl (.tl (.tl (.tl (.tl (.tl .hd)))))))) (n_call rfl) rfl (fun w' hw => ends_calls (hw.mem g _ (.tl .hd))) ?_
    repeat(first|refine lrun_ ?_|(refine lo_boxA rfl rfl ?_;intro _ _ _)|(refine lo_box1 rfl rfl rfl ?_;intro _ _ _)|(refine lo_alloc rfl ?_;intro _ _ _))
    exact l_ret1 rfl rfl fun w' hw => ⟨⟨hw.org, hw.mem g _ (.tl .hd)⟩, rfl⟩
  rw [decide_eq_false h11, if_neg (show ¬ ((false = false ∧ r ∈ commandsL) ∨ (false = true ∧ r ∈ inVisL)) from fun h => h.elim (fun h => h11 h.2) fun h => by cases h.1)]
  repeat(first|refine lrun_ ?_|(refine lo_boxA rfl rfl ?_;intro _ _ _)|(refine lo_box1 rfl rfl rfl ?_;intro _ _ _)|(refine lo_alloc rfl ?_;intro _ _ _))
  refine l_false rfl ?_
  refine l_go .skip ?_
  repeat(first|refine lrun_ ?_|(refine lo_boxA rfl rfl ?_;intro _ _ _)|(refine lo_box1 rfl rfl rfl ?_;intro _ _ _)|(refine lo_alloc rfl ?_;intro _ _ _))
  refine lo_callG (by first|exact .hd|exact .tl .hd|exact .tl (.tl .hd)|exact .tl (.tl (.tl .hd))|exact .tl (.tl (.tl (.tl .hd)))|exact .tl (.tl (.tl (.tl (.tl .hd))))|exact .tl (.tl (.tl (.tl (.tl (.tl .hd)))))|exact .tl (.tl (.tl (.tl (.tl (.tl (.tl .hd))))))|exact .tl (.tl (.tl (.tl (.tl (.tl (.tl (.tl .hd)))))))) (n_call rfl) rfl (fun w' hw => motion_calls (hw.mem g _ (.tl .hd))) ?_
  repeat(first|refine lrun_ ?_|(refine lo_boxA rfl rfl ?_;intro _ _ _)|(refine lo_box1 rfl rfl rfl ?_;intro _ _ _)|(refine lo_alloc rfl ?_;intro _ _ _))
  exact l_ret1 rfl rfl fun w' hw => ⟨⟨hw.org, hw.mem g _ (.tl .hd)⟩, rfl⟩
end
end Go.Ink
