/-
  The reference: object, motion, target.
-/
import Derived.Test.YtbmjcjlenbgpkaaN6
set_option linter.unusedVariables false
set_option linter.unusedSimpArgs false
namespace Go.Ink
open Go Go.Proofs Go.RowKit

abbrev sObj : ByteArray := ⟨#[119, 87, 112, 40, 41, 98, 91, 93, 123, 125, 66, 60, 62, 34, 39, 96]⟩
abbrev sFind : ByteArray := ⟨#[102, 116, 70, 84, 39, 96]⟩
abbrev sMot : ByteArray := ⟨#[104, 108, 106, 107, 43, 45, 95, 71, 48, 94, 36, 124, 119, 87, 98, 66, 101, 69, 37, 123, 125, 40, 41, 72, 77, 76, 59, 44, 110, 78]⟩
theorem in_lit {w : World} {r : Int} {b : Bool} (s : ByteArray) (L : List Int) (hL : bytesL s = L) (hs : asciiB s = true) (hlen : s.size ≤ 1000) (hb : decide (r ∈ L) = b) : CallsR Try.prog 40 #[.int .i32 r, .string s] w fun u w' => Kn w w' ∧ u = .bool b := by
  subst hL hb
  exact in_calls hs hlen
section
variable {w : World} {F : Nat → Prop} {A : Option Addr} {cp : Nat} {l : List Int}
set_option maxHeartbeats 8000000 in
theorem object_callsR {vis : Bool} {x : Int} {i : Nat} {c : Cmd} (h : Sl kRune F w (.slice A l.length cp) l) (hi : i < l.length) (hl : l.length ≤ 1000000) : CallsR Try.prog 43 #[.slice A l.length cp, .int .i64 (i : Int), .agg (cmdL c).toArray] w fun u w' => Kn w w' ∧ u = tupT (runT vis (l.drop (i + 1)) .obj { c with pre := l.getD i 0 } x) := by
  obtain ⟨A', c', ad, e, hX⟩ := h.rns
  cases e
  refine l_enter (args := [.slice A l.length cp, .int .i64 (i : Int), .agg (cmdL c).toArray]) (fun _ => False) Try.func43 rfl rfl ?_
  repeat(first|refine lrun_ ?_|(refine lo_boxA rfl rfl ?_;intro _ _ _)|(refine lo_box1 rfl rfl rfl ?_;intro _ _ _)|(refine lo_alloc rfl ?_;intro _ _ _))
  by_cases h1 : i + 1 = l.length
  · rw [run_end (by omega)]
    refine l_yes rfl (by omega) ?_
    repeat(first|refine lrun_ ?_|(refine lo_boxA rfl rfl ?_;intro _ _ _)|(refine lo_box1 rfl rfl rfl ?_;intro _ _ _)|(refine lo_alloc rfl ?_;intro _ _ _))
    exact l_retR2 rfl (by repeat(first|exact LRes.nil|refine LRes.tmp rfl ?_|refine LRes.agg rfl (by(repeat(first|exact MIn.hd|refine MIn.tl ?_));done) (by rfl) (by rfl) ?_|refine LRes.one rfl (by(repeat(first|exact MIn.hd|refine MIn.tl ?_));done) (by rfl) ?_)) fun w' hw => ⟨hw.org, rfl⟩
  · have hlt : i + 1 < l.length := by omega
    rw [run_at hlt, take_obj]
    refine l_no rfl (by omega) ?_
    refine l_go .skip ?_
    repeat(first|refine lrun_ ?_|(refine lo_boxA rfl rfl ?_;intro _ _ _)|(refine lo_box1 rfl rfl rfl ?_;intro _ _ _)|(refine lo_alloc rfl ?_;intro _ _ _))
    by_cases h2 : l.getD (i + 1) 0 ∈ objectsL
    · rw [if_pos h2, cont_end]
      refine lo_call (v := .bool true) (n_call rfl) rfl (fun w' hw => in_lit sObj objectsL rfl (by decide) (by decide) (decide_eq_true h2)) ?_
      repeat(first|refine lrun_ ?_|(refine lo_boxA rfl rfl ?_;intro _ _ _)|(refine lo_box1 rfl rfl rfl ?_;intro _ _ _)|(refine lo_alloc rfl ?_;intro _ _ _))
      refine l_false rfl ?_
      refine l_go .skip ?_
      repeat(first|refine lrun_ ?_|(refine lo_boxA rfl rfl ?_;intro _ _ _)|(refine lo_box1 rfl rfl rfl ?_;intro _ _ _)|(refine lo_alloc rfl ?_;intro _ _ _))
      refine lo_call (n_call rfl) rfl (fun w' hw => end_calls (i := i + 1) (c := { c with pre := l.getD i 0, key := l.getD (i + 1) 0 }) (Kn.sl hw.org h) hlt hl) ?_
      repeat(first|refine lrun_ ?_|(refine lo_boxA rfl rfl ?_;intro _ _ _)|(refine lo_box1 rfl rfl rfl ?_;intro _ _ _)|(refine lo_alloc rfl ?_;intro _ _ _))
      exact l_retR2 rfl (by repeat(first|exact LRes.nil|refine LRes.tmp rfl ?_|refine LRes.agg rfl (by(repeat(first|exact MIn.hd|refine MIn.tl ?_));done) (by rfl) (by rfl) ?_|refine LRes.one rfl (by(repeat(first|exact MIn.hd|refine MIn.tl ?_));done) (by rfl) ?_)) fun w' hw => ⟨hw.org, rfl⟩
    · rw [if_neg h2, cont_none]
      refine lo_call (v := .bool false) (n_call rfl) rfl (fun w' hw => in_lit sObj objectsL rfl (by decide) (by decide) (decide_eq_false h2)) ?_
      repeat(first|refine lrun_ ?_|(refine lo_boxA rfl rfl ?_;intro _ _ _)|(refine lo_box1 rfl rfl rfl ?_;intro _ _ _)|(refine lo_alloc rfl ?_;intro _ _ _))
      refine l_true rfl ?_
      repeat(first|refine lrun_ ?_|(refine lo_boxA rfl rfl ?_;intro _ _ _)|(refine lo_box1 rfl rfl rfl ?_;intro _ _ _)|(refine lo_alloc rfl ?_;intro _ _ _))
      exact l_retR2 rfl (by repeat(first|exact LRes.nil|refine LRes.tmp rfl ?_|refine LRes.agg rfl (by(repeat(first|exact MIn.hd|refine MIn.tl ?_));done) (by rfl) (by rfl) ?_|refine LRes.one rfl (by(repeat(first|exact MIn.hd|refine MIn.tl ?_));done) (by rfl) ?_)) fun w' hw => ⟨hw.org, rfl⟩
set_option maxHeartbeats 8000000 in
theorem motion_callsR {vis : Bool} {x : Int} {i : Nat} {c : Cmd} (h : Sl kRune F w (.slice A l.length cp) l) (hi : i < l.length) (hl : l.length ≤ 1000000) : CallsR Try.prog 45 #[.slice A l.length cp, .int .i64 (i : Int), .agg (cmdL c).toArray] w fun u w' => Kn w w' ∧ u = tupT (contT vis (l.drop (i + 1)) ((motionM c (l.getD i 0)).1, (motionM c (l.getD i 0)).2, x)) := by
  obtain ⟨A', c', ad, e, hX⟩ := h.rns
  cases e
  refine l_enter (args := [.slice A l.length cp, .int .i64 (i : Int), .agg (cmdL c).toArray]) (fun _ => False) Try.func45 rfl rfl ?_
  unfold motionM
  repeat(first|refine lrun_ ?_|(refine lo_boxA rfl rfl ?_;intro _ _ _)|(refine lo_box1 rfl rfl rfl ?_;intro _ _ _)|(refine lo_alloc rfl ?_;intro _ _ _))
  by_cases h1 : l.getD i 0 ∈ finds ∨ l.getD i 0 ∈ marks
  · rw [if_pos h1]
    refine lo_call (v := .bool true) (n_call rfl) rfl (fun w' hw => in_lit sFind (finds ++ marks) rfl (by decide) (by decide) (decide_eq_true (List.mem_append.2 h1))) ?_
    repeat(first|refine lrun_ ?_|(refine lo_boxA rfl rfl ?_;intro _ _ _)|(refine lo_box1 rfl rfl rfl ?_;intro _ _ _)|(refine lo_alloc rfl ?_;intro _ _ _))
    refine l_true rfl ?_
    repeat(first|refine lrun_ ?_|(refine lo_boxA rfl rfl ?_;intro _ _ _)|(refine lo_box1 rfl rfl rfl ?_;intro _ _ _)|(refine lo_alloc rfl ?_;intro _ _ _))
    refine lo_call (n_call rfl) rfl (fun w' hw => arg_calls (vis := vis) (x := x) (i := i + 1) (c := { c with key := l.getD i 0 }) (Kn.sl hw.org h) (by omega) hl) ?_
    repeat(first|refine lrun_ ?_|(refine lo_boxA rfl rfl ?_;intro _ _ _)|(refine lo_box1 rfl rfl rfl ?_;intro _ _ _)|(refine lo_alloc rfl ?_;intro _ _ _))
    exact l_retR2 rfl (by repeat(first|exact LRes.nil|refine LRes.tmp rfl ?_|refine LRes.agg rfl (by(repeat(first|exact MIn.hd|refine MIn.tl ?_));done) (by rfl) (by rfl) ?_|refine LRes.one rfl (by(repeat(first|exact MIn.hd|refine MIn.tl ?_));done) (by rfl) ?_)) fun w' hw => ⟨hw.org, rfl⟩
  rw [if_neg h1]
  refine lo_call (v := .bool false) (n_call rfl) rfl (fun w' hw => in_lit sFind (finds ++ marks) rfl (by decide) (by decide) (decide_eq_false fun e => h1 (List.mem_append.1 e))) ?_
  repeat(first|refine lrun_ ?_|(refine lo_boxA rfl rfl ?_;intro _ _ _)|(refine lo_box1 rfl rfl rfl ?_;intro _ _ _)|(refine lo_alloc rfl ?_;intro _ _ _))
  refine l_false rfl ?_
  repeat(first|refine lrun_ ?_|(refine lo_boxA rfl rfl ?_;intro _ _ _)|(refine lo_box1 rfl rfl rfl ?_;intro _ _ _)|(refine lo_alloc rfl ?_;intro _ _ _))
  by_cases h2 : l.getD i 0 = 103
  · rw [if_pos h2]
    refine l_yes rfl h2 ?_
    repeat(first|refine lrun_ ?_|(refine lo_boxA rfl rfl ?_;intro _ _ _)|(refine lo_box1 rfl rfl rfl ?_;intro _ _ _)|(refine lo_alloc rfl ?_;intro _ _ _))
    by_cases h3 : i + 1 = l.length
    · refine l_yes rfl (by omega) ?_
      repeat(first|refine lrun_ ?_|(refine lo_boxA rfl rfl ?_;intro _ _ _)|(refine lo_box1 rfl rfl rfl ?_;intro _ _ _)|(refine lo_alloc rfl ?_;intro _ _ _))
      refine l_retR2 rfl (by repeat(first|exact LRes.nil|refine LRes.tmp rfl ?_|refine LRes.agg rfl (by(repeat(first|exact MIn.hd|refine MIn.tl ?_));done) (by rfl) (by rfl) ?_|refine LRes.one rfl (by(repeat(first|exact MIn.hd|refine MIn.tl ?_));done) (by rfl) ?_)) fun w' hw => ⟨hw.org, ?_⟩
      show _ = tupT (runT vis (l.drop (i + 1)) (.big false) c x)
      rw [run_end (by omega)]
      rfl
    · have hlt : i + 1 < l.length := by omega
      have e1 : contT vis (l.drop (i + 1)) (.big false, c, x) = contT vis (l.drop (i + 1 + 1)) (takeM (.big false) vis c x (l.getD (i + 1) 0)) := run_at hlt
      rw [take_big] at e1
      refine l_no rfl (by omega) ?_
      refine l_go .skip ?_
      repeat(first|refine lrun_ ?_|(refine lo_boxA rfl rfl ?_;intro _ _ _)|(refine lo_box1 rfl rfl rfl ?_;intro _ _ _)|(refine lo_alloc rfl ?_;intro _ _ _))
      by_cases h4 : l.getD (i + 1) 0 = 103
      · rw [if_pos h4, cont_end] at e1
        refine l_no rfl (fun h => h h4) ?_
        refine l_go .skip ?_
        repeat(first|refine lrun_ ?_|(refine lo_boxA rfl rfl ?_;intro _ _ _)|(refine lo_box1 rfl rfl rfl ?_;intro _ _ _)|(refine lo_alloc rfl ?_;intro _ _ _))
        refine lo_call (n_call rfl) rfl (fun w' hw => end_calls (i := i + 1) (c := { c with pre := 103, key := 103 }) (Kn.sl hw.org h) hlt hl) ?_
        repeat(first|refine lrun_ ?_|(refine lo_boxA rfl rfl ?_;intro _ _ _)|(refine lo_box1 rfl rfl rfl ?_;intro _ _ _)|(refine lo_alloc rfl ?_;intro _ _ _))
        refine l_retR2 rfl (by repeat(first|exact LRes.nil|refine LRes.tmp rfl ?_|refine LRes.agg rfl (by(repeat(first|exact MIn.hd|refine MIn.tl ?_));done) (by rfl) (by rfl) ?_|refine LRes.one rfl (by(repeat(first|exact MIn.hd|refine MIn.tl ?_));done) (by rfl) ?_)) fun w' hw => ⟨hw.org, ?_⟩
        show _ = tupT (contT vis (l.drop (i + 1)) (.big false, c, x))
        rw [e1, h4]
        rfl
      · rw [if_neg h4, if_neg (fun e => Bool.noConfusion e.1), cont_none] at e1
        refine l_yes rfl h4 ?_
        repeat(first|refine lrun_ ?_|(refine lo_boxA rfl rfl ?_;intro _ _ _)|(refine lo_box1 rfl rfl rfl ?_;intro _ _ _)|(refine lo_alloc rfl ?_;intro _ _ _))
        refine l_retR2 rfl (by repeat(first|exact LRes.nil|refine LRes.tmp rfl ?_|refine LRes.agg rfl (by(repeat(first|exact MIn.hd|refine MIn.tl ?_));done) (by rfl) (by rfl) ?_|refine LRes.one rfl (by(repeat(first|exact MIn.hd|refine MIn.tl ?_));done) (by rfl) ?_)) fun w' hw => ⟨hw.org, ?_⟩
        show _ = tupT (contT vis (l.drop (i + 1)) (.big false, c, x))
        rw [e1]
        rfl
  rw [if_neg h2]
  refine l_no rfl h2 ?_
  repeat(first|refine lrun_ ?_|(refine lo_boxA rfl rfl ?_;intro _ _ _)|(refine lo_box1 rfl rfl rfl ?_;intro _ _ _)|(refine lo_alloc rfl ?_;intro _ _ _))
  by_cases h3 : l.getD i 0 ∈ motionsL
  · rw [if_pos h3]
    refine lo_call (v := .bool true) (n_call rfl) rfl (fun w' hw => in_lit sMot motionsL rfl (by decide) (by decide) (decide_eq_true h3)) ?_
    repeat(first|refine lrun_ ?_|(refine lo_boxA rfl rfl ?_;intro _ _ _)|(refine lo_box1 rfl rfl rfl ?_;intro _ _ _)|(refine lo_alloc rfl ?_;intro _ _ _))
    refine l_true rfl ?_
    repeat(first|refine lrun_ ?_|(refine lo_boxA rfl rfl ?_;intro _ _ _)|(refine lo_box1 rfl rfl rfl ?_;intro _ _ _)|(refine lo_alloc rfl ?_;intro _ _ _))
    refine lo_call (n_call rfl) rfl (fun w' hw => end_calls (i := i) (c := { c with key := l.getD i 0 }) (Kn.sl hw.org h) hi hl) ?_
    repeat(first|refine lrun_ ?_|(refine lo_boxA rfl rfl ?_;intro _ _ _)|(refine lo_box1 rfl rfl rfl ?_;intro _ _ _)|(refine lo_alloc rfl ?_;intro _ _ _))
    exact l_retR2 rfl (by repeat(first|exact LRes.nil|refine LRes.tmp rfl ?_|refine LRes.agg rfl (by(repeat(first|exact MIn.hd|refine MIn.tl ?_));done) (by rfl) (by rfl) ?_|refine LRes.one rfl (by(repeat(first|exact MIn.hd|refine MIn.tl ?_));done) (by rfl) ?_)) fun w' hw => ⟨hw.org, rfl⟩
  · rw [if_neg h3]
    refine lo_call (v := .bool false) (n_call rfl) rfl (fun w' hw => in_lit sMot motionsL rfl (by decide) (by decide) (decide_eq_false h3)) ?_
    repeat(first|refine lrun_ ?_|(refine lo_boxA rfl rfl ?_;intro _ _ _)|(refine lo_box1 rfl rfl rfl ?_;intro _ _ _)|(refine lo_alloc rfl ?_;intro _ _ _))
    refine l_false rfl ?_
    refine l_go .skip ?_
    repeat(first|refine lrun_ ?_|(refine lo_boxA rfl rfl ?_;intro _ _ _)|(refine lo_box1 rfl rfl rfl ?_;intro _ _ _)|(refine lo_alloc rfl ?_;intro _ _ _))
    exact l_retR2 rfl (by repeat(first|exact LRes.nil|refine LRes.tmp rfl ?_|refine LRes.agg rfl (by(repeat(first|exact MIn.hd|refine MIn.tl ?_));done) (by rfl) (by rfl) ?_|refine LRes.one rfl (by(repeat(first|exact MIn.hd|refine MIn.tl ?_));done) (by rfl) ?_)) fun w' hw => ⟨hw.org, rfl⟩
set_option maxHeartbeats 8000000 in
theorem target_callsR {vis : Bool} {i : Nat} {c : Cmd} (h : Sl kRune F w (.slice A l.length cp) l) (hi : i ≤ l.length) (hl : l.length ≤ 1000000) (hc : 0 ≤ c.count ∧ c.count ≤ 2147483647) : CallsR Try.prog 42 #[.slice A l.length cp, .int .i64 (i : Int), .agg (cmdL c).toArray] w fun u w' => Kn w w' ∧ u = tupT (runT vis (l.drop i) .after c 0) := by
  obtain ⟨A', c', ad, e, hX⟩ := h.rns
  cases e
  refine l_enter (args := [.slice A l.length cp, .int .i64 (i : Int), .agg (cmdL c).toArray]) (fun _ => False) Try.func42 rfl rfl ?_
  repeat(first|refine lrun_ ?_|(refine lo_boxA rfl rfl ?_;intro _ _ _)|(refine lo_box1 rfl rfl rfl ?_;intro _ _ _)|(refine lo_alloc rfl ?_;intro _ _ _))
  refine lo_callV (n_call rfl) rfl (fun w' hw => counts_callsR (Kn.sl hw.org h) hi hl hc) ?_
  rintro _ ⟨j, b, rfl, hij, hjl, hb, hE, -, hno⟩
  rw [hE vis .after c (.inr rfl) rfl]
  repeat(first|refine lrun_ ?_|(refine lo_boxA rfl rfl ?_;intro _ _ _)|(refine lo_box1 rfl rfl rfl ?_;intro _ _ _)|(refine lo_alloc rfl ?_;intro _ _ _))
  by_cases h1 : j = l.length
  · rw [run_end (by omega)]
    refine l_yes rfl (by omega) ?_
    repeat(first|refine lrun_ ?_|(refine lo_boxA rfl rfl ?_;intro _ _ _)|(refine lo_box1 rfl rfl rfl ?_;intro _ _ _)|(refine lo_alloc rfl ?_;intro _ _ _))
    exact l_retR2 rfl (by repeat(first|exact LRes.nil|refine LRes.tmp rfl ?_|refine LRes.agg rfl (by(repeat(first|exact MIn.hd|refine MIn.tl ?_));done) (by rfl) (by rfl) ?_|refine LRes.one rfl (by(repeat(first|exact MIn.hd|refine MIn.tl ?_));done) (by rfl) ?_)) fun w' hw => ⟨hw.org, rfl⟩
  have hlt : j < l.length := by omega
  have hd : isDg (l.getD j 0) 0 = false := by
    have := hno hlt
    unfold isDg
    exact decide_eq_false fun e => by omega
  rw [run_at hlt, take_after, hd, if_neg (by decide), show ∀ c, countedM c 0 = c from fun _ => rfl]
  unfold afterC
  refine l_no rfl (by omega) ?_
  refine l_go .skip ?_
  repeat(first|refine lrun_ ?_|(refine lo_boxA rfl rfl ?_;intro _ _ _)|(refine lo_box1 rfl rfl rfl ?_;intro _ _ _)|(refine lo_alloc rfl ?_;intro _ _ _))
  by_cases h2 : l.getD j 0 = c.op
  · rw [if_pos h2]
    refine l_yes rfl h2 ?_
    repeat(first|refine lrun_ ?_|(refine lo_boxA rfl rfl ?_;intro _ _ _)|(refine lo_box1 rfl rfl rfl ?_;intro _ _ _)|(refine lo_alloc rfl ?_;intro _ _ _))
    refine lo_call (n_call rfl) rfl (fun w' hw => end_calls (i := j) (c := { c with count := b, line := true }) (Kn.sl hw.org h) hlt hl) ?_
    repeat(first|refine lrun_ ?_|(refine lo_boxA rfl rfl ?_;intro _ _ _)|(refine lo_box1 rfl rfl rfl ?_;intro _ _ _)|(refine lo_alloc rfl ?_;intro _ _ _))
    exact l_retR2 rfl (by repeat(first|exact LRes.nil|refine LRes.tmp rfl ?_|refine LRes.agg rfl (by(repeat(first|exact MIn.hd|refine MIn.tl ?_));done) (by rfl) (by rfl) ?_|refine LRes.one rfl (by(repeat(first|exact MIn.hd|refine MIn.tl ?_));done) (by rfl) ?_)) fun w' hw => ⟨hw.org, rfl⟩
  rw [if_neg h2]
  refine l_no rfl h2 ?_
  refine l_go .skip ?_
  repeat(first|refine lrun_ ?_|(refine lo_boxA rfl rfl ?_;intro _ _ _)|(refine lo_box1 rfl rfl rfl ?_;intro _ _ _)|(refine lo_alloc rfl ?_;intro _ _ _))
  by_cases h3 : l.getD j 0 = 105
  · rw [if_pos (.inl h3)]
    repeat(first|refine lrun_ ?_|(refine lo_boxA rfl rfl ?_;intro _ _ _)|(refine lo_box1 rfl rfl rfl ?_;intro _ _ _)|(refine lo_alloc rfl ?_;intro _ _ _))
    refine l_true rfl ?_
    repeat(first|refine lrun_ ?_|(refine lo_boxA rfl rfl ?_;intro _ _ _)|(refine lo_box1 rfl rfl rfl ?_;intro _ _ _)|(refine lo_alloc rfl ?_;intro _ _ _))
    refine lo_call (n_call rfl) rfl (fun w' hw => object_callsR (vis := vis) (x := 0) (i := j) (c := { c with count := b }) (Kn.sl hw.org h) hlt hl) ?_
    repeat(first|refine lrun_ ?_|(refine lo_boxA rfl rfl ?_;intro _ _ _)|(refine lo_box1 rfl rfl rfl ?_;intro _ _ _)|(refine lo_alloc rfl ?_;intro _ _ _))
    exact l_retR2 rfl (by repeat(first|exact LRes.nil|refine LRes.tmp rfl ?_|refine LRes.agg rfl (by(repeat(first|exact MIn.hd|refine MIn.tl ?_));done) (by rfl) (by rfl) ?_|refine LRes.one rfl (by(repeat(first|exact MIn.hd|refine MIn.tl ?_));done) (by rfl) ?_)) fun w' hw => ⟨hw.org, rfl⟩
  by_cases h4 : l.getD j 0 = 97
  · rw [if_pos (.inr h4)]
    repeat(first|refine lrun_ ?_|(refine lo_boxA rfl rfl ?_;intro _ _ _)|(refine lo_box1 rfl rfl rfl ?_;intro _ _ _)|(refine lo_alloc rfl ?_;intro _ _ _))
    refine l_yes rfl h4 ?_
    repeat(first|refine lrun_ ?_|(refine lo_boxA rfl rfl ?_;intro _ _ _)|(refine lo_box1 rfl rfl rfl ?_;intro _ _ _)|(refine lo_alloc rfl ?_;intro _ _ _))
    refine lo_call (n_call rfl) rfl (fun w' hw => object_callsR (vis := vis) (x := 0) (i := j) (c := { c with count := b }) (Kn.sl hw.org h) hlt hl) ?_
    repeat(first|refine lrun_ ?_|(refine lo_boxA rfl rfl ?_;intro _ _ _)|(refine lo_box1 rfl rfl rfl ?_;intro _ _ _)|(refine lo_alloc rfl ?_;intro _ _ _))
    exact l_retR2 rfl (by repeat(first|exact LRes.nil|refine LRes.tmp rfl ?_|refine LRes.agg rfl (by(repeat(first|exact MIn.hd|refine MIn.tl ?_));done) (by rfl) (by rfl) ?_|refine LRes.one rfl (by(repeat(first|exact MIn.hd|refine MIn.tl ?_));done) (by rfl) ?_)) fun w' hw => ⟨hw.org, rfl⟩
  rw [if_neg fun e => e.elim h3 h4]
  repeat(first|refine lrun_ ?_|(refine lo_boxA rfl rfl ?_;intro _ _ _)|(refine lo_box1 rfl rfl rfl ?_;intro _ _ _)|(refine lo_alloc rfl ?_;intro _ _ _))
  refine l_no rfl h4 ?_
  refine l_go .skip ?_
  repeat(first|refine lrun_ ?_|(refine lo_boxA rfl rfl ?_;intro _ _ _)|(refine lo_box1 rfl rfl rfl ?_;intro _ _ _)|(refine lo_alloc rfl ?_;intro _ _ _))
  refine lo_call (n_call rfl) rfl (fun w' hw => motion_callsR (vis := vis) (x := 0) (i := j) (c := { c with count := b }) (Kn.sl hw.org h) hlt hl) ?_
  repeat(first|refine lrun_ ?_|(refine lo_boxA rfl rfl ?_;intro _ _ _)|(refine lo_box1 rfl rfl rfl ?_;intro _ _ _)|(refine lo_alloc rfl ?_;intro _ _ _))
  exact l_retR2 rfl (by repeat(first|exact LRes.nil|refine LRes.tmp rfl ?_|refine LRes.agg rfl (by(repeat(first|exact MIn.hd|refine MIn.tl ?_));done) (by rfl) (by rfl) ?_|refine LRes.one rfl (by(repeat(first|exact MIn.hd|refine MIn.tl ?_));done) (by rfl) ?_)) fun w' hw => ⟨hw.org, rfl⟩
end
end Go.Ink
