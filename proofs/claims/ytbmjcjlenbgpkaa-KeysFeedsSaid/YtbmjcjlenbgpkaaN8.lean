/-
  The reference: Parse.
-/
import Derived.Test.YtbmjcjlenbgpkaaN7
set_option linter.unusedVariables false
set_option linter.unusedSimpArgs false
namespace Go.Ink
open Go Go.Proofs Go.RowKit

def startD (vis : Bool) (c : Cmd) (r : Int) : Wa × Cmd :=
  if r ∈ opsL ∨ (vis = true ∧ r ∈ atOnceL) then ((if vis then .ended else .after), { c with op := r }) else
  if vis = true ∧ (r = 105 ∨ r = 97) then (.obj, { c with pre := r }) else
  if r = 114 ∧ vis = true then (.arg, { c with op := r }) else
  if r = 114 ∨ r = 109 then (.arg, { c with key := r }) else
  if r = 122 ∨ r = 23 then (.key, { c with pre := r }) else
  if (vis = false ∧ r ∈ commandsL) ∨ (vis = true ∧ r ∈ inVisL) then (.ended, { c with key := r }) else motionM c r
theorem startC_D {vis : Bool} {c : Cmd} {r : Int} (h1 : r ≠ 34) (h2 : r ≠ 103) : startC vis c r = startD vis c r := by
  unfold startC startD
  rw [if_neg h1, if_neg h2]
def othersL : List Int := [120, 88, 68, 67, 89, 115, 83, 74, 112, 80, 105, 73, 97, 65, 111, 79, 46, 117, 18, 118, 86, 22, 110, 78, 59, 44, 58, 47, 63, 82, 126, 15, 9, 5, 25, 4, 21, 12, 27]
def visualL : List Int := [111, 79, 117, 18, 118, 86, 22, 110, 78, 59, 44, 58, 47, 63, 15, 9, 5, 25, 4, 21, 12, 27]
abbrev sOps : ByteArray := ⟨#[100, 99, 121, 60, 62]⟩
abbrev sAt : ByteArray := ⟨#[126, 117, 85, 120, 68, 88, 115, 83, 67, 89, 74, 112]⟩
abbrev sTurn : ByteArray := ⟨#[126, 117, 85]⟩
abbrev sOth : ByteArray := ⟨#[120, 88, 68, 67, 89, 115, 83, 74, 112, 80, 105, 73, 97, 65, 111, 79, 46, 117, 18, 118, 86, 22, 110, 78, 59, 44, 58, 47, 63, 82, 126, 15, 9, 5, 25, 4, 21, 12, 27]⟩
abbrev sVis : ByteArray := ⟨#[111, 79, 117, 18, 118, 86, 22, 110, 78, 59, 44, 58, 47, 63, 15, 9, 5, 25, 4, 21, 12, 27]⟩
theorem oth_in : ∀ r ∈ othersL, r ∈ commandsL ∨ ((¬ (r ∈ finds ∨ r ∈ marks)) ∧ r ≠ 103 ∧ r ∈ motionsL) := by decide
theorem oth_out : ∀ r ∈ commandsL, r ∈ othersL := by decide
theorem vis_in : ∀ r ∈ visualL, r ∈ atOnceL ∨ r ∈ inVisL ∨ ((¬ (r ∈ finds ∨ r ∈ marks)) ∧ r ≠ 103 ∧ r ∈ motionsL) := by decide
theorem vis_out : ∀ r ∈ inVisL, r ∈ visualL := by decide
theorem motion_key {c : Cmd} {r : Int} (h : (¬ (r ∈ finds ∨ r ∈ marks)) ∧ r ≠ 103 ∧ r ∈ motionsL) : motionM c r = (.ended, { c with key := r }) := by
  unfold motionM
  rw [if_neg h.1, if_neg h.2.1, if_pos h.2.2]
section
variable {c : Cmd} {r : Int}
theorem sd_ops1 (h : r ∈ opsL) : startD true c r = (.ended, { c with op := r }) := by unfold startD; rw [if_pos (.inl h)]; rfl
theorem sd_ops0 (h : r ∈ opsL) : startD false c r = (.after, { c with op := r }) := by unfold startD; rw [if_pos (.inl h)]; rfl
theorem sd_at (h : r ∈ atOnceL) : startD true c r = (.ended, { c with op := r }) := by unfold startD; rw [if_pos (.inr ⟨rfl, h⟩)]; rfl
theorem sd_obj (h1 : r ∉ opsL) (h2 : r ∉ atOnceL) (h : r = 105 ∨ r = 97) : startD true c r = (.obj, { c with pre := r }) := by
  unfold startD; rw [if_neg (fun e => e.elim h1 fun e => h2 e.2), if_pos ⟨rfl, h⟩]
theorem sd_r1 (h1 : r ∉ opsL) (h2 : r ∉ atOnceL) (h3 : ¬ (r = 105 ∨ r = 97)) (h : r = 114) : startD true c r = (.arg, { c with op := r }) := by
  unfold startD; rw [if_neg (fun e => e.elim h1 fun e => h2 e.2), if_neg (fun e => h3 e.2), if_pos ⟨h, rfl⟩]
theorem sd_m1 (h1 : r ∉ opsL) (h2 : r ∉ atOnceL) (h3 : ¬ (r = 105 ∨ r = 97)) (h4 : ¬ r = 114) (h : r = 109) : startD true c r = (.arg, { c with key := r }) := by
  unfold startD; rw [if_neg (fun e => e.elim h1 fun e => h2 e.2), if_neg (fun e => h3 e.2), if_neg (fun e => h4 e.1), if_pos (.inr h)]
theorem sd_z1 (h1 : r ∉ opsL) (h2 : r ∉ atOnceL) (h3 : ¬ (r = 105 ∨ r = 97)) (h4 : ¬ r = 114) (h5 : ¬ r = 109) (h : r = 122 ∨ r = 23) : startD true c r = (.key, { c with pre := r }) := by
  unfold startD; rw [if_neg (fun e => e.elim h1 fun e => h2 e.2), if_neg (fun e => h3 e.2), if_neg (fun e => h4 e.1), if_neg (fun e => e.elim h4 h5), if_pos h]
theorem sd_v1 (h1 : r ∉ opsL) (h2 : r ∉ atOnceL) (h3 : ¬ (r = 105 ∨ r = 97)) (h4 : ¬ r = 114) (h5 : ¬ r = 109) (h6 : ¬ (r = 122 ∨ r = 23)) : startD true c r = if r ∈ visualL then (.ended, { c with key := r }) else motionM c r := by
  unfold startD; rw [if_neg (fun e => e.elim h1 fun e => h2 e.2), if_neg (fun e => h3 e.2), if_neg (fun e => h4 e.1), if_neg (fun e => e.elim h4 h5), if_neg h6]
  by_cases h : r ∈ visualL
  · rw [if_pos h]
    rcases vis_in r h with e | e | e
    · exact absurd e h2
    · rw [if_pos (.inr ⟨rfl, e⟩)]
    · rw [motion_key e]; split <;> rfl
  · rw [if_neg h, if_neg]
    exact fun e => e.elim (fun e => Bool.noConfusion e.1) fun e => h (vis_out r e.2)
theorem sd_m0 (h1 : r ∉ opsL) (h : r = 114 ∨ r = 109) : startD false c r = (.arg, { c with key := r }) := by
  unfold startD; rw [if_neg (fun e => e.elim h1 fun e => Bool.noConfusion e.1), if_neg (fun e => Bool.noConfusion e.1), if_neg (fun e => Bool.noConfusion e.2), if_pos h]
theorem sd_z0 (h1 : r ∉ opsL) (h4 : ¬ (r = 114 ∨ r = 109)) (h : r = 122 ∨ r = 23) : startD false c r = (.key, { c with pre := r }) := by
  unfold startD; rw [if_neg (fun e => e.elim h1 fun e => Bool.noConfusion e.1), if_neg (fun e => Bool.noConfusion e.1), if_neg (fun e => Bool.noConfusion e.2), if_neg h4, if_pos h]
theorem sd_v0 (h1 : r ∉ opsL) (h4 : ¬ (r = 114 ∨ r = 109)) (h6 : ¬ (r = 122 ∨ r = 23)) : startD false c r = if r ∈ othersL then (.ended, { c with key := r }) else motionM c r := by
  unfold startD; rw [if_neg (fun e => e.elim h1 fun e => Bool.noConfusion e.1), if_neg (fun e => Bool.noConfusion e.1), if_neg (fun e => Bool.noConfusion e.2), if_neg h4, if_neg h6]
  by_cases h : r ∈ othersL
  · rw [if_pos h]
    rcases oth_in r h with e | e
    · rw [if_pos (.inl ⟨rfl, e⟩)]
    · rw [motion_key e]; split <;> rfl
  · rw [if_neg h, if_neg]
    exact fun e => e.elim (fun e => h (oth_out r e.2)) fun e => Bool.noConfusion e.1
end
section
variable {w B : World} {K : Nat → Prop} {F : Nat → Prop} {A : Option Addr} {cp : Nat} {l : List Int} {i : Nat} {c : Cmd} {g4 g6 : Nat}
abbrev ParQ (w : World) (vis : Bool) (t : List Int) (x : Wa × Cmd) (u : Value) (w' : World) : Prop := Kn w w' ∧ u = tupT (contT vis t (x.1, x.2, 0))
set_option maxHeartbeats 16000000 in
theorem parse_tail1 (h : Sl kRune F w (.slice A l.length cp) l) (hi : i < l.length) (hl : l.length ≤ 1000000) :
    ∀ σ', SubB σ' [(0, .slice A l.length cp), (1, .bool true), (4, .pointer (some ⟨g4, 0, none⟩)), (6, .pointer (some ⟨g6, 0, none⟩)), (7, .int .i64 (i : Int)), (9, .int .i32 (l.getD i 0))] → ∀ M', MSub [(g6, cb (cmdL c) 43), (g4, cb (cmdL cmd0) 43)] M' → WL Try.prog Try.f25 (.code (bodyC Try.f25 [1, 1, 1, 1, 1, 1, 1, 0, 0, 1, 1, 1, 1]) :: .inBlock 2 :: .code (bodyC Try.f25 [1, 1, 1, 1, 1, 1, 1, 1]) :: []) σ' w (fun _ => False) B K M' (ParQ w true (l.drop (i + 1)) (startD true c (l.getD i 0))) := by
  intro σ' hs M' hM
  refine WL.sub hs hM ?_
  obtain ⟨A', c', ad, e, hX⟩ := h.rns
  cases e
  repeat(first|refine lrun_ ?_|(refine lo_boxA rfl rfl ?_;intro _ _ _)|(refine lo_box1 rfl rfl rfl ?_;intro _ _ _)|(refine lo_alloc rfl ?_;intro _ _ _))
  by_cases h1 : l.getD i 0 ∈ opsL
  · rw [sd_ops1 h1]
    refine lo_call (v := .bool true) (n_call rfl) rfl (fun w' hw => in_lit sOps opsL rfl (by decide) (by decide) (decide_eq_true h1)) ?_
    repeat(first|refine lrun_ ?_|(refine lo_boxA rfl rfl ?_;intro _ _ _)|(refine lo_box1 rfl rfl rfl ?_;intro _ _ _)|(refine lo_alloc rfl ?_;intro _ _ _))
    refine l_true rfl ?_
    repeat(first|refine lrun_ ?_|(refine lo_boxA rfl rfl ?_;intro _ _ _)|(refine lo_box1 rfl rfl rfl ?_;intro _ _ _)|(refine lo_alloc rfl ?_;intro _ _ _))
    refine lo_call (n_call rfl) rfl (fun w' hw => end_calls (i := i) (c := { c with op := l.getD i 0 }) (Kn.sl hw.org h) hi hl) ?_
    repeat(first|refine lrun_ ?_|(refine lo_boxA rfl rfl ?_;intro _ _ _)|(refine lo_box1 rfl rfl rfl ?_;intro _ _ _)|(refine lo_alloc rfl ?_;intro _ _ _))
    exact l_retR2 rfl (by repeat(first|exact LRes.nil|refine LRes.tmp rfl ?_|refine LRes.agg rfl (by(repeat(first|exact MIn.hd|refine MIn.tl ?_));done) (by rfl) (by rfl) ?_|refine LRes.one rfl (by(repeat(first|exact MIn.hd|refine MIn.tl ?_));done) (by rfl) ?_)) fun w' hw => ⟨hw.org, rfl⟩
  refine lo_call (v := .bool false) (n_call rfl) rfl (fun w' hw => in_lit sOps opsL rfl (by decide) (by decide) (decide_eq_false h1)) ?_
  repeat(first|refine lrun_ ?_|(refine lo_boxA rfl rfl ?_;intro _ _ _)|(refine lo_box1 rfl rfl rfl ?_;intro _ _ _)|(refine lo_alloc rfl ?_;intro _ _ _))
  by_cases h2 : l.getD i 0 ∈ atOnceL
  · rw [sd_at h2]
    refine lo_call (v := .bool true) (n_call rfl) rfl (fun w' hw => in_lit sAt atOnceL rfl (by decide) (by decide) (decide_eq_true h2)) ?_
    repeat(first|refine lrun_ ?_|(refine lo_boxA rfl rfl ?_;intro _ _ _)|(refine lo_box1 rfl rfl rfl ?_;intro _ _ _)|(refine lo_alloc rfl ?_;intro _ _ _))
    refine l_true rfl ?_
    repeat(first|refine lrun_ ?_|(refine lo_boxA rfl rfl ?_;intro _ _ _)|(refine lo_box1 rfl rfl rfl ?_;intro _ _ _)|(refine lo_alloc rfl ?_;intro _ _ _))
    refine lo_call (n_call rfl) rfl (fun w' hw => end_calls (i := i) (c := { c with op := l.getD i 0 }) (Kn.sl hw.org h) hi hl) ?_
    repeat(first|refine lrun_ ?_|(refine lo_boxA rfl rfl ?_;intro _ _ _)|(refine lo_box1 rfl rfl rfl ?_;intro _ _ _)|(refine lo_alloc rfl ?_;intro _ _ _))
    exact l_retR2 rfl (by repeat(first|exact LRes.nil|refine LRes.tmp rfl ?_|refine LRes.agg rfl (by(repeat(first|exact MIn.hd|refine MIn.tl ?_));done) (by rfl) (by rfl) ?_|refine LRes.one rfl (by(repeat(first|exact MIn.hd|refine MIn.tl ?_));done) (by rfl) ?_)) fun w' hw => ⟨hw.org, rfl⟩
  refine lo_call (v := .bool false) (n_call rfl) rfl (fun w' hw => in_lit sAt atOnceL rfl (by decide) (by decide) (decide_eq_false h2)) ?_
  repeat(first|refine lrun_ ?_|(refine lo_boxA rfl rfl ?_;intro _ _ _)|(refine lo_box1 rfl rfl rfl ?_;intro _ _ _)|(refine lo_alloc rfl ?_;intro _ _ _))
  refine l_false rfl ?_
  repeat(first|refine lrun_ ?_|(refine lo_boxA rfl rfl ?_;intro _ _ _)|(refine lo_box1 rfl rfl rfl ?_;intro _ _ _)|(refine lo_alloc rfl ?_;intro _ _ _))
  refine lo_call (v := .bool false) (n_call rfl) rfl (fun w' hw => in_lit sOps opsL rfl (by decide) (by decide) (decide_eq_false h1)) ?_
  repeat(first|refine lrun_ ?_|(refine lo_boxA rfl rfl ?_;intro _ _ _)|(refine lo_box1 rfl rfl rfl ?_;intro _ _ _)|(refine lo_alloc rfl ?_;intro _ _ _))
  refine l_false rfl ?_
  by_cases h3 : l.getD i 0 = 105
  · rw [sd_obj h1 h2 (.inl h3)]
    repeat(first|refine lrun_ ?_|(refine lo_boxA rfl rfl ?_;intro _ _ _)|(refine lo_box1 rfl rfl rfl ?_;intro _ _ _)|(refine lo_alloc rfl ?_;intro _ _ _))
    refine l_true rfl ?_
    repeat(first|refine lrun_ ?_|(refine lo_boxA rfl rfl ?_;intro _ _ _)|(refine lo_box1 rfl rfl rfl ?_;intro _ _ _)|(refine lo_alloc rfl ?_;intro _ _ _))
    refine lo_call (n_call rfl) rfl (fun w' hw => object_callsR (vis := true) (x := 0) (i := i) (c := c) (Kn.sl hw.org h) hi hl) ?_
    repeat(first|refine lrun_ ?_|(refine lo_boxA rfl rfl ?_;intro _ _ _)|(refine lo_box1 rfl rfl rfl ?_;intro _ _ _)|(refine lo_alloc rfl ?_;intro _ _ _))
    exact l_retR2 rfl (by repeat(first|exact LRes.nil|refine LRes.tmp rfl ?_|refine LRes.agg rfl (by(repeat(first|exact MIn.hd|refine MIn.tl ?_));done) (by rfl) (by rfl) ?_|refine LRes.one rfl (by(repeat(first|exact MIn.hd|refine MIn.tl ?_));done) (by rfl) ?_)) fun w' hw => ⟨hw.org, rfl⟩
  by_cases h3' : l.getD i 0 = 97
  · rw [sd_obj h1 h2 (.inr h3')]
    repeat(first|refine lrun_ ?_|(refine lo_boxA rfl rfl ?_;intro _ _ _)|(refine lo_box1 rfl rfl rfl ?_;intro _ _ _)|(refine lo_alloc rfl ?_;intro _ _ _))
    refine l_yes rfl h3' ?_
    repeat(first|refine lrun_ ?_|(refine lo_boxA rfl rfl ?_;intro _ _ _)|(refine lo_box1 rfl rfl rfl ?_;intro _ _ _)|(refine lo_alloc rfl ?_;intro _ _ _))
    refine lo_call (n_call rfl) rfl (fun w' hw => object_callsR (vis := true) (x := 0) (i := i) (c := c) (Kn.sl hw.org h) hi hl) ?_
    repeat(first|refine lrun_ ?_|(refine lo_boxA rfl rfl ?_;intro _ _ _)|(refine lo_box1 rfl rfl rfl ?_;intro _ _ _)|(refine lo_alloc rfl ?_;intro _ _ _))
    exact l_retR2 rfl (by repeat(first|exact LRes.nil|refine LRes.tmp rfl ?_|refine LRes.agg rfl (by(repeat(first|exact MIn.hd|refine MIn.tl ?_));done) (by rfl) (by rfl) ?_|refine LRes.one rfl (by(repeat(first|exact MIn.hd|refine MIn.tl ?_));done) (by rfl) ?_)) fun w' hw => ⟨hw.org, rfl⟩
  have h3n : ¬ (l.getD i 0 = 105 ∨ l.getD i 0 = 97) := fun e => e.elim h3 h3'
  repeat(first|refine lrun_ ?_|(refine lo_boxA rfl rfl ?_;intro _ _ _)|(refine lo_box1 rfl rfl rfl ?_;intro _ _ _)|(refine lo_alloc rfl ?_;intro _ _ _))
  refine l_no rfl h3' ?_
  by_cases h4 : l.getD i 0 = 114
  · rw [sd_r1 h1 h2 h3n h4]
    repeat(first|refine lrun_ ?_|(refine lo_boxA rfl rfl ?_;intro _ _ _)|(refine lo_box1 rfl rfl rfl ?_;intro _ _ _)|(refine lo_alloc rfl ?_;intro _ _ _))
    refine l_yes rfl h4 ?_
    repeat(first|refine lrun_ ?_|(refine lo_boxA rfl rfl ?_;intro _ _ _)|(refine lo_box1 rfl rfl rfl ?_;intro _ _ _)|(refine lo_alloc rfl ?_;intro _ _ _))
    refine lo_call (n_call rfl) rfl (fun w' hw => arg_calls (vis := true) (x := 0) (i := i + 1) (c := { c with op := l.getD i 0 }) (Kn.sl hw.org h) (by omega) hl) ?_
    repeat(first|refine lrun_ ?_|(refine lo_boxA rfl rfl ?_;intro _ _ _)|(refine lo_box1 rfl rfl rfl ?_;intro _ _ _)|(refine lo_alloc rfl ?_;intro _ _ _))
    exact l_retR2 rfl (by repeat(first|exact LRes.nil|refine LRes.tmp rfl ?_|refine LRes.agg rfl (by(repeat(first|exact MIn.hd|refine MIn.tl ?_));done) (by rfl) (by rfl) ?_|refine LRes.one rfl (by(repeat(first|exact MIn.hd|refine MIn.tl ?_));done) (by rfl) ?_)) fun w' hw => ⟨hw.org, rfl⟩
  repeat(first|refine lrun_ ?_|(refine lo_boxA rfl rfl ?_;intro _ _ _)|(refine lo_box1 rfl rfl rfl ?_;intro _ _ _)|(refine lo_alloc rfl ?_;intro _ _ _))
  refine l_no rfl h4 ?_
  by_cases h5 : l.getD i 0 = 109
  · rw [sd_m1 h1 h2 h3n h4 h5]
    repeat(first|refine lrun_ ?_|(refine lo_boxA rfl rfl ?_;intro _ _ _)|(refine lo_box1 rfl rfl rfl ?_;intro _ _ _)|(refine lo_alloc rfl ?_;intro _ _ _))
    refine l_yes rfl h5 ?_
    repeat(first|refine lrun_ ?_|(refine lo_boxA rfl rfl ?_;intro _ _ _)|(refine lo_box1 rfl rfl rfl ?_;intro _ _ _)|(refine lo_alloc rfl ?_;intro _ _ _))
    refine lo_call (n_call rfl) rfl (fun w' hw => arg_calls (vis := true) (x := 0) (i := i + 1) (c := { c with key := l.getD i 0 }) (Kn.sl hw.org h) (by omega) hl) ?_
    repeat(first|refine lrun_ ?_|(refine lo_boxA rfl rfl ?_;intro _ _ _)|(refine lo_box1 rfl rfl rfl ?_;intro _ _ _)|(refine lo_alloc rfl ?_;intro _ _ _))
    exact l_retR2 rfl (by repeat(first|exact LRes.nil|refine LRes.tmp rfl ?_|refine LRes.agg rfl (by(repeat(first|exact MIn.hd|refine MIn.tl ?_));done) (by rfl) (by rfl) ?_|refine LRes.one rfl (by(repeat(first|exact MIn.hd|refine MIn.tl ?_));done) (by rfl) ?_)) fun w' hw => ⟨hw.org, rfl⟩
  repeat(first|refine lrun_ ?_|(refine lo_boxA rfl rfl ?_;intro _ _ _)|(refine lo_box1 rfl rfl rfl ?_;intro _ _ _)|(refine lo_alloc rfl ?_;intro _ _ _))
  refine l_no rfl h5 ?_
  by_cases h6 : l.getD i 0 = 122
  · rw [sd_z1 h1 h2 h3n h4 h5 (.inl h6)]
    repeat(first|refine lrun_ ?_|(refine lo_boxA rfl rfl ?_;intro _ _ _)|(refine lo_box1 rfl rfl rfl ?_;intro _ _ _)|(refine lo_alloc rfl ?_;intro _ _ _))
    refine l_true rfl ?_
    repeat(first|refine lrun_ ?_|(refine lo_boxA rfl rfl ?_;intro _ _ _)|(refine lo_box1 rfl rfl rfl ?_;intro _ _ _)|(refine lo_alloc rfl ?_;intro _ _ _))
    by_cases hz : i + 1 = l.length
    · refine l_yes rfl (by omega) ?_
      repeat(first|refine lrun_ ?_|(refine lo_boxA rfl rfl ?_;intro _ _ _)|(refine lo_box1 rfl rfl rfl ?_;intro _ _ _)|(refine lo_alloc rfl ?_;intro _ _ _))
      refine l_retR2 rfl (by repeat(first|exact LRes.nil|refine LRes.tmp rfl ?_|refine LRes.agg rfl (by(repeat(first|exact MIn.hd|refine MIn.tl ?_));done) (by rfl) (by rfl) ?_|refine LRes.one rfl (by(repeat(first|exact MIn.hd|refine MIn.tl ?_));done) (by rfl) ?_)) fun w' hw => ⟨hw.org, ?_⟩
      show _ = tupT (runT true (l.drop (i + 1)) .key _ 0)
      rw [run_end (by omega)]
      rfl
    · have hlt : i + 1 < l.length := by omega
      have e1 : contT true (l.drop (i + 1)) (.key, { c with pre := l.getD i 0 }, 0) = contT true (l.drop (i + 1 + 1)) (takeM .key true { c with pre := l.getD i 0 } 0 (l.getD (i + 1) 0)) := run_at hlt
      rw [take_key] at e1
      refine l_no rfl (by omega) ?_
      refine l_go .skip ?_
      repeat(first|refine lrun_ ?_|(refine lo_boxA rfl rfl ?_;intro _ _ _)|(refine lo_box1 rfl rfl rfl ?_;intro _ _ _)|(refine lo_alloc rfl ?_;intro _ _ _))
      by_cases hq : l.getD (i + 1) 0 = 27
      · rw [if_pos hq, cont_none] at e1
        refine l_yes rfl hq ?_
        repeat(first|refine lrun_ ?_|(refine lo_boxA rfl rfl ?_;intro _ _ _)|(refine lo_box1 rfl rfl rfl ?_;intro _ _ _)|(refine lo_alloc rfl ?_;intro _ _ _))
        refine l_retR2 rfl (by repeat(first|exact LRes.nil|refine LRes.tmp rfl ?_|refine LRes.agg rfl (by(repeat(first|exact MIn.hd|refine MIn.tl ?_));done) (by rfl) (by rfl) ?_|refine LRes.one rfl (by(repeat(first|exact MIn.hd|refine MIn.tl ?_));done) (by rfl) ?_)) fun w' hw => ⟨hw.org, ?_⟩
        show _ = tupT (contT true (l.drop (i + 1)) (.key, { c with pre := l.getD i 0 }, 0))
        rw [e1]
        rfl
      · rw [if_neg hq, cont_end] at e1
        refine l_no rfl hq ?_
        refine l_go .skip ?_
        repeat(first|refine lrun_ ?_|(refine lo_boxA rfl rfl ?_;intro _ _ _)|(refine lo_box1 rfl rfl rfl ?_;intro _ _ _)|(refine lo_alloc rfl ?_;intro _ _ _))
        refine lo_call (n_call rfl) rfl (fun w' hw => end_calls (i := i + 1) (c := { c with pre := l.getD i 0, key := l.getD (i + 1) 0 }) (Kn.sl hw.org h) hlt hl) ?_
        repeat(first|refine lrun_ ?_|(refine lo_boxA rfl rfl ?_;intro _ _ _)|(refine lo_box1 rfl rfl rfl ?_;intro _ _ _)|(refine lo_alloc rfl ?_;intro _ _ _))
        refine l_retR2 rfl (by repeat(first|exact LRes.nil|refine LRes.tmp rfl ?_|refine LRes.agg rfl (by(repeat(first|exact MIn.hd|refine MIn.tl ?_));done) (by rfl) (by rfl) ?_|refine LRes.one rfl (by(repeat(first|exact MIn.hd|refine MIn.tl ?_));done) (by rfl) ?_)) fun w' hw => ⟨hw.org, ?_⟩
        show _ = tupT (contT true (l.drop (i + 1)) (.key, { c with pre := l.getD i 0 }, 0))
        rw [e1]
        rfl
  by_cases h6' : l.getD i 0 = 23
  · rw [sd_z1 h1 h2 h3n h4 h5 (.inr h6')]
    repeat(first|refine lrun_ ?_|(refine lo_boxA rfl rfl ?_;intro _ _ _)|(refine lo_box1 rfl rfl rfl ?_;intro _ _ _)|(refine lo_alloc rfl ?_;intro _ _ _))
    refine l_yes rfl h6' ?_
    repeat(first|refine lrun_ ?_|(refine lo_boxA rfl rfl ?_;intro _ _ _)|(refine lo_box1 rfl rfl rfl ?_;intro _ _ _)|(refine lo_alloc rfl ?_;intro _ _ _))
    by_cases hz : i + 1 = l.length
    · refine l_yes rfl (by omega) ?_
      repeat(first|refine lrun_ ?_|(refine lo_boxA rfl rfl ?_;intro _ _ _)|(refine lo_box1 rfl rfl rfl ?_;intro _ _ _)|(refine lo_alloc rfl ?_;intro _ _ _))
      refine l_retR2 rfl (by repeat(first|exact LRes.nil|refine LRes.tmp rfl ?_|refine LRes.agg rfl (by(repeat(first|exact MIn.hd|refine MIn.tl ?_));done) (by rfl) (by rfl) ?_|refine LRes.one rfl (by(repeat(first|exact MIn.hd|refine MIn.tl ?_));done) (by rfl) ?_)) fun w' hw => ⟨hw.org, ?_⟩
      show _ = tupT (runT true (l.drop (i + 1)) .key _ 0)
      rw [run_end (by omega)]
      rfl
    · have hlt : i + 1 < l.length := by omega
      have e1 : contT true (l.drop (i + 1)) (.key, { c with pre := l.getD i 0 }, 0) = contT true (l.drop (i + 1 + 1)) (takeM .key true { c with pre := l.getD i 0 } 0 (l.getD (i + 1) 0)) := run_at hlt
      rw [take_key] at e1
      refine l_no rfl (by omega) ?_
      refine l_go .skip ?_
      repeat(first|refine lrun_ ?_|(refine lo_boxA rfl rfl ?_;intro _ _ _)|(refine lo_box1 rfl rfl rfl ?_;intro _ _ _)|(refine lo_alloc rfl ?_;intro _ _ _))
      by_cases hq : l.getD (i + 1) 0 = 27
      · rw [if_pos hq, cont_none] at e1
        refine l_yes rfl hq ?_
        repeat(first|refine lrun_ ?_|(refine lo_boxA rfl rfl ?_;intro _ _ _)|(refine lo_box1 rfl rfl rfl ?_;intro _ _ _)|(refine lo_alloc rfl ?_;intro _ _ _))
        refine l_retR2 rfl (by repeat(first|exact LRes.nil|refine LRes.tmp rfl ?_|refine LRes.agg rfl (by(repeat(first|exact MIn.hd|refine MIn.tl ?_));done) (by rfl) (by rfl) ?_|refine LRes.one rfl (by(repeat(first|exact MIn.hd|refine MIn.tl ?_));done) (by rfl) ?_)) fun w' hw => ⟨hw.org, ?_⟩
        show _ = tupT (contT true (l.drop (i + 1)) (.key, { c with pre := l.getD i 0 }, 0))
        rw [e1]
        rfl
      · rw [if_neg hq, cont_end] at e1
        refine l_no rfl hq ?_
        refine l_go .skip ?_
        repeat(first|refine lrun_ ?_|(refine lo_boxA rfl rfl ?_;intro _ _ _)|(refine lo_box1 rfl rfl rfl ?_;intro _ _ _)|(refine lo_alloc rfl ?_;intro _ _ _))
        refine lo_call (n_call rfl) rfl (fun w' hw => end_calls (i := i + 1) (c := { c with pre := l.getD i 0, key := l.getD (i + 1) 0 }) (Kn.sl hw.org h) hlt hl) ?_
        repeat(first|refine lrun_ ?_|(refine lo_boxA rfl rfl ?_;intro _ _ _)|(refine lo_box1 rfl rfl rfl ?_;intro _ _ _)|(refine lo_alloc rfl ?_;intro _ _ _))
        refine l_retR2 rfl (by repeat(first|exact LRes.nil|refine LRes.tmp rfl ?_|refine LRes.agg rfl (by(repeat(first|exact MIn.hd|refine MIn.tl ?_));done) (by rfl) (by rfl) ?_|refine LRes.one rfl (by(repeat(first|exact MIn.hd|refine MIn.tl ?_));done) (by rfl) ?_)) fun w' hw => ⟨hw.org, ?_⟩
        show _ = tupT (contT true (l.drop (i + 1)) (.key, { c with pre := l.getD i 0 }, 0))
        rw [e1]
        rfl
  have h6n : ¬ (l.getD i 0 = 122 ∨ l.getD i 0 = 23) := fun e => e.elim h6 h6'
  rw [sd_v1 h1 h2 h3n h4 h5 h6n]
  repeat(first|refine lrun_ ?_|(refine lo_boxA rfl rfl ?_;intro _ _ _)|(refine lo_box1 rfl rfl rfl ?_;intro _ _ _)|(refine lo_alloc rfl ?_;intro _ _ _))
  refine l_no rfl h6' ?_
  by_cases h7 : l.getD i 0 ∈ visualL
  · rw [if_pos h7]
    repeat(first|refine lrun_ ?_|(refine lo_boxA rfl rfl ?_;intro _ _ _)|(refine lo_box1 rfl rfl rfl ?_;intro _ _ _)|(refine lo_alloc rfl ?_;intro _ _ _))
    refine lo_call (v := .bool true) (n_call rfl) rfl (fun w' hw => in_lit sVis visualL rfl (by decide) (by decide) (decide_eq_true h7)) ?_
    repeat(first|refine lrun_ ?_|(refine lo_boxA rfl rfl ?_;intro _ _ _)|(refine lo_box1 rfl rfl rfl ?_;intro _ _ _)|(refine lo_alloc rfl ?_;intro _ _ _))
    refine l_true rfl ?_
    repeat(first|refine lrun_ ?_|(refine lo_boxA rfl rfl ?_;intro _ _ _)|(refine lo_box1 rfl rfl rfl ?_;intro _ _ _)|(refine lo_alloc rfl ?_;intro _ _ _))
    refine lo_call (n_call rfl) rfl (fun w' hw => end_calls (i := i) (c := { c with key := l.getD i 0 }) (Kn.sl hw.org h) hi hl) ?_
    repeat(first|refine lrun_ ?_|(refine lo_boxA rfl rfl ?_;intro _ _ _)|(refine lo_box1 rfl rfl rfl ?_;intro _ _ _)|(refine lo_alloc rfl ?_;intro _ _ _))
    exact l_retR2 rfl (by repeat(first|exact LRes.nil|refine LRes.tmp rfl ?_|refine LRes.agg rfl (by(repeat(first|exact MIn.hd|refine MIn.tl ?_));done) (by rfl) (by rfl) ?_|refine LRes.one rfl (by(repeat(first|exact MIn.hd|refine MIn.tl ?_));done) (by rfl) ?_)) fun w' hw => ⟨hw.org, rfl⟩
  · rw [if_neg h7]
    repeat(first|refine lrun_ ?_|(refine lo_boxA rfl rfl ?_;intro _ _ _)|(refine lo_box1 rfl rfl rfl ?_;intro _ _ _)|(refine lo_alloc rfl ?_;intro _ _ _))
    refine lo_call (v := .bool false) (n_call rfl) rfl (fun w' hw => in_lit sVis visualL rfl (by decide) (by decide) (decide_eq_false h7)) ?_
    repeat(first|refine lrun_ ?_|(refine lo_boxA rfl rfl ?_;intro _ _ _)|(refine lo_box1 rfl rfl rfl ?_;intro _ _ _)|(refine lo_alloc rfl ?_;intro _ _ _))
    refine l_false rfl ?_
    refine l_go .skip ?_
    repeat(first|refine lrun_ ?_|(refine lo_boxA rfl rfl ?_;intro _ _ _)|(refine lo_box1 rfl rfl rfl ?_;intro _ _ _)|(refine lo_alloc rfl ?_;intro _ _ _))
    refine lo_call (n_call rfl) rfl (fun w' hw => motion_callsR (vis := true) (x := 0) (i := i) (c := c) (Kn.sl hw.org h) hi hl) ?_
    repeat(first|refine lrun_ ?_|(refine lo_boxA rfl rfl ?_;intro _ _ _)|(refine lo_box1 rfl rfl rfl ?_;intro _ _ _)|(refine lo_alloc rfl ?_;intro _ _ _))
    exact l_retR2 rfl (by repeat(first|exact LRes.nil|refine LRes.tmp rfl ?_|refine LRes.agg rfl (by(repeat(first|exact MIn.hd|refine MIn.tl ?_));done) (by rfl) (by rfl) ?_|refine LRes.one rfl (by(repeat(first|exact MIn.hd|refine MIn.tl ?_));done) (by rfl) ?_)) fun w' hw => ⟨hw.org, rfl⟩
set_option maxHeartbeats 16000000 in
theorem parse_tail0 (h : Sl kRune F w (.slice A l.length cp) l) (hi : i < l.length) (hl : l.length ≤ 1000000) (hc : 0 ≤ c.count ∧ c.count ≤ 2147483647) :
    ∀ σ', SubB σ' [(0, .slice A l.length cp), (1, .bool false), (4, .pointer (some ⟨g4, 0, none⟩)), (6, .pointer (some ⟨g6, 0, none⟩)), (7, .int .i64 (i : Int)), (9, .int .i32 (l.getD i 0))] → ∀ M', MSub [(g6, cb (cmdL c) 43), (g4, cb (cmdL cmd0) 43)] M' → WL Try.prog Try.f25 (.code (bodyC Try.f25 [1, 1, 1, 1, 1, 1, 1, 0, 0, 1, 1, 1, 1]) :: .inBlock 2 :: .code (bodyC Try.f25 [1, 1, 1, 1, 1, 1, 1, 1]) :: []) σ' w (fun _ => False) B K M' (ParQ w false (l.drop (i + 1)) (startD false c (l.getD i 0))) := by
  intro σ' hs M' hM
  refine WL.sub hs hM ?_
  obtain ⟨A', c', ad, e, hX⟩ := h.rns
  cases e
  repeat(first|refine lrun_ ?_|(refine lo_boxA rfl rfl ?_;intro _ _ _)|(refine lo_box1 rfl rfl rfl ?_;intro _ _ _)|(refine lo_alloc rfl ?_;intro _ _ _))
  refine l_false rfl ?_
  repeat(first|refine lrun_ ?_|(refine lo_boxA rfl rfl ?_;intro _ _ _)|(refine lo_box1 rfl rfl rfl ?_;intro _ _ _)|(refine lo_alloc rfl ?_;intro _ _ _))
  by_cases h1 : l.getD i 0 ∈ opsL
  · rw [sd_ops0 h1]
    refine lo_call (v := .bool true) (n_call rfl) rfl (fun w' hw => in_lit sOps opsL rfl (by decide) (by decide) (decide_eq_true h1)) ?_
    repeat(first|refine lrun_ ?_|(refine lo_boxA rfl rfl ?_;intro _ _ _)|(refine lo_box1 rfl rfl rfl ?_;intro _ _ _)|(refine lo_alloc rfl ?_;intro _ _ _))
    refine l_true rfl ?_
    repeat(first|refine lrun_ ?_|(refine lo_boxA rfl rfl ?_;intro _ _ _)|(refine lo_box1 rfl rfl rfl ?_;intro _ _ _)|(refine lo_alloc rfl ?_;intro _ _ _))
    refine lo_call (n_call rfl) rfl (fun w' hw => target_callsR (vis := false) (i := i + 1) (c := { c with op := l.getD i 0 }) (Kn.sl hw.org h) (by omega) hl hc) ?_
    repeat(first|refine lrun_ ?_|(refine lo_boxA rfl rfl ?_;intro _ _ _)|(refine lo_box1 rfl rfl rfl ?_;intro _ _ _)|(refine lo_alloc rfl ?_;intro _ _ _))
    exact l_retR2 rfl (by repeat(first|exact LRes.nil|refine LRes.tmp rfl ?_|refine LRes.agg rfl (by(repeat(first|exact MIn.hd|refine MIn.tl ?_));done) (by rfl) (by rfl) ?_|refine LRes.one rfl (by(repeat(first|exact MIn.hd|refine MIn.tl ?_));done) (by rfl) ?_)) fun w' hw => ⟨hw.org, rfl⟩
  refine lo_call (v := .bool false) (n_call rfl) rfl (fun w' hw => in_lit sOps opsL rfl (by decide) (by decide) (decide_eq_false h1)) ?_
  repeat(first|refine lrun_ ?_|(refine lo_boxA rfl rfl ?_;intro _ _ _)|(refine lo_box1 rfl rfl rfl ?_;intro _ _ _)|(refine lo_alloc rfl ?_;intro _ _ _))
  refine l_false rfl ?_
  repeat(first|refine lrun_ ?_|(refine lo_boxA rfl rfl ?_;intro _ _ _)|(refine lo_box1 rfl rfl rfl ?_;intro _ _ _)|(refine lo_alloc rfl ?_;intro _ _ _))
  refine l_false rfl ?_
  repeat(first|refine lrun_ ?_|(refine lo_boxA rfl rfl ?_;intro _ _ _)|(refine lo_box1 rfl rfl rfl ?_;intro _ _ _)|(refine lo_alloc rfl ?_;intro _ _ _))
  refine l_false rfl ?_
  by_cases h4 : l.getD i 0 = 114
  · rw [sd_m0 h1 (.inl h4)]
    repeat(first|refine lrun_ ?_|(refine lo_boxA rfl rfl ?_;intro _ _ _)|(refine lo_box1 rfl rfl rfl ?_;intro _ _ _)|(refine lo_alloc rfl ?_;intro _ _ _))
    refine l_true rfl ?_
    repeat(first|refine lrun_ ?_|(refine lo_boxA rfl rfl ?_;intro _ _ _)|(refine lo_box1 rfl rfl rfl ?_;intro _ _ _)|(refine lo_alloc rfl ?_;intro _ _ _))
    refine lo_call (n_call rfl) rfl (fun w' hw => arg_calls (vis := false) (x := 0) (i := i + 1) (c := { c with key := l.getD i 0 }) (Kn.sl hw.org h) (by omega) hl) ?_
    repeat(first|refine lrun_ ?_|(refine lo_boxA rfl rfl ?_;intro _ _ _)|(refine lo_box1 rfl rfl rfl ?_;intro _ _ _)|(refine lo_alloc rfl ?_;intro _ _ _))
    exact l_retR2 rfl (by repeat(first|exact LRes.nil|refine LRes.tmp rfl ?_|refine LRes.agg rfl (by(repeat(first|exact MIn.hd|refine MIn.tl ?_));done) (by rfl) (by rfl) ?_|refine LRes.one rfl (by(repeat(first|exact MIn.hd|refine MIn.tl ?_));done) (by rfl) ?_)) fun w' hw => ⟨hw.org, rfl⟩
  by_cases h5 : l.getD i 0 = 109
  · rw [sd_m0 h1 (.inr h5)]
    repeat(first|refine lrun_ ?_|(refine lo_boxA rfl rfl ?_;intro _ _ _)|(refine lo_box1 rfl rfl rfl ?_;intro _ _ _)|(refine lo_alloc rfl ?_;intro _ _ _))
    refine l_yes rfl h5 ?_
    repeat(first|refine lrun_ ?_|(refine lo_boxA rfl rfl ?_;intro _ _ _)|(refine lo_box1 rfl rfl rfl ?_;intro _ _ _)|(refine lo_alloc rfl ?_;intro _ _ _))
    refine lo_call (n_call rfl) rfl (fun w' hw => arg_calls (vis := false) (x := 0) (i := i + 1) (c := { c with key := l.getD i 0 }) (Kn.sl hw.org h) (by omega) hl) ?_
    repeat(first|refine lrun_ ?_|(refine lo_boxA rfl rfl ?_;intro _ _ _)|(refine lo_box1 rfl rfl rfl ?_;intro _ _ _)|(refine lo_alloc rfl ?_;intro _ _ _))
    exact l_retR2 rfl (by repeat(first|exact LRes.nil|refine LRes.tmp rfl ?_|refine LRes.agg rfl (by(repeat(first|exact MIn.hd|refine MIn.tl ?_));done) (by rfl) (by rfl) ?_|refine LRes.one rfl (by(repeat(first|exact MIn.hd|refine MIn.tl ?_));done) (by rfl) ?_)) fun w' hw => ⟨hw.org, rfl⟩
  have h4n : ¬ (l.getD i 0 = 114 ∨ l.getD i 0 = 109) := fun e => e.elim h4 h5
  repeat(first|refine lrun_ ?_|(refine lo_boxA rfl rfl ?_;intro _ _ _)|(refine lo_box1 rfl rfl rfl ?_;intro _ _ _)|(refine lo_alloc rfl ?_;intro _ _ _))
  refine l_no rfl h5 ?_
  by_cases h6 : l.getD i 0 = 122
  · rw [sd_z0 h1 h4n (.inl h6)]
    repeat(first|refine lrun_ ?_|(refine lo_boxA rfl rfl ?_;intro _ _ _)|(refine lo_box1 rfl rfl rfl ?_;intro _ _ _)|(refine lo_alloc rfl ?_;intro _ _ _))
    refine l_true rfl ?_
    repeat(first|refine lrun_ ?_|(refine lo_boxA rfl rfl ?_;intro _ _ _)|(refine lo_box1 rfl rfl rfl ?_;intro _ _ _)|(refine lo_alloc rfl ?_;intro _ _ _))
    by_cases hz : i + 1 = l.length
    · refine l_yes rfl (by omega) ?_
      repeat(first|refine lrun_ ?_|(refine lo_boxA rfl rfl ?_;intro _ _ _)|(refine lo_box1 rfl rfl rfl ?_;intro _ _ _)|(refine lo_alloc rfl ?_;intro _ _ _))
      refine l_retR2 rfl (by repeat(first|exact LRes.nil|refine LRes.tmp rfl ?_|refine LRes.agg rfl (by(repeat(first|exact MIn.hd|refine MIn.tl ?_));done) (by rfl) (by rfl) ?_|refine LRes.one rfl (by(repeat(first|exact MIn.hd|refine MIn.tl ?_));done) (by rfl) ?_)) fun w' hw => ⟨hw.org, ?_⟩
      show _ = tupT (runT false (l.drop (i + 1)) .key _ 0)
      rw [run_end (by omega)]
      rfl
    · have hlt : i + 1 < l.length := by omega
      have e1 : contT false (l.drop (i + 1)) (.key, { c with pre := l.getD i 0 }, 0) = contT false (l.drop (i + 1 + 1)) (takeM .key false { c with pre := l.getD i 0 } 0 (l.getD (i + 1) 0)) := run_at hlt
      rw [take_key] at e1
      refine l_no rfl (by omega) ?_
      refine l_go .skip ?_
      repeat(first|refine lrun_ ?_|(refine lo_boxA rfl rfl ?_;intro _ _ _)|(refine lo_box1 rfl rfl rfl ?_;intro _ _ _)|(refine lo_alloc rfl ?_;intro _ _ _))
      by_cases hq : l.getD (i + 1) 0 = 27
      · rw [if_pos hq, cont_none] at e1
        refine l_yes rfl hq ?_
        repeat(first|refine lrun_ ?_|(refine lo_boxA rfl rfl ?_;intro _ _ _)|(refine lo_box1 rfl rfl rfl ?_;intro _ _ _)|(refine lo_alloc rfl ?_;intro _ _ _))
        refine l_retR2 rfl (by repeat(first|exact LRes.nil|refine LRes.tmp rfl ?_|refine LRes.agg rfl (by(repeat(first|exact MIn.hd|refine MIn.tl ?_));done) (by rfl) (by rfl) ?_|refine LRes.one rfl (by(repeat(first|exact MIn.hd|refine MIn.tl ?_));done) (by rfl) ?_)) fun w' hw => ⟨hw.org, ?_⟩
        show _ = tupT (contT false (l.drop (i + 1)) (.key, { c with pre := l.getD i 0 }, 0))
        rw [e1]
        rfl
      · rw [if_neg hq, cont_end] at e1
        refine l_no rfl hq ?_
        refine l_go .skip ?_
        repeat(first|refine lrun_ ?_|(refine lo_boxA rfl rfl ?_;intro _ _ _)|(refine lo_box1 rfl rfl rfl ?_;intro _ _ _)|(refine lo_alloc rfl ?_;intro _ _ _))
        refine lo_call (n_call rfl) rfl (fun w' hw => end_calls (i := i + 1) (c := { c with pre := l.getD i 0, key := l.getD (i + 1) 0 }) (Kn.sl hw.org h) hlt hl) ?_
        repeat(first|refine lrun_ ?_|(refine lo_boxA rfl rfl ?_;intro _ _ _)|(refine lo_box1 rfl rfl rfl ?_;intro _ _ _)|(refine lo_alloc rfl ?_;intro _ _ _))
        refine l_retR2 rfl (by repeat(first|exact LRes.nil|refine LRes.tmp rfl ?_|refine LRes.agg rfl (by(repeat(first|exact MIn.hd|refine MIn.tl ?_));done) (by rfl) (by rfl) ?_|refine LRes.one rfl (by(repeat(first|exact MIn.hd|refine MIn.tl ?_));done) (by rfl) ?_)) fun w' hw => ⟨hw.org, ?_⟩
        show _ = tupT (contT false (l.drop (i + 1)) (.key, { c with pre := l.getD i 0 }, 0))
        rw [e1]
        rfl
  by_cases h6' : l.getD i 0 = 23
  · rw [sd_z0 h1 h4n (.inr h6')]
    repeat(first|refine lrun_ ?_|(refine lo_boxA rfl rfl ?_;intro _ _ _)|(refine lo_box1 rfl rfl rfl ?_;intro _ _ _)|(refine lo_alloc rfl ?_;intro _ _ _))
    refine l_yes rfl h6' ?_
    repeat(first|refine lrun_ ?_|(refine lo_boxA rfl rfl ?_;intro _ _ _)|(refine lo_box1 rfl rfl rfl ?_;intro _ _ _)|(refine lo_alloc rfl ?_;intro _ _ _))
    by_cases hz : i + 1 = l.length
    · refine l_yes rfl (by omega) ?_
      repeat(first|refine lrun_ ?_|(refine lo_boxA rfl rfl ?_;intro _ _ _)|(refine lo_box1 rfl rfl rfl ?_;intro _ _ _)|(refine lo_alloc rfl ?_;intro _ _ _))
      refine l_retR2 rfl (by repeat(first|exact LRes.nil|refine LRes.tmp rfl ?_|refine LRes.agg rfl (by(repeat(first|exact MIn.hd|refine MIn.tl ?_));done) (by rfl) (by rfl) ?_|refine LRes.one rfl (by(repeat(first|exact MIn.hd|refine MIn.tl ?_));done) (by rfl) ?_)) fun w' hw => ⟨hw.org, ?_⟩
      show _ = tupT (runT false (l.drop (i + 1)) .key _ 0)
      rw [run_end (by omega)]
      rfl
    · have hlt : i + 1 < l.length := by omega
      have e1 : contT false (l.drop (i + 1)) (.key, { c with pre := l.getD i 0 }, 0) = contT false (l.drop (i + 1 + 1)) (takeM .key false { c with pre := l.getD i 0 } 0 (l.getD (i + 1) 0)) := run_at hlt
      rw [take_key] at e1
      refine l_no rfl (by omega) ?_
      refine l_go .skip ?_
      repeat(first|refine lrun_ ?_|(refine lo_boxA rfl rfl ?_;intro _ _ _)|(refine lo_box1 rfl rfl rfl ?_;intro _ _ _)|(refine lo_alloc rfl ?_;intro _ _ _))
      by_cases hq : l.getD (i + 1) 0 = 27
      · rw [if_pos hq, cont_none] at e1
        refine l_yes rfl hq ?_
        repeat(first|refine lrun_ ?_|(refine lo_boxA rfl rfl ?_;intro _ _ _)|(refine lo_box1 rfl rfl rfl ?_;intro _ _ _)|(refine lo_alloc rfl ?_;intro _ _ _))
        refine l_retR2 rfl (by repeat(first|exact LRes.nil|refine LRes.tmp rfl ?_|refine LRes.agg rfl (by(repeat(first|exact MIn.hd|refine MIn.tl ?_));done) (by rfl) (by rfl) ?_|refine LRes.one rfl (by(repeat(first|exact MIn.hd|refine MIn.tl ?_));done) (by rfl) ?_)) fun w' hw => ⟨hw.org, ?_⟩
        show _ = tupT (contT false (l.drop (i + 1)) (.key, { c with pre := l.getD i 0 }, 0))
        rw [e1]
        rfl
      · rw [if_neg hq, cont_end] at e1
        refine l_no rfl hq ?_
        refine l_go .skip ?_
        repeat(first|refine lrun_ ?_|(refine lo_boxA rfl rfl ?_;intro _ _ _)|(refine lo_box1 rfl rfl rfl ?_;intro _ _ _)|(refine lo_alloc rfl ?_;intro _ _ _))
        refine lo_call (n_call rfl) rfl (fun w' hw => end_calls (i := i + 1) (c := { c with pre := l.getD i 0, key := l.getD (i + 1) 0 }) (Kn.sl hw.org h) hlt hl) ?_
        repeat(first|refine lrun_ ?_|(refine lo_boxA rfl rfl ?_;intro _ _ _)|(refine lo_box1 rfl rfl rfl ?_;intro _ _ _)|(refine lo_alloc rfl ?_;intro _ _ _))
        refine l_retR2 rfl (by repeat(first|exact LRes.nil|refine LRes.tmp rfl ?_|refine LRes.agg rfl (by(repeat(first|exact MIn.hd|refine MIn.tl ?_));done) (by rfl) (by rfl) ?_|refine LRes.one rfl (by(repeat(first|exact MIn.hd|refine MIn.tl ?_));done) (by rfl) ?_)) fun w' hw => ⟨hw.org, ?_⟩
        show _ = tupT (contT false (l.drop (i + 1)) (.key, { c with pre := l.getD i 0 }, 0))
        rw [e1]
        rfl
  have h6n : ¬ (l.getD i 0 = 122 ∨ l.getD i 0 = 23) := fun e => e.elim h6 h6'
  rw [sd_v0 h1 h4n h6n]
  repeat(first|refine lrun_ ?_|(refine lo_boxA rfl rfl ?_;intro _ _ _)|(refine lo_box1 rfl rfl rfl ?_;intro _ _ _)|(refine lo_alloc rfl ?_;intro _ _ _))
  refine l_no rfl h6' ?_
  by_cases h7 : l.getD i 0 ∈ othersL
  · rw [if_pos h7]
    repeat(first|refine lrun_ ?_|(refine lo_boxA rfl rfl ?_;intro _ _ _)|(refine lo_box1 rfl rfl rfl ?_;intro _ _ _)|(refine lo_alloc rfl ?_;intro _ _ _))
    refine lo_call (v := .bool true) (n_call rfl) rfl (fun w' hw => in_lit sOth othersL rfl (by decide) (by decide) (decide_eq_true h7)) ?_
    repeat(first|refine lrun_ ?_|(refine lo_boxA rfl rfl ?_;intro _ _ _)|(refine lo_box1 rfl rfl rfl ?_;intro _ _ _)|(refine lo_alloc rfl ?_;intro _ _ _))
    refine l_true rfl ?_
    repeat(first|refine lrun_ ?_|(refine lo_boxA rfl rfl ?_;intro _ _ _)|(refine lo_box1 rfl rfl rfl ?_;intro _ _ _)|(refine lo_alloc rfl ?_;intro _ _ _))
    refine lo_call (n_call rfl) rfl (fun w' hw => end_calls (i := i) (c := { c with key := l.getD i 0 }) (Kn.sl hw.org h) hi hl) ?_
    repeat(first|refine lrun_ ?_|(refine lo_boxA rfl rfl ?_;intro _ _ _)|(refine lo_box1 rfl rfl rfl ?_;intro _ _ _)|(refine lo_alloc rfl ?_;intro _ _ _))
    exact l_retR2 rfl (by repeat(first|exact LRes.nil|refine LRes.tmp rfl ?_|refine LRes.agg rfl (by(repeat(first|exact MIn.hd|refine MIn.tl ?_));done) (by rfl) (by rfl) ?_|refine LRes.one rfl (by(repeat(first|exact MIn.hd|refine MIn.tl ?_));done) (by rfl) ?_)) fun w' hw => ⟨hw.org, rfl⟩
  · rw [if_neg h7]
    repeat(first|refine lrun_ ?_|(refine lo_boxA rfl rfl ?_;intro _ _ _)|(refine lo_box1 rfl rfl rfl ?_;intro _ _ _)|(refine lo_alloc rfl ?_;intro _ _ _))
    refine lo_call (v := .bool false) (n_call rfl) rfl (fun w' hw => in_lit sOth othersL rfl (by decide) (by decide) (decide_eq_false h7)) ?_
    repeat(first|refine lrun_ ?_|(refine lo_boxA rfl rfl ?_;intro _ _ _)|(refine lo_box1 rfl rfl rfl ?_;intro _ _ _)|(refine lo_alloc rfl ?_;intro _ _ _))
    refine l_false rfl ?_
    refine l_go .skip ?_
    repeat(first|refine lrun_ ?_|(refine lo_boxA rfl rfl ?_;intro _ _ _)|(refine lo_box1 rfl rfl rfl ?_;intro _ _ _)|(refine lo_alloc rfl ?_;intro _ _ _))
    refine lo_call (n_call rfl) rfl (fun w' hw => motion_callsR (vis := false) (x := 0) (i := i) (c := c) (Kn.sl hw.org h) hi hl) ?_
    repeat(first|refine lrun_ ?_|(refine lo_boxA rfl rfl ?_;intro _ _ _)|(refine lo_box1 rfl rfl rfl ?_;intro _ _ _)|(refine lo_alloc rfl ?_;intro _ _ _))
    exact l_retR2 rfl (by repeat(first|exact LRes.nil|refine LRes.tmp rfl ?_|refine LRes.agg rfl (by(repeat(first|exact MIn.hd|refine MIn.tl ?_));done) (by rfl) (by rfl) ?_|refine LRes.one rfl (by(repeat(first|exact MIn.hd|refine MIn.tl ?_));done) (by rfl) ?_)) fun w' hw => ⟨hw.org, rfl⟩
end
end Go.Ink
