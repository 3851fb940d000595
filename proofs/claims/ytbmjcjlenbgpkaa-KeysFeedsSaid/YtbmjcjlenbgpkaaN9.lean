/-
  The reference: Parse, whole.
-/
import Derived.Test.YtbmjcjlenbgpkaaN8
set_option linter.unusedVariables false
set_option linter.unusedSimpArgs false
namespace Go.Ink
open Go Go.Proofs Go.RowKit

theorem cont_big {vis b : Bool} {t : List Int} {c : Cmd} {x : Int} : contT vis t (.big b, c, x) = runT vis t (.big b) c x := rfl
/-- Behind g, of no turn: as a motion's g. -/
theorem big_same {vis : Bool} {c : Cmd} : ∀ {t : List Int}, (∀ r u, t = r :: u → r ∉ turnsL) → runT vis t (.big true) c 0 = contT vis t ((startD vis c 103).1, (startD vis c 103).2, 0)
  | [], _ => by
    have : startD vis c 103 = (.big false, c) := by cases vis <;> rfl
    rw [this]; rfl
  | r :: u, h => by
    have : startD vis c 103 = (.big false, c) := by cases vis <;> rfl
    rw [this, cont_big, run_cons, run_cons, take_big, take_big]
    by_cases h1 : r = 103
    · rw [if_pos h1, if_pos h1]
    · rw [if_neg h1, if_neg h1, if_neg (fun e => h r u rfl e.2), if_neg (fun e => Bool.noConfusion e.1)]
section
variable {w B : World} {K : Nat → Prop} {F : Nat → Prop} {A : Option Addr} {cp : Nat} {l : List Int} {i : Nat} {c : Cmd} {g4 g6 : Nat}
theorem parse_tail {vis : Bool} (h : Sl kRune F w (.slice A l.length cp) l) (hi : i < l.length) (hl : l.length ≤ 1000000) (hc : 0 ≤ c.count ∧ c.count ≤ 2147483647) :
    ∀ σ', SubB σ' [(0, .slice A l.length cp), (1, .bool vis), (4, .pointer (some ⟨g4, 0, none⟩)), (6, .pointer (some ⟨g6, 0, none⟩)), (7, .int .i64 (i : Int)), (9, .int .i32 (l.getD i 0))] → ∀ M', MSub [(g6, cb (cmdL c) 43), (g4, cb (cmdL cmd0) 43)] M' → WL Try.prog Try.f25 (.code (bodyC Try.f25 [1, 1, 1, 1, 1, 1, 1, 0, 0, 1, 1, 1, 1]) :: .inBlock 2 :: .code (bodyC Try.f25 [1, 1, 1, 1, 1, 1, 1, 1]) :: []) σ' w (fun _ => False) B K M' (ParQ w vis (l.drop (i + 1)) (startD vis c (l.getD i 0))) := by
  cases vis with
  | true => exact parse_tail1 h hi hl
  | false => exact parse_tail0 h hi hl hc
set_option maxHeartbeats 16000000 in
theorem parse_mid {vis : Bool} (h : Sl kRune F w (.slice A l.length cp) l) (hi : i ≤ l.length) (hl : l.length ≤ 1000000) (hc : 0 ≤ c.count ∧ c.count ≤ 2147483647) (hno : i < l.length → ¬ (49 ≤ l.getD i 0 ∧ l.getD i 0 ≤ 57)) (hnq : i < l.length → l.getD i 0 ≠ 34) :
    ∀ σ', SubB σ' [(0, .slice A l.length cp), (1, .bool vis), (4, .pointer (some ⟨g4, 0, none⟩)), (6, .pointer (some ⟨g6, 0, none⟩)), (7, .int .i64 (i : Int))] → ∀ M', MSub [(g6, cb (cmdL c) 43), (g4, cb (cmdL cmd0) 43)] M' → WL Try.prog Try.f25 (.code (bodyC Try.f25 [1, 1, 1, 1]) :: []) σ' w (fun _ => False) B K M' (fun u w' => Kn w w' ∧ u = tupT (runT vis (l.drop i) .start c 0)) := by
  intro σ' hs M' hM
  refine WL.sub hs hM ?_
  obtain ⟨A', c', ad, e, hX⟩ := h.rns
  cases e
  repeat(first|refine lrun_ ?_|(refine lo_boxA rfl rfl ?_;intro _ _ _)|(refine lo_box1 rfl rfl rfl ?_;intro _ _ _)|(refine lo_alloc rfl ?_;intro _ _ _))
  by_cases h1 : i = l.length
  · rw [run_end (by omega)]
    refine l_yes rfl (by omega) ?_
    repeat(first|refine lrun_ ?_|(refine lo_boxA rfl rfl ?_;intro _ _ _)|(refine lo_box1 rfl rfl rfl ?_;intro _ _ _)|(refine lo_alloc rfl ?_;intro _ _ _))
    exact l_retR2 rfl (by repeat(first|exact LRes.nil|refine LRes.tmp rfl ?_|refine LRes.agg rfl (by(repeat(first|exact MIn.hd|refine MIn.tl ?_));done) (by rfl) (by rfl) ?_|refine LRes.one rfl (by(repeat(first|exact MIn.hd|refine MIn.tl ?_));done) (by rfl) ?_)) fun w' hw => ⟨hw.org, rfl⟩
  have hlt : i < l.length := by omega
  have hd : isDg (l.getD i 0) 0 = false := by
    have := hno hlt
    unfold isDg
    exact decide_eq_false fun e => by omega
  rw [run_at hlt, take_start, hd, if_neg (by decide), show ∀ c, countedM c 0 = c from fun _ => rfl]
  have hq := hnq hlt
  refine l_no rfl (by omega) ?_
  refine l_go .skip ?_
  by_cases h2 : l.getD i 0 = 103
  · have hsc : startC vis c (l.getD i 0) = (.big true, c) := by rw [h2]; rfl
    rw [hsc]
    by_cases h3 : i + 1 < l.length
    · by_cases h4 : l.getD (i + 1) 0 ∈ turnsL
      · have hne : ¬ l.getD (i + 1) 0 = 103 := fun e => by rw [e] at h4; exact absurd h4 (by decide)
        have e1 : contT vis (l.drop (i + 1)) ((Wa.big true, c).1, (Wa.big true, c).2, 0) = contT vis (l.drop (i + 1 + 1)) (takeM (.big true) vis c 0 (l.getD (i + 1) 0)) := run_at h3
        rw [take_big, if_neg hne, if_pos ⟨rfl, h4⟩] at e1
        rw [e1]
        cases vis with
        | true =>
          repeat(first|refine lrun_ ?_|(refine lo_boxA rfl rfl ?_;intro _ _ _)|(refine lo_box1 rfl rfl rfl ?_;intro _ _ _)|(refine lo_alloc rfl ?_;intro _ _ _))
          refine lo_call (v := .bool true) (n_call rfl) rfl (fun w' hw => in_lit sTurn turnsL rfl (by decide) (by decide) (decide_eq_true h4)) ?_
          repeat(first|refine lrun_ ?_|(refine lo_boxA rfl rfl ?_;intro _ _ _)|(refine lo_box1 rfl rfl rfl ?_;intro _ _ _)|(refine lo_alloc rfl ?_;intro _ _ _))
          refine l_true rfl ?_
          repeat(first|refine lrun_ ?_|(refine lo_boxA rfl rfl ?_;intro _ _ _)|(refine lo_box1 rfl rfl rfl ?_;intro _ _ _)|(refine lo_alloc rfl ?_;intro _ _ _))
          refine lo_call (n_call rfl) rfl (fun w' hw => end_calls (i := i + 1) (c := { c with op := l.getD (i + 1) 0 }) (Kn.sl hw.org h) h3 hl) ?_
          repeat(first|refine lrun_ ?_|(refine lo_boxA rfl rfl ?_;intro _ _ _)|(refine lo_box1 rfl rfl rfl ?_;intro _ _ _)|(refine lo_alloc rfl ?_;intro _ _ _))
          exact l_retR2 rfl (by repeat(first|exact LRes.nil|refine LRes.tmp rfl ?_|refine LRes.agg rfl (by(repeat(first|exact MIn.hd|refine MIn.tl ?_));done) (by rfl) (by rfl) ?_|refine LRes.one rfl (by(repeat(first|exact MIn.hd|refine MIn.tl ?_));done) (by rfl) ?_)) fun w' hw => ⟨hw.org, rfl⟩
        | false =>
          repeat(first|refine lrun_ ?_|(refine lo_boxA rfl rfl ?_;intro _ _ _)|(refine lo_box1 rfl rfl rfl ?_;intro _ _ _)|(refine lo_alloc rfl ?_;intro _ _ _))
          refine lo_call (v := .bool true) (n_call rfl) rfl (fun w' hw => in_lit sTurn turnsL rfl (by decide) (by decide) (decide_eq_true h4)) ?_
          repeat(first|refine lrun_ ?_|(refine lo_boxA rfl rfl ?_;intro _ _ _)|(refine lo_box1 rfl rfl rfl ?_;intro _ _ _)|(refine lo_alloc rfl ?_;intro _ _ _))
          refine l_false rfl ?_
          repeat(first|refine lrun_ ?_|(refine lo_boxA rfl rfl ?_;intro _ _ _)|(refine lo_box1 rfl rfl rfl ?_;intro _ _ _)|(refine lo_alloc rfl ?_;intro _ _ _))
          refine l_true rfl ?_
          repeat(first|refine lrun_ ?_|(refine lo_boxA rfl rfl ?_;intro _ _ _)|(refine lo_box1 rfl rfl rfl ?_;intro _ _ _)|(refine lo_alloc rfl ?_;intro _ _ _))
          refine lo_call (n_call rfl) rfl (fun w' hw => target_callsR (vis := false) (i := i + 2) (c := { c with op := l.getD (i + 1) 0 }) (Kn.sl hw.org h) (by omega) hl hc) ?_
          repeat(first|refine lrun_ ?_|(refine lo_boxA rfl rfl ?_;intro _ _ _)|(refine lo_box1 rfl rfl rfl ?_;intro _ _ _)|(refine lo_alloc rfl ?_;intro _ _ _))
          exact l_retR2 rfl (by repeat(first|exact LRes.nil|refine LRes.tmp rfl ?_|refine LRes.agg rfl (by(repeat(first|exact MIn.hd|refine MIn.tl ?_));done) (by rfl) (by rfl) ?_|refine LRes.one rfl (by(repeat(first|exact MIn.hd|refine MIn.tl ?_));done) (by rfl) ?_)) fun w' hw => ⟨hw.org, rfl⟩
      · have e2 : contT vis (l.drop (i + 1)) ((Wa.big true, c).1, (Wa.big true, c).2, 0) = contT vis (l.drop (i + 1)) ((startD vis c (l.getD i 0)).1, (startD vis c (l.getD i 0)).2, 0) := by
          rw [h2]
          refine big_same fun r u e => ?_
          rw [List.drop_eq_getElem_cons h3] at e
          rw [List.getD_eq_getElem?_getD, List.getElem?_eq_getElem h3] at h4
          obtain ⟨rfl, -⟩ := List.cons.inj e
          exact h4
        rw [e2]
        repeat(first|refine lrun_ ?_|(refine lo_boxA rfl rfl ?_;intro _ _ _)|(refine lo_box1 rfl rfl rfl ?_;intro _ _ _)|(refine lo_alloc rfl ?_;intro _ _ _))
        refine lo_call (v := .bool false) (n_call rfl) rfl (fun w' hw => in_lit sTurn turnsL rfl (by decide) (by decide) (decide_eq_false h4)) ?_
        repeat(first|refine lrun_ ?_|(refine lo_boxA rfl rfl ?_;intro _ _ _)|(refine lo_box1 rfl rfl rfl ?_;intro _ _ _)|(refine lo_alloc rfl ?_;intro _ _ _))
        refine l_false rfl ?_
        repeat(first|refine lrun_ ?_|(refine lo_boxA rfl rfl ?_;intro _ _ _)|(refine lo_box1 rfl rfl rfl ?_;intro _ _ _)|(refine lo_alloc rfl ?_;intro _ _ _))
        refine l_false rfl ?_
        exact parse_tail h hlt hl hc _ (by repeat (first | exact SubB.nil | refine SubB.cons rfl ?_)) _ (by repeat(first|exact MSub.refl|refine MSub.keep rfl ?_|exact MSub.nil|apply MSub.drop))
    · have e2 : contT vis (l.drop (i + 1)) ((Wa.big true, c).1, (Wa.big true, c).2, 0) = contT vis (l.drop (i + 1)) ((startD vis c (l.getD i 0)).1, (startD vis c (l.getD i 0)).2, 0) := by
        rw [h2]
        refine big_same fun r u e => ?_
        rw [List.drop_of_length_le (by omega)] at e
        cases e
      rw [e2]
      repeat(first|refine lrun_ ?_|(refine lo_boxA rfl rfl ?_;intro _ _ _)|(refine lo_box1 rfl rfl rfl ?_;intro _ _ _)|(refine lo_alloc rfl ?_;intro _ _ _))
      refine l_false rfl ?_
      repeat(first|refine lrun_ ?_|(refine lo_boxA rfl rfl ?_;intro _ _ _)|(refine lo_box1 rfl rfl rfl ?_;intro _ _ _)|(refine lo_alloc rfl ?_;intro _ _ _))
      refine l_false rfl ?_
      exact parse_tail h hlt hl hc _ (by repeat (first | exact SubB.nil | refine SubB.cons rfl ?_)) _ (by repeat(first|exact MSub.refl|refine MSub.keep rfl ?_|exact MSub.nil|apply MSub.drop))
  · rw [startC_D hq h2]
    repeat(first|refine lrun_ ?_|(refine lo_boxA rfl rfl ?_;intro _ _ _)|(refine lo_box1 rfl rfl rfl ?_;intro _ _ _)|(refine lo_alloc rfl ?_;intro _ _ _))
    refine l_false rfl ?_
    repeat(first|refine lrun_ ?_|(refine lo_boxA rfl rfl ?_;intro _ _ _)|(refine lo_box1 rfl rfl rfl ?_;intro _ _ _)|(refine lo_alloc rfl ?_;intro _ _ _))
    refine l_false rfl ?_
    exact parse_tail h hlt hl hc _ (by repeat (first | exact SubB.nil | refine SubB.cons rfl ?_)) _ (by repeat(first|exact MSub.refl|refine MSub.keep rfl ?_|exact MSub.nil|apply MSub.drop))
set_option maxHeartbeats 16000000 in
theorem parse_calls {vis : Bool} (h : Sl kRune F w (.slice A l.length cp) l) (hl : l.length ≤ 1000000) : CallsR Try.prog 25 #[.slice A l.length cp, .bool vis] w fun u w' => Kn w w' ∧ u = tupT (runT vis l .start cmd0 0) := by
  obtain ⟨A', c', ad, e, hX⟩ := h.rns
  cases e
  refine l_enter (args := [.slice A l.length cp, .bool vis]) (fun _ => False) Try.func25 rfl rfl ?_
  repeat(first|refine lrun_ ?_|(refine lo_boxA rfl rfl ?_;intro _ _ _)|(refine lo_box1 rfl rfl rfl ?_;intro _ _ _)|(refine lo_alloc rfl ?_;intro _ _ _))
  rename_i g4 _ _ g6 _ _
  refine l_while (T := Nat × Cmd) (fun x => l.length - x.1) (fun x => [(0, .slice A l.length cp), (1, .bool vis), (4, .pointer (some ⟨g4, 0, none⟩)), (6, .pointer (some ⟨g6, 0, none⟩)), (7, .int .i64 (x.1 : Int))]) (fun x => [(g6, cb (cmdL x.2) 43), (g4, cb (cmdL cmd0) 43)]) (fun x => x.1 ≤ l.length ∧ (0 ≤ x.2.count ∧ x.2.count ≤ 2147483647) ∧ runT vis l .start cmd0 0 = runT vis (l.drop x.1) .start x.2 0) (0, cmd0) (by repeat (first | exact SubB.nil | refine SubB.cons rfl ?_)) (by repeat(first|exact MSub.refl|refine MSub.keep rfl ?_|exact MSub.nil|apply MSub.drop)) ⟨Nat.zero_le _, ⟨by decide, by decide⟩, rfl⟩ ?_
  rintro ⟨i, c⟩ ⟨hi, hc, hR⟩ ih
  simp only at hi hc hR
  repeat(first|refine lrun_ ?_|(refine lo_boxA rfl rfl ?_;intro _ _ _)|(refine lo_box1 rfl rfl rfl ?_;intro _ _ _)|(refine lo_alloc rfl ?_;intro _ _ _))
  refine lo_callV (n_call rfl) rfl (fun w' hw => counts_callsR (Kn.sl hw.org h) hi hl hc) ?_
  rintro _ ⟨j, b, rfl, hij, hjl, hb, hE, he, hno⟩
  rw [hE vis .start c (.inl rfl) rfl] at hR
  by_cases h1 : j < l.length
  · by_cases h2 : l.getD j 0 = 34
    · have hR2 : runT vis l .start cmd0 0 = runT vis (l.drop (j + 1)) .reg { c with count := b } 0 := by
        rw [hR, run_at h1, take_start, h2]
        rfl
      repeat(first|refine lrun_ ?_|(refine lo_boxA rfl rfl ?_;intro _ _ _)|(refine lo_box1 rfl rfl rfl ?_;intro _ _ _)|(refine lo_alloc rfl ?_;intro _ _ _))
      refine l_yes rfl h2 ?_
      repeat(first|refine lrun_ ?_|(refine lo_boxA rfl rfl ?_;intro _ _ _)|(refine lo_box1 rfl rfl rfl ?_;intro _ _ _)|(refine lo_alloc rfl ?_;intro _ _ _))
      by_cases h3 : j + 1 = l.length
      · rw [run_end (by omega)] at hR2
        refine l_yes rfl (by omega) ?_
        repeat(first|refine lrun_ ?_|(refine lo_boxA rfl rfl ?_;intro _ _ _)|(refine lo_box1 rfl rfl rfl ?_;intro _ _ _)|(refine lo_alloc rfl ?_;intro _ _ _))
        refine l_retR2 rfl (by repeat(first|exact LRes.nil|refine LRes.tmp rfl ?_|refine LRes.agg rfl (by(repeat(first|exact MIn.hd|refine MIn.tl ?_));done) (by rfl) (by rfl) ?_|refine LRes.one rfl (by(repeat(first|exact MIn.hd|refine MIn.tl ?_));done) (by rfl) ?_)) fun w' hw => ⟨hw.org, ?_⟩
        rw [hR2]
        rfl
      · have h3' : j + 1 < l.length := by omega
        rw [run_at h3', take_reg] at hR2
        refine l_no rfl (by omega) ?_
        refine l_go .skip ?_
        repeat(first|refine lrun_ ?_|(refine lo_boxA rfl rfl ?_;intro _ _ _)|(refine lo_box1 rfl rfl rfl ?_;intro _ _ _)|(refine lo_alloc rfl ?_;intro _ _ _))
        by_cases h4 : l.getD (j + 1) 0 = 27
        · rw [if_pos h4, cont_none] at hR2
          refine l_yes rfl h4 ?_
          repeat(first|refine lrun_ ?_|(refine lo_boxA rfl rfl ?_;intro _ _ _)|(refine lo_box1 rfl rfl rfl ?_;intro _ _ _)|(refine lo_alloc rfl ?_;intro _ _ _))
          refine l_retR2 rfl (by repeat(first|exact LRes.nil|refine LRes.tmp rfl ?_|refine LRes.agg rfl (by(repeat(first|exact MIn.hd|refine MIn.tl ?_));done) (by rfl) (by rfl) ?_|refine LRes.one rfl (by(repeat(first|exact MIn.hd|refine MIn.tl ?_));done) (by rfl) ?_)) fun w' hw => ⟨hw.org, ?_⟩
          rw [hR2]
          rfl
        · rw [if_neg h4] at hR2
          refine l_no rfl h4 ?_
          refine l_go .skip ?_
          repeat(first|refine lrun_ ?_|(refine lo_boxA rfl rfl ?_;intro _ _ _)|(refine lo_box1 rfl rfl rfl ?_;intro _ _ _)|(refine lo_alloc rfl ?_;intro _ _ _))
          refine l_no rfl (by omega) ?_
          refine l_go .skip ?_
          repeat(first|refine lrun_ ?_|(refine lo_boxA rfl rfl ?_;intro _ _ _)|(refine lo_box1 rfl rfl rfl ?_;intro _ _ _)|(refine lo_alloc rfl ?_;intro _ _ _))
          exact ih (j + 2, { c with count := b, reg := l.getD (j + 1) 0 }) ⟨by simp only; omega, hb, hR2⟩ (by simp only; omega) _ _ (by repeat (first | exact SubB.nil | refine SubB.cons rfl ?_)) (by repeat(first|exact MSub.refl|refine MSub.keep rfl ?_|exact MSub.nil|apply MSub.drop))
    · repeat(first|refine lrun_ ?_|(refine lo_boxA rfl rfl ?_;intro _ _ _)|(refine lo_box1 rfl rfl rfl ?_;intro _ _ _)|(refine lo_alloc rfl ?_;intro _ _ _))
      refine l_no rfl h2 ?_
      refine l_go .skip ?_
      repeat(first|refine lrun_ ?_|(refine lo_boxA rfl rfl ?_;intro _ _ _)|(refine lo_box1 rfl rfl rfl ?_;intro _ _ _)|(refine lo_alloc rfl ?_;intro _ _ _))
      by_cases e : j = i
      · subst e
        obtain rfl := he rfl
        refine l_yes rfl rfl ?_
        refine l_go (.exit rfl) ?_
        rw [hR]
        exact parse_mid h hjl hl hc hno (fun _ => h2) _ (by repeat (first | exact SubB.nil | refine SubB.cons rfl ?_)) _ (by repeat(first|exact MSub.refl|refine MSub.keep rfl ?_|exact MSub.nil|apply MSub.drop))
      · refine l_no rfl (by omega) ?_
        refine l_go .skip ?_
        repeat(first|refine lrun_ ?_|(refine lo_boxA rfl rfl ?_;intro _ _ _)|(refine lo_box1 rfl rfl rfl ?_;intro _ _ _)|(refine lo_alloc rfl ?_;intro _ _ _))
        exact ih (j, { c with count := b }) ⟨hjl, hb, hR⟩ (by simp only; omega) _ _ (by repeat (first | exact SubB.nil | refine SubB.cons rfl ?_)) (by repeat(first|exact MSub.refl|refine MSub.keep rfl ?_|exact MSub.nil|apply MSub.drop))
  · repeat(first|refine lrun_ ?_|(refine lo_boxA rfl rfl ?_;intro _ _ _)|(refine lo_box1 rfl rfl rfl ?_;intro _ _ _)|(refine lo_alloc rfl ?_;intro _ _ _))
    refine l_false rfl ?_
    refine l_go .skip ?_
    repeat(first|refine lrun_ ?_|(refine lo_boxA rfl rfl ?_;intro _ _ _)|(refine lo_box1 rfl rfl rfl ?_;intro _ _ _)|(refine lo_alloc rfl ?_;intro _ _ _))
    by_cases e : j = i
    · subst e
      obtain rfl := he rfl
      refine l_yes rfl rfl ?_
      refine l_go (.exit rfl) ?_
      rw [hR]
      exact parse_mid h hjl hl hc hno (fun e => absurd e h1) _ (by repeat (first | exact SubB.nil | refine SubB.cons rfl ?_)) _ (by repeat(first|exact MSub.refl|refine MSub.keep rfl ?_|exact MSub.nil|apply MSub.drop))
    · refine l_no rfl (by omega) ?_
      refine l_go .skip ?_
      repeat(first|refine lrun_ ?_|(refine lo_boxA rfl rfl ?_;intro _ _ _)|(refine lo_box1 rfl rfl rfl ?_;intro _ _ _)|(refine lo_alloc rfl ?_;intro _ _ _))
      exact ih (j, { c with count := b }) ⟨hjl, hb, hR⟩ (by simp only; omega) _ _ (by repeat (first | exact SubB.nil | refine SubB.cons rfl ?_)) (by repeat(first|exact MSub.refl|refine MSub.keep rfl ?_|exact MSub.nil|apply MSub.drop))
end
end Go.Ink
