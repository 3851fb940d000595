/-
  The reference: counts, object, motion, target.
-/
import Derived.Test.YtbmjcjlenbgpkaaN5
set_option linter.unusedVariables false
set_option linter.unusedSimpArgs false
namespace Go.Ink
open Go Go.Proofs Go.RowKit

section
variable {w : World} {F : Nat → Prop} {A : Option Addr} {cp : Nat} {l : List Int}
/-- Where counts end. -/
def CntQ (l : List Int) (i0 : Nat) (a : Int) (u : Value) : Prop := ∃ (j : Nat) (b : Int), u = .tuple #[.int .i64 (j : Int), .int .i64 b] ∧ i0 ≤ j ∧ j ≤ l.length ∧ (0 ≤ b ∧ b ≤ 2147483647) ∧ CntE l i0 a j b ∧ (j = i0 → b = a) ∧ (j < l.length → ¬ (49 ≤ l.getD j 0 ∧ l.getD j 0 ≤ 57))
set_option maxHeartbeats 8000000 in
theorem counts_callsR {i0 : Nat} {a : Int} (h : Sl kRune F w (.slice A l.length cp) l) (hi0 : i0 ≤ l.length) (hl : l.length ≤ 1000000) (ha : 0 ≤ a ∧ a ≤ 2147483647) : CallsR Try.prog 39 #[.slice A l.length cp, .int .i64 (i0 : Int), .int .i64 a] w fun u w' => Kn w w' ∧ CntQ l i0 a u := by
  obtain ⟨A', c', ad, e, hX⟩ := h.rns
  cases e
  refine l_enter (args := [.slice A l.length cp, .int .i64 (i0 : Int), .int .i64 a]) (fun _ => False) Try.func39 rfl rfl ?_
  repeat(first|refine lrun_ ?_|(refine lo_boxA rfl rfl ?_;intro _ _ _)|(refine lo_box1 rfl rfl rfl ?_;intro _ _ _)|(refine lo_alloc rfl ?_;intro _ _ _))
  refine l_while (T := Nat × Int) (fun x => l.length - x.1) (fun x => [(0, .slice A l.length cp), (1, .int .i64 (x.1 : Int)), (2, .int .i64 x.2)]) (fun _ => []) (fun x => i0 ≤ x.1 ∧ x.1 ≤ l.length ∧ (0 ≤ x.2 ∧ x.2 ≤ 2147483647) ∧ CntE l i0 a x.1 x.2 ∧ (x.1 = i0 → x.2 = a)) (i0, a) (by repeat (first | exact SubB.nil | refine SubB.cons rfl ?_)) (by repeat(first|exact MSub.refl|refine MSub.keep rfl ?_|exact MSub.nil|apply MSub.drop)) ⟨Nat.le_refl _, hi0, ha, CntE.refl, fun _ => rfl⟩ ?_
  rintro ⟨i, b⟩ ⟨hi, hil, hb, hE, he⟩ ih
  simp only at hi hil hb hE he
  have out : (i < l.length → ¬ (49 ≤ l.getD i 0 ∧ l.getD i 0 ≤ 57)) → CntQ l i0 a (.tuple #[.int .i64 (i : Int), .int .i64 b]) := fun h => ⟨i, b, rfl, hi, hil, hb, hE, he, h⟩
  by_cases h1 : i < l.length
  · by_cases h2 : 49 ≤ l.getD i 0
    · by_cases h3 : l.getD i 0 ≤ 57
      · repeat(first|refine lrun_ ?_|(refine lo_boxA rfl rfl ?_;intro _ _ _)|(refine lo_box1 rfl rfl rfl ?_;intro _ _ _)|(refine lo_alloc rfl ?_;intro _ _ _))
        refine l_yes rfl h3 ?_
        refine l_go .skip ?_
        repeat(first|refine lrun_ ?_|(refine lo_boxA rfl rfl ?_;intro _ _ _)|(refine lo_box1 rfl rfl rfl ?_;intro _ _ _)|(refine lo_alloc rfl ?_;intro _ _ _))
        refine l_while (T := Nat × Int) (fun x => l.length - x.1) (fun x => [(0, .slice A l.length cp), (1, .int .i64 (x.1 : Int)), (2, .int .i64 b), (8, .int .i64 x.2)]) (fun _ => []) (fun x => i ≤ x.1 ∧ x.1 ≤ l.length ∧ (0 ≤ x.2 ∧ x.2 ≤ 2147483647) ∧ (x.2 = 0 → x.1 = i) ∧ (x.1 = i → x.2 = 0) ∧ ∀ (vis : Bool) (n : Wa) (c : Cmd), afN n → runT vis (l.drop i) n c 0 = runT vis (l.drop x.1) n c x.2) (i, 0) (by repeat (first | exact SubB.nil | refine SubB.cons rfl ?_)) (by repeat(first|exact MSub.refl|refine MSub.keep rfl ?_|exact MSub.nil|apply MSub.drop)) ⟨Nat.le_refl _, hil, ⟨Int.le_refl _, by show (0 : Int) ≤ 2147483647; decide⟩, fun _ => rfl, fun _ => rfl, fun _ _ _ _ => rfl⟩ ?_
        rintro ⟨j, x⟩ ⟨hj, hjl, hx, hx0, hxj, hR⟩ ih2
        simp only at hj hjl hx hx0 hxj hR
        have go : j < l.length → 48 ≤ l.getD j 0 ∧ l.getD j 0 ≤ 57 → ∀ (vis : Bool) (n : Wa) (c : Cmd), afN n → runT vis (l.drop i) n c 0 = runT vis (l.drop (j + 1)) n c (min (x * 10 + (l.getD j 0 - 48)) 2147483647) := fun hlt hd vis n c hn => by
          rw [hR vis n c hn, run_dig hn hlt hd]
          rintro ⟨e1, e2⟩
          obtain rfl := hx0 e2
          omega
        have fin : (j < l.length → ¬ (48 ≤ l.getD j 0 ∧ l.getD j 0 ≤ 57)) → 1 ≤ x ∧ i < j ∧ CntE l i0 a j (timesM b x) := fun hno => by
          have hne : ¬ j = i := fun e => by subst e; exact hno h1 ⟨by omega, h3⟩
          have hx1 : 1 ≤ x := by
            by_cases e : x = 0
            · exact absurd (hx0 e) hne
            · omega
          refine ⟨hx1, by omega, fun vis n c hn hc => ?_⟩
          rw [hE vis n c hn hc, hR vis n _ hn, run_num hn hx1 hno]
        by_cases g1 : j < l.length
        · by_cases g2 : 48 ≤ l.getD j 0
          · by_cases g3 : l.getD j 0 ≤ 57
            · have hgo := go g1 ⟨g2, g3⟩
              have hx32 := hX.lo j
              have hmn : ∀ y : Int, min y 2147483647 = if 2147483647 < y then 2147483647 else y := by intro y; split <;> omega
              simp only [hmn] at hgo
              have p1 : 0 ≤ (if 2147483647 < x * 10 + (l.getD j 0 - 48) then 2147483647 else x * 10 + (l.getD j 0 - 48)) ∧ (if 2147483647 < x * 10 + (l.getD j 0 - 48) then 2147483647 else x * 10 + (l.getD j 0 - 48)) ≤ 2147483647 := by split <;> omega
              have p2 : (if 2147483647 < x * 10 + (l.getD j 0 - 48) then 2147483647 else x * 10 + (l.getD j 0 - 48)) = 0 → j + 1 = i := by
                intro e
                split at e
                · omega
                · by_cases e0 : x = 0
                  · have := hx0 e0
                    subst this
                    omega
                  · omega
              repeat(first|refine lrun_ ?_|(refine lo_boxA rfl rfl ?_;intro _ _ _)|(refine lo_box1 rfl rfl rfl ?_;intro _ _ _)|(refine lo_alloc rfl ?_;intro _ _ _))
              refine l_yes rfl g3 ?_
              refine l_go .skip ?_
              repeat(first|refine lrun_ ?_|(refine lo_boxA rfl rfl ?_;intro _ _ _)|(refine lo_box1 rfl rfl rfl ?_;intro _ _ _)|(refine lo_alloc rfl ?_;intro _ _ _))
              refine lo_rn (v := .int .i32 (l.getD j 0 - 48)) (fun _ => r_sub32 (a := l.getD j 0) rfl rfl (by omega) (by omega)) rfl ?_
              repeat(first|refine lrun_ ?_|(refine lo_boxA rfl rfl ?_;intro _ _ _)|(refine lo_box1 rfl rfl rfl ?_;intro _ _ _)|(refine lo_alloc rfl ?_;intro _ _ _))
              exact ih2 (j + 1, if 2147483647 < x * 10 + (l.getD j 0 - 48) then 2147483647 else x * 10 + (l.getD j 0 - 48)) ⟨by simp only; omega, by simp only; omega, p1, p2, fun e => by simp only at e; omega, hgo⟩ (by simp only; omega) _ _ (by repeat (first | exact SubB.nil | refine SubB.cons rfl ?_)) (by repeat(first|exact MSub.refl|refine MSub.keep rfl ?_|exact MSub.nil|apply MSub.drop))
            · obtain ⟨k1, k2, k3⟩ := fin fun _ e => g3 e.2
              have hok := timesM_ok (a := b) (b := x) hb ⟨by omega, hx.2⟩
              repeat(first|refine lrun_ ?_|(refine lo_boxA rfl rfl ?_;intro _ _ _)|(refine lo_box1 rfl rfl rfl ?_;intro _ _ _)|(refine lo_alloc rfl ?_;intro _ _ _))
              refine l_no rfl g3 ?_
              refine l_go (.exit rfl) ?_
              repeat(first|refine lrun_ ?_|(refine lo_boxA rfl rfl ?_;intro _ _ _)|(refine lo_box1 rfl rfl rfl ?_;intro _ _ _)|(refine lo_alloc rfl ?_;intro _ _ _))
              refine lo_call (n_call rfl) rfl (fun w' hw => times_calls hb ⟨k1, hx.2⟩) ?_
              repeat(first|refine lrun_ ?_|(refine lo_boxA rfl rfl ?_;intro _ _ _)|(refine lo_box1 rfl rfl rfl ?_;intro _ _ _)|(refine lo_alloc rfl ?_;intro _ _ _))
              exact ih (j, timesM b x) ⟨by simp only; omega, hjl, hok, k3, fun e => by simp only at e; omega⟩ (by simp only; omega) _ _ (by repeat (first | exact SubB.nil | refine SubB.cons rfl ?_)) (by repeat(first|exact MSub.refl|refine MSub.keep rfl ?_|exact MSub.nil|apply MSub.drop))
          · obtain ⟨k1, k2, k3⟩ := fin fun _ e => g2 e.1
            have hok := timesM_ok (a := b) (b := x) hb ⟨by omega, hx.2⟩
            repeat(first|refine lrun_ ?_|(refine lo_boxA rfl rfl ?_;intro _ _ _)|(refine lo_box1 rfl rfl rfl ?_;intro _ _ _)|(refine lo_alloc rfl ?_;intro _ _ _))
            refine l_false rfl ?_
            refine l_go (.exit rfl) ?_
            repeat(first|refine lrun_ ?_|(refine lo_boxA rfl rfl ?_;intro _ _ _)|(refine lo_box1 rfl rfl rfl ?_;intro _ _ _)|(refine lo_alloc rfl ?_;intro _ _ _))
            refine lo_call (n_call rfl) rfl (fun w' hw => times_calls hb ⟨k1, hx.2⟩) ?_
            repeat(first|refine lrun_ ?_|(refine lo_boxA rfl rfl ?_;intro _ _ _)|(refine lo_box1 rfl rfl rfl ?_;intro _ _ _)|(refine lo_alloc rfl ?_;intro _ _ _))
            exact ih (j, timesM b x) ⟨by simp only; omega, hjl, hok, k3, fun e => by simp only at e; omega⟩ (by simp only; omega) _ _ (by repeat (first | exact SubB.nil | refine SubB.cons rfl ?_)) (by repeat(first|exact MSub.refl|refine MSub.keep rfl ?_|exact MSub.nil|apply MSub.drop))
        · obtain ⟨k1, k2, k3⟩ := fin fun e => absurd e g1
          have hok := timesM_ok (a := b) (b := x) hb ⟨by omega, hx.2⟩
          repeat(first|refine lrun_ ?_|(refine lo_boxA rfl rfl ?_;intro _ _ _)|(refine lo_box1 rfl rfl rfl ?_;intro _ _ _)|(refine lo_alloc rfl ?_;intro _ _ _))
          refine l_false rfl ?_
          refine l_go (.exit rfl) ?_
          repeat(first|refine lrun_ ?_|(refine lo_boxA rfl rfl ?_;intro _ _ _)|(refine lo_box1 rfl rfl rfl ?_;intro _ _ _)|(refine lo_alloc rfl ?_;intro _ _ _))
          refine lo_call (n_call rfl) rfl (fun w' hw => times_calls hb ⟨k1, hx.2⟩) ?_
          repeat(first|refine lrun_ ?_|(refine lo_boxA rfl rfl ?_;intro _ _ _)|(refine lo_box1 rfl rfl rfl ?_;intro _ _ _)|(refine lo_alloc rfl ?_;intro _ _ _))
          exact ih (j, timesM b x) ⟨by simp only; omega, hjl, hok, k3, fun e => by simp only at e; omega⟩ (by simp only; omega) _ _ (by repeat (first | exact SubB.nil | refine SubB.cons rfl ?_)) (by repeat(first|exact MSub.refl|refine MSub.keep rfl ?_|exact MSub.nil|apply MSub.drop))
      · repeat(first|refine lrun_ ?_|(refine lo_boxA rfl rfl ?_;intro _ _ _)|(refine lo_box1 rfl rfl rfl ?_;intro _ _ _)|(refine lo_alloc rfl ?_;intro _ _ _))
        refine l_no rfl h3 ?_
        refine l_go (.exit rfl) ?_
        repeat(first|refine lrun_ ?_|(refine lo_boxA rfl rfl ?_;intro _ _ _)|(refine lo_box1 rfl rfl rfl ?_;intro _ _ _)|(refine lo_alloc rfl ?_;intro _ _ _))
        exact l_retR2 rfl (by repeat(first|exact LRes.nil|refine LRes.tmp rfl ?_|refine LRes.agg rfl (by(repeat(first|exact MIn.hd|refine MIn.tl ?_));done) (by rfl) (by rfl) ?_|refine LRes.one rfl (by(repeat(first|exact MIn.hd|refine MIn.tl ?_));done) (by rfl) ?_)) fun w' hw => ⟨hw.org, out fun _ e => h3 e.2⟩
    · repeat(first|refine lrun_ ?_|(refine lo_boxA rfl rfl ?_;intro _ _ _)|(refine lo_box1 rfl rfl rfl ?_;intro _ _ _)|(refine lo_alloc rfl ?_;intro _ _ _))
      refine l_false rfl ?_
      refine l_go (.exit rfl) ?_
      repeat(first|refine lrun_ ?_|(refine lo_boxA rfl rfl ?_;intro _ _ _)|(refine lo_box1 rfl rfl rfl ?_;intro _ _ _)|(refine lo_alloc rfl ?_;intro _ _ _))
      exact l_retR2 rfl (by repeat(first|exact LRes.nil|refine LRes.tmp rfl ?_|refine LRes.agg rfl (by(repeat(first|exact MIn.hd|refine MIn.tl ?_));done) (by rfl) (by rfl) ?_|refine LRes.one rfl (by(repeat(first|exact MIn.hd|refine MIn.tl ?_));done) (by rfl) ?_)) fun w' hw => ⟨hw.org, out fun _ e => h2 e.1⟩
  · repeat(first|refine lrun_ ?_|(refine lo_boxA rfl rfl ?_;intro _ _ _)|(refine lo_box1 rfl rfl rfl ?_;intro _ _ _)|(refine lo_alloc rfl ?_;intro _ _ _))
    refine l_false rfl ?_
    refine l_go (.exit rfl) ?_
    repeat(first|refine lrun_ ?_|(refine lo_boxA rfl rfl ?_;intro _ _ _)|(refine lo_box1 rfl rfl rfl ?_;intro _ _ _)|(refine lo_alloc rfl ?_;intro _ _ _))
    exact l_retR2 rfl (by repeat(first|exact LRes.nil|refine LRes.tmp rfl ?_|refine LRes.agg rfl (by(repeat(first|exact MIn.hd|refine MIn.tl ?_));done) (by rfl) (by rfl) ?_|refine LRes.one rfl (by(repeat(first|exact MIn.hd|refine MIn.tl ?_));done) (by rfl) ?_)) fun w' hw => ⟨hw.org, out fun e => absurd e h1⟩
end
end Go.Ink
