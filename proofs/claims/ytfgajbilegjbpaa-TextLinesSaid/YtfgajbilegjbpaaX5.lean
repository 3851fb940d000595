/-
  Lines over a row of runes: joined; the text in memory; New, Count, Runes, Line, Offset, Place.
-/
import Derived.Test.YtfgajbilegjbpaaX4
import Derived.Test.YtfgajbilegjbpaaPc
set_option linter.unusedVariables false
set_option linter.unusedSimpArgs false
namespace Go.Ink
open Go Go.Proofs Go.RowKit

/-- Has no line a 10? -/
def plainB (l : List (List Int)) : Bool := l.all fun x => decide (10 ∉ x)
theorem not_mem_getD {x : List Int} (h : ∀ k, k < x.length → x.getD k 0 ≠ 10) : 10 ∉ x := fun hm => by
  obtain ⟨k, hk, e⟩ := List.getElem_of_mem hm
  exact h k hk (by rw [List.getD_eq_getElem?_getD, List.getElem?_eq_getElem hk]; exact e)
theorem mem_getD {x : List Int} {k : Nat} (hk : k < x.length) (h : x.getD k 0 = 10) : 10 ∈ x := by
  rw [List.getD_eq_getElem?_getD, List.getElem?_eq_getElem hk] at h
  exact h ▸ List.getElem_mem hk
theorem plain_false {l : List (List Int)} {i : Nat} (hi : i < l.length) (h : 10 ∈ l.getD i []) : plainB l = false := by
  unfold plainB
  rw [List.all_eq_false]
  refine ⟨l.getD i [], ?_, by simpa using h⟩
  rw [List.getD_eq_getElem?_getD, List.getElem?_eq_getElem hi]
  exact List.getElem_mem hi
theorem plain_iff {l : List (List Int)} : plainB l = true ↔ ∀ x ∈ l, 10 ∉ x := by unfold plainB; simp
section
variable {F : Nat → Prop} {w : World} {v : Value} {l : List (List Int)}
set_option maxHeartbeats 4000000 in
theorem joinedC_calls (h : Sl kRow F w v l) (hb : runesM l + l.length ≤ 4194304) : CallsR Try.prog 32 #[v] w fun u w' => Kn w w' ∧ ∃ x : Value, u = .tuple #[x, .bool (plainB l)] ∧ Ow kRune (noB w) (fun _ => False) w' x (if plainB l then jndM l else []) := by
  obtain ⟨A, c, ad, rV, rc, ra, rfl, hR⟩ := h.rws
  have hlen := hR.len
  refine l_enter (fun _ => False) Try.func32 rfl rfl ?_
  repeat(first|refine lrun_ ?_|(refine lo_boxA rfl rfl ?_;intro _ _ _)|(refine lo_box1 rfl rfl rfl ?_;intro _ _ _)|(refine lo_alloc rfl ?_;intro _ _ _))
  refine l_whileB (fun s : Nat × Option Addr × Nat => l.length - s.1) (fun s => [(9, .slice A l.length c), (10, .int .i64 l.length), (4, .slice s.2.1 (jndP l s.1).length s.2.2), (11, .int .i64 (s.1 : Int))]) (fun _ => [])
    (fun s b => (s.1 ≤ l.length ∧ ∀ j, j < s.1 → 10 ∉ l.getD j []) ∧ Og kRune w b (MK []) (fun _ => False) (.slice s.2.1 (jndP l s.1).length s.2.2) (jndP l s.1)) (0, none, 0) (by repeat (first | exact SubB.nil | refine SubB.cons rfl ?_)) (by repeat(first|exact MSub.refl|refine MSub.keep rfl ?_|exact MSub.nil|apply MSub.drop)) (fun w' hw => ⟨⟨Nat.zero_le _, fun j hj => by omega⟩, Ow.nil _ _ _ _⟩) ?_
  rintro ⟨i, A1, c1⟩ b ⟨⟨hi, hpl⟩, hO⟩ hkb ih
  simp only at hi hO hpl
  have hjl := jndP_le l i hi
  dsimp only
  by_cases hlt : i < l.length
  case neg =>
    obtain rfl : i = l.length := by omega
    have hP : plainB l = true := plain_iff.2 fun x hx => by
      obtain ⟨j, hj, e⟩ := List.getElem_of_mem hx
      have := hpl j hj
      rw [List.getD_eq_getElem?_getD, List.getElem?_eq_getElem hj] at this
      exact e ▸ this
    repeat(first|refine lrun_ ?_|(refine lo_boxA rfl rfl ?_;intro _ _ _)|(refine lo_box1 rfl rfl rfl ?_;intro _ _ _)|(refine lo_alloc rfl ?_;intro _ _ _))
    refine l_no rfl (by omega) ?_
    refine l_go (.exit rfl) ?_
    repeat(first|refine lrun_ ?_|(refine lo_boxA rfl rfl ?_;intro _ _ _)|(refine lo_box1 rfl rfl rfl ?_;intro _ _ _)|(refine lo_alloc rfl ?_;intro _ _ _))
    refine l_retR2 rfl (by repeat(first|exact LRes.nil|refine LRes.tmp rfl ?_|refine LRes.agg rfl (by(repeat(first|exact MIn.hd|refine MIn.tl ?_));done) (by rfl) (by rfl) ?_|refine LRes.one rfl (by(repeat(first|exact MIn.hd|refine MIn.tl ?_));done) (by rfl) ?_)) fun w' hw => ⟨hw.org, _, by rw [hP], ?_⟩
    rw [hP, if_pos rfl]
    exact (Kn.ow (kn_mk hw.kp) hO).mono (fun k hk _ => hk.1) fun _ h _ => h
  have hjl2 := jndP_le l (i + 1) hlt
  have hrl := hR.rl i
  have J : ∀ (b2 : World) (x : List Int) (A2 : Option Addr) (c2 : Nat), x = (if 0 < i then jndP l i ++ [10] else jndP l i) → Og kRune w b2 (MK []) (fun _ => False) (.slice A2 x.length c2) x → ∀ σ', SubB σ' [(9, .slice A l.length c), (10, .int .i64 l.length), (4, .slice A2 x.length c2), (6, .slice (rV i) (l.getD i []).length (rc i)), (11, .int .i64 (i : Int))] → ∀ M', MSub [] M' →
      WL Try.prog Try.f32 (.code (bodyC Try.f32 [1, 1, 0, 1, 0, 0, 1, 1, 0, 0, 1, 1]) :: .inBlock 1 :: .code (bodyC Try.f32 [1, 1, 0, 1, 0, 0, 1, 1, 1]) :: .inLoop (bodyC Try.f32 [1, 1, 0, 1, 0, 0]) :: .inBlock 0 :: [.code (bodyC Try.f32 [1, 1, 1])]) σ' w (fun _ => False) b2 (MK []) M' (fun u w' => Kn w w' ∧ ∃ x : Value, u = .tuple #[x, .bool (plainB l)] ∧ Ow kRune (noB w) (fun _ => False) w' x (if plainB l then jndM l else [])) := by
    intro b2 x A2 c2 hx hO2 σ' hs M' hM
    refine WL.sub hs hM ?_
    have hxl : x.length ≤ (jndP l i).length + 1 := by rw [hx]; split <;> simp
    have hj1 : jndP l (i + 1) = x ++ l.getD i [] := by rw [hx]; rfl
    repeat(first|refine lrun_ ?_|(refine lo_boxA rfl rfl ?_;intro _ _ _)|(refine lo_box1 rfl rfl rfl ?_;intro _ _ _)|(refine lo_alloc rfl ?_;intro _ _ _))
    refine l_while (fun j : Nat => (l.getD i []).length - j) (fun j => [(9, .slice A l.length c), (10, .int .i64 l.length), (4, .slice A2 x.length c2), (6, .slice (rV i) (l.getD i []).length (rc i)), (11, .int .i64 (i : Int)), (21, .slice (rV i) (l.getD i []).length (rc i)), (22, .int .i64 ((l.getD i []).length : Int)), (23, .int .i64 (j : Int))]) (fun _ => []) (fun j => j ≤ (l.getD i []).length ∧ ∀ k, k < j → (l.getD i []).getD k 0 ≠ 10) 0 (by repeat (first | exact SubB.nil | refine SubB.cons rfl ?_)) (by repeat(first|exact MSub.refl|refine MSub.keep rfl ?_|exact MSub.nil|apply MSub.drop)) ⟨Nat.zero_le _, fun k hk => by omega⟩ ?_
    rintro j ⟨hj, hq⟩ ihj
    by_cases hlt2 : j < (l.getD i []).length
    · repeat(first|refine lrun_ ?_|(refine lo_boxA rfl rfl ?_;intro _ _ _)|(refine lo_box1 rfl rfl rfl ?_;intro _ _ _)|(refine lo_alloc rfl ?_;intro _ _ _))
      refine l_yes rfl (by omega) ?_
      repeat(first|refine lrun_ ?_|(refine lo_boxA rfl rfl ?_;intro _ _ _)|(refine lo_box1 rfl rfl rfl ?_;intro _ _ _)|(refine lo_alloc rfl ?_;intro _ _ _))
      by_cases h10 : (l.getD i []).getD j 0 = 10
      · have hP : plainB l = false := plain_false hlt (mem_getD hlt2 h10)
        refine l_yes rfl h10 ?_
        repeat(first|refine lrun_ ?_|(refine lo_boxA rfl rfl ?_;intro _ _ _)|(refine lo_box1 rfl rfl rfl ?_;intro _ _ _)|(refine lo_alloc rfl ?_;intro _ _ _))
        refine l_retR2 rfl (by repeat(first|exact LRes.nil|refine LRes.tmp rfl ?_|refine LRes.agg rfl (by(repeat(first|exact MIn.hd|refine MIn.tl ?_));done) (by rfl) (by rfl) ?_|refine LRes.one rfl (by(repeat(first|exact MIn.hd|refine MIn.tl ?_));done) (by rfl) ?_)) fun w' hw => ⟨hw.org, _, by rw [hP], ?_⟩
        rw [hP]
        exact Ow.nil _ _ _ _
      · refine l_no rfl h10 ?_
        refine l_go .skip ?_
        have ih2 := ihj (j + 1) ⟨hlt2, fun k hk => by
          rcases Nat.lt_or_ge k j with h | h
          · exact hq k h
          · obtain rfl : k = j := by omega
            exact h10⟩ (by omega)
        repeat(first|refine lrun_ ?_|(refine lo_boxA rfl rfl ?_;intro _ _ _)|(refine lo_box1 rfl rfl rfl ?_;intro _ _ _)|(refine lo_alloc rfl ?_;intro _ _ _))
        exact ih2 _ _ (by repeat (first | exact SubB.nil | refine SubB.cons rfl ?_)) (by repeat(first|exact MSub.refl|refine MSub.keep rfl ?_|exact MSub.nil|apply MSub.drop))
    obtain rfl : j = (l.getD i []).length := by omega
    clear ihj
    repeat(first|refine lrun_ ?_|(refine lo_boxA rfl rfl ?_;intro _ _ _)|(refine lo_box1 rfl rfl rfl ?_;intro _ _ _)|(refine lo_alloc rfl ?_;intro _ _ _))
    refine l_no rfl (by omega) ?_
    refine l_go (.exit rfl) ?_
    repeat(first|refine lrun_ ?_|(refine lo_boxA rfl rfl ?_;intro _ _ _)|(refine lo_box1 rfl rfl rfl ?_;intro _ _ _)|(refine lo_alloc rfl ?_;intro _ _ _))
    refine lo_appendS (d := kRune) (ys := l.getD i []) (F2 := fun k => k < w.heap.size) rfl rfl hO2 (fun w' hw => Kn.sl hw.org ((hR.rs i hlt).old)) (fun k hk ho => by have := (hO2.block k ho).1.1; omega) (by have := hO2.block; show (x.length + (l.getD i []).length) * 4 ≤ 140737488355328; rw [hj1, List.length_append] at hjl2; omega) rfl rfl rfl rfl ?_
    intro w3 A3 n3 w4 hw3 ko3 kp3 hown hog
    rw [← hj1] at hog ⊢
    repeat(first|refine lops_ ?_|(refine lo_boxA rfl rfl ?_;intro _ _ _)|(refine lo_box1 rfl rfl rfl ?_;intro _ _ _)|(refine lo_alloc rfl ?_;intro _ _ _))
    refine lo_nil ?_
    refine l_baseM (M3 := []) .nil fun w5 hw5 => ?_
    have hO5 : Og kRune w w5 (MK []) (fun _ => False) (.slice A3 (jndP l (i + 1)).length n3) (jndP l (i + 1)) := (Kp.ow hw5.kp hog (fun _ h => h.2) fun _ h => h.elim).mono (fun k hk _ => ⟨hk.1, mk_nil⟩) fun _ h _ => h
    have hpl2 : ∀ k, k < i + 1 → 10 ∉ l.getD k [] := fun k hk => by
      rcases Nat.lt_or_ge k i with h | h
      · exact hpl k h
      · obtain rfl : k = i := by omega
        exact not_mem_getD hq
    repeat(first|refine lrun_ ?_|(refine lo_boxA rfl rfl ?_;intro _ _ _)|(refine lo_box1 rfl rfl rfl ?_;intro _ _ _)|(refine lo_alloc rfl ?_;intro _ _ _))
    exact ih (i + 1, A3, n3) w5 _ ⟨⟨hlt, hpl2⟩, hO5⟩ (by simp only; omega) _ _ (by repeat (first | exact SubB.nil | refine SubB.cons rfl ?_)) (by repeat(first|exact MSub.refl|refine MSub.keep rfl ?_|exact MSub.nil|apply MSub.drop)) fun w' hw' => ⟨⟨hlt, hpl2⟩, Kn.ow (kn_mk hw'.kp) hO5⟩
  repeat(first|refine lrun_ ?_|(refine lo_boxA rfl rfl ?_;intro _ _ _)|(refine lo_box1 rfl rfl rfl ?_;intro _ _ _)|(refine lo_alloc rfl ?_;intro _ _ _))
  refine l_yes rfl (by omega) ?_
  by_cases h0 : 0 < i
  · repeat(first|refine lrun_ ?_|(refine lo_boxA rfl rfl ?_;intro _ _ _)|(refine lo_box1 rfl rfl rfl ?_;intro _ _ _)|(refine lo_alloc rfl ?_;intro _ _ _))
    refine l_yes rfl (by omega) ?_
    repeat(first|refine lrun_ ?_|(refine lo_boxA rfl rfl ?_;intro _ _ _)|(refine lo_box1 rfl rfl rfl ?_;intro _ _ _)|(refine lo_alloc rfl ?_;intro _ _ _))
    refine lo_lit (cs := [.int .i32 10]) rfl (by decide) (by kernel_rfl) rfl ?_
    intro g19 hg19 hg19'
    refine lo_append1 (d := kRune) (q := 10) rfl rfl (hO.mono (G' := fre w (MK [])) (F' := fun _ => False) (fun k hk _ => hk) fun _ h _ => h) (fun _ h => h.elim) (by(repeat(first|exact MIn.hd|refine MIn.tl ?_));done) (fun w' hw => ⟨rfl, by decide, by decide⟩) (by show (_ + 1) * 4 ≤ 140737488355328; omega) rfl rfl rfl rfl ?_
    intro w3 A3 n3 w4 hw3 ko3 kp3 hown hog
    repeat(first|refine lops_ ?_|(refine lo_boxA rfl rfl ?_;intro _ _ _)|(refine lo_box1 rfl rfl rfl ?_;intro _ _ _)|(refine lo_alloc rfl ?_;intro _ _ _))
    refine lo_nil ?_
    refine l_baseM (M3 := []) .nil fun w5 hw5 => ?_
    have hO5 : Og kRune w w5 (MK []) (fun _ => False) (.slice A3 (jndP l i ++ [10]).length n3) (jndP l i ++ [10]) := (Kp.ow hw5.kp hog (fun _ h => h.2) fun _ h => h.elim).mono (fun k hk _ => ⟨hk.1, mk_nil⟩) fun _ h _ => h
    exact J w5 _ A3 n3 (by rw [if_pos h0]) hO5 _ (by repeat (first | exact SubB.nil | refine SubB.cons rfl ?_)) _ (by repeat(first|exact MSub.refl|refine MSub.keep rfl ?_|exact MSub.nil|apply MSub.drop))
  · repeat(first|refine lrun_ ?_|(refine lo_boxA rfl rfl ?_;intro _ _ _)|(refine lo_box1 rfl rfl rfl ?_;intro _ _ _)|(refine lo_alloc rfl ?_;intro _ _ _))
    refine l_no rfl (by omega) ?_
    refine l_go .skip ?_
    exact J b _ A1 c1 (by rw [if_neg h0]) hO _ (by repeat (first | exact SubB.nil | refine SubB.cons rfl ?_)) _ (by repeat(first|exact MSub.refl|refine MSub.keep rfl ?_|exact MSub.nil|apply MSub.drop))
end
end Go.Ink
