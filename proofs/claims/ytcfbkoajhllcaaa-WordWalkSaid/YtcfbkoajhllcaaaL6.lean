/-
  WordWalk: the walks.
-/
import Derived.Test.YtcfbkoajhllcaaaL5
import Derived.Test.YtcfbkoajhllcaaaLa
set_option linter.unusedVariables false
set_option linter.unusedSimpArgs false
namespace Go.Ink
open Go Go.Proofs

section
variable {W B : World} {K : Nat → Prop} {l : List (List Int)} {A Aw Ap : Option Addr} {c cw cp g8 g10 : Nat} {aw : Addr} {big : Bool} {P : List Ps} {kk : List Item} {R : Value → World → Prop}
/-- On. -/
theorem ww_on (hP1 : 0 < P.length → Aw = some aw ∧ True) (hP2 : ∀ u q, P[u]? = some q → ∀ j z, [Value.int .i64 q.1, .int .i64 q.2][j]? = some z → B.cell? ((aw.add (u * 2)).add j) = some z) (hnk : 0 < P.length → ∀ j, ¬ K (aw.add j).block) (hpl : P.length ≤ 4000)
    (hs0 : l.length + runesM l ≤ 4000) (h : Sl kRow (fun _ => True) W (.slice A l.length c) l) (h0 : l ≠ []) (hPe : P = wnt (edgeM l big (-1)) (pl l) ((pl l).length - 1)) (hat : ∀ q, At l q → P64 q)
    (done : ∀ t p, (pl l)[t]? = some p → (wnt (edgeM l big (-1)) (pl l) t).length = P.length → ∀ σ', SubB σ' [(0, .slice A l.length c), (1, .bool big), (5, .slice Aw P.length cw), (8, .pointer (some ⟨g8, 0, none⟩))] → ∀ M', MSub [(g8, cb [.int .i64 p.1, .int .i64 p.2] 24)] M' → WL Try.prog Try.f4 kk σ' W (fun _ => False) B K M' R) :
    ∀ σ', SubB σ' [(0, .slice A l.length c), (1, .bool big), (5, .slice Aw P.length cw), (8, .pointer (some ⟨g8, 0, none⟩)), (9, .int .i64 (0 : Nat))] → ∀ M', MSub [(g8, cb [.int .i64 0, .int .i64 0] 24)] M' →
      WL Try.prog Try.f4 (.code (.loop (bodyC Try.f4 [1, 1, 1, 1, 1, 1, 0, 1, 0, 0])) :: .inBlock 2 :: kk) σ' W (fun _ => False) B K M' R := by
  intro σ' hs M' hM
  refine WL.sub hs hM ?_
  refine l_while (fun s : Nat × Nat × Ps => P.length - s.1) (fun s => [(0, .slice A l.length c), (1, .bool big), (5, .slice Aw P.length cw), (8, .pointer (some ⟨g8, 0, none⟩)), (9, .int .i64 (s.1 : Int))]) (fun s => [(g8, cb [.int .i64 s.2.2.1, .int .i64 s.2.2.2] 24)])
    (fun s => s.1 ≤ P.length ∧ (pl l)[s.2.1]? = some s.2.2 ∧ (wnt (edgeM l big (-1)) (pl l) s.2.1).length = s.1) (0, 0, (0, 0)) (by repeat (first | exact SubB.nil | refine SubB.cons rfl ?_)) (by repeat(first|exact MSub.refl|refine MSub.keep rfl ?_|exact MSub.nil|apply MSub.drop)) ⟨Nat.zero_le _, first_get h0, rfl⟩ ?_
  rintro ⟨i, t, p⟩ ⟨hi, ht, hc⟩ ih
  simp only at hi ht hc
  by_cases hlt : i < P.length
  · have hPp := hat p (get_at ht)
    repeat(first|refine lrun_ ?_|(refine lo_boxA rfl rfl ?_;intro _ _ _)|(refine lo_box1 rfl rfl rfl ?_;intro _ _ _)|(refine lo_alloc rfl ?_;intro _ _ _))
    refine l_yes rfl (by omega) ?_
    repeat(first|refine lrun_ ?_|(refine lo_boxA rfl rfl ?_;intro _ _ _)|(refine lo_box1 rfl rfl rfl ?_;intro _ _ _)|(refine lo_alloc rfl ?_;intro _ _ _))
    refine lo_callV (n_call rfl) rfl (fun w hw => next_calls (p := p) (big := big) hs0 (Kn.sl hw.org h) hPp) ?_
    rintro _ ⟨q, rfl, hq⟩
    rcases walk_on h0 ht hc hq with ⟨v, hv, hget, hcv⟩ | ⟨he, -⟩
    · rw [← hPe] at hget
      clear hq hPp
      repeat(first|refine lrun_ ?_|(refine lo_boxA rfl rfl ?_;intro _ _ _)|(refine lo_box1 rfl rfl rfl ?_;intro _ _ _)|(refine lo_alloc rfl ?_;intro _ _ _))
      refine l_draw [(0, 0), (1, 0), (2, 0), (3, 0), (4, 0), (5, 0)] (by kernel_rfl) (by kernel_rfl) rfl (by kernel_rfl) ?_
      repeat(first|refine lrund_ ?_|(refine ld_open rfl ?_;first|(refine ld_boxA rfl wy_ rfl ?_;intro _ _ _)|(refine ld_box1 rfl rfl wy_ rfl ?_;intro _ _ _)|(refine ld_alloc wy_ rfl ?_;intro _ _ _)))
      refine l_no rfl (fun h => h ⟨rfl, rfl⟩) ?_
      repeat(first|refine lrun_ ?_|(refine lo_boxA rfl rfl ?_;intro _ _ _)|(refine lo_box1 rfl rfl rfl ?_;intro _ _ _)|(refine lo_alloc rfl ?_;intro _ _ _))
      exact ih (i + 1, v, q) ⟨hlt, hv, hcv⟩ (by simp only; omega) _ _ (by repeat (first | exact SubB.nil | refine SubB.cons rfl ?_)) (by repeat(first|exact MSub.refl|refine MSub.keep rfl ?_|exact MSub.nil|apply MSub.drop))
    · rw [← hPe] at he; omega
  · obtain rfl : i = P.length := by omega
    repeat(first|refine lrun_ ?_|(refine lo_boxA rfl rfl ?_;intro _ _ _)|(refine lo_box1 rfl rfl rfl ?_;intro _ _ _)|(refine lo_alloc rfl ?_;intro _ _ _))
    refine l_no rfl (by omega) ?_
    refine l_go (.exit rfl) ?_
    exact done t p ht hc _ (by repeat (first | exact SubB.nil | refine SubB.cons rfl ?_)) _ (by repeat(first|exact MSub.refl|refine MSub.keep rfl ?_|exact MSub.nil|apply MSub.drop))
/-- Back. -/
theorem ww_back (hP1 : 0 < P.length → Aw = some aw ∧ True) (hP2 : ∀ u q, P[u]? = some q → ∀ j z, [Value.int .i64 q.1, .int .i64 q.2][j]? = some z → B.cell? ((aw.add (u * 2)).add j) = some z) (hnk : 0 < P.length → ∀ j, ¬ K (aw.add j).block) (hpl : P.length ≤ 4000)
    (hs0 : l.length + runesM l ≤ 4000) (h : Sl kRow (fun _ => True) W (.slice A l.length c) l) (h0 : l ≠ []) (hPe : P = wnt (edgeM l big (-1)) (pl l) ((pl l).length - 1)) (hat : ∀ q, At l q → P64 q)
    (done : ∀ t p, (pl l)[t]? = some p → (wnt (edgeM l big (-1)) (pl l) (t - 1)).length = 0 → ∀ σ', SubB σ' [(0, .slice A l.length c), (1, .bool big), (8, .pointer (some ⟨g8, 0, none⟩))] → ∀ M', MSub [(g8, cb [.int .i64 p.1, .int .i64 p.2] 24)] M' → WL Try.prog Try.f4 kk σ' W (fun _ => False) B K M' R) :
    ∀ σ', SubB σ' [(0, .slice A l.length c), (1, .bool big), (5, .slice Aw P.length cw), (8, .pointer (some ⟨g8, 0, none⟩)), (10, .pointer (some ⟨g10, 0, none⟩)), (11, .int .i64 ((P.length : Int) - 1))] → ∀ M', MSub [(g10, cb [.int .i64 (lastM l).1, .int .i64 (lastM l).2] 24), (g8, cb [.int .i64 (lastM l).1, .int .i64 (lastM l).2] 24)] M' →
      WL Try.prog Try.f4 (.code (.loop (bodyC Try.f4 [1, 1, 1, 1, 1, 1, 1, 1, 1, 1, 0, 1, 0, 0])) :: .inBlock 4 :: kk) σ' W (fun _ => False) B K M' R := by
  intro σ' hs M' hM
  refine WL.sub hs hM ?_
  obtain ⟨hlast, hlp⟩ := lastM_get h0
  have hwl := walk_last (f := edgeM l big (-1)) h0
  rw [← hPe] at hwl
  refine l_while (fun s : Nat × Nat × Ps => s.1) (fun s => [(0, .slice A l.length c), (1, .bool big), (5, .slice Aw P.length cw), (8, .pointer (some ⟨g8, 0, none⟩)), (10, .pointer (some ⟨g10, 0, none⟩)), (11, .int .i64 ((s.1 : Int) - 1))]) (fun s => [(g10, cb [.int .i64 (lastM l).1, .int .i64 (lastM l).2] 24), (g8, cb [.int .i64 s.2.2.1, .int .i64 s.2.2.2] 24)])
    (fun s => s.1 ≤ P.length ∧ (pl l)[s.2.1]? = some s.2.2 ∧ ((wnt (edgeM l big (-1)) (pl l) (s.2.1 - 1)).length = s.1 ∨ ∃ j, s.1 = j + 1 ∧ P[j]? = some (lastM l) ∧ (wnt (edgeM l big (-1)) (pl l) (s.2.1 - 1)).length = j)) (P.length, (pl l).length - 1, lastM l) (by repeat (first | exact SubB.nil | refine SubB.cons rfl ?_)) (by repeat(first|exact MSub.refl|refine MSub.keep rfl ?_|exact MSub.nil|apply MSub.drop)) ⟨Nat.le_refl _, hlast, hwl⟩ ?_
  rintro ⟨m, t, p⟩ ⟨hm, ht, hc⟩ ih
  simp only at hm ht hc
  cases m with
  | zero =>
    have hc0 : (wnt (edgeM l big (-1)) (pl l) (t - 1)).length = 0 := by
      rcases hc with hc | ⟨j, hj, -⟩
      · exact hc
      · omega
    repeat(first|refine lrun_ ?_|(refine lo_boxA rfl rfl ?_;intro _ _ _)|(refine lo_box1 rfl rfl rfl ?_;intro _ _ _)|(refine lo_alloc rfl ?_;intro _ _ _))
    refine l_false rfl ?_
    refine l_go (.exit rfl) ?_
    exact done t p ht hc0 _ (by repeat (first | exact SubB.nil | refine SubB.cons rfl ?_)) _ (by repeat(first|exact MSub.refl|refine MSub.keep rfl ?_|exact MSub.nil|apply MSub.drop))
  | succ m =>
    rw [show (((m + 1 : Nat) : Int)) - 1 = (m : Nat) by omega]
    have hmP : m < P.length := by omega
    rcases hc with hc | ⟨j, hj, hget, hc⟩
    · have hPp := hat p (get_at ht)
      obtain ⟨q, hs⟩ := seek_ex (l := l) (by_ := -1) (edgeM l big (-1)) p h0 (.inr rfl)
      rcases walk_back h0 ht hc hs with ⟨j, v, hj, hvt, hv, hget, hcv⟩ | ⟨he, -⟩
      · obtain rfl : j = m := by omega
        rw [← hPe] at hget
        have htl := (List.getElem?_eq_some_iff.1 ht).1
        have hne := wnt_lt_last h0 hv (by omega)
        have hne' : ¬ (q.1 = (lastM l).1 ∧ q.2 = (lastM l).2) := fun e => hne (Prod.ext e.1 e.2)
        have hpc := fun (w : World) (hk : Kn W w) => (calls_seekC (prev_calls (p := p) (big := big) hs0 (Kn.sl hk h) hPp)).mono fun u w' hu => (⟨hu.1, by rw [hu.2, ← seekC_eq hs]⟩ : Kn w w' ∧ u = posV q)
        clear hs hPp
        repeat(first|refine lrun_ ?_|(refine lo_boxA rfl rfl ?_;intro _ _ _)|(refine lo_box1 rfl rfl rfl ?_;intro _ _ _)|(refine lo_alloc rfl ?_;intro _ _ _))
        refine l_yes rfl (by omega) ?_
        repeat(first|refine lrun_ ?_|(refine lo_boxA rfl rfl ?_;intro _ _ _)|(refine lo_box1 rfl rfl rfl ?_;intro _ _ _)|(refine lo_alloc rfl ?_;intro _ _ _))
        refine l_draw [(0, 0), (1, 0), (2, 0), (3, 0), (4, 0), (5, 0)] (by kernel_rfl) (by kernel_rfl) rfl (by kernel_rfl) ?_
        repeat(first|refine lrund_ ?_|(refine ld_open rfl ?_;first|(refine ld_boxA rfl wy_ rfl ?_;intro _ _ _)|(refine ld_box1 rfl rfl wy_ rfl ?_;intro _ _ _)|(refine ld_alloc wy_ rfl ?_;intro _ _ _)))
        refine l_no rfl hne' ?_
        repeat(first|refine lrun_ ?_|(refine lo_boxA rfl rfl ?_;intro _ _ _)|(refine lo_box1 rfl rfl rfl ?_;intro _ _ _)|(refine lo_alloc rfl ?_;intro _ _ _))
        refine lo_call (n_call rfl) rfl (fun w hw => hpc w hw.org) ?_
        repeat(first|refine lrun_ ?_|(refine lo_boxA rfl rfl ?_;intro _ _ _)|(refine lo_box1 rfl rfl rfl ?_;intro _ _ _)|(refine lo_alloc rfl ?_;intro _ _ _))
        refine l_draw [(0, 0), (1, 0), (2, 0), (3, 0), (4, 0), (5, 0)] (by kernel_rfl) (by kernel_rfl) rfl (by kernel_rfl) ?_
        repeat(first|refine lrund_ ?_|(refine ld_open rfl ?_;first|(refine ld_boxA rfl wy_ rfl ?_;intro _ _ _)|(refine ld_box1 rfl rfl wy_ rfl ?_;intro _ _ _)|(refine ld_alloc wy_ rfl ?_;intro _ _ _)))
        refine l_no rfl (fun h => h ⟨rfl, rfl⟩) ?_
        repeat(first|refine lrun_ ?_|(refine lo_boxA rfl rfl ?_;intro _ _ _)|(refine lo_box1 rfl rfl rfl ?_;intro _ _ _)|(refine lo_alloc rfl ?_;intro _ _ _))
        exact ih (j, v, q) ⟨by simp only; omega, hv, .inl hcv⟩ (by simp only; omega) _ _ (by repeat (first | exact SubB.nil | refine SubB.cons rfl ?_)) (by repeat(first|exact MSub.refl|refine MSub.keep rfl ?_|exact MSub.nil|apply MSub.drop))
      · omega
    · obtain rfl : j = m := by omega
      repeat(first|refine lrun_ ?_|(refine lo_boxA rfl rfl ?_;intro _ _ _)|(refine lo_box1 rfl rfl rfl ?_;intro _ _ _)|(refine lo_alloc rfl ?_;intro _ _ _))
      refine l_yes rfl (by omega) ?_
      repeat(first|refine lrun_ ?_|(refine lo_boxA rfl rfl ?_;intro _ _ _)|(refine lo_box1 rfl rfl rfl ?_;intro _ _ _)|(refine lo_alloc rfl ?_;intro _ _ _))
      refine l_draw [(0, 0), (1, 0), (2, 0), (3, 0), (4, 0), (5, 0)] (by kernel_rfl) (by kernel_rfl) rfl (by kernel_rfl) ?_
      repeat(first|refine lrund_ ?_|(refine ld_open rfl ?_;first|(refine ld_boxA rfl wy_ rfl ?_;intro _ _ _)|(refine ld_box1 rfl rfl wy_ rfl ?_;intro _ _ _)|(refine ld_alloc wy_ rfl ?_;intro _ _ _)))
      refine l_yes rfl ⟨rfl, rfl⟩ ?_
      repeat(first|refine lrun_ ?_|(refine lo_boxA rfl rfl ?_;intro _ _ _)|(refine lo_box1 rfl rfl rfl ?_;intro _ _ _)|(refine lo_alloc rfl ?_;intro _ _ _))
      exact ih (j, t, p) ⟨by simp only; omega, ht, .inl hc⟩ (by simp only; omega) _ _ (by repeat (first | exact SubB.nil | refine SubB.cons rfl ?_)) (by repeat(first|exact MSub.refl|refine MSub.keep rfl ?_|exact MSub.nil|apply MSub.drop))
end
end Go.Ink
