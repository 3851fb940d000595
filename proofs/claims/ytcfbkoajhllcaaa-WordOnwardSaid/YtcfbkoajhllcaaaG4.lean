/-
  word.places$1: a place after the other is yielded.
-/
import Derived.Test.YtcfbkoajhllcaaaG3
set_option linter.unusedVariables false
set_option linter.unusedSimpArgs false
namespace Go.Ink
open Go Go.Proofs

theorem runes_le : ∀ {l : List (List Int)}, ∀ r ∈ l, r.length ≤ runesM l
  | [], r, h => by simp at h
  | x :: xs, r, h => by
    have e : runesM (x :: xs) = x.length + runesM xs := by simp [runesM]
    rcases List.mem_cons.1 h with rfl | h
    · omega
    · have := runes_le r h; omega
section
variable {F : Nat → Prop} {w : World} {A : Option Addr} {c : Nat} {l : List (List Int)} {g1 g2 g3 lp t0 : Nat} {by_ : Int}
/-- What the walk over places needs of a world. -/
structure Pw (F : Nat → Prop) (A : Option Addr) (c : Nat) (l : List (List Int)) (g1 g2 g3 : Nat) (by_ : Int) (q : Ps) (w : World) : Prop where
  sl : Sl kRow F w (.slice A l.length c) l
  c1 : w.cell? ⟨g1, 0, none⟩ = some (.slice A l.length c)
  c2 : w.heap[g2]? = some (cb [.int .i64 q.1, .int .i64 q.2] 24)
  c3 : w.cell? ⟨g3, 0, none⟩ = some (.int .i64 by_)
set_option maxHeartbeats 8000000 in
theorem places1_calls (J : Nat → Ps → World → Prop) (Jx Je : World → Prop) (hs0 : l.length + runesM l ≤ 4000) (hby : by_ = 1 ∨ by_ = -1) (hF : ∀ k, F k → k ≠ g2) (h12 : g1 ≠ g2) (h32 : g3 ≠ g2)
    (hJ : ∀ t q w, J t q w → (placesTo l l.length)[t]? = some q ∧ Pw F A c l g1 g2 g3 by_ q w)
    (hround : ∀ (t : Nat) (q : Ps) (u : Nat) (q' : Ps) w w1, J t q w → (placesTo l l.length)[u]? = some q' → (u : Int) = t + by_ → Kp (fun k => k = g2) w w1 → w1.heap[g2]? = some (cb [.int .i64 q'.1, .int .i64 q'.2] 24) →
      RoundR Try.prog lp [posV q'] w1 fun v w' => (v = .bool true ∧ J u q' w') ∨ (v = .bool false ∧ Jx w'))
    (hend : ∀ t q w w1, J t q w → ((t : Int) + by_ < 0 ∨ ((placesTo l l.length).length : Int) ≤ t + by_) → Kp (fun k => k = g2) w w1 → Je w1) {q0 : Ps} (h0 : J t0 q0 w) :
    CallsR Try.prog 43 #[.func (.yield lp) #[] #[], .pointer (some ⟨g1, 0, none⟩), .pointer (some ⟨g2, 0, none⟩), .pointer (some ⟨g3, 0, none⟩)] w fun _ w' => Jx w' ∨ Je w' := by
  have hP4 : (placesTo l l.length).length ≤ 4000 := Nat.le_trans (placesTo_le l.length (Nat.le_refl _)) (by rw [List.take_length]; exact hs0)
  have hrl : ∀ i, i < l.length → (l.getD i []).length ≤ 4000 := fun i hi => by
    have : (l.getD i []).length ≤ runesM l := by
      rw [getD_get hi]
      exact runes_le _ (List.getElem_mem hi)
    omega
  obtain ⟨hp0, hw0⟩ := hJ _ _ _ h0
  have hpos : 0 < l.length := by have := (get_at hp0).i; omega
  refine calls_enter Try.func43 rfl rfl ?_
  repeat(refine run_ ?_)
  refine o_still (r_load rfl hw0.c1) (wants_none rfl) rfl ?_
  repeat(refine run_ ?_)
  refine k_no rfl (by omega) ?_
  repeat(refine run_ ?_)
  refine k_while (S := Nat) (fun t => if by_ = 1 then (placesTo l l.length).length - t else t) (fun _ => [(0, .func (.yield lp) #[] #[]), (1, .pointer (some ⟨g1, 0, none⟩)), (2, .pointer (some ⟨g2, 0, none⟩)), (3, .pointer (some ⟨g3, 0, none⟩))])
    (fun t w => ∃ q, J t q w) t0 (by repeat (first | exact SubB.nil | refine SubB.cons rfl ?_)) ⟨q0, h0⟩ ?_
  rintro t wr ⟨q, hj⟩ ih
  obtain ⟨hp, hw⟩ := hJ _ _ _ hj
  obtain ⟨A', c', ad, rV, rc, ra, he, hR⟩ := hw.sl.rws
  cases he
  have hc1 := hw.c1
  have hc3 := hw.c3
  have ht := (List.getElem?_eq_some_iff.1 hp).1
  have hlw : Lw wr (fun k => k = g2) wr (fun k => k = g2) [(g2, cb [.int .i64 q.1, .int .i64 q.2] 24)] wr := (Lw.init wr _ _).own hw.c2 (by simp) rfl rfl
  -- the place is told
  have tell : ∀ (u : Nat) (q' : Ps), (placesTo l l.length)[u]? = some q' → (u : Int) = t + by_ → ∀ σ', SubB σ' [(0, .func (.yield lp) #[] #[]), (1, .pointer (some ⟨g1, 0, none⟩)), (2, .pointer (some ⟨g2, 0, none⟩)), (3, .pointer (some ⟨g3, 0, none⟩))] →
      WL Try.prog Try.f43 [.code (bodyC Try.f43 [1, 0, 0, 0, 1, 1]), .inBlock 1, .inLoop (bodyC Try.f43 [1, 0, 0]), .inBlock 0] σ' wr (fun k => k = g2) wr (fun k => k = g2) [(g2, cb [.int .i64 q'.1, .int .i64 q'.2] 24)] fun _ w' => Jx w' ∨ Je w' := by
    intro u q' hu hut σ' hs
    refine WL.sub hs .refl ?_
    clear hs
    have hul := (List.getElem?_eq_some_iff.1 hu).1
    repeat(first|refine lrun_ ?_|(refine lo_boxA rfl rfl ?_;intro _ _ _)|(refine lo_box1 rfl rfl rfl ?_;intro _ _ _)|(refine lo_alloc rfl ?_;intro _ _ _))
    refine lo_yield (yd_call rfl rfl) rfl (fun w1 hw1 => (hround t q u q' wr w1 hj hu hut hw1.org (hw1.mem _ _ .hd)).mono ?_)
    rintro v w' (⟨rfl, hj'⟩ | ⟨rfl, hx⟩)
    · repeat(refine run_ ?_)
      refine k_false rfl ?_
      repeat(refine run_ ?_)
      exact ih u w' ⟨q', hj'⟩ (by split <;> omega) _ (by repeat (first | exact SubB.nil | refine SubB.cons rfl ?_))
    · repeat(refine run_ ?_)
      refine k_true rfl ?_
      repeat(refine run_ ?_)
      exact k_ret0 rfl (.inl hx)
  have key : (stepM l by_ q = none → ((t : Int) + by_ < 0 ∨ ((placesTo l l.length).length : Int) ≤ t + by_)) ∧ ∀ q', stepM l by_ q = some q' → ∃ u : Nat, (placesTo l l.length)[u]? = some q' ∧ (u : Int) = t + by_ := by
    rcases hby with rfl | rfl
    · obtain ⟨h1, h2⟩ := step_fwd hp
      exact ⟨fun h => by have := h1 h; omega, fun q' h => ⟨t + 1, h2 q' h, by omega⟩⟩
    · obtain ⟨h1, h2⟩ := step_bwd hp
      exact ⟨fun h => by have := h1 h; omega, fun q' h => by obtain ⟨u, e, h3⟩ := h2 q' h; exact ⟨u, h3, by omega⟩⟩
  obtain ⟨i, k, rfl, hi, hk⟩ := at_col (get_at hp)
  have hil := hrl i hi
  have hll : l.length ≤ 4000 := by omega
  have hNA : 0 < l.length → ¬ ad.block = g2 := fun h => hF _ (hR.fa h)
  have hNR : ∀ j, j < l.length → 0 < (l.getD j []).length → ¬ (ra j).block = g2 := fun j h h' => hF _ (hR.fr j h h')
  have hst : stepM l by_ ((i : Int), (k : Int)) = if (k : Int) + by_ < 0 ∨ ((l.getD i []).length : Int) ≤ (k : Int) + by_ then
      if (i : Int) + by_ < 0 ∨ (l.length : Int) ≤ (i : Int) + by_ then none
      else some ((i : Int) + by_, if by_ < 0 then (if 0 < ((l.getD ((i : Int) + by_).toNat []).length : Int) - 1 then ((l.getD ((i : Int) + by_).toNat []).length : Int) - 1 else 0) else 0)
      else some ((i : Int), (k : Int) + by_) := by unfold stepM; rw [rowOf_at]
  rw [hst] at key
  clear hst
  refine l_close hlw ?_
  repeat(first|refine lrun_ ?_|(refine lo_boxA rfl rfl ?_;intro _ _ _)|(refine lo_box1 rfl rfl rfl ?_;intro _ _ _)|(refine lo_alloc rfl ?_;intro _ _ _))
  refine l_draw [(0, 0), (1, 0), (2, 0), (3, 0), (4, 0), (5, 0), (6, 0), (7, 0), (8, 0), (9, 0), (10, 0), (11, 0), (12, 0), (13, 0)] (by kernel_rfl) (by kernel_rfl) rfl (by kernel_rfl) ?_
  by_cases hcol : (k : Int) + by_ < 0 ∨ ((l.getD i []).length : Int) ≤ (k : Int) + by_
  case neg =>
    rw [if_neg hcol] at key
    obtain ⟨u, hu, hut⟩ := key.2 _ rfl
    have hc0 : decide ((k : Int) + by_ < 0) = false := decide_eq_false (by omega)
    have hc4 : decide (((l.getD i []).length : Int) ≤ (k : Int) + by_) = false := decide_eq_false (by omega)
    repeat(first|refine lrund_ ?_|(refine ld_open rfl ?_;first|(refine ld_boxA rfl wy_ rfl ?_;intro _ _ _)|(refine ld_box1 rfl rfl wy_ rfl ?_;intro _ _ _)|(refine ld_alloc wy_ rfl ?_;intro _ _ _)))
    refine l_no rfl (by omega) ?_
    refine l_go .skip ?_
    exact tell u _ hu hut _ (by repeat (first | exact SubB.nil | refine SubB.cons rfl ?_))
  rw [if_pos hcol] at key
  have row2 : ∀ σ', SubB σ' [(0, .func (.yield lp) #[] #[]), (1, .pointer (some ⟨g1, 0, none⟩)), (2, .pointer (some ⟨g2, 0, none⟩)), (3, .pointer (some ⟨g3, 0, none⟩))] →
      WL Try.prog Try.f43 [.code (bodyC Try.f43 [1, 0, 0, 0, 1, 0, 1, 0]), .code (bodyC Try.f43 [1, 0, 0, 0, 1, 1]), .inBlock 1, .inLoop (bodyC Try.f43 [1, 0, 0]), .inBlock 0] σ' wr (fun k => k = g2) wr (fun k => k = g2) [(g2, cb [.int .i64 i, .int .i64 ((k : Int) + by_)] 24)] fun _ w' => Jx w' ∨ Je w' := by
    intro σ' hs
    refine WL.sub hs .refl ?_
    clear hs
    by_cases hrow : (i : Int) + by_ < 0 ∨ (l.length : Int) ≤ (i : Int) + by_
    · have hje := key.1 (if_pos hrow)
      by_cases hi0 : (i : Int) + by_ < 0
      · repeat(first|refine lrun_ ?_|(refine lo_boxA rfl rfl ?_;intro _ _ _)|(refine lo_box1 rfl rfl rfl ?_;intro _ _ _)|(refine lo_alloc rfl ?_;intro _ _ _))
        refine l_true rfl ?_
        repeat(first|refine lrun_ ?_|(refine lo_boxA rfl rfl ?_;intro _ _ _)|(refine lo_box1 rfl rfl rfl ?_;intro _ _ _)|(refine lo_alloc rfl ?_;intro _ _ _))
        exact l_ret0 rfl fun w hw => .inr (hend _ _ _ _ hj hje hw.org)
      · repeat(first|refine lrun_ ?_|(refine lo_boxA rfl rfl ?_;intro _ _ _)|(refine lo_box1 rfl rfl rfl ?_;intro _ _ _)|(refine lo_alloc rfl ?_;intro _ _ _))
        refine l_yes rfl (by omega) ?_
        repeat(first|refine lrun_ ?_|(refine lo_boxA rfl rfl ?_;intro _ _ _)|(refine lo_box1 rfl rfl rfl ?_;intro _ _ _)|(refine lo_alloc rfl ?_;intro _ _ _))
        exact l_ret0 rfl fun w hw => .inr (hend _ _ _ _ hj hje hw.org)
    obtain ⟨u, hu, hut⟩ := key.2 _ (if_neg hrow)
    have hi0 : decide ((i : Int) + by_ < 0) = false := decide_eq_false (by omega)
    obtain ⟨j, hj2⟩ : ∃ j : Nat, (i : Int) + by_ = j := ⟨((i : Int) + by_).toNat, by omega⟩
    have hjl := hrl j (by omega)
    rw [hj2, Int.toNat_natCast] at hu
    repeat(first|refine lrun_ ?_|(refine lo_boxA rfl rfl ?_;intro _ _ _)|(refine lo_box1 rfl rfl rfl ?_;intro _ _ _)|(refine lo_alloc rfl ?_;intro _ _ _))
    refine l_no rfl (by omega) ?_
    rw [hj2]
    repeat(first|refine lrun_ ?_|(refine lo_boxA rfl rfl ?_;intro _ _ _)|(refine lo_box1 rfl rfl rfl ?_;intro _ _ _)|(refine lo_alloc rfl ?_;intro _ _ _))
    by_cases hb0 : by_ < 0
    · rw [if_pos hb0] at hu
      refine l_yes rfl hb0 ?_
      refine l_region ?_;(repeat(first|refine lops_ ?_|(refine lo_boxA rfl rfl ?_;intro _ _ _)|(refine lo_box1 rfl rfl rfl ?_;intro _ _ _)|(refine lo_alloc rfl ?_;intro _ _ _)));refine lo_nil ?_
      exact tell u _ hu hut _ (by repeat (first | exact SubB.nil | refine SubB.cons rfl ?_))
    · rw [if_neg hb0] at hu
      refine l_no rfl hb0 ?_
      refine l_go .skip ?_
      exact tell u _ hu hut _ (by repeat (first | exact SubB.nil | refine SubB.cons rfl ?_))
  by_cases hc0 : (k : Int) + by_ < 0
  · repeat(first|refine lrund_ ?_|(refine ld_open rfl ?_;first|(refine ld_boxA rfl wy_ rfl ?_;intro _ _ _)|(refine ld_box1 rfl rfl wy_ rfl ?_;intro _ _ _)|(refine ld_alloc wy_ rfl ?_;intro _ _ _)))
    refine l_true rfl ?_
    exact row2 _ (by repeat (first | exact SubB.nil | refine SubB.cons rfl ?_))
  · repeat(first|refine lrund_ ?_|(refine ld_open rfl ?_;first|(refine ld_boxA rfl wy_ rfl ?_;intro _ _ _)|(refine ld_box1 rfl rfl wy_ rfl ?_;intro _ _ _)|(refine ld_alloc wy_ rfl ?_;intro _ _ _)))
    refine l_yes rfl (by omega) ?_
    exact row2 _ (by repeat (first | exact SubB.nil | refine SubB.cons rfl ?_))
end
end Go.Ink
