/-
  The reference: Behind, Before.
-/
import Derived.Test.YtcfbkoajhllcaaaG10
set_option linter.unusedVariables false
set_option linter.unusedSimpArgs false
namespace Go.Ink
open Go Go.Proofs

section
variable {F : Nat → Prop} {w : World} {l : List (List Int)} {v : Value} {p q : Ps} {kind : Int}
set_option maxHeartbeats 4000000 in
theorem behind_calls (hs0 : l.length + runesM l ≤ 4000) (h : Sl kRow F w v l) (hp : P64 p) (hk : kind = 0 ∨ kind = 1 ∨ kind = 2 ∨ kind = 3 ∨ kind = 4 ∨ kind = 5 ∨ kind = 6) :
    CallsR Try.prog 20 #[v, posV p, .int .i64 kind] w fun u w' => Kn w w' ∧ ∃ q, u = posV q ∧ SeekM (isM l kind) l 1 p q := by
  obtain ⟨A, c, ad, rV, rc, ra, rfl, hR⟩ := h.rws
  have hmv : ∀ w', Kn w w' → ∃ ad' rV' rc' ra', Rws F w' A c l ad' rV' rc' ra' := fun w' hw => by
    obtain ⟨A', c', ad', rV', rc', ra', he, hR'⟩ := (Kn.sl hw hR.sl).rws
    cases he
    exact ⟨_, _, _, _, hR'⟩
  refine l_enter (fun _ => False) Try.func20 rfl rfl ?_
  repeat(first|refine lrun_ ?_|(refine lo_boxA rfl rfl ?_;intro _ _ _)|(refine lo_box1 rfl rfl rfl ?_;intro _ _ _)|(refine lo_alloc rfl ?_;intro _ _ _))
  rename_i g4 _ _ g6 _ _
  refine lo_call (n_call rfl) rfl (fun w hw => clipR_calls (Kn.sl hw.org h) hp) ?_
  repeat(first|refine lrun_ ?_|(refine lo_boxA rfl rfl ?_;intro _ _ _)|(refine lo_box1 rfl rfl rfl ?_;intro _ _ _)|(refine lo_alloc rfl ?_;intro _ _ _))
  refine lo_callB (n_call rfl) rfl (fun w hw => places_calls (Kn.sl hw.org h) hs0) ?_
  rintro wa _ b K hwa kab hkb ⟨Ae, ce, rfl, hOe⟩ hK
  obtain ⟨adP, hP1, hP2⟩ := pss hOe (fun _ h => h)
  have hnk : 0 < (placesTo l l.length).length → ∀ u, ¬ K (adP.add (u * 2)).block := by
    intro h0 u hm
    have := hK _ hm
    have h2 := (hP1 h0).2
    rw [add_block] at this
    unfold noB at h2
    omega
  have hpl : (placesTo l l.length).length ≤ 4000 := Nat.le_trans (placesTo_le l.length (Nat.le_refl _)) (by rw [List.take_length]; exact hs0)
  have hpl2 : ∀ q' ∈ placesTo l l.length, At l q' := fun q' hq => get_at (List.getElem?_of_mem hq).choose_spec
  have hin : ∀ i, i < (placesTo l l.length).length → l ≠ [] := by rintro i hi rfl; simp [placesTo] at hi
  have hdef : l ≠ [] → ∀ {t : Nat}, (placesTo l l.length)[t]? = some (clipM l p) → (∀ j, j < (placesTo l l.length).length → t < j → isM l kind ((placesTo l l.length).getD j (0, 0)) = false) → SeekM (isM l kind) l 1 p (lastM l) := fun h0 t ht hno =>
    .inr ⟨t, none, ht, fun j hj hon => hno j hj (by unfold On at hon; omega), rfl⟩
  have hyes : ∀ {t i : Nat} {q' : Ps}, (placesTo l l.length)[t]? = some (clipM l p) → (placesTo l l.length)[i]? = some q' → t < i → isM l kind q' = true → (∀ j, j < i → t < j → isM l kind ((placesTo l l.length).getD j (0, 0)) = false) → SeekM (isM l kind) l 1 p q' := fun ht hi hti hq hno =>
    .inr ⟨_, some _, ht, ⟨(List.getElem?_eq_some_iff.1 hi).1, .inl ⟨rfl, hti⟩, by rw [List.getD_eq_getElem?_getD, hi]; exact hq, fun v h1 h2 => hno v (by unfold On at h2; omega) (by unfold On at h1; omega)⟩, by unfold tellM; simp only [List.getD_eq_getElem?_getD, hi]; rfl⟩
  have hab := fun {t i : Nat} {a b : Ps} (h1 : (placesTo l l.length)[t]? = some a) (h2 : (placesTo l l.length)[i]? = some b) => places_ahead h1 h2
  obtain ⟨t, ht⟩ : ∃ t, l ≠ [] → (placesTo l l.length)[t]? = some (clipM l p) := by
    by_cases h0 : l = []
    · exact ⟨0, fun h => absurd h0 h⟩
    · obtain ⟨t, ht⟩ := at_get (clip_at (p := p) h0)
      exact ⟨t, fun _ => ht⟩
  generalize hP : placesTo l l.length = P at *
  repeat(first|refine lrun_ ?_|(refine lo_boxA rfl rfl ?_;intro _ _ _)|(refine lo_box1 rfl rfl rfl ?_;intro _ _ _)|(refine lo_alloc rfl ?_;intro _ _ _))
  refine l_while (fun m => P.length - m) (fun m : Nat => [(0, .slice A l.length c), (2, .int .i64 kind), (4, .pointer (some ⟨g4, 0, none⟩)), (6, .pointer (some ⟨g6, 0, none⟩)), (7, .slice Ae P.length ce), (8, .int .i64 m)])
    (fun _ => [(g6, cb [.int .i64 0, .int .i64 0] 24), (g4, cb [.int .i64 (clipM l p).1, .int .i64 (clipM l p).2] 24)]) (fun m => m ≤ P.length ∧ ∀ j, j < m → t < j → isM l kind (P.getD j (0, 0)) = false) 0 (by repeat (first | exact SubB.nil | refine SubB.cons rfl ?_)) (by repeat(first|exact MSub.refl|refine MSub.keep rfl ?_|exact MSub.nil|apply MSub.drop)) ⟨Nat.zero_le _, fun j hj => by omega⟩ ?_
  rintro m ⟨hm, hno⟩ ih
  repeat(first|refine lrun_ ?_|(refine lo_boxA rfl rfl ?_;intro _ _ _)|(refine lo_box1 rfl rfl rfl ?_;intro _ _ _)|(refine lo_alloc rfl ?_;intro _ _ _))
  refine l_ite rfl (fun hlt => ?_) (fun hge => ?_)
  · have hml : m < P.length := by omega
    have hl0 := hin m hml
    obtain ⟨q', hq'⟩ : ∃ q', P[m]? = some q' := ⟨_, List.getElem?_eq_getElem hml⟩
    have hqd : P.getD m (0, 0) = q' := by rw [List.getD_eq_getElem?_getD, hq']; rfl
    have ha := hpl2 q' (List.mem_of_getElem? hq')
    have hah := hab (ht hl0) hq'
    have go : isM l kind q' = false ∨ ¬ t < m → ∀ σ' M', SubB σ' [(0, .slice A l.length c), (2, .int .i64 kind), (4, .pointer (some ⟨g4, 0, none⟩)), (6, .pointer (some ⟨g6, 0, none⟩)), (7, .slice Ae P.length ce), (8, .int .i64 ((m + 1 : Nat) : Int))] → MSub [(g6, cb [.int .i64 0, .int .i64 0] 24), (g4, cb [.int .i64 (clipM l p).1, .int .i64 (clipM l p).2] 24)] M' → _ :=
      fun hf σ' M' hs hM => ih (m + 1) ⟨by omega, fun j h1 h2 => by
        by_cases e : j = m
        · subst e; rw [hqd]; exact hf.elim id fun h => absurd h2 h
        · exact hno j (by omega) h2⟩ (by omega) σ' M' hs hM
    repeat(first|refine lrun_ ?_|(refine lo_boxA rfl rfl ?_;intro _ _ _)|(refine lo_box1 rfl rfl rfl ?_;intro _ _ _)|(refine lo_alloc rfl ?_;intro _ _ _))
    refine l_draw [(0, 0), (1, 0), (2, 0), (3, 0), (4, 0), (5, 1), (6, 0), (7, 0), (8, 0), (9, 0), (10, 0), (11, 0), (12, 0), (13, 1), (14, 0)] (by kernel_rfl) (by kernel_rfl) rfl (by kernel_rfl) ?_
    repeat(first|refine lrund_ ?_|(refine ld_open rfl ?_;first|(refine ld_boxA rfl wy_ rfl ?_;intro _ _ _)|(refine ld_box1 rfl rfl wy_ rfl ?_;intro _ _ _)|(refine ld_alloc wy_ rfl ?_;intro _ _ _)))
    refine ld_open rfl ?_; refine ld_call (n_call rfl) wy_ rfl (fun w hw => ahead_calls (p := clipM l p) (q := q')) ?_
    rw [hah]
    by_cases htm : t < m
    · rw [decide_eq_true htm]
      repeat(first|refine lrund_ ?_|(refine ld_open rfl ?_;first|(refine ld_boxA rfl wy_ rfl ?_;intro _ _ _)|(refine ld_box1 rfl rfl wy_ rfl ?_;intro _ _ _)|(refine ld_alloc wy_ rfl ?_;intro _ _ _)))
      refine ld_open rfl ?_; refine ld_call (n_call rfl) wy_ rfl (fun w hw => by obtain ⟨_, _, _, _, hR'⟩ := hmv w hw.org; exact is_calls hR' ha hk) ?_
      cases hb : isM l kind q' with
      | false =>
        repeat(first|refine lrund_ ?_|(refine ld_open rfl ?_;first|(refine ld_boxA rfl wy_ rfl ?_;intro _ _ _)|(refine ld_box1 rfl rfl wy_ rfl ?_;intro _ _ _)|(refine ld_alloc wy_ rfl ?_;intro _ _ _)))
        refine l_false rfl ?_
        repeat(first|refine lrun_ ?_|(refine lo_boxA rfl rfl ?_;intro _ _ _)|(refine lo_box1 rfl rfl rfl ?_;intro _ _ _)|(refine lo_alloc rfl ?_;intro _ _ _))
        exact go (.inl hb) _ _ (by repeat (first | exact SubB.nil | refine SubB.cons rfl ?_)) (by repeat(first|exact MSub.refl|refine MSub.keep rfl ?_|exact MSub.nil|apply MSub.drop))
      | true =>
        repeat(first|refine lrund_ ?_|(refine ld_open rfl ?_;first|(refine ld_boxA rfl wy_ rfl ?_;intro _ _ _)|(refine ld_box1 rfl rfl wy_ rfl ?_;intro _ _ _)|(refine ld_alloc wy_ rfl ?_;intro _ _ _)))
        refine l_true rfl ?_
        repeat(first|refine lrun_ ?_|(refine lo_boxA rfl rfl ?_;intro _ _ _)|(refine lo_box1 rfl rfl rfl ?_;intro _ _ _)|(refine lo_alloc rfl ?_;intro _ _ _))
        exact l_retR1 rfl (by repeat(first|exact LRes.nil|refine LRes.tmp rfl ?_|refine LRes.agg rfl (by(repeat(first|exact MIn.hd|refine MIn.tl ?_));done) (by rfl) (by rfl) ?_|refine LRes.one rfl (by(repeat(first|exact MIn.hd|refine MIn.tl ?_));done) (by rfl) ?_)) fun w hw => ⟨hw.org, q', rfl, hyes (ht hl0) hq' htm hb hno⟩
    · rw [decide_eq_false htm]
      repeat(first|refine lrund_ ?_|(refine ld_open rfl ?_;first|(refine ld_boxA rfl wy_ rfl ?_;intro _ _ _)|(refine ld_box1 rfl rfl wy_ rfl ?_;intro _ _ _)|(refine ld_alloc wy_ rfl ?_;intro _ _ _)))
      refine l_false rfl ?_
      repeat(first|refine lrun_ ?_|(refine lo_boxA rfl rfl ?_;intro _ _ _)|(refine lo_box1 rfl rfl rfl ?_;intro _ _ _)|(refine lo_alloc rfl ?_;intro _ _ _))
      exact go (.inr htm) _ _ (by repeat (first | exact SubB.nil | refine SubB.cons rfl ?_)) (by repeat(first|exact MSub.refl|refine MSub.keep rfl ?_|exact MSub.nil|apply MSub.drop))
  · obtain rfl : m = P.length := by omega
    repeat(first|refine lrun_ ?_|(refine lo_boxA rfl rfl ?_;intro _ _ _)|(refine lo_box1 rfl rfl rfl ?_;intro _ _ _)|(refine lo_alloc rfl ?_;intro _ _ _))
    refine lo_call (n_call rfl) rfl (fun w hw => lastR_calls hs0 (Kn.sl hw.org h)) ?_
    repeat(first|refine lrun_ ?_|(refine lo_boxA rfl rfl ?_;intro _ _ _)|(refine lo_box1 rfl rfl rfl ?_;intro _ _ _)|(refine lo_alloc rfl ?_;intro _ _ _))
    refine l_retR1 rfl (by repeat(first|exact LRes.nil|refine LRes.tmp rfl ?_|refine LRes.agg rfl (by(repeat(first|exact MIn.hd|refine MIn.tl ?_));done) (by rfl) (by rfl) ?_|refine LRes.one rfl (by(repeat(first|exact MIn.hd|refine MIn.tl ?_));done) (by rfl) ?_)) fun w hw => ⟨hw.org, _, rfl, ?_⟩
    by_cases h0 : l = []
    · exact .inl ⟨h0, by unfold lastM; rw [if_pos h0]⟩
    · exact hdef h0 (ht h0) hno
set_option maxHeartbeats 4000000 in
theorem before_calls (hs0 : l.length + runesM l ≤ 4000) (h : Sl kRow F w v l) (hp : P64 p) (hk : kind = 0 ∨ kind = 1 ∨ kind = 2 ∨ kind = 3 ∨ kind = 4 ∨ kind = 5 ∨ kind = 6) :
    CallsR Try.prog 21 #[v, posV p, .int .i64 kind] w fun u w' => Kn w w' ∧ ∃ q, u = posV q ∧ SeekM (isM l kind) l (-1) p q := by
  obtain ⟨A, c, ad, rV, rc, ra, rfl, hR⟩ := h.rws
  have hmv : ∀ w', Kn w w' → ∃ ad' rV' rc' ra', Rws F w' A c l ad' rV' rc' ra' := fun w' hw => by
    obtain ⟨A', c', ad', rV', rc', ra', he, hR'⟩ := (Kn.sl hw hR.sl).rws
    cases he
    exact ⟨_, _, _, _, hR'⟩
  refine l_enter (fun _ => False) Try.func21 rfl rfl ?_
  repeat(first|refine lrun_ ?_|(refine lo_boxA rfl rfl ?_;intro _ _ _)|(refine lo_box1 rfl rfl rfl ?_;intro _ _ _)|(refine lo_alloc rfl ?_;intro _ _ _))
  rename_i g4 _ _ g6 _ _
  refine lo_call (n_call rfl) rfl (fun w hw => clipR_calls (Kn.sl hw.org h) hp) ?_
  repeat(first|refine lrun_ ?_|(refine lo_boxA rfl rfl ?_;intro _ _ _)|(refine lo_box1 rfl rfl rfl ?_;intro _ _ _)|(refine lo_alloc rfl ?_;intro _ _ _))
  refine lo_callB (n_call rfl) rfl (fun w hw => places_calls (Kn.sl hw.org h) hs0) ?_
  rintro wa _ b K hwa kab hkb ⟨Ae, ce, rfl, hOe⟩ hK
  obtain ⟨adP, hP1, hP2⟩ := pss hOe (fun _ h => h)
  have hnk : 0 < (placesTo l l.length).length → ∀ u, ¬ K (adP.add (u * 2)).block := by
    intro h0 u hm
    have := hK _ hm
    have h2 := (hP1 h0).2
    rw [add_block] at this
    unfold noB at h2
    omega
  have hpl : (placesTo l l.length).length ≤ 4000 := Nat.le_trans (placesTo_le l.length (Nat.le_refl _)) (by rw [List.take_length]; exact hs0)
  have hpl2 : ∀ q' ∈ placesTo l l.length, At l q' := fun q' hq => get_at (List.getElem?_of_mem hq).choose_spec
  have hin : ∀ i, i < (placesTo l l.length).length → l ≠ [] := by rintro i hi rfl; simp [placesTo] at hi
  have hdef : l ≠ [] → ∀ {t : Nat}, (placesTo l l.length)[t]? = some (clipM l p) → (∀ j, j < (placesTo l l.length).length → j < t → isM l kind ((placesTo l l.length).getD j (0, 0)) = false) → SeekM (isM l kind) l (-1) p (0, 0) := fun h0 t ht hno =>
    .inr ⟨t, none, ht, fun j hj hon => hno j hj (by unfold On at hon; omega), rfl⟩
  have hyes : ∀ {t i : Nat} {q' : Ps}, (placesTo l l.length)[t]? = some (clipM l p) → (placesTo l l.length)[i]? = some q' → i < t → isM l kind q' = true → (∀ j, i < j → j < t → isM l kind ((placesTo l l.length).getD j (0, 0)) = false) → SeekM (isM l kind) l (-1) p q' := fun ht hi hti hq hno =>
    .inr ⟨_, some _, ht, ⟨(List.getElem?_eq_some_iff.1 hi).1, .inr ⟨rfl, hti⟩, by rw [List.getD_eq_getElem?_getD, hi]; exact hq, fun v h1 h2 => hno v (by unfold On at h2; omega) (by unfold On at h1; omega)⟩, by unfold tellM; simp only [List.getD_eq_getElem?_getD, hi]; rfl⟩
  have hab := fun {t i : Nat} {a b : Ps} (h1 : (placesTo l l.length)[t]? = some a) (h2 : (placesTo l l.length)[i]? = some b) => places_ahead h2 h1
  obtain ⟨t, ht, ht2⟩ : ∃ t, (l ≠ [] → (placesTo l l.length)[t]? = some (clipM l p)) ∧ (l = [] → t = 0) := by
    by_cases h0 : l = []
    · exact ⟨0, fun h => absurd h0 h, fun _ => rfl⟩
    · obtain ⟨t, ht⟩ := at_get (clip_at (p := p) h0)
      exact ⟨t, fun _ => ht, fun h => absurd h h0⟩
  have hout : ∀ j, (placesTo l l.length).length ≤ j → j < t → isM l kind ((placesTo l l.length).getD j (0, 0)) = false := fun j h1 h2 => by
    by_cases h0 : l = []
    · have := ht2 h0; omega
    · have := (List.getElem?_eq_some_iff.1 (ht h0)).1; omega
  generalize hP : placesTo l l.length = P at *
  repeat(first|refine lrun_ ?_|(refine lo_boxA rfl rfl ?_;intro _ _ _)|(refine lo_box1 rfl rfl rfl ?_;intro _ _ _)|(refine lo_alloc rfl ?_;intro _ _ _))
  refine l_while (fun m => m) (fun m : Nat => [(0, .slice A l.length c), (2, .int .i64 kind), (4, .pointer (some ⟨g4, 0, none⟩)), (6, .pointer (some ⟨g6, 0, none⟩)), (7, .slice Ae P.length ce), (8, .int .i64 ((m : Int) - 1))])
    (fun _ => [(g6, cb [.int .i64 0, .int .i64 0] 24), (g4, cb [.int .i64 (clipM l p).1, .int .i64 (clipM l p).2] 24)]) (fun m => m ≤ P.length ∧ ∀ j, m ≤ j → j < t → isM l kind (P.getD j (0, 0)) = false) P.length (by repeat (first | exact SubB.nil | refine SubB.cons rfl ?_)) (by repeat(first|exact MSub.refl|refine MSub.keep rfl ?_|exact MSub.nil|apply MSub.drop)) ⟨Nat.le_refl _, fun j hj hjt => hout j hj hjt⟩ ?_
  rintro m ⟨hm, hno⟩ ih
  cases m with
  | zero =>
    repeat(first|refine lrun_ ?_|(refine lo_boxA rfl rfl ?_;intro _ _ _)|(refine lo_box1 rfl rfl rfl ?_;intro _ _ _)|(refine lo_alloc rfl ?_;intro _ _ _))
    refine l_no rfl (by omega) ?_
    repeat(first|refine lrun_ ?_|(refine lo_boxA rfl rfl ?_;intro _ _ _)|(refine lo_box1 rfl rfl rfl ?_;intro _ _ _)|(refine lo_alloc rfl ?_;intro _ _ _))
    refine l_retR1 rfl (by repeat(first|exact LRes.nil|refine LRes.tmp rfl ?_|refine LRes.agg rfl (by(repeat(first|exact MIn.hd|refine MIn.tl ?_));done) (by rfl) (by rfl) ?_|refine LRes.one rfl (by(repeat(first|exact MIn.hd|refine MIn.tl ?_));done) (by rfl) ?_)) fun w hw => ⟨hw.org, ((0, 0) : Ps), rfl, ?_⟩
    by_cases h0 : l = []
    · exact .inl ⟨h0, rfl⟩
    · exact hdef h0 (ht h0) fun j _ h2 => hno j (Nat.zero_le _) h2
  | succ m =>
    rw [show (((m + 1 : Nat) : Int)) - 1 = (m : Nat) by omega]
    have hml : m < P.length := by omega
    have hl0 := hin m hml
    obtain ⟨q', hq'⟩ : ∃ q', P[m]? = some q' := ⟨_, List.getElem?_eq_getElem hml⟩
    have hqd : P.getD m (0, 0) = q' := by rw [List.getD_eq_getElem?_getD, hq']; rfl
    have ha := hpl2 q' (List.mem_of_getElem? hq')
    have hah := hab (ht hl0) hq'
    have go : isM l kind q' = false ∨ ¬ m < t → ∀ σ' M', SubB σ' [(0, .slice A l.length c), (2, .int .i64 kind), (4, .pointer (some ⟨g4, 0, none⟩)), (6, .pointer (some ⟨g6, 0, none⟩)), (7, .slice Ae P.length ce), (8, .int .i64 ((m : Int) - 1))] → MSub [(g6, cb [.int .i64 0, .int .i64 0] 24), (g4, cb [.int .i64 (clipM l p).1, .int .i64 (clipM l p).2] 24)] M' → _ :=
      fun hf σ' M' hs hM => ih m ⟨by omega, fun j h1 h2 => by
        by_cases e : j = m
        · subst e; rw [hqd]; exact hf.elim id fun h => absurd h2 h
        · exact hno j (by omega) h2⟩ (by omega) σ' M' hs hM
    repeat(first|refine lrun_ ?_|(refine lo_boxA rfl rfl ?_;intro _ _ _)|(refine lo_box1 rfl rfl rfl ?_;intro _ _ _)|(refine lo_alloc rfl ?_;intro _ _ _))
    refine l_yes rfl (by omega) ?_
    repeat(first|refine lrun_ ?_|(refine lo_boxA rfl rfl ?_;intro _ _ _)|(refine lo_box1 rfl rfl rfl ?_;intro _ _ _)|(refine lo_alloc rfl ?_;intro _ _ _))
    refine l_draw [(0, 0), (1, 0), (2, 0), (3, 0), (4, 0), (5, 1), (6, 0), (7, 0), (8, 0), (9, 0), (10, 0), (11, 0), (12, 0), (13, 1), (14, 0)] (by kernel_rfl) (by kernel_rfl) rfl (by kernel_rfl) ?_
    repeat(first|refine lrund_ ?_|(refine ld_open rfl ?_;first|(refine ld_boxA rfl wy_ rfl ?_;intro _ _ _)|(refine ld_box1 rfl rfl wy_ rfl ?_;intro _ _ _)|(refine ld_alloc wy_ rfl ?_;intro _ _ _)))
    refine ld_open rfl ?_; refine ld_call (n_call rfl) wy_ rfl (fun w hw => ahead_calls (p := q') (q := clipM l p)) ?_
    rw [hah]
    by_cases htm : m < t
    · rw [decide_eq_true htm]
      repeat(first|refine lrund_ ?_|(refine ld_open rfl ?_;first|(refine ld_boxA rfl wy_ rfl ?_;intro _ _ _)|(refine ld_box1 rfl rfl wy_ rfl ?_;intro _ _ _)|(refine ld_alloc wy_ rfl ?_;intro _ _ _)))
      refine ld_open rfl ?_; refine ld_call (n_call rfl) wy_ rfl (fun w hw => by obtain ⟨_, _, _, _, hR'⟩ := hmv w hw.org; exact is_calls hR' ha hk) ?_
      cases hb : isM l kind q' with
      | false =>
        repeat(first|refine lrund_ ?_|(refine ld_open rfl ?_;first|(refine ld_boxA rfl wy_ rfl ?_;intro _ _ _)|(refine ld_box1 rfl rfl wy_ rfl ?_;intro _ _ _)|(refine ld_alloc wy_ rfl ?_;intro _ _ _)))
        refine l_false rfl ?_
        repeat(first|refine lrun_ ?_|(refine lo_boxA rfl rfl ?_;intro _ _ _)|(refine lo_box1 rfl rfl rfl ?_;intro _ _ _)|(refine lo_alloc rfl ?_;intro _ _ _))
        exact go (.inl hb) _ _ (by repeat (first | exact SubB.nil | refine SubB.cons rfl ?_)) (by repeat(first|exact MSub.refl|refine MSub.keep rfl ?_|exact MSub.nil|apply MSub.drop))
      | true =>
        repeat(first|refine lrund_ ?_|(refine ld_open rfl ?_;first|(refine ld_boxA rfl wy_ rfl ?_;intro _ _ _)|(refine ld_box1 rfl rfl wy_ rfl ?_;intro _ _ _)|(refine ld_alloc wy_ rfl ?_;intro _ _ _)))
        refine l_true rfl ?_
        repeat(first|refine lrun_ ?_|(refine lo_boxA rfl rfl ?_;intro _ _ _)|(refine lo_box1 rfl rfl rfl ?_;intro _ _ _)|(refine lo_alloc rfl ?_;intro _ _ _))
        exact l_retR1 rfl (by repeat(first|exact LRes.nil|refine LRes.tmp rfl ?_|refine LRes.agg rfl (by(repeat(first|exact MIn.hd|refine MIn.tl ?_));done) (by rfl) (by rfl) ?_|refine LRes.one rfl (by(repeat(first|exact MIn.hd|refine MIn.tl ?_));done) (by rfl) ?_)) fun w hw => ⟨hw.org, q', rfl, hyes (ht hl0) hq' htm hb fun j h1 h2 => hno j h1 h2⟩
    · rw [decide_eq_false htm]
      repeat(first|refine lrund_ ?_|(refine ld_open rfl ?_;first|(refine ld_boxA rfl wy_ rfl ?_;intro _ _ _)|(refine ld_box1 rfl rfl wy_ rfl ?_;intro _ _ _)|(refine ld_alloc wy_ rfl ?_;intro _ _ _)))
      refine l_false rfl ?_
      repeat(first|refine lrun_ ?_|(refine lo_boxA rfl rfl ?_;intro _ _ _)|(refine lo_box1 rfl rfl rfl ?_;intro _ _ _)|(refine lo_alloc rfl ?_;intro _ _ _))
      exact go (.inr htm) _ _ (by repeat (first | exact SubB.nil | refine SubB.cons rfl ?_)) (by repeat(first|exact MSub.refl|refine MSub.keep rfl ?_|exact MSub.nil|apply MSub.drop))
end
end Go.Ink
