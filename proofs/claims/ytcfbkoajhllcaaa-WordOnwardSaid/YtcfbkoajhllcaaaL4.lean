/-
  WordOnward.
-/
import Derived.Test.YtcfbkoajhllcaaaL0
import Derived.Test.YtcfbkoajhllcaaaLit
set_option linter.unusedVariables false
set_option linter.unusedSimpArgs false
namespace Go.Ink
open Go Go.Proofs

def psC (P : List Ps) : List Value := P.flatMap fun q => [.int .i64 q.1, .int .i64 q.2]
theorem psC_get : ∀ {P : List Ps} {u j : Nat} {q : Ps} {z : Value}, P[u]? = some q → [Value.int .i64 q.1, .int .i64 q.2][j]? = some z → (psC P)[u * 2 + j]? = some z
  | [], u, j, q, z, h, _ => by simp at h
  | a :: P, 0, j, q, z, h, hj => by
    simp at h
    subst h
    show ([Value.int .i64 a.1, .int .i64 a.2] ++ psC P)[0 * 2 + j]? = some z
    have := (List.getElem?_eq_some_iff.1 hj).1
    rw [Nat.zero_mul, Nat.zero_add, List.getElem?_append_left this, hj]
  | a :: P, u + 1, j, q, z, h, hj => by
    have ih := psC_get (P := P) (u := u) (by simpa using h) hj
    show ([Value.int .i64 a.1, .int .i64 a.2] ++ psC P)[(u + 1) * 2 + j]? = some z
    rw [List.getElem?_append_right (by simp; omega)]
    rw [show (u + 1) * 2 + j - [Value.int .i64 a.1, .int .i64 a.2].length = u * 2 + j by simp; omega, ih]
/-- An own list of places. -/
theorem ps_own {w : World} {g : Nat} {P : List Ps} {e : TypeId} (h : w.heap[g]? = some (cb (psC P) e)) : ∀ u q, P[u]? = some q → ∀ j z, [Value.int .i64 q.1, .int .i64 q.2][j]? = some z → w.cell? (((⟨g, 0, none⟩ : Addr).add (u * 2)).add j) = some z := by
  intro u q hq j z hz
  rw [add_add, add_plain, blk_cell h]
  simpa using psC_get hq hz
section
variable {l : List (List Int)} {p q : Ps} {f : Ps → Bool}
theorem last_at (h0 : l ≠ []) : At l (lastM l) := get_at (last_get h0)
theorem first_at (h0 : l ≠ []) : At l (0, 0) := by
  have := List.length_pos_iff.2 h0
  refine ⟨⟨Int.le_refl _, by omega⟩, ?_⟩
  by_cases h : (rowOf l (0, 0)).length = 0
  · exact .inl ⟨h, rfl⟩
  · exact .inr ⟨Int.le_refl _, by show (0 : Int) < _; omega⟩
theorem seek_on (h0 : l ≠ []) (h : SeekM f l 1 p q) : At l q ∧ (aheadM (clipM l p) q = true ∨ q = lastM l) := by
  rcases h with ⟨h1, -⟩ | ⟨t, r, h1, h2, rfl⟩
  · exact absurd h1 h0
  · match r, h2 with
    | none, _ => exact ⟨last_at h0, .inr rfl⟩
    | some u, h2 =>
      have hu : (placesTo l l.length)[u]? = some (tellM l 1 (some u)) := by
        unfold tellM
        exact getD_of h2.1
      refine ⟨get_at hu, .inl ?_⟩
      rw [places_ahead h1 hu, decide_eq_true_iff]
      have := h2.2.1
      unfold On at this; omega
theorem seek_back (h0 : l ≠ []) (h : SeekM f l (-1) p q) : At l q ∧ (aheadM q (clipM l p) = true ∨ q = (0, 0)) := by
  rcases h with ⟨h1, -⟩ | ⟨t, r, h1, h2, rfl⟩
  · exact absurd h1 h0
  · match r, h2 with
    | none, _ => exact ⟨first_at h0, .inr rfl⟩
    | some u, h2 =>
      have hu : (placesTo l l.length)[u]? = some (tellM l (-1) (some u)) := by
        unfold tellM
        exact getD_of h2.1
      refine ⟨get_at hu, .inl ?_⟩
      rw [places_ahead hu h1, decide_eq_true_iff]
      have := h2.2.1
      unfold On at this; omega
theorem at_P64 (hl : l.length ≤ 140737488355328) (hr : ∀ j, (l.getD j []).length ≤ 140737488355328) (h : At l q) : P64 q := by
  obtain ⟨i, k, rfl, hi, hk, -⟩ := at_index h
  have := hr i
  unfold P64
  simp only
  omega
end
set_option maxHeartbeats 4000000 in
theorem wo_back {W wb : World} {K : Nat → Prop} {l : List (List Int)} {p : Ps} {A : Option Addr} {c g7 : Nat} {P Q : List Ps} {A8 A9 : Option Addr} {ad8 ad9 : Addr} (hs0 : l.length + runesM l ≤ 4000) (h : Sl kRow (fun _ => True) W (.slice A l.length c) l) (hp1 : ∀ q', At l q' → P64 q') (hP1 : 0 < Q.length → A9 = some ad9 ∧ True) (hP2 : ∀ u q, Q[u]? = some q → ∀ j z, [Value.int .i64 q.1, .int .i64 q.2][j]? = some z → wb.cell? ((ad9.add (u * 2)).add j) = some z) (hl3 : Q.length ≤ 4000)
    (back : ∀ (i : Nat) q', Q[i]? = some q' → At l q' ∧ (aheadM q' (clipM l p) = true ∨ q' = (0, 0))) (hnk : 0 < Q.length → ∀ u, ¬ K (ad9.add (u * 2)).block) :
    ∀ σ', SubB σ' [(0, .slice A l.length c), (7, .pointer (some ⟨g7, 0, none⟩)), (9, .slice A9 Q.length Q.length)] → ∀ M', MSub [(g7, cb [.int .i64 (clipM l p).1, .int .i64 (clipM l p).2] 24)] M' →
      WL Try.prog Try.f7 [.code (bodyC Try.f7 [1, 1, 1, 1, 1, 1])] σ' W (fun _ => False) wb K M' fun r w' => r = .bool true ∧ Kn W w' := by
  intro σ' hs' M' hM
  refine WL.sub hs' hM ?_
  repeat(first|refine lrun_ ?_|(refine lo_boxA rfl rfl ?_;intro _ _ _)|(refine lo_box1 rfl rfl rfl ?_;intro _ _ _)|(refine lo_alloc rfl ?_;intro _ _ _))
  refine l_while (fun i => Q.length - i) (fun i : Nat => [(0, .slice A l.length c), (7, .pointer (some ⟨g7, 0, none⟩)), (9, .slice A9 Q.length Q.length), (11, .int .i64 i)]) (fun _ => [(g7, cb [.int .i64 (clipM l p).1, .int .i64 (clipM l p).2] 24)]) (fun i => i ≤ Q.length) 0 (by repeat (first | exact SubB.nil | refine SubB.cons rfl ?_)) (by repeat(first|exact MSub.refl|refine MSub.keep rfl ?_|exact MSub.nil|apply MSub.drop)) (Nat.zero_le _) ?_
  rintro i hi ih
  repeat(first|refine lrun_ ?_|(refine lo_boxA rfl rfl ?_;intro _ _ _)|(refine lo_box1 rfl rfl rfl ?_;intro _ _ _)|(refine lo_alloc rfl ?_;intro _ _ _))
  refine l_ite rfl (fun hlt => ?_) (fun hge => ?_)
  · have hi3 : i < Q.length := by omega
    obtain ⟨q', hq'⟩ : ∃ q', Q[i]? = some q' := ⟨_, List.getElem?_eq_getElem (by omega)⟩
    obtain ⟨ha, hor⟩ := back i q' hq'
    repeat(first|refine lrun_ ?_|(refine lo_boxA rfl rfl ?_;intro _ _ _)|(refine lo_box1 rfl rfl rfl ?_;intro _ _ _)|(refine lo_alloc rfl ?_;intro _ _ _))
    refine l_draw [(0, 0), (1, 0), (2, 0), (3, 0), (4, 0), (5, 1), (6, 0), (7, 0), (8, 0), (9, 0), (10, 0), (11, 0), (12, 0), (13, 0), (14, 0), (15, 0), (16, 0), (17, 0), (18, 0), (19, 0), (20, 0), (22, 0), (23, 0), (24, 0), (25, 0), (21, 1), (26, 0), (27, 0)] (by kernel_rfl) (by kernel_rfl) rfl (by kernel_rfl) ?_
    repeat(first|refine lrund_ ?_|(refine ld_open rfl ?_;first|(refine ld_boxA rfl wy_ rfl ?_;intro _ _ _)|(refine ld_box1 rfl rfl wy_ rfl ?_;intro _ _ _)|(refine ld_alloc wy_ rfl ?_;intro _ _ _)))
    refine ld_open rfl ?_; refine ld_call (n_call rfl) wy_ rfl (fun w hw => ahead_calls (p := q') (q := clipM l p)) ?_
    cases hah : aheadM q' (clipM l p) with
    | true =>
      repeat(first|refine lrund_ ?_|(refine ld_open rfl ?_;first|(refine ld_boxA rfl wy_ rfl ?_;intro _ _ _)|(refine ld_box1 rfl rfl wy_ rfl ?_;intro _ _ _)|(refine ld_alloc wy_ rfl ?_;intro _ _ _)))
      refine ld_open rfl ?_; refine ld_call (n_call rfl) wy_ rfl (fun w hw => clipP_calls (p := q') (Kn.sl hw.org h) (hp1 q' ha)) ?_
      rw [at_clip ha]
      repeat(first|refine lrund_ ?_|(refine ld_open rfl ?_;first|(refine ld_boxA rfl wy_ rfl ?_;intro _ _ _)|(refine ld_box1 rfl rfl wy_ rfl ?_;intro _ _ _)|(refine ld_alloc wy_ rfl ?_;intro _ _ _)))
      refine l_no rfl (by simp) ?_
      repeat(first|refine lrun_ ?_|(refine lo_boxA rfl rfl ?_;intro _ _ _)|(refine lo_box1 rfl rfl rfl ?_;intro _ _ _)|(refine lo_alloc rfl ?_;intro _ _ _))
      exact ih (i + 1) (by omega) (by omega) _ _ (by repeat (first | exact SubB.nil | refine SubB.cons rfl ?_)) (by repeat(first|exact MSub.refl|refine MSub.keep rfl ?_|exact MSub.nil|apply MSub.drop))
    | false =>
      have e0 : q' = (0, 0) := hor.elim (fun h => by rw [hah] at h; cases h) id
      subst e0
      repeat(first|refine lrund_ ?_|(refine ld_open rfl ?_;first|(refine ld_boxA rfl wy_ rfl ?_;intro _ _ _)|(refine ld_box1 rfl rfl wy_ rfl ?_;intro _ _ _)|(refine ld_alloc wy_ rfl ?_;intro _ _ _)))
      refine ld_open rfl ?_; refine ld_call (n_call rfl) wy_ rfl (fun w hw => clipP_calls (p := (0, 0)) (Kn.sl hw.org h) (hp1 _ ha)) ?_
      rw [at_clip ha]
      repeat(first|refine lrund_ ?_|(refine ld_open rfl ?_;first|(refine ld_boxA rfl wy_ rfl ?_;intro _ _ _)|(refine ld_box1 rfl rfl wy_ rfl ?_;intro _ _ _)|(refine ld_alloc wy_ rfl ?_;intro _ _ _)))
      refine l_no rfl (by simp) ?_
      repeat(first|refine lrun_ ?_|(refine lo_boxA rfl rfl ?_;intro _ _ _)|(refine lo_box1 rfl rfl rfl ?_;intro _ _ _)|(refine lo_alloc rfl ?_;intro _ _ _))
      exact ih (i + 1) (by omega) (by omega) _ _ (by repeat (first | exact SubB.nil | refine SubB.cons rfl ?_)) (by repeat(first|exact MSub.refl|refine MSub.keep rfl ?_|exact MSub.nil|apply MSub.drop))
  · repeat(first|refine lrun_ ?_|(refine lo_boxA rfl rfl ?_;intro _ _ _)|(refine lo_box1 rfl rfl rfl ?_;intro _ _ _)|(refine lo_alloc rfl ?_;intro _ _ _))
    refine lo_call (n_call rfl) rfl (fun w hw => awake_calls) ?_
    repeat(first|refine lrun_ ?_|(refine lo_boxA rfl rfl ?_;intro _ _ _)|(refine lo_box1 rfl rfl rfl ?_;intro _ _ _)|(refine lo_alloc rfl ?_;intro _ _ _))
    exact l_ret1 rfl rfl fun w hw => ⟨rfl, hw.org⟩
set_option maxHeartbeats 4000000 in
theorem wo_on {W wb : World} {K : Nat → Prop} {l : List (List Int)} {p : Ps} {A : Option Addr} {c g7 : Nat} {P Q : List Ps} {A8 A9 : Option Addr} {ad8 ad9 : Addr} (hs0 : l.length + runesM l ≤ 4000) (h : Sl kRow (fun _ => True) W (.slice A l.length c) l) (hp1 : ∀ q', At l q' → P64 q') (hQ1 : 0 < Q.length → A9 = some ad9 ∧ True) (hQ2 : ∀ u q, Q[u]? = some q → ∀ j z, [Value.int .i64 q.1, .int .i64 q.2][j]? = some z → wb.cell? ((ad9.add (u * 2)).add j) = some z) (hQl : Q.length ≤ 4000)
    (back : ∀ (i : Nat) q', Q[i]? = some q' → At l q' ∧ (aheadM q' (clipM l p) = true ∨ q' = (0, 0))) (hQk : 0 < Q.length → ∀ u, ¬ K (ad9.add (u * 2)).block)
    (hP1 : 0 < P.length → A8 = some ad8 ∧ True) (hP2 : ∀ u q, P[u]? = some q → ∀ j z, [Value.int .i64 q.1, .int .i64 q.2][j]? = some z → wb.cell? ((ad8.add (u * 2)).add j) = some z) (hl4 : P.length ≤ 4000)
    (on : ∀ (i : Nat) q', P[i]? = some q' → At l q' ∧ (aheadM (clipM l p) q' = true ∨ q' = lastM l)) (hnk : 0 < P.length → ∀ u, ¬ K (ad8.add (u * 2)).block) :
    ∀ σ', SubB σ' [(0, .slice A l.length c), (7, .pointer (some ⟨g7, 0, none⟩)), (8, .slice A8 P.length P.length), (9, .slice A9 Q.length Q.length)] → ∀ M', MSub [(g7, cb [.int .i64 (clipM l p).1, .int .i64 (clipM l p).2] 24)] M' →
      WL Try.prog Try.f7 [.code (bodyC Try.f7 [1, 1, 1, 1, 1])] σ' W (fun _ => False) wb K M' fun r w' => r = .bool true ∧ Kn W w' := by
  intro σ' hs' M' hM
  refine WL.sub hs' hM ?_
  repeat(first|refine lrun_ ?_|(refine lo_boxA rfl rfl ?_;intro _ _ _)|(refine lo_box1 rfl rfl rfl ?_;intro _ _ _)|(refine lo_alloc rfl ?_;intro _ _ _))
  refine l_while (fun i => P.length - i) (fun i : Nat => [(0, .slice A l.length c), (7, .pointer (some ⟨g7, 0, none⟩)), (8, .slice A8 P.length P.length), (9, .slice A9 Q.length Q.length), (10, .int .i64 i)]) (fun _ => [(g7, cb [.int .i64 (clipM l p).1, .int .i64 (clipM l p).2] 24)]) (fun i => i ≤ P.length) 0 (by repeat (first | exact SubB.nil | refine SubB.cons rfl ?_)) (by repeat(first|exact MSub.refl|refine MSub.keep rfl ?_|exact MSub.nil|apply MSub.drop)) (Nat.zero_le _) ?_
  rintro i hi ih
  repeat(first|refine lrun_ ?_|(refine lo_boxA rfl rfl ?_;intro _ _ _)|(refine lo_box1 rfl rfl rfl ?_;intro _ _ _)|(refine lo_alloc rfl ?_;intro _ _ _))
  refine l_ite rfl (fun hlt => ?_) (fun hge => ?_)
  · have hi4 : i < P.length := by omega
    obtain ⟨q', hq'⟩ : ∃ q', P[i]? = some q' := ⟨_, List.getElem?_eq_getElem (by omega)⟩
    obtain ⟨ha, hor⟩ := on i q' hq'
    repeat(first|refine lrun_ ?_|(refine lo_boxA rfl rfl ?_;intro _ _ _)|(refine lo_box1 rfl rfl rfl ?_;intro _ _ _)|(refine lo_alloc rfl ?_;intro _ _ _))
    refine l_draw [(0, 0), (1, 0), (2, 0), (3, 0), (4, 0), (5, 1), (6, 0), (7, 0), (8, 0), (9, 0), (10, 0), (11, 0), (12, 0), (13, 1), (14, 0), (15, 0), (16, 0), (17, 0), (18, 0), (19, 0), (20, 0), (21, 0), (23, 0), (24, 0), (25, 0), (26, 0), (22, 1), (27, 0), (28, 0)] (by kernel_rfl) (by kernel_rfl) rfl (by kernel_rfl) ?_
    repeat(first|refine lrund_ ?_|(refine ld_open rfl ?_;first|(refine ld_boxA rfl wy_ rfl ?_;intro _ _ _)|(refine ld_box1 rfl rfl wy_ rfl ?_;intro _ _ _)|(refine ld_alloc wy_ rfl ?_;intro _ _ _)))
    refine ld_open rfl ?_; refine ld_call (n_call rfl) wy_ rfl (fun w hw => ahead_calls (p := clipM l p) (q := q')) ?_
    cases hah : aheadM (clipM l p) q' with
    | true =>
      repeat(first|refine lrund_ ?_|(refine ld_open rfl ?_;first|(refine ld_boxA rfl wy_ rfl ?_;intro _ _ _)|(refine ld_box1 rfl rfl wy_ rfl ?_;intro _ _ _)|(refine ld_alloc wy_ rfl ?_;intro _ _ _)))
      refine ld_open rfl ?_; refine ld_call (n_call rfl) wy_ rfl (fun w hw => clipP_calls (p := q') (Kn.sl hw.org h) (hp1 q' ha)) ?_
      rw [at_clip ha]
      repeat(first|refine lrund_ ?_|(refine ld_open rfl ?_;first|(refine ld_boxA rfl wy_ rfl ?_;intro _ _ _)|(refine ld_box1 rfl rfl wy_ rfl ?_;intro _ _ _)|(refine ld_alloc wy_ rfl ?_;intro _ _ _)))
      refine l_no rfl (by simp) ?_
      repeat(first|refine lrun_ ?_|(refine lo_boxA rfl rfl ?_;intro _ _ _)|(refine lo_box1 rfl rfl rfl ?_;intro _ _ _)|(refine lo_alloc rfl ?_;intro _ _ _))
      exact ih (i + 1) (by omega) (by omega) _ _ (by repeat (first | exact SubB.nil | refine SubB.cons rfl ?_)) (by repeat(first|exact MSub.refl|refine MSub.keep rfl ?_|exact MSub.nil|apply MSub.drop))
    | false =>
      have e0 : q' = lastM l := hor.elim (fun h => by rw [hah] at h; cases h) id
      repeat(first|refine lrund_ ?_|(refine ld_open rfl ?_;first|(refine ld_boxA rfl wy_ rfl ?_;intro _ _ _)|(refine ld_box1 rfl rfl wy_ rfl ?_;intro _ _ _)|(refine ld_alloc wy_ rfl ?_;intro _ _ _)))
      refine ld_open rfl ?_; refine ld_call (n_call rfl) wy_ rfl (fun w hw => lastR_calls hs0 (Kn.sl hw.org h)) ?_
      rw [← e0]
      repeat(first|refine lrund_ ?_|(refine ld_open rfl ?_;first|(refine ld_boxA rfl wy_ rfl ?_;intro _ _ _)|(refine ld_box1 rfl rfl wy_ rfl ?_;intro _ _ _)|(refine ld_alloc wy_ rfl ?_;intro _ _ _)))
      refine ld_open rfl ?_; refine ld_call (n_call rfl) wy_ rfl (fun w hw => clipP_calls (p := q') (Kn.sl hw.org h) (hp1 q' ha)) ?_
      rw [at_clip ha]
      repeat(first|refine lrund_ ?_|(refine ld_open rfl ?_;first|(refine ld_boxA rfl wy_ rfl ?_;intro _ _ _)|(refine ld_box1 rfl rfl wy_ rfl ?_;intro _ _ _)|(refine ld_alloc wy_ rfl ?_;intro _ _ _)))
      refine l_no rfl (by simp) ?_
      repeat(first|refine lrun_ ?_|(refine lo_boxA rfl rfl ?_;intro _ _ _)|(refine lo_box1 rfl rfl rfl ?_;intro _ _ _)|(refine lo_alloc rfl ?_;intro _ _ _))
      exact ih (i + 1) (by omega) (by omega) _ _ (by repeat (first | exact SubB.nil | refine SubB.cons rfl ?_)) (by repeat(first|exact MSub.refl|refine MSub.keep rfl ?_|exact MSub.nil|apply MSub.drop))
  · refine l_go (.exit rfl) ?_
    exact wo_back (P := P) (A8 := A8) (ad8 := ad8) hs0 h hp1 hQ1 hQ2 hQl back hQk _ (by repeat (first | exact SubB.nil | refine SubB.cons rfl ?_)) _ (by repeat(first|exact MSub.refl|refine MSub.keep rfl ?_|exact MSub.nil|apply MSub.drop))
set_option maxHeartbeats 8000000 in
theorem law_WordOnward {W : World} {u : Value} {l : List (List Int)} {p : Ps} {cs : List Value} (h : Sl kRow (fun _ => True) W u l) (h' : kPs.R (fun _ => True) W p cs) (big : Bool) :
    CallsR Try.prog 7 #[u, .agg cs.toArray, .bool big] W fun r w' => r = .bool true ∧ Kn W w' := by
  obtain ⟨A, c, ad, rV, rc, ra, rfl, hR⟩ := h.rws
  obtain ⟨rfl, hp⟩ := ps_form h'
  have hlen := hR.len
  refine l_enter (fun _ => False) Try.func7 rfl rfl ?_
  repeat(first|refine lrun_ ?_|(refine lo_boxA rfl rfl ?_;intro _ _ _)|(refine lo_box1 rfl rfl rfl ?_;intro _ _ _)|(refine lo_alloc rfl ?_;intro _ _ _))
  rename_i g4 _ _
  refine lo_callP (n_call rfl) rfl (fun w hw => small_calls (Kn.sl hw.org h)) ?_
  by_cases hs : smallM l = false ∨ l.length = 0
  · rcases hs with hs | hs
    · rw [hs]
      repeat(first|refine lrun_ ?_|(refine lo_boxA rfl rfl ?_;intro _ _ _)|(refine lo_box1 rfl rfl rfl ?_;intro _ _ _)|(refine lo_alloc rfl ?_;intro _ _ _))
      refine l_true rfl ?_
      repeat(first|refine lrun_ ?_|(refine lo_boxA rfl rfl ?_;intro _ _ _)|(refine lo_box1 rfl rfl rfl ?_;intro _ _ _)|(refine lo_alloc rfl ?_;intro _ _ _))
      refine lo_call (n_call rfl) rfl (fun w hw => awake_calls) ?_
      repeat(first|refine lrun_ ?_|(refine lo_boxA rfl rfl ?_;intro _ _ _)|(refine lo_box1 rfl rfl rfl ?_;intro _ _ _)|(refine lo_alloc rfl ?_;intro _ _ _))
      exact l_ret1 rfl rfl fun w hw => ⟨rfl, hw.org⟩
    · cases smallM l with
      | true =>
        repeat(first|refine lrun_ ?_|(refine lo_boxA rfl rfl ?_;intro _ _ _)|(refine lo_box1 rfl rfl rfl ?_;intro _ _ _)|(refine lo_alloc rfl ?_;intro _ _ _))
        refine l_yes rfl (by omega) ?_
        repeat(first|refine lrun_ ?_|(refine lo_boxA rfl rfl ?_;intro _ _ _)|(refine lo_box1 rfl rfl rfl ?_;intro _ _ _)|(refine lo_alloc rfl ?_;intro _ _ _))
        refine lo_call (n_call rfl) rfl (fun w hw => awake_calls) ?_
        repeat(first|refine lrun_ ?_|(refine lo_boxA rfl rfl ?_;intro _ _ _)|(refine lo_box1 rfl rfl rfl ?_;intro _ _ _)|(refine lo_alloc rfl ?_;intro _ _ _))
        exact l_ret1 rfl rfl fun w hw => ⟨rfl, hw.org⟩
      | false =>
        repeat(first|refine lrun_ ?_|(refine lo_boxA rfl rfl ?_;intro _ _ _)|(refine lo_box1 rfl rfl rfl ?_;intro _ _ _)|(refine lo_alloc rfl ?_;intro _ _ _))
        refine l_true rfl ?_
        repeat(first|refine lrun_ ?_|(refine lo_boxA rfl rfl ?_;intro _ _ _)|(refine lo_box1 rfl rfl rfl ?_;intro _ _ _)|(refine lo_alloc rfl ?_;intro _ _ _))
        refine lo_call (n_call rfl) rfl (fun w hw => awake_calls) ?_
        repeat(first|refine lrun_ ?_|(refine lo_boxA rfl rfl ?_;intro _ _ _)|(refine lo_box1 rfl rfl rfl ?_;intro _ _ _)|(refine lo_alloc rfl ?_;intro _ _ _))
        exact l_ret1 rfl rfl fun w hw => ⟨rfl, hw.org⟩
  have hs1 : smallM l = true := by cases hb : smallM l with
    | true => rfl
    | false => exact absurd (.inl hb) hs
  have hl0 : l ≠ [] := fun e => hs (.inr (by rw [e]; rfl))
  have hs0 := small_room hs1
  rw [hs1]
  repeat(first|refine lrun_ ?_|(refine lo_boxA rfl rfl ?_;intro _ _ _)|(refine lo_box1 rfl rfl rfl ?_;intro _ _ _)|(refine lo_alloc rfl ?_;intro _ _ _))
  refine l_no rfl (fun e => hs (.inr (by omega))) ?_
  repeat(first|refine lrun_ ?_|(refine lo_boxA rfl rfl ?_;intro _ _ _)|(refine lo_box1 rfl rfl rfl ?_;intro _ _ _)|(refine lo_alloc rfl ?_;intro _ _ _))
  refine lo_call (n_call rfl) rfl (fun w hw => clipP_calls (Kn.sl hw.org h) hp) ?_
  repeat(first|refine lrun_ ?_|(refine lo_boxA rfl rfl ?_;intro _ _ _)|(refine lo_box1 rfl rfl rfl ?_;intro _ _ _)|(refine lo_alloc rfl ?_;intro _ _ _))
  rename_i g7 _ _
  refine l_draw [(0, 0), (1, 0), (2, 0), (4, 0), (5, 0), (6, 0), (8, 0), (9, 0), (11, 0), (12, 0), (3, 1), (7, 1), (10, 1), (13, 1), (14, 1), (15, 0)] (by kernel_rfl) (by kernel_rfl) rfl (by kernel_rfl) ?_
  repeat(first|refine lrund_ ?_|(refine ld_open rfl ?_;first|(refine ld_boxA rfl wy_ rfl ?_;intro _ _ _)|(refine ld_box1 rfl rfl wy_ rfl ?_;intro _ _ _)|(refine ld_alloc wy_ rfl ?_;intro _ _ _)))
  refine ld_open rfl ?_; refine ld_callV (n_call rfl) wy_ rfl (fun w hw => next_calls hs0 (Kn.sl hw.org h) hp) ?_
  rintro _ ⟨q1, rfl, e1⟩
  have e1 := seek_on hl0 e1
  repeat(first|refine lrund_ ?_|(refine ld_open rfl ?_;first|(refine ld_boxA rfl wy_ rfl ?_;intro _ _ _)|(refine ld_box1 rfl rfl wy_ rfl ?_;intro _ _ _)|(refine ld_alloc wy_ rfl ?_;intro _ _ _)))
  refine ld_open rfl ?_; refine ld_callV (n_call rfl) wy_ rfl (fun w hw => end_calls hs0 (Kn.sl hw.org h) hp) ?_
  rintro _ ⟨q2, rfl, e2⟩
  have e2 := seek_on hl0 e2
  repeat(first|refine lrund_ ?_|(refine ld_open rfl ?_;first|(refine ld_boxA rfl wy_ rfl ?_;intro _ _ _)|(refine ld_box1 rfl rfl wy_ rfl ?_;intro _ _ _)|(refine ld_alloc wy_ rfl ?_;intro _ _ _)))
  refine ld_open rfl ?_; refine ld_callV (n_call rfl) wy_ rfl (fun w hw => paraNext_calls hs0 (Kn.sl hw.org h) hp) ?_
  rintro _ ⟨q3, rfl, e3⟩
  have e3 := seek_on hl0 e3
  repeat(first|refine lrund_ ?_|(refine ld_open rfl ?_;first|(refine ld_boxA rfl wy_ rfl ?_;intro _ _ _)|(refine ld_box1 rfl rfl wy_ rfl ?_;intro _ _ _)|(refine ld_alloc wy_ rfl ?_;intro _ _ _)))
  refine ld_open rfl ?_; refine ld_callV (n_call rfl) wy_ rfl (fun w hw => sentNext_calls hs0 (Kn.sl hw.org h) hp) ?_
  rintro _ ⟨q4, rfl, e4⟩
  have e4 := seek_on hl0 e4
  repeat(first|refine lrund_ ?_|(refine ld_open rfl ?_;first|(refine ld_boxA rfl wy_ rfl ?_;intro _ _ _)|(refine ld_box1 rfl rfl wy_ rfl ?_;intro _ _ _)|(refine ld_alloc wy_ rfl ?_;intro _ _ _)))
  refine ld_open rfl ?_; refine ld_lit (cs := psC [q1, q2, q3, q4]) rfl (by decide) (by kernel_rfl) wy_ rfl ?_
  intro g8 _ _
  repeat(first|refine lrund_ ?_|(refine ld_open rfl ?_;first|(refine ld_boxA rfl wy_ rfl ?_;intro _ _ _)|(refine ld_box1 rfl rfl wy_ rfl ?_;intro _ _ _)|(refine ld_alloc wy_ rfl ?_;intro _ _ _)))
  repeat(first|refine lrun_ ?_|(refine lo_boxA rfl rfl ?_;intro _ _ _)|(refine lo_box1 rfl rfl rfl ?_;intro _ _ _)|(refine lo_alloc rfl ?_;intro _ _ _))
  refine l_draw [(0, 0), (1, 0), (2, 0), (4, 0), (5, 0), (7, 0), (8, 0), (3, 1), (6, 1), (9, 1), (10, 1), (11, 0)] (by kernel_rfl) (by kernel_rfl) rfl (by kernel_rfl) ?_
  repeat(first|refine lrund_ ?_|(refine ld_open rfl ?_;first|(refine ld_boxA rfl wy_ rfl ?_;intro _ _ _)|(refine ld_box1 rfl rfl wy_ rfl ?_;intro _ _ _)|(refine ld_alloc wy_ rfl ?_;intro _ _ _)))
  refine ld_open rfl ?_; refine ld_callV (n_call rfl) wy_ rfl (fun w hw => prev_calls hs0 (Kn.sl hw.org h) hp) ?_
  rintro _ ⟨q5, rfl, e5⟩
  have e5 := seek_back hl0 e5
  repeat(first|refine lrund_ ?_|(refine ld_open rfl ?_;first|(refine ld_boxA rfl wy_ rfl ?_;intro _ _ _)|(refine ld_box1 rfl rfl wy_ rfl ?_;intro _ _ _)|(refine ld_alloc wy_ rfl ?_;intro _ _ _)))
  refine ld_open rfl ?_; refine ld_callV (n_call rfl) wy_ rfl (fun w hw => paraPrev_calls hs0 (Kn.sl hw.org h) hp) ?_
  rintro _ ⟨q6, rfl, e6⟩
  have e6 := seek_back hl0 e6
  repeat(first|refine lrund_ ?_|(refine ld_open rfl ?_;first|(refine ld_boxA rfl wy_ rfl ?_;intro _ _ _)|(refine ld_box1 rfl rfl wy_ rfl ?_;intro _ _ _)|(refine ld_alloc wy_ rfl ?_;intro _ _ _)))
  refine ld_open rfl ?_; refine ld_callV (n_call rfl) wy_ rfl (fun w hw => sentPrev_calls hs0 (Kn.sl hw.org h) hp) ?_
  rintro _ ⟨q7, rfl, e7⟩
  have e7 := seek_back hl0 e7
  repeat(first|refine lrund_ ?_|(refine ld_open rfl ?_;first|(refine ld_boxA rfl wy_ rfl ?_;intro _ _ _)|(refine ld_box1 rfl rfl wy_ rfl ?_;intro _ _ _)|(refine ld_alloc wy_ rfl ?_;intro _ _ _)))
  refine ld_open rfl ?_; refine ld_lit (cs := psC [q5, q6, q7]) rfl (by decide) (by kernel_rfl) wy_ rfl ?_
  intro g9 _ _
  repeat(first|refine lrund_ ?_|(refine ld_open rfl ?_;first|(refine ld_boxA rfl wy_ rfl ?_;intro _ _ _)|(refine ld_box1 rfl rfl wy_ rfl ?_;intro _ _ _)|(refine ld_alloc wy_ rfl ?_;intro _ _ _)))
  refine l_take (M' := [(g7, cb [.int .i64 (clipM l p).1, .int .i64 (clipM l p).2] 24)]) (by repeat(first|exact MSub.refl|refine MSub.keep rfl ?_|exact MSub.nil|apply MSub.drop)) fun wb hb => ?_
  have b8 := ps_own (hb.mem g8 _ (by(repeat(first|exact MIn.hd|refine MIn.tl ?_));done))
  have b9 := ps_own (hb.mem g9 _ (by(repeat(first|exact MIn.hd|refine MIn.tl ?_));done))
  have nd := hb.nd
  have n87 : g8 ≠ g7 := by simp at nd; omega
  have n97 : g9 ≠ g7 := by simp at nd; omega
  clear hb nd
  have nk : ∀ g, g ≠ g7 → ∀ (n : Nat) (u : Nat), ¬ MK [(g7, cb [.int .i64 (clipM l p).1, .int .i64 (clipM l p).2] 24)] ((⟨g, 0, none⟩ : Addr).add (u * 2)).block := by
    intro g hg n u ⟨o, hm⟩
    rw [add_block] at hm
    cases hm with
    | hd => exact hg rfl
    | tl h => cases h
  have hp1 : ∀ q', At l q' → P64 q' := fun q' ha => at_P64 hlen hR.rl ha
  have on : ∀ (i : Nat) q', [q1, q2, q3, q4][i]? = some q' → At l q' ∧ (aheadM (clipM l p) q' = true ∨ q' = lastM l) := by
    intro i q' hq
    have := List.mem_of_getElem? hq
    simp at this
    rcases this with rfl | rfl | rfl | rfl <;> assumption
  have back : ∀ (i : Nat) q', [q5, q6, q7][i]? = some q' → At l q' ∧ (aheadM q' (clipM l p) = true ∨ q' = (0, 0)) := by
    intro i q' hq
    have := List.mem_of_getElem? hq
    simp at this
    rcases this with rfl | rfl | rfl <;> assumption
  clear e1 e2 e3 e4 e5 e6 e7
  exact wo_on (P := [q1, q2, q3, q4]) (Q := [q5, q6, q7]) hs0 h hp1 (fun _ => ⟨rfl, trivial⟩) b9 (show 3 ≤ 4000 by decide) back (fun _ => nk g9 n97 0) (fun _ => ⟨rfl, trivial⟩) b8 (show 4 ≤ 4000 by decide) on (fun _ => nk g8 n87 0) _ (by repeat (first | exact SubB.nil | refine SubB.cons rfl ?_)) _ (by repeat(first|exact MSub.refl|refine MSub.keep rfl ?_|exact MSub.nil|apply MSub.drop))
end Go.Ink
