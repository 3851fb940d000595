/-
  ParaNext, ParaPrev.
-/
import Derived.Test.YtcfbkoajhllcaaaG6
import Derived.Test.YtcfbkoajhllcaaaFv
set_option linter.unusedVariables false
set_option linter.unusedSimpArgs false
namespace Go.Ink
open Go Go.Proofs

/-- A paragraph's end; its beginning. -/
def parE (l : List (List Int)) (q : Ps) : Bool := decide ((rowOf l q).length = 0 ∧ 0 < q.1 ∧ 0 < (l.getD (q.1.toNat - 1) []).length)
def parB (l : List (List Int)) (q : Ps) : Bool := decide ((rowOf l q).length = 0 ∧ q.1 + 1 < l.length ∧ 0 < (l.getD (q.1.toNat + 1) []).length)
theorem on_ahead {l : List (List Int)} {a b : Ps} {t v : Nat} {by_ : Int} (h1 : (placesTo l l.length)[t]? = some a) (h2 : (placesTo l l.length)[v]? = some b) :
    On by_ t v ↔ (by_ = 1 ∧ (a.1 < b.1 ∨ (a.1 = b.1 ∧ a.2 < b.2))) ∨ (by_ = -1 ∧ (b.1 < a.1 ∨ (b.1 = a.1 ∧ b.2 < a.2))) := by
  have e1 := places_ahead h1 h2
  have e2 := places_ahead h2 h1
  have f1 : t < v ↔ (a.1 < b.1 ∨ (a.1 = b.1 ∧ a.2 < b.2)) := by rw [← ahead_t, e1, decide_eq_true_iff]
  have f2 : v < t ↔ (b.1 < a.1 ∨ (b.1 = a.1 ∧ b.2 < a.2)) := by rw [← ahead_t, e2, decide_eq_true_iff]
  unfold On
  rw [f1, f2]
/-- A place in an empty line. -/
theorem line_on {l : List (List Int)} {t v i0 k0 j : Nat} {by_ : Int} (h1 : (placesTo l l.length)[t]? = some ((i0 : Int), (k0 : Int))) (h2 : (placesTo l l.length)[v]? = some ((j : Int), 0)) (hj : (l.getD j []).length = 0) : On by_ t v ↔ On by_ i0 j := by
  rw [on_ahead h1 h2]
  have ha := get_at h1
  obtain ⟨i', k', he, hi', hk'⟩ := at_col ha
  simp only [Prod.mk.injEq] at he
  obtain ⟨e1, e2⟩ := he
  have : i' = i0 := by omega
  subst this
  unfold On
  simp only
  by_cases h : i' = j
  · subst h
    have : k' = 0 := by omega
    omega
  · omega
theorem sk_lines {l : List (List Int)} {f : Ps → Bool} {t i0 k0 : Nat} {by_ : Int} (hf : ∀ q, At l q → f q = true → (rowOf l q).length = 0) (h1 : (placesTo l l.length)[t]? = some ((i0 : Int), (k0 : Int))) :
    (∀ i, i < l.length → On by_ i0 i → (l.getD i []).length = 0 → f ((i : Int), 0) = true → (∀ j, On by_ i0 j → On by_ j i → j < l.length → (l.getD j []).length = 0 → f ((j : Int), 0) = false) → ∃ u, (placesTo l l.length)[u]? = some ((i : Int), 0) ∧ Sk f (placesTo l l.length) by_ t (some u)) ∧
    ((∀ j, On by_ i0 j → j < l.length → (l.getD j []).length = 0 → f ((j : Int), 0) = false) → Sk f (placesTo l l.length) by_ t none) := by
  have key : ∀ v q, (placesTo l l.length)[v]? = some q → On by_ t v → f q = true → ∃ j : Nat, q = ((j : Int), 0) ∧ j < l.length ∧ (l.getD j []).length = 0 ∧ On by_ i0 j := by
    intro v q hv hon hq
    have ha := get_at hv
    have he := hf q ha hq
    obtain ⟨j, k, rfl, hj, hk⟩ := at_col ha
    rw [rowOf_at] at he
    obtain rfl : k = 0 := by omega
    exact ⟨j, rfl, hj, he, (line_on h1 hv he).1 hon⟩
  constructor
  · intro i hi hon he hfi hno
    obtain ⟨u, hu⟩ := at_get (at_of (l := l) (i := i) (k := 0) hi (.inl ⟨he, rfl⟩))
    refine ⟨u, hu, (List.getElem?_eq_some_iff.1 hu).1, (line_on h1 hu he).2 hon, by rw [List.getD_eq_getElem?_getD, hu]; exact hfi, fun v hv1 hv2 => ?_⟩
    have hvl : v < (placesTo l l.length).length := by
      have := (List.getElem?_eq_some_iff.1 hu).1
      have := (List.getElem?_eq_some_iff.1 h1).1
      unfold On at hv1 hv2; omega
    have hv := List.getElem?_eq_getElem hvl
    rw [List.getD_eq_getElem?_getD, hv]
    by_cases hfv : f ((placesTo l l.length)[v]) = true
    · obtain ⟨j, hq, hj, hje, hoj⟩ := key v _ hv hv1 hfv
      rw [hq] at hv
      have h2 : On by_ j i := (line_on (k0 := 0) hv hu he).1 hv2
      have := hno j hoj h2 hj hje
      rw [hq] at hfv
      rw [this] at hfv
      cases hfv
    · exact Bool.eq_false_iff.2 hfv
  · intro hno v hvl hon
    have hv := List.getElem?_eq_getElem hvl
    rw [List.getD_eq_getElem?_getD, hv]
    by_cases hfv : f ((placesTo l l.length)[v]) = true
    · obtain ⟨j, hq, hj, hje, hoj⟩ := key v _ hv hon hfv
      have := hno j hoj hj hje
      rw [hq] at hfv
      rw [this] at hfv
      cases hfv
    · exact Bool.eq_false_iff.2 hfv
theorem parE_at {l : List (List Int)} {i : Nat} : parE l ((i : Int), 0) = decide ((l.getD i []).length = 0 ∧ 0 < i ∧ 0 < (l.getD (i - 1) []).length) := by
  unfold parE
  rw [decide_eq_decide, rowOf_at]
  simp only [Int.toNat_natCast]
  omega
theorem parB_at {l : List (List Int)} {i : Nat} : parB l ((i : Int), 0) = decide ((l.getD i []).length = 0 ∧ i + 1 < l.length ∧ 0 < (l.getD (i + 1) []).length) := by
  unfold parB
  rw [decide_eq_decide, rowOf_at]
  simp only [Int.toNat_natCast]
  omega
section
variable {F : Nat → Prop} {w : World} {v : Value} {l : List (List Int)} {p : Ps}
theorem clip_nat (l : List (List Int)) (p : Ps) : ∃ i0 k0 : Nat, clipM l p = ((i0 : Int), (k0 : Int)) ∧ (l ≠ [] → i0 < l.length) ∧ (l = [] → i0 = 0 ∧ k0 = 0) := by
  by_cases hl0 : l = []
  · subst hl0; exact ⟨0, 0, rfl, fun h => absurd rfl h, fun _ => ⟨rfl, rfl⟩⟩
  · obtain ⟨i0, k0, hcl, hi0, hk0⟩ := at_col (clip_at (p := p) hl0)
    exact ⟨i0, k0, hcl, fun _ => hi0, fun h => absurd h hl0⟩
/-- What a walk over lines finds. -/
theorem seek_lines {f : Ps → Bool} {by_ : Int} {i0 k0 : Nat} (hf : ∀ q, At l q → f q = true → (rowOf l q).length = 0) (hcl : clipM l p = ((i0 : Int), (k0 : Int))) (hl0 : l ≠ []) :
    (∀ i, i < l.length → On by_ i0 i → (l.getD i []).length = 0 → f ((i : Int), 0) = true → (∀ j, On by_ i0 j → On by_ j i → j < l.length → (l.getD j []).length = 0 → f ((j : Int), 0) = false) → SeekM f l by_ p ((i : Int), 0)) ∧
    ((∀ j, On by_ i0 j → j < l.length → (l.getD j []).length = 0 → f ((j : Int), 0) = false) → SeekM f l by_ p (if 0 < by_ then lastM l else (0, 0))) := by
  obtain ⟨t, ht⟩ := at_get (clip_at (p := p) hl0)
  have ht' := ht
  rw [hcl] at ht'
  obtain ⟨S1, S2⟩ := sk_lines (f := f) (by_ := by_) hf ht'
  constructor
  · intro i h1 h2 h3 h4 h5
    obtain ⟨u, hu, hs⟩ := S1 i h1 h2 h3 h4 h5
    exact .inr ⟨t, some u, ht, hs, by unfold tellM; simp only [List.getD_eq_getElem?_getD, hu]; rfl⟩
  · intro h1
    exact .inr ⟨t, none, ht, S2 h1, rfl⟩
set_option maxHeartbeats 1000000 in
theorem paraNext_calls (hs0 : l.length + runesM l ≤ 4000) (h : Sl kRow F w v l) (hp : P64 p) : CallsR Try.prog 23 #[v, posV p] w fun u w' => Kn w w' ∧ ∃ q, u = posV q ∧ SeekM (parE l) l 1 p q := by
  obtain ⟨A, c, ad, rV, rc, ra, rfl, hR⟩ := h.rws
  have hrl := hR.rl
  have hll := hR.len
  obtain ⟨i0, k0, hcl, hi0, hnil⟩ := clip_nat l p
  have hb : i0 < 140737488355328 + 1 := by
    by_cases hl0 : l = []
    · have := (hnil hl0).1; omega
    · have := hi0 hl0; omega
  have hS := fun hl0 : l ≠ [] => seek_lines (f := parE l) (by_ := 1) (p := p) (fun q _ hq => by unfold parE at hq; exact (of_decide_eq_true hq).1) hcl hl0
  refine l_enter (fun _ => False) Try.func23 rfl rfl ?_
  repeat(first|refine lrun_ ?_|(refine lo_boxA rfl rfl ?_;intro _ _ _)|(refine lo_box1 rfl rfl rfl ?_;intro _ _ _)|(refine lo_alloc rfl ?_;intro _ _ _))
  rename_i g3 _ _ g4 _ _
  refine lo_call (n_call rfl) rfl (fun w hw => clipP_calls (Kn.sl hw.org h) hp) ?_
  rw [hcl]
  repeat(first|refine lrun_ ?_|(refine lo_boxA rfl rfl ?_;intro _ _ _)|(refine lo_box1 rfl rfl rfl ?_;intro _ _ _)|(refine lo_alloc rfl ?_;intro _ _ _))
  rw [show ((i0 : Int), (k0 : Int)).1 + 1 = ((i0 + 1 : Nat) : Int) from rfl]
  refine l_while (fun m => l.length - m) (fun m : Nat => [(0, .slice A l.length c), (4, .pointer (some ⟨g4, 0, none⟩)), (5, .int .i64 m)]) (fun _ => [(g4, cb [.int .i64 0, .int .i64 0] 24)]) (fun m => i0 < m ∧ m < 140737488355328 + 2 ∧ ∀ j, i0 < j → j < m → (l.getD j []).length = 0 → parE l ((j : Int), 0) = false) (i0 + 1) (by repeat (first | exact SubB.nil | refine SubB.cons rfl ?_)) (by repeat(first|exact MSub.refl|refine MSub.keep rfl ?_|exact MSub.nil|apply MSub.drop)) ⟨by omega, by omega, fun j _ _ => by omega⟩ ?_
  rintro m ⟨hm0, hmb, hm⟩ ih
  repeat(first|refine lrun_ ?_|(refine lo_boxA rfl rfl ?_;intro _ _ _)|(refine lo_box1 rfl rfl rfl ?_;intro _ _ _)|(refine lo_alloc rfl ?_;intro _ _ _))
  by_cases hml : m < l.length
  · have hl0 : l ≠ [] := by rintro rfl; simp at hml
    have hrm := hrl m
    refine l_yes rfl (by omega) ?_
    have go : parE l ((m : Int), 0) = false ∨ (l.getD m []).length ≠ 0 → ∀ σ' M', SubB σ' [(0, .slice A l.length c), (4, .pointer (some ⟨g4, 0, none⟩)), (5, .int .i64 ((m + 1 : Nat) : Int))] →
      MSub [(g4, cb [.int .i64 0, .int .i64 0] 24)] M' → _ := fun hno σ' M' hs hM => ih (m + 1) ⟨by omega, by omega, fun j h1 h2 h3 => by
        by_cases e : j = m
        · subst e; exact hno.elim id fun h => absurd h3 h
        · exact hm j h1 (by omega) h3⟩ (by omega) σ' M' hs hM
    by_cases he : (l.getD m []).length = 0
    · obtain ⟨j, rfl⟩ : ∃ j, m = j + 1 := ⟨m - 1, by omega⟩
      have hrj := hrl j
      repeat(first|refine lrun_ ?_|(refine lo_boxA rfl rfl ?_;intro _ _ _)|(refine lo_box1 rfl rfl rfl ?_;intro _ _ _)|(refine lo_alloc rfl ?_;intro _ _ _))
      rw [show (((j + 1 : Nat) : Int)) - 1 = (j : Nat) by omega]
      repeat(first|refine lrun_ ?_|(refine lo_boxA rfl rfl ?_;intro _ _ _)|(refine lo_box1 rfl rfl rfl ?_;intro _ _ _)|(refine lo_alloc rfl ?_;intro _ _ _))
      refine l_ite rfl (fun hlt => ?_) (fun hge => ?_)
      · repeat(first|refine lrun_ ?_|(refine lo_boxA rfl rfl ?_;intro _ _ _)|(refine lo_box1 rfl rfl rfl ?_;intro _ _ _)|(refine lo_alloc rfl ?_;intro _ _ _))
        refine l_retR1 rfl (by repeat(first|exact LRes.nil|refine LRes.tmp rfl ?_|refine LRes.agg rfl (by(repeat(first|exact MIn.hd|refine MIn.tl ?_));done) (by rfl) (by rfl) ?_|refine LRes.one rfl (by(repeat(first|exact MIn.hd|refine MIn.tl ?_));done) (by rfl) ?_)) fun w hw => ⟨hw.org, _, rfl, (hS hl0).1 (j + 1) hml (.inl ⟨rfl, by omega⟩) he (by rw [parE_at, decide_eq_true_iff]; exact ⟨he, by omega, by rw [Nat.add_sub_cancel]; omega⟩) fun q h1 h2 h3 h4 => hm q ?_ ?_ h4⟩
        · unfold On at h1; omega
        · unfold On at h2; omega
      · refine l_go .skip ?_
        repeat(first|refine lrun_ ?_|(refine lo_boxA rfl rfl ?_;intro _ _ _)|(refine lo_box1 rfl rfl rfl ?_;intro _ _ _)|(refine lo_alloc rfl ?_;intro _ _ _))
        exact go (.inl (by rw [parE_at, decide_eq_false_iff_not]; rw [Nat.add_sub_cancel]; omega)) _ _ (by repeat (first | exact SubB.nil | refine SubB.cons rfl ?_)) (by repeat(first|exact MSub.refl|refine MSub.keep rfl ?_|exact MSub.nil|apply MSub.drop))
    · repeat(first|refine lrun_ ?_|(refine lo_boxA rfl rfl ?_;intro _ _ _)|(refine lo_box1 rfl rfl rfl ?_;intro _ _ _)|(refine lo_alloc rfl ?_;intro _ _ _))
      refine l_false rfl ?_
      refine l_go .skip ?_
      repeat(first|refine lrun_ ?_|(refine lo_boxA rfl rfl ?_;intro _ _ _)|(refine lo_box1 rfl rfl rfl ?_;intro _ _ _)|(refine lo_alloc rfl ?_;intro _ _ _))
      exact go (.inr he) _ _ (by repeat (first | exact SubB.nil | refine SubB.cons rfl ?_)) (by repeat(first|exact MSub.refl|refine MSub.keep rfl ?_|exact MSub.nil|apply MSub.drop))
  · refine l_no rfl (by omega) ?_
    repeat(first|refine lrun_ ?_|(refine lo_boxA rfl rfl ?_;intro _ _ _)|(refine lo_box1 rfl rfl rfl ?_;intro _ _ _)|(refine lo_alloc rfl ?_;intro _ _ _))
    refine lo_call (n_call rfl) rfl (fun w hw => lastP_calls (Kn.sl hw.org h)) ?_
    repeat(first|refine lrun_ ?_|(refine lo_boxA rfl rfl ?_;intro _ _ _)|(refine lo_box1 rfl rfl rfl ?_;intro _ _ _)|(refine lo_alloc rfl ?_;intro _ _ _))
    refine l_retR1 rfl (by repeat(first|exact LRes.nil|refine LRes.tmp rfl ?_|refine LRes.agg rfl (by(repeat(first|exact MIn.hd|refine MIn.tl ?_));done) (by rfl) (by rfl) ?_|refine LRes.one rfl (by(repeat(first|exact MIn.hd|refine MIn.tl ?_));done) (by rfl) ?_)) fun w hw => ⟨hw.org, _, rfl, ?_⟩
    by_cases hl0 : l = []
    · exact .inl ⟨hl0, by unfold lastM; rw [if_pos hl0]⟩
    · exact (hS hl0).2 fun j h1 h2 h3 => hm j (by unfold On at h1; omega) (by omega) h3
set_option maxHeartbeats 1000000 in
theorem paraPrev_calls (hs0 : l.length + runesM l ≤ 4000) (h : Sl kRow F w v l) (hp : P64 p) : CallsR Try.prog 24 #[v, posV p] w fun u w' => Kn w w' ∧ ∃ q, u = posV q ∧ SeekM (parB l) l (-1) p q := by
  obtain ⟨A, c, ad, rV, rc, ra, rfl, hR⟩ := h.rws
  have hrl := hR.rl
  have hll := hR.len
  obtain ⟨i0, k0, hcl, hi0, hnil⟩ := clip_nat l p
  have hb : i0 < 140737488355328 + 1 := by
    by_cases hl0 : l = []
    · have := (hnil hl0).1; omega
    · have := hi0 hl0; omega
  have hS := fun hl0 : l ≠ [] => seek_lines (f := parB l) (by_ := -1) (p := p) (fun q _ hq => by unfold parB at hq; exact (of_decide_eq_true hq).1) hcl hl0
  refine l_enter (fun _ => False) Try.func24 rfl rfl ?_
  repeat(first|refine lrun_ ?_|(refine lo_boxA rfl rfl ?_;intro _ _ _)|(refine lo_box1 rfl rfl rfl ?_;intro _ _ _)|(refine lo_alloc rfl ?_;intro _ _ _))
  rename_i g3 _ _ g4 _ _
  refine lo_call (n_call rfl) rfl (fun w hw => clipP_calls (Kn.sl hw.org h) hp) ?_
  rw [hcl]
  repeat(first|refine lrun_ ?_|(refine lo_boxA rfl rfl ?_;intro _ _ _)|(refine lo_box1 rfl rfl rfl ?_;intro _ _ _)|(refine lo_alloc rfl ?_;intro _ _ _))
  refine l_while (fun m => m) (fun m : Nat => [(0, .slice A l.length c), (4, .pointer (some ⟨g4, 0, none⟩)), (5, .int .i64 ((m : Int) - 1))]) (fun _ => [(g4, cb [.int .i64 0, .int .i64 0] 24)]) (fun m => m ≤ i0 ∧ ∀ j, m ≤ j → j < i0 → (l.getD j []).length = 0 → parB l ((j : Int), 0) = false) i0 (by repeat (first | exact SubB.nil | refine SubB.cons rfl ?_)) (by repeat(first|exact MSub.refl|refine MSub.keep rfl ?_|exact MSub.nil|apply MSub.drop)) ⟨by omega, fun j _ _ => by omega⟩ ?_
  rintro m ⟨hm0, hm⟩ ih
  repeat(first|refine lrun_ ?_|(refine lo_boxA rfl rfl ?_;intro _ _ _)|(refine lo_box1 rfl rfl rfl ?_;intro _ _ _)|(refine lo_alloc rfl ?_;intro _ _ _))
  cases m with
  | zero =>
    refine l_no rfl (by omega) ?_
    repeat(first|refine lrun_ ?_|(refine lo_boxA rfl rfl ?_;intro _ _ _)|(refine lo_box1 rfl rfl rfl ?_;intro _ _ _)|(refine lo_alloc rfl ?_;intro _ _ _))
    refine l_retR1 rfl (by repeat(first|exact LRes.nil|refine LRes.tmp rfl ?_|refine LRes.agg rfl (by(repeat(first|exact MIn.hd|refine MIn.tl ?_));done) (by rfl) (by rfl) ?_|refine LRes.one rfl (by(repeat(first|exact MIn.hd|refine MIn.tl ?_));done) (by rfl) ?_)) fun w hw => ⟨hw.org, ((0, 0) : Ps), rfl, ?_⟩
    by_cases hl0 : l = []
    · exact .inl ⟨hl0, rfl⟩
    · exact (hS hl0).2 fun j h1 h2 h3 => hm j (by omega) (by unfold On at h1; omega) h3
  | succ m =>
    have hl0 : l ≠ [] := by intro e; have := (hnil e).1; omega
    have hil := hi0 hl0
    have hrm := hrl m
    have hrn := hrl (m + 1)
    refine l_yes rfl (by omega) ?_
    rw [show (((m + 1 : Nat) : Int)) - 1 = (m : Nat) by omega]
    have go : parB l ((m : Int), 0) = false ∨ (l.getD m []).length ≠ 0 → ∀ σ' M', SubB σ' [(0, .slice A l.length c), (4, .pointer (some ⟨g4, 0, none⟩)), (5, .int .i64 ((m : Int) - 1))] →
      MSub [(g4, cb [.int .i64 0, .int .i64 0] 24)] M' → _ := fun hno σ' M' hs hM => ih m ⟨by omega, fun j h1 h2 h3 => by
        by_cases e : j = m
        · subst e; exact hno.elim id fun h => absurd h3 h
        · exact hm j (by omega) h2 h3⟩ (by omega) σ' M' hs hM
    by_cases he : (l.getD m []).length = 0
    · have hml : m + 1 < l.length := by omega
      repeat(first|refine lrun_ ?_|(refine lo_boxA rfl rfl ?_;intro _ _ _)|(refine lo_box1 rfl rfl rfl ?_;intro _ _ _)|(refine lo_alloc rfl ?_;intro _ _ _))
      rw [show (m : Int) + 1 = ((m + 1 : Nat) : Int) from rfl]
      repeat(first|refine lrun_ ?_|(refine lo_boxA rfl rfl ?_;intro _ _ _)|(refine lo_box1 rfl rfl rfl ?_;intro _ _ _)|(refine lo_alloc rfl ?_;intro _ _ _))
      refine l_ite rfl (fun hlt => ?_) (fun hge => ?_)
      · repeat(first|refine lrun_ ?_|(refine lo_boxA rfl rfl ?_;intro _ _ _)|(refine lo_box1 rfl rfl rfl ?_;intro _ _ _)|(refine lo_alloc rfl ?_;intro _ _ _))
        refine l_retR1 rfl (by repeat(first|exact LRes.nil|refine LRes.tmp rfl ?_|refine LRes.agg rfl (by(repeat(first|exact MIn.hd|refine MIn.tl ?_));done) (by rfl) (by rfl) ?_|refine LRes.one rfl (by(repeat(first|exact MIn.hd|refine MIn.tl ?_));done) (by rfl) ?_)) fun w hw => ⟨hw.org, _, rfl, (hS hl0).1 m (by omega) (.inr ⟨rfl, by omega⟩) he (by rw [parB_at, decide_eq_true_iff]; exact ⟨he, hml, Int.ofNat_lt.1 hlt⟩) fun q h1 h2 h3 h4 => hm q ?_ ?_ h4⟩
        · unfold On at h2; omega
        · unfold On at h1; omega
      · refine l_go .skip ?_
        repeat(first|refine lrun_ ?_|(refine lo_boxA rfl rfl ?_;intro _ _ _)|(refine lo_box1 rfl rfl rfl ?_;intro _ _ _)|(refine lo_alloc rfl ?_;intro _ _ _))
        exact go (.inl (by rw [parB_at, decide_eq_false_iff_not]; exact fun h => hge (Int.ofNat_lt.2 h.2.2))) _ _ (by repeat (first | exact SubB.nil | refine SubB.cons rfl ?_)) (by repeat(first|exact MSub.refl|refine MSub.keep rfl ?_|exact MSub.nil|apply MSub.drop))
    · repeat(first|refine lrun_ ?_|(refine lo_boxA rfl rfl ?_;intro _ _ _)|(refine lo_box1 rfl rfl rfl ?_;intro _ _ _)|(refine lo_alloc rfl ?_;intro _ _ _))
      refine l_false rfl ?_
      refine l_go .skip ?_
      repeat(first|refine lrun_ ?_|(refine lo_boxA rfl rfl ?_;intro _ _ _)|(refine lo_box1 rfl rfl rfl ?_;intro _ _ _)|(refine lo_alloc rfl ?_;intro _ _ _))
      exact go (.inr he) _ _ (by repeat (first | exact SubB.nil | refine SubB.cons rfl ?_)) (by repeat(first|exact MSub.refl|refine MSub.keep rfl ?_|exact MSub.nil|apply MSub.drop))
end
end Go.Ink
