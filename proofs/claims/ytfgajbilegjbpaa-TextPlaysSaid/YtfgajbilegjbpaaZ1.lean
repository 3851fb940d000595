/-
  The reference's text: Runes, plain, New, Place.
-/
import Derived.Test.YtfgajbilegjbpaaX8
import Derived.Test.YtfgajbilegjbpaaTw
set_option linter.unusedVariables false
set_option linter.unusedSimpArgs false
namespace Go.Ink
open Go Go.Proofs Go.RowKit

theorem runes_tsucc {l : List (List Int)} {i : Nat} (h : i < l.length) : runesM (l.take (i + 1)) = runesM (l.take i) + (l.getD i []).length := by
  have := ofs_succ h
  unfold ofs at this
  omega
theorem runes_tle (l : List (List Int)) (i : Nat) : runesM (l.take i) ≤ runesM l := by
  have := ofs_le (l := l) i
  unfold ofs at this
  omega
/-- How many runes lines have, line ends counted. -/
def cntM (l : List (List Int)) : Int := if (l.length : Int) - 1 + runesM l < 0 then 0 else (l.length : Int) - 1 + runesM l
section
variable {F : Nat → Prop} {w : World} {v : Value} {l : List (List Int)}
set_option maxHeartbeats 4000000 in
theorem runesG_calls (h : Sl kRow F w v l) (hb : runesM l + l.length ≤ 1099511627776) : CallsR Try.prog 31 #[v] w fun u w' => Kn w w' ∧ u = .int .i64 (cntM l) := by
  obtain ⟨A, c, ad, rV, rc, ra, rfl, hR⟩ := h.rws
  have hlen := hR.len
  refine l_enter (fun _ => False) Try.func31 rfl rfl ?_
  repeat(first|refine lrun_ ?_|(refine lo_boxA rfl rfl ?_;intro _ _ _)|(refine lo_box1 rfl rfl rfl ?_;intro _ _ _)|(refine lo_alloc rfl ?_;intro _ _ _))
  refine l_while (fun i : Nat => l.length - i) (fun i => [(0, .slice A l.length c), (3, .int .i64 ((l.length : Int) - 1 + (runesM (l.take i) : Nat))), (4, .int .i64 (i : Int))]) (fun _ => []) (fun i => i ≤ l.length) 0 (by simp only [List.take_zero, show runesM [] = 0 from rfl, Int.natCast_zero, Int.add_zero]; exact (by repeat (first | exact SubB.nil | refine SubB.cons rfl ?_))) (by repeat(first|exact MSub.refl|refine MSub.keep rfl ?_|exact MSub.nil|apply MSub.drop)) (Nat.zero_le _) ?_
  intro i hi ih
  by_cases hlt : i < l.length
  · have hrl := hR.rl i
    have h1 := runes_tsucc hlt
    have h2 := runes_tle l (i + 1)
    have ih2 := ih (i + 1) hlt (by omega)
    rw [show (l.length : Int) - 1 + ((runesM (l.take (i + 1)) : Nat) : Int) = (l.length : Int) - 1 + ((runesM (l.take i) : Nat) : Int) + ((l.getD i []).length : Int) by rw [h1]; omega] at ih2
    repeat(first|refine lrun_ ?_|(refine lo_boxA rfl rfl ?_;intro _ _ _)|(refine lo_box1 rfl rfl rfl ?_;intro _ _ _)|(refine lo_alloc rfl ?_;intro _ _ _))
    refine l_yes rfl (by omega) ?_
    repeat(first|refine lrun_ ?_|(refine lo_boxA rfl rfl ?_;intro _ _ _)|(refine lo_box1 rfl rfl rfl ?_;intro _ _ _)|(refine lo_alloc rfl ?_;intro _ _ _))
    exact ih2 _ _ (by repeat (first | exact SubB.nil | refine SubB.cons rfl ?_)) (by repeat(first|exact MSub.refl|refine MSub.keep rfl ?_|exact MSub.nil|apply MSub.drop))
  · obtain rfl : i = l.length := by omega
    repeat(first|refine lrun_ ?_|(refine lo_boxA rfl rfl ?_;intro _ _ _)|(refine lo_box1 rfl rfl rfl ?_;intro _ _ _)|(refine lo_alloc rfl ?_;intro _ _ _))
    refine l_no rfl (by omega) ?_
    refine l_go (.exit rfl) ?_
    repeat(first|refine lrun_ ?_|(refine lo_boxA rfl rfl ?_;intro _ _ _)|(refine lo_box1 rfl rfl rfl ?_;intro _ _ _)|(refine lo_alloc rfl ?_;intro _ _ _))
    refine l_ret1 rfl rfl fun w' hw => ⟨hw.org, ?_⟩
    rw [List.take_length]
    rfl
set_option maxHeartbeats 4000000 in
theorem plain04_calls (h : Sl kRow F w v l) : CallsR Try.prog 35 #[v] w fun u w' => Kn w w' ∧ u = .bool (plainB l) := by
  obtain ⟨A, c, ad, rV, rc, ra, rfl, hR⟩ := h.rws
  have hlen := hR.len
  refine l_enter (fun _ => False) Try.func35 rfl rfl ?_
  repeat(first|refine lrun_ ?_|(refine lo_boxA rfl rfl ?_;intro _ _ _)|(refine lo_box1 rfl rfl rfl ?_;intro _ _ _)|(refine lo_alloc rfl ?_;intro _ _ _))
  refine l_while (fun i : Nat => l.length - i) (fun i => [(0, .slice A l.length c), (3, .int .i64 (i : Int))]) (fun _ => []) (fun i => i ≤ l.length ∧ ∀ j, j < i → 10 ∉ l.getD j []) 0 (by repeat (first | exact SubB.nil | refine SubB.cons rfl ?_)) (by repeat(first|exact MSub.refl|refine MSub.keep rfl ?_|exact MSub.nil|apply MSub.drop)) ⟨Nat.zero_le _, fun j hj => by omega⟩ ?_
  rintro i ⟨hi, hpl⟩ ih
  by_cases hlt : i < l.length
  · have hrl := hR.rl i
    repeat(first|refine lrun_ ?_|(refine lo_boxA rfl rfl ?_;intro _ _ _)|(refine lo_box1 rfl rfl rfl ?_;intro _ _ _)|(refine lo_alloc rfl ?_;intro _ _ _))
    refine l_yes rfl (by omega) ?_
    repeat(first|refine lrun_ ?_|(refine lo_boxA rfl rfl ?_;intro _ _ _)|(refine lo_box1 rfl rfl rfl ?_;intro _ _ _)|(refine lo_alloc rfl ?_;intro _ _ _))
    refine l_while (fun k : Nat => (l.getD i []).length - k) (fun k => [(0, .slice A l.length c), (3, .int .i64 (i : Int)), (4, .int .i64 (k : Int))]) (fun _ => []) (fun k => k ≤ (l.getD i []).length ∧ ∀ j, j < k → (l.getD i []).getD j 0 ≠ 10) 0 (by repeat (first | exact SubB.nil | refine SubB.cons rfl ?_)) (by repeat(first|exact MSub.refl|refine MSub.keep rfl ?_|exact MSub.nil|apply MSub.drop)) ⟨Nat.zero_le _, fun j hj => by omega⟩ ?_
    rintro k ⟨hk, hkp⟩ ihk
    by_cases hkl : k < (l.getD i []).length
    · repeat(first|refine lrun_ ?_|(refine lo_boxA rfl rfl ?_;intro _ _ _)|(refine lo_box1 rfl rfl rfl ?_;intro _ _ _)|(refine lo_alloc rfl ?_;intro _ _ _))
      refine l_yes rfl (by omega) ?_
      repeat(first|refine lrun_ ?_|(refine lo_boxA rfl rfl ?_;intro _ _ _)|(refine lo_box1 rfl rfl rfl ?_;intro _ _ _)|(refine lo_alloc rfl ?_;intro _ _ _))
      by_cases h10 : (l.getD i []).getD k 0 = 10
      · refine l_yes rfl h10 ?_
        repeat(first|refine lrun_ ?_|(refine lo_boxA rfl rfl ?_;intro _ _ _)|(refine lo_box1 rfl rfl rfl ?_;intro _ _ _)|(refine lo_alloc rfl ?_;intro _ _ _))
        refine l_ret1 rfl rfl fun w' hw => ⟨hw.org, by rw [plain_false hlt (mem_getD hkl h10)]⟩
      · refine l_no rfl h10 ?_
        refine l_go .skip ?_
        repeat(first|refine lrun_ ?_|(refine lo_boxA rfl rfl ?_;intro _ _ _)|(refine lo_box1 rfl rfl rfl ?_;intro _ _ _)|(refine lo_alloc rfl ?_;intro _ _ _))
        exact ihk (k + 1) ⟨hkl, fun j hj => by by_cases e : j = k; · exact e ▸ h10
                                               · exact hkp j (by omega)⟩ (by omega) _ _ (by repeat (first | exact SubB.nil | refine SubB.cons rfl ?_)) (by repeat(first|exact MSub.refl|refine MSub.keep rfl ?_|exact MSub.nil|apply MSub.drop))
    · repeat(first|refine lrun_ ?_|(refine lo_boxA rfl rfl ?_;intro _ _ _)|(refine lo_box1 rfl rfl rfl ?_;intro _ _ _)|(refine lo_alloc rfl ?_;intro _ _ _))
      refine l_no rfl (by omega) ?_
      refine l_go (.exit rfl) ?_
      repeat(first|refine lrun_ ?_|(refine lo_boxA rfl rfl ?_;intro _ _ _)|(refine lo_box1 rfl rfl rfl ?_;intro _ _ _)|(refine lo_alloc rfl ?_;intro _ _ _))
      exact ih (i + 1) ⟨hlt, fun j hj => by by_cases e : j = i; · exact e ▸ not_mem_getD fun q hq => hkp q (by omega)
                                            · exact hpl j (by omega)⟩ (by omega) _ _ (by repeat (first | exact SubB.nil | refine SubB.cons rfl ?_)) (by repeat(first|exact MSub.refl|refine MSub.keep rfl ?_|exact MSub.nil|apply MSub.drop))
  · obtain rfl : i = l.length := by omega
    repeat(first|refine lrun_ ?_|(refine lo_boxA rfl rfl ?_;intro _ _ _)|(refine lo_box1 rfl rfl rfl ?_;intro _ _ _)|(refine lo_alloc rfl ?_;intro _ _ _))
    refine l_no rfl (by omega) ?_
    refine l_go (.exit rfl) ?_
    repeat(first|refine lrun_ ?_|(refine lo_boxA rfl rfl ?_;intro _ _ _)|(refine lo_box1 rfl rfl rfl ?_;intro _ _ _)|(refine lo_alloc rfl ?_;intro _ _ _))
    refine l_ret1 rfl rfl fun w' hw => ⟨hw.org, ?_⟩
    rw [plain_iff.2 fun x hx => by
      obtain ⟨j, hj, e⟩ := List.getElem_of_mem hx
      have := hpl j hj
      rw [List.getD_eq_getElem?_getD, List.getElem?_eq_getElem hj] at this
      exact e ▸ this]
end
/-- The reference's text of lines L at block g, all of it in D. -/
def IsRef (D : Nat → Prop) (g : Nat) (w : World) (L : List (List Int)) : Prop := D g ∧ ∃ v F, w.heap[g]? = some (cb [v] 57) ∧ Sl kRow F w v L ∧ ∀ k, F k → D k ∧ k ≠ g
/-- The lines of a new text. -/
def newL (l : List (List Int)) : List (List Int) := if l = [] then [[]] else l
theorem new_split {l : List (List Int)} (h : plainB l = true) : splitM (jndM l) = newL l := by
  unfold newL
  by_cases h0 : l = []
  · subst h0; rfl
  · rw [if_neg h0, split_jnd (plain_iff.1 h) h0]
section
variable {D F : Nat → Prop} {g : Nat} {w w' : World} {v : Value} {l L : List (List Int)}
theorem IsRef.kp {S : Nat → Prop} (h : IsRef D g w L) (hk : Kp S w w') (hs : ∀ k, D k → ¬ S k) : IsRef D g w' L := by
  obtain ⟨h1, v, F, h2, h3, h4⟩ := h
  exact ⟨h1, v, F, hk.blk h2 (hs g h1), Kp.sl hk h3 fun k hk => hs k (h4 k hk).1, h4⟩
theorem IsRef.kn (h : IsRef D g w L) (hk : Kn w w') : IsRef D g w' L := h.kp hk fun _ _ h => h
theorem IsRef.mono {D' : Nat → Prop} (h : IsRef D g w L) (hd : ∀ k, D k → k < w.heap.size → D' k) : IsRef D' g w L := by
  obtain ⟨h1, v, F, h2, h3, h4⟩ := h
  exact ⟨hd g h1 (blk_lt h2), v, fun k => F k ∧ k < w.heap.size, h2, h3.mono fun k hk hl => ⟨hk, hl⟩, fun k hk => ⟨hd k (h4 k hk.1).1 hk.2, (h4 k hk.1).2⟩⟩
set_option maxHeartbeats 4000000 in
theorem new04_calls (h : Sl kRow F w v l) (hb : runesM l + l.length ≤ 65536) : CallsR Try.prog 12 #[v] w fun u w' => Kn w w' ∧ ((plainB l = false ∧ u = .pointer none) ∨ (plainB l = true ∧ ∃ g, u = .pointer (some ⟨g, 0, none⟩) ∧ IsRef (noB w) g w' (newL l))) := by
  refine l_enter (args := [v]) (fun _ => False) Try.func12 rfl rfl ?_
  repeat(first|refine lrun_ ?_|(refine lo_boxA rfl rfl ?_;intro _ _ _)|(refine lo_box1 rfl rfl rfl ?_;intro _ _ _)|(refine lo_alloc rfl ?_;intro _ _ _))
  refine lo_call (n_call rfl) rfl (fun w' hw => plain04_calls (Kn.sl hw.org h)) ?_
  cases hp : plainB l
  case false =>
    repeat(first|refine lrun_ ?_|(refine lo_boxA rfl rfl ?_;intro _ _ _)|(refine lo_box1 rfl rfl rfl ?_;intro _ _ _)|(refine lo_alloc rfl ?_;intro _ _ _))
    refine l_true rfl ?_
    repeat(first|refine lrun_ ?_|(refine lo_boxA rfl rfl ?_;intro _ _ _)|(refine lo_box1 rfl rfl rfl ?_;intro _ _ _)|(refine lo_alloc rfl ?_;intro _ _ _))
    exact l_ret1 rfl rfl fun w' hw => ⟨hw.org, .inl ⟨rfl, rfl⟩⟩
  repeat(first|refine lrun_ ?_|(refine lo_boxA rfl rfl ?_;intro _ _ _)|(refine lo_box1 rfl rfl rfl ?_;intro _ _ _)|(refine lo_alloc rfl ?_;intro _ _ _))
  refine lo_call (n_call rfl) rfl (fun w' hw => runesG_calls (Kn.sl hw.org h) (by omega)) ?_
  have hcn : cntM l ≤ 65536 := by unfold cntM; split <;> omega
  repeat(first|refine lrun_ ?_|(refine lo_boxA rfl rfl ?_;intro _ _ _)|(refine lo_box1 rfl rfl rfl ?_;intro _ _ _)|(refine lo_alloc rfl ?_;intro _ _ _))
  refine l_no rfl (by omega) ?_
  refine l_go .skip ?_
  repeat(first|refine lrun_ ?_|(refine lo_boxA rfl rfl ?_;intro _ _ _)|(refine lo_box1 rfl rfl rfl ?_;intro _ _ _)|(refine lo_alloc rfl ?_;intro _ _ _))
  refine lo_callM (n_call rfl) rfl (fun w' hw => twinT_calls (Kn.sl hw.org h)) ?_
  rintro w1 u w2 hw1 kn1 ko1 ⟨us, hT⟩
  have hO : Ow kRow (noB w1) (noB w1) w2 u l := hT.ow fun _ _ => trivial
  obtain ⟨A2, c2, rfl, _⟩ := hO.form
  have hs1 := hw1.org.size
  have hs2 := kn1.size
  have hX := (hO.slF (fun _ h => h) fun _ h => h).mono (F' := fun k => noB w1 k ∧ k < w2.heap.size) fun k hk hl => ⟨hk, hl⟩
  by_cases h0 : l = []
  · have h00 : l.length = 0 := by rw [h0]; rfl
    repeat(first|refine lrun_ ?_|(refine lo_boxA rfl rfl ?_;intro _ _ _)|(refine lo_box1 rfl rfl rfl ?_;intro _ _ _)|(refine lo_alloc rfl ?_;intro _ _ _))
    refine l_yes rfl (by omega) ?_
    repeat(first|refine lrun_ ?_|(refine lo_boxA rfl rfl ?_;intro _ _ _)|(refine lo_box1 rfl rfl rfl ?_;intro _ _ _)|(refine lo_alloc rfl ?_;intro _ _ _))
    refine lo_lit (cs := [.slice none 0 0]) rfl (by decide) (by kernel_rfl) rfl ?_
    intro g1 hg1 hg1'
    repeat(first|refine lrun_ ?_|(refine lo_boxA rfl rfl ?_;intro _ _ _)|(refine lo_box1 rfl rfl rfl ?_;intro _ _ _)|(refine lo_alloc rfl ?_;intro _ _ _))
    rename_i g2 hg2 hg2'
    refine l_ret1 rfl rfl fun w' hw => ⟨hw.org, .inr ⟨rfl, g2, rfl, ?_, _, fun k => k = g1, hw.mem g2 _ .hd, ?_, ?_⟩⟩
    · unfold noB; omega
    · unfold newL
      rw [if_pos h0]
      exact sl_lines1 (hw.mem g1 _ (.tl .hd)) rfl (Sl.nil _ _ _)
    · intro k hk
      have hnd := hw.nd
      simp at hnd
      exact ⟨by unfold noB; omega, by omega⟩
  · repeat(first|refine lrun_ ?_|(refine lo_boxA rfl rfl ?_;intro _ _ _)|(refine lo_box1 rfl rfl rfl ?_;intro _ _ _)|(refine lo_alloc rfl ?_;intro _ _ _))
    refine l_no rfl (fun e => h0 (List.length_eq_zero_iff.1 (by omega))) ?_
    refine l_go .skip ?_
    repeat(first|refine lrun_ ?_|(refine lo_boxA rfl rfl ?_;intro _ _ _)|(refine lo_box1 rfl rfl rfl ?_;intro _ _ _)|(refine lo_alloc rfl ?_;intro _ _ _))
    rename_i g2 hg2 hg2'
    refine l_ret1 rfl rfl fun w' hw => ⟨hw.org, .inr ⟨rfl, g2, rfl, ?_, _, fun k => noB w1 k ∧ k < w2.heap.size, hw.mem g2 _ .hd, ?_, ?_⟩⟩
    · unfold noB; omega
    · unfold newL
      rw [if_neg h0]
      exact Kp.sl hw.kp hX fun k hk hm => mk_nil hm
    · exact fun k hk => ⟨by have := hk.1; unfold noB at *; omega, by have := hk.2; omega⟩
theorem cnt_jnd (h : L ≠ []) : cntM L = ((jndM L).length : Int) := by
  have h1 := jnd_len L
  have h2 := List.length_pos_iff.2 h
  unfold cntM
  rw [if_neg (by omega)]
  omega
theorem place_uniq {i c i' c' : Nat} (hi : i < L.length) (hc : c ≤ (L.getD i []).length) (hi' : i' < L.length) (hc' : c' ≤ (L.getD i' []).length) (h : ofs L i + c = ofs L i' + c') : i = i' ∧ c = c' := by
  have key : ∀ {i i' c c' : Nat}, i < L.length → i' < L.length → c ≤ (L.getD i []).length → i < i' → ofs L i + c < ofs L i' + c' := by
    intro i i' c c' hi hi' hc hlt
    have h1 := ofs_succ hi
    have h2 : ofs L (i + 1) ≤ ofs L i' := by
      obtain ⟨d, rfl⟩ : ∃ d, i' = i + 1 + d := ⟨i' - (i + 1), by omega⟩
      clear hlt
      induction d with
      | zero => exact Nat.le_refl _
      | succ d ih =>
        have := ih (by omega)
        have := ofs_succ (l := L) (i := i + 1 + d) (by omega)
        rw [show i + 1 + (d + 1) = i + 1 + d + 1 by omega]
        omega
    omega
  rcases Nat.lt_trichotomy i i' with h1 | h1 | h1
  · have := key (c' := c') hi hi' hc h1; omega
  · subst h1; exact ⟨rfl, by omega⟩
  · have := key (c' := c) hi' hi hc' h1; omega
set_option maxHeartbeats 4000000 in
theorem placeR_calls {n : Int} (h : IsRef D g w L) (hL : L ≠ []) (hb : runesM L + L.length ≤ 1099511627776) (hn : -9223372036854775808 ≤ n ∧ n ≤ 9223372036854775807) :
    CallsR Try.prog 29 #[.pointer (some ⟨g, 0, none⟩), .int .i64 n] w fun u w' => Kn w w' ∧ ((¬ (0 ≤ n ∧ n ≤ (jndM L).length) ∧ u = .tuple #[posV (0, 0), .int .i64 2]) ∨ ∃ i c : Nat, i < L.length ∧ c ≤ (L.getD i []).length ∧ n = ((ofs L i + c : Nat) : Int) ∧ u = .tuple #[posV ((i : Int), (c : Int)), .int .i64 0]) := by
  obtain ⟨h1, v, F, h2, h3, h4⟩ := h
  have c0 : w.cell? ⟨g, 0, none⟩ = some v := blk_cell h2
  have hv := h3
  have hcn := cnt_jnd hL
  obtain ⟨A, c, ad, rV, rc, ra, rfl, hR⟩ := h3.rws
  have hlen := hR.len
  have hl0 := List.length_pos_iff.2 hL
  have hjl := jnd_len L
  refine l_enter (args := [.pointer (some ⟨g, 0, none⟩), .int .i64 n]) (fun _ => False) Try.func29 rfl rfl ?_
  repeat(first|refine lrun_ ?_|(refine lo_boxA rfl rfl ?_;intro _ _ _)|(refine lo_box1 rfl rfl rfl ?_;intro _ _ _)|(refine lo_alloc rfl ?_;intro _ _ _))
  rename_i g4 _ _
  by_cases hn0 : n < 0
  · repeat(first|refine lrun_ ?_|(refine lo_boxA rfl rfl ?_;intro _ _ _)|(refine lo_box1 rfl rfl rfl ?_;intro _ _ _)|(refine lo_alloc rfl ?_;intro _ _ _))
    refine l_true rfl ?_
    repeat(first|refine lrun_ ?_|(refine lo_boxA rfl rfl ?_;intro _ _ _)|(refine lo_box1 rfl rfl rfl ?_;intro _ _ _)|(refine lo_alloc rfl ?_;intro _ _ _))
    exact l_retR2 rfl (by repeat(first|exact LRes.nil|refine LRes.tmp rfl ?_|refine LRes.agg rfl (by(repeat(first|exact MIn.hd|refine MIn.tl ?_));done) (by rfl) (by rfl) ?_|refine LRes.one rfl (by(repeat(first|exact MIn.hd|refine MIn.tl ?_));done) (by rfl) ?_)) fun w' hw => ⟨hw.org, .inl ⟨by omega, rfl⟩⟩
  repeat(first|refine lrun_ ?_|(refine lo_boxA rfl rfl ?_;intro _ _ _)|(refine lo_box1 rfl rfl rfl ?_;intro _ _ _)|(refine lo_alloc rfl ?_;intro _ _ _))
  refine lo_call (n_call rfl) rfl (fun w' hw => runesG_calls (Kn.sl hw.org hv) hb) ?_
  rw [hcn]
  by_cases hn1 : ((jndM L).length : Int) < n
  · repeat(first|refine lrun_ ?_|(refine lo_boxA rfl rfl ?_;intro _ _ _)|(refine lo_box1 rfl rfl rfl ?_;intro _ _ _)|(refine lo_alloc rfl ?_;intro _ _ _))
    refine l_yes rfl (by omega) ?_
    repeat(first|refine lrun_ ?_|(refine lo_boxA rfl rfl ?_;intro _ _ _)|(refine lo_box1 rfl rfl rfl ?_;intro _ _ _)|(refine lo_alloc rfl ?_;intro _ _ _))
    exact l_retR2 rfl (by repeat(first|exact LRes.nil|refine LRes.tmp rfl ?_|refine LRes.agg rfl (by(repeat(first|exact MIn.hd|refine MIn.tl ?_));done) (by rfl) (by rfl) ?_|refine LRes.one rfl (by(repeat(first|exact MIn.hd|refine MIn.tl ?_));done) (by rfl) ?_)) fun w' hw => ⟨hw.org, .inl ⟨by omega, rfl⟩⟩
  repeat(first|refine lrun_ ?_|(refine lo_boxA rfl rfl ?_;intro _ _ _)|(refine lo_box1 rfl rfl rfl ?_;intro _ _ _)|(refine lo_alloc rfl ?_;intro _ _ _))
  refine l_no rfl (by omega) ?_
  refine l_go .skip ?_
  repeat(first|refine lrun_ ?_|(refine lo_boxA rfl rfl ?_;intro _ _ _)|(refine lo_box1 rfl rfl rfl ?_;intro _ _ _)|(refine lo_alloc rfl ?_;intro _ _ _))
  obtain ⟨m, rfl⟩ : ∃ m : Nat, n = (m : Int) := ⟨n.toNat, by omega⟩
  refine l_while (fun i : Nat => L.length - i) (fun i => [(0, .pointer (some ⟨g, 0, none⟩)), (1, .int .i64 ((m : Int) - (ofs L i : Nat))), (4, .pointer (some ⟨g4, 0, none⟩)), (6, .int .i64 (i : Int))]) (fun _ => [(g4, cb [.int .i64 0, .int .i64 0] 29)]) (fun i => i < L.length ∧ ofs L i ≤ m) 0 (by simp only [show ofs L 0 = 0 from rfl, Int.natCast_zero, Int.sub_zero]; exact (by repeat (first | exact SubB.nil | refine SubB.cons rfl ?_))) (by repeat(first|exact MSub.refl|refine MSub.keep rfl ?_|exact MSub.nil|apply MSub.drop)) ⟨hl0, Nat.zero_le _⟩ ?_
  rintro i ⟨hi, ho⟩ ih
  have hrl := hR.rl i
  have hos := ofs_succ hi
  have hol := ofs_le (l := L) (i + 1)
  by_cases hlt : ((L.getD i []).length : Int) < (m : Int) - (ofs L i : Nat)
  · have hi1 : i + 1 < L.length := by
      rcases Nat.lt_or_ge (i + 1) L.length with h | h
      · exact h
      · have e : i = L.length - 1 := by omega
        have := ofs_last hL
        rw [← e] at this
        omega
    have ih2 := ih (i + 1) ⟨hi1, by omega⟩ (by omega)
    rw [show (m : Int) - ((ofs L (i + 1) : Nat) : Int) = (m : Int) - ((ofs L i : Nat) : Int) - (((L.getD i []).length : Int) + 1) by rw [hos]; omega] at ih2
    repeat(first|refine lrun_ ?_|(refine lo_boxA rfl rfl ?_;intro _ _ _)|(refine lo_box1 rfl rfl rfl ?_;intro _ _ _)|(refine lo_alloc rfl ?_;intro _ _ _))
    refine l_yes rfl (by omega) ?_
    repeat(first|refine lrun_ ?_|(refine lo_boxA rfl rfl ?_;intro _ _ _)|(refine lo_box1 rfl rfl rfl ?_;intro _ _ _)|(refine lo_alloc rfl ?_;intro _ _ _))
    exact ih2 _ _ (by repeat (first | exact SubB.nil | refine SubB.cons rfl ?_)) (by repeat(first|exact MSub.refl|refine MSub.keep rfl ?_|exact MSub.nil|apply MSub.drop))
  · repeat(first|refine lrun_ ?_|(refine lo_boxA rfl rfl ?_;intro _ _ _)|(refine lo_box1 rfl rfl rfl ?_;intro _ _ _)|(refine lo_alloc rfl ?_;intro _ _ _))
    refine l_no rfl (by omega) ?_
    refine l_go (.exit rfl) ?_
    repeat(first|refine lrun_ ?_|(refine lo_boxA rfl rfl ?_;intro _ _ _)|(refine lo_box1 rfl rfl rfl ?_;intro _ _ _)|(refine lo_alloc rfl ?_;intro _ _ _))
    refine l_retR2 rfl (by repeat(first|exact LRes.nil|refine LRes.tmp rfl ?_|refine LRes.agg rfl (by(repeat(first|exact MIn.hd|refine MIn.tl ?_));done) (by rfl) (by rfl) ?_|refine LRes.one rfl (by(repeat(first|exact MIn.hd|refine MIn.tl ?_));done) (by rfl) ?_)) fun w' hw => ⟨hw.org, .inr ⟨i, m - ofs L i, hi, by omega, by omega, ?_⟩⟩
    rw [show (m : Int) - ((ofs L i : Nat) : Int) = ((m - ofs L i : Nat) : Int) by omega]
    rfl
end
end Go.Ink
