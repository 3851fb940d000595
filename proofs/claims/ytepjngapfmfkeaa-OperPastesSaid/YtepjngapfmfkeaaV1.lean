/-
  slices.Clone, undo.Lines.
  undo.Lines, told apart for its last row.
  undo.Lines, as a table of own rows.
-/
import Derived.Test.YtepjngapfmfkeaaAct2
import Derived.Test.YtepjngapfmfkeaaSeat
import Derived.Test.YtepjngapfmfkeaaLst
import Derived.Test.YtepjngapfmfkeaaApp
import Derived.Test.YtepjngapfmfkeaaTb
set_option linter.unusedVariables false
namespace Go.Ink
open Go Go.Proofs

theorem clone_calls {F : Nat → Prop} {w : World} {v : Value} {xs : List Int} (h : Sl kRune F w v xs) :
    CallsR Try.prog 41 #[v] w fun v' w' => Kn w w' ∧ Ow kRune (noB w) (fun _ => False) w' v' xs := by
  obtain ⟨A, c, rfl, hc, hl⟩ := h.form
  refine calls_enter Try.func41 rfl rfl ?_
  repeat(refine run_ ?_)
  refine k_cond rfl (fun hn => ?_) (fun hn => ?_)
  · repeat(refine run_ ?_)
    have : A = none := by simpa using hn
    subst this
    refine k_ret1 rfl rfl ⟨Kp.refl _ _, ?_⟩
    rw [h.nilA]
    exact Ow.nil _ _ _ _
  · repeat(refine run_ ?_)
    refine o_any e_lit0 (wants_none rfl) rfl ?_
    rintro _ w1 ⟨g, rfl, nb⟩
    repeat(refine run_ ?_)
    refine o_any (e_append (d := kRune) (G := noB w) (F := fun k => k < w.heap.size) rfl rfl (ow_lit0 nb nb.ge) (nb.kn.sl h.old) ?_ ?_ rfl rfl rfl) (wants_none rfl) rfl ?_
    · intro k hk hg
      have := nb.ge
      simp [Value.ownBlock] at hg
      omega
    · simpa [Fits, kRune, kInt] using hl
    rintro v2 w2 ⟨hk, ho, hb⟩
    repeat(refine run_ ?_)
    refine k_ret1 rfl rfl ⟨Kp.then nb.kn hk (fun _ h => h) ?_, ?_⟩
    · intro i hi hs
      have := nb.ge
      simp [Value.ownBlock] at hs
      omega
    · refine (ho.mono ?_ fun k hk _ => hk).sc
      intro k hk _
      have := nb.kn.size
      simp only [noB] at hk ⊢
      omega
theorem lines_calls {F : Nat → Prop} {w : World} {v : Value} {xs : List (List Int)} (h : Sl kRow F w v xs) :
    CallsR Try.prog 54 #[v] w fun v' w' => Kn w w' ∧ Ow kRow (noB w) (noB w) w' v' xs := by
  obtain ⟨A, c, rfl, hc, hl⟩ := h.form
  have hlen := hl.len
  have hl24 : xs.length * 24 ≤ 140737488355328 := hl
  refine calls_enter Try.func54 rfl rfl ?_
  repeat(refine run_ ?_)
  refine o_any (e_make rfl rfl (Nat.le_refl _) (by omega) (by unfold maxLen; omega)) (wants_none rfl) rfl ?_
  rintro _ w1 ⟨g, rfl, nb⟩
  have hO := ow_made (d := kRow) (w := w) (G := noB w) (F := noB w) (n := xs.length) (c := xs.length) (zx := []) ⟨_, rfl, Sl.nil _ _ _⟩ nb (Nat.le_refl _) (by unfold maxLen; omega) hl nb.ge
  repeat(refine run_ ?_)
  refine k_while (fun k => xs.length - k) (fun k : Nat => [(0, .slice A xs.length c), (3, .slice (some ⟨g, 0, none⟩) xs.length xs.length), (9, .int .i64 xs.length), (10, .int .i64 k)])
    (fun k wr => k ≤ xs.length ∧ Kn w wr ∧ w1.heap.size ≤ wr.heap.size ∧ Ow kRow (noB w) (noB w) wr (.slice (some ⟨g, 0, none⟩) xs.length xs.length) (xs.take k ++ List.replicate (xs.length - k) []))
    0 (by repeat (first | exact SubB.nil | refine SubB.cons rfl ?_)) ⟨Nat.zero_le _, nb.kn, Nat.le_refl _, by simpa using hO⟩ ?_
  rintro k wr ⟨hk, hkn, hsz, hO⟩ ih
  repeat(refine run_ ?_)
  refine k_ite rfl (fun hlt => ?_) (fun hge => ?_)
  · have hlt' : k < xs.length := by omega
    repeat(refine run_ ?_)
    obtain ⟨ad, cs, rfl, ⟨v1, rfl, hrow⟩, hcell⟩ := h.at_ (List.getElem?_eq_getElem hlt')
    refine o_still (r_index rfl rfl rfl (by omega) (by omega)) (wants_none rfl) rfl ?_
    refine o_still (r_load rfl (hkn.cell (hcell 0 _ rfl) id)) (wants_none rfl) rfl ?_
    refine o_enter (n_call rfl) (wants_none rfl) rfl ((clone_calls (hkn.sl hrow)).mono ?_)
    rintro v2 w2 ⟨hk2, ho2⟩
    refine o_still (r_index rfl rfl rfl (by omega) (by omega)) (wants_none rfl) rfl ?_
    refine o_unit (u_set (q := xs[k]) rfl rfl (hk2.ow hO) ?_ ?_ rfl) (wants_none rfl) rfl ?_
    · simp; omega
    · refine ⟨v2, rfl, ho2.slF ?_ fun _ h => h.elim⟩
      intro j hj
      have := nb.ge
      have := nb.lt
      have := hkn.size
      simp only [noB] at hj ⊢
      omega
    rintro w3 ⟨hk3, ho3⟩
    repeat(refine run_ ?_)
    refine ih (k + 1) w3 ⟨by omega, ?_, ?_, ?_⟩ (by omega) _ (by repeat (first | exact SubB.nil | refine SubB.cons rfl ?_))
    · refine Kp.then (hkn.trans hk2) hk3 (fun _ h => h) ?_
      intro i hi he
      have := nb.ge
      simp at he
      omega
    · have := hk2.size
      have := hk3.size
      omega
    · have e : (xs.take k ++ List.replicate (xs.length - k) []).set (k : Int).toNat xs[k] = xs.take (k + 1) ++ List.replicate (xs.length - (k + 1)) [] := by
        exact set_step hlt'
      rw [e] at ho3
      exact ho3
  · have : k = xs.length := by omega
    subst this
    repeat(refine run_ ?_)
    refine k_ret1 rfl rfl ⟨hkn, ?_⟩
    simpa using hO
end Go.Ink

set_option linter.unusedVariables false
set_option linter.unusedSimpArgs false
namespace Go.Ink
open Go Go.Proofs

theorem made_one (v : Value) (m : Nat) : madeCells #[v] m = (List.replicate m v).toArray := by
  apply Array.ext
  · simp [madeCells]
  · intro i h1 h2
    simp [madeCells, Nat.mod_one]
/-- Rows at block g, each in a place of its own, the last one's block nobody else's. -/
def LastOw (w : World) (g : Nat) (wr : World) (rows : List (List Int)) (cs : List Value) : Prop :=
  ∃ r0 x c0 u, rows = r0 ++ [x] ∧ cs = c0 ++ [u] ∧ Els kRow (fun k => noB w k ∧ k ≠ g ∧ u.ownBlock ≠ some k) wr r0 c0 ∧ Ow kRune (fun k => noB w k ∧ k ≠ g) (fun _ => False) wr u x
theorem linesL_calls {F : Nat → Prop} {w : World} {v : Value} {xs : List (List Int)} (h : Sl kRow F w v xs) (hne : xs ≠ []) :
    CallsR Try.prog 54 #[v] w fun v' w' => Kn w w' ∧ ∃ g cs e, v' = .slice (some ⟨g, 0, none⟩) xs.length xs.length ∧ w.heap.size ≤ g ∧ w'.heap[g]? = some (.cells cs.toArray e (0, 0)) ∧ LastOw w g w' xs cs := by
  obtain ⟨A, c, rfl, hc, hl⟩ := h.form
  have hlen := hl.len
  have hl24 : xs.length * 24 ≤ 140737488355328 := hl
  have hpos := List.length_pos_iff.2 hne
  refine calls_enter Try.func54 rfl rfl ?_
  repeat(refine run_ ?_)
  refine o_any (e_make rfl rfl (Nat.le_refl _) (by omega) (by unfold maxLen; omega)) (wants_none rfl) rfl ?_
  rintro _ w1 ⟨g, rfl, nb⟩
  have hb0 := nb.at_
  rw [show (Value.slice none 0 0).cells = #[Value.slice none 0 0] from rfl, made_one, Nat.mul_one] at hb0
  have hg := nb.ge
  have hg1 := nb.lt
  repeat(refine run_ ?_)
  refine k_while (fun k => xs.length - k) (fun k : Nat => [(0, .slice A xs.length c), (3, .slice (some ⟨g, 0, none⟩) xs.length xs.length), (9, .int .i64 xs.length), (10, .int .i64 k)])
    (fun k wr => k ≤ xs.length ∧ Kn w wr ∧ w1.heap.size ≤ wr.heap.size ∧ ∃ cs, wr.heap[g]? = some (.cells (cs ++ List.replicate (xs.length - k) (.slice none 0 0)).toArray 35 (0, 0)) ∧ Els kRow (fun k => noB w k ∧ k ≠ g) wr (xs.take k) cs ∧ (0 < k → LastOw w g wr (xs.take k) cs))
    0 (by repeat (first | exact SubB.nil | refine SubB.cons rfl ?_)) ⟨Nat.zero_le _, nb.kn, Nat.le_refl _, [], by simpa using hb0, rfl, fun h => absurd h (by omega)⟩ ?_
  rintro k wr ⟨hk, hkn, hsz, cs, hb, hE, hL⟩ ih
  have hcl := hE.len
  have hcl : cs.length = k := by rw [hcl, List.length_take, show kRow.sz = 1 from rfl]; omega
  repeat(refine run_ ?_)
  refine k_ite rfl (fun hlt => ?_) (fun hge => ?_)
  · have hlt' : k < xs.length := by omega
    repeat(refine run_ ?_)
    obtain ⟨ad, ds, rfl, ⟨v1, rfl, hrow⟩, hcell⟩ := h.at_ (List.getElem?_eq_getElem hlt')
    refine o_still (r_index rfl rfl rfl (by omega) (by omega)) (wants_none rfl) rfl ?_
    refine o_still (r_load rfl (hkn.cell (hcell 0 _ rfl) id)) (wants_none rfl) rfl ?_
    refine o_enter (n_call rfl) (wants_none rfl) rfl ((clone_calls (hkn.sl hrow)).mono ?_)
    rintro v2 w2 ⟨hk2, ho2⟩
    have hbk := ho2.block
    have hb2 := hk2.blk hb id
    have hs2 := hk2.size
    obtain ⟨A2, c2, rfl, _⟩ := ho2.form
    refine o_still (r_index rfl rfl rfl (by omega) (by omega)) (wants_none rfl) rfl ?_
    refine o_unit (u_store (i := k) rfl rfl rfl (by simp only [add_plain, Nat.zero_add, Nat.add_zero]; congr 2; omega) hb2 (by simp [hcl]; omega)) (wants_none rfl) rfl ?_
    rintro w3 hw3
    have hb3 := hw3.at_
    rw [set_row hlt' hcl] at hb3
    have hE2 : Els kRow (fun k => (noB w k ∧ k ≠ g) ∧ k < wr.heap.size) w2 (xs.take k) cs := (hE.mono (F' := fun k => (noB w k ∧ k ≠ g) ∧ k < wr.heap.size) fun i hi hl => ⟨hi, hl⟩).move fun i hi hl => hk2.block i hl (fun h => h)
    have hE3 : Els kRow (fun k => (noB w k ∧ k ≠ g) ∧ k < wr.heap.size) w3 (xs.take k) cs := hE2.move fun i hi hl => hw3.kp.block i hl hi.1.2
    have hO3 : Ow kRune (fun k => noB w k ∧ k ≠ g) (fun _ => False) w3 (.slice A2 xs[k].length c2) xs[k] := Kp.ow hw3.kp (ho2.mono (G' := fun k => noB w k ∧ k ≠ g) (F' := fun _ => False) (fun i hi hl => by simp only [noB] at hi ⊢; omega) (fun _ h _ => h)) (fun i hi => hi.2) (fun _ h => h.elim)
    repeat(refine run_ ?_)
    refine ih (k + 1) w3 ⟨by omega, ?_, ?_, cs ++ [.slice A2 xs[k].length c2], hb3, ?_, fun _ => ?_⟩ (by omega) _ (by repeat (first | exact SubB.nil | refine SubB.cons rfl ?_))
    · refine Kp.then (hkn.trans hk2) hw3.kp (fun _ h => h) ?_
      intro i hi he
      omega
    · have := hw3.kp.size
      omega
    · rw [take_snoc hlt']
      refine (hE3.mono (F' := fun k => noB w k ∧ k ≠ g) fun i hi _ => hi.1).snoc ⟨_, rfl, hO3.slF (fun i hi => hi) (fun _ h => h.elim)⟩
    · refine ⟨xs.take k, xs[k], cs, _, take_snoc hlt', rfl, hE3.mono fun i hi hl => ⟨hi.1.1, hi.1.2, fun he => ?_⟩, hO3⟩
      have := (hbk i he).1
      simp only [noB] at this
      omega
  · have : k = xs.length := by omega
    subst this
    repeat(refine run_ ?_)
    refine k_ret1 rfl rfl ⟨hkn, g, cs, _, rfl, hg, by simpa using hb, ?_⟩
    have := hL hpos
    rwa [List.take_length] at this
end Go.Ink

set_option linter.unusedVariables false
set_option linter.unusedSimpArgs false
namespace Go.Ink
open Go Go.Proofs Go.RowKit

set_option maxHeartbeats 4000000 in
theorem linesT_calls {F : Nat → Prop} {w : World} {v : Value} {xs : List (List Int)} (h : Sl kRow F w v xs) :
    CallsR Try.prog 54 #[v] w fun v' w' => Kn w w' ∧ ∃ us, Tab (noB w) (fun _ => True) w' v' us xs := by
  obtain ⟨A, c, ad, rV, rc, ra, rfl, hR⟩ := h.rws
  have hl24 : xs.length * 24 ≤ 140737488355328 := by obtain ⟨_, _, ee, _, h4⟩ := hR.sl.form; exact h4
  have hlen := hR.len
  refine l_enter (fun _ => False) Try.func54 rfl rfl ?_
  repeat(first|refine lrun_ ?_|(refine lo_boxA rfl rfl ?_;intro _ _ _)|(refine lo_box1 rfl rfl rfl ?_;intro _ _ _)|(refine lo_alloc rfl ?_;intro _ _ _))
  refine lo_makeM (d := kRaw) (n := xs.length) (.slice none 0 0) rfl rfl rfl rfl hl24 (fun _ => ⟨rfl, rfl⟩) rfl rfl rfl ?_
  intro w1 g w2 hw1 kn1 ko1 hO
  have hs1 := hw1.org.size
  have hT0 : Tab (fre w (MK [])) (fun j => j < 0) w2 (.slice (some ⟨g, 0, none⟩) xs.length xs.length) (List.replicate xs.length (.slice none 0 0)) xs :=
    ⟨hO.mono (fun k hk _ => ⟨by unfold noB at hk; omega, mk_nil⟩) fun _ h _ => h, by simp, fun j u x hj => absurd hj (by omega), fun i j u u' k hi => absurd hi (by omega)⟩
  clear hO hw1 kn1 ko1
  repeat(first|refine lrun_ ?_|(refine lo_boxA rfl rfl ?_;intro _ _ _)|(refine lo_box1 rfl rfl rfl ?_;intro _ _ _)|(refine lo_alloc rfl ?_;intro _ _ _))
  refine l_whileB (fun k : Nat => xs.length - k) (fun k => [(0, .slice A xs.length c), (3, .slice (some ⟨g, 0, none⟩) xs.length xs.length), (9, .int .i64 xs.length), (10, .int .i64 (k : Int))]) (fun _ => []) (fun k b => k ≤ xs.length ∧ ∃ us, Tab (fre w (MK [])) (fun j => j < k) b (.slice (some ⟨g, 0, none⟩) xs.length xs.length) us xs) 0 (by repeat (first | exact SubB.nil | refine SubB.cons rfl ?_)) (by repeat(first|exact MSub.refl|refine MSub.keep rfl ?_|exact MSub.nil|apply MSub.drop)) (fun w' hw => ⟨Nat.zero_le _, _, hT0.now hw⟩) ?_
  rintro k b ⟨hk, us, hT⟩ hkb ih
  by_cases hlt : k < xs.length
  · repeat(first|refine lrun_ ?_|(refine lo_boxA rfl rfl ?_;intro _ _ _)|(refine lo_box1 rfl rfl rfl ?_;intro _ _ _)|(refine lo_alloc rfl ?_;intro _ _ _))
    refine l_yes rfl (by omega) ?_
    repeat(first|refine lrun_ ?_|(refine lo_boxA rfl rfl ?_;intro _ _ _)|(refine lo_box1 rfl rfl rfl ?_;intro _ _ _)|(refine lo_alloc rfl ?_;intro _ _ _))
    refine lo_callM (n_call rfl) rfl (fun w' hw => clone_calls (Kn.sl hw.org (hR.rs k hlt))) ?_
    intro w3 u w4 hw3 kn3 ko3 hO3
    have hT4 := (hT.now hw3).kn kn3
    have hT3 := (hT.now hw3).bound
    have hs3 := hw3.org.size
    repeat(first|refine lrun_ ?_|(refine lo_boxA rfl rfl ?_;intro _ _ _)|(refine lo_box1 rfl rfl rfl ?_;intro _ _ _)|(refine lo_alloc rfl ?_;intro _ _ _))
    refine lo_index (j := k) rfl rfl rfl (by omega) rfl rfl ?_
    have hb3 := hO3.block
    refine lo_tabSet (j := k) rfl rfl hT4 hlt ((hO3.mono (fun i hi hl => ?_) fun _ h _ => h)) (by omega) (fun i u2 m hi hu hk hk2 => by have := (hT3.blk hi hu hk).2.1; have := (hb3 m hk2).1; unfold noB at this; omega) rfl ?_
    · unfold noB at hi
      exact ⟨⟨by omega, mk_nil⟩, fun e => by have h9 := (hT3.t.block g rfl).2; have h8 : g = i := e; omega⟩
    intro w5 w6 hw5 ko5 kp5 hT6
    have e1 : xs.set k (xs.getD k []) = xs := by
      rw [List.getD_eq_getElem?_getD, List.getElem?_eq_getElem hlt]; exact List.set_getElem_self _
    rw [e1] at hT6
    have hT7 := hT6.less (L' := fun j => j < k + 1) fun j hj => by omega
    repeat(first|refine lrun_ ?_|(refine lo_boxA rfl rfl ?_;intro _ _ _)|(refine lo_box1 rfl rfl rfl ?_;intro _ _ _)|(refine lo_alloc rfl ?_;intro _ _ _))
    exact ih (k + 1) w6 _ ⟨hlt, _, hT7⟩ (by omega) _ _ (by repeat (first | exact SubB.nil | refine SubB.cons rfl ?_)) (by repeat(first|exact MSub.refl|refine MSub.keep rfl ?_|exact MSub.nil|apply MSub.drop)) fun w' hw' => ⟨hlt, _, hT7.now hw'⟩
  · obtain rfl : k = xs.length := by omega
    repeat(first|refine lrun_ ?_|(refine lo_boxA rfl rfl ?_;intro _ _ _)|(refine lo_box1 rfl rfl rfl ?_;intro _ _ _)|(refine lo_alloc rfl ?_;intro _ _ _))
    refine l_no rfl (by omega) ?_
    refine l_go (.exit rfl) ?_
    repeat(first|refine lrun_ ?_|(refine lo_boxA rfl rfl ?_;intro _ _ _)|(refine lo_box1 rfl rfl rfl ?_;intro _ _ _)|(refine lo_alloc rfl ?_;intro _ _ _))
    refine l_ret1 rfl rfl fun w3 hw => ⟨hw.org, us, ?_⟩
    have := (hT.now hw).mono (G' := noB w) fun k hk _ => hk.1
    exact ⟨this.t, this.len, fun j u x _ hu hx => this.row j u x (by rw [← this.len]; exact (List.getElem?_eq_some_iff.1 hu).1) hu hx, fun i j u u' k _ _ hu hu' => this.apart i j u u' k (by rw [← this.len]; exact (List.getElem?_eq_some_iff.1 hu).1) (by rw [← this.len]; exact (List.getElem?_eq_some_iff.1 hu').1) hu hu'⟩
end Go.Ink
