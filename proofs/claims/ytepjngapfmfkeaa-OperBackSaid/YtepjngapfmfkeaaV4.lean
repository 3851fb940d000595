/-
  undo.Lines, told apart for its last row.
-/
import Derived.Test.YtepjngapfmfkeaaV1
set_option linter.unusedVariables false
set_option linter.unusedSimpArgs false
namespace Go.Ink
open Go Go.Proofs

theorem made_one (v : Value) (m : Nat) : madeCells #[v] m = (List.replicate m v).toArray := by
  apply Array.ext
  · simp [madeCells]
  · intro i h1 h2
    simp [madeCells, Nat.mod_one]
/-- Rows at block g, each in a place of its own, the last one's block nobody else's. -/
def LastOw (w : World) (g : Nat) (wr : World) (rows : List (List Int)) (cs : List Value) : Prop :=
  ∃ r0 x c0 u, rows = r0 ++ [x] ∧ cs = c0 ++ [u] ∧ Els kRow (fun k => noB w k ∧ k ≠ g ∧ u.ownBlock ≠ some k) wr r0 c0 ∧ Ow kRune (fun k => noB w k ∧ k ≠ g) (fun _ => False) wr u x
theorem linesL_calls {F : Nat → Prop} {w : World} {v : Value} {xs : List (List Int)} (h : Sl kRow F w v xs) (hne : xs ≠ []) :
    CallsR Try.prog 54 #[v] w fun v' w' => Kn w w' ∧ ∃ g cs e, v' = .slice (some ⟨g, 0, none⟩) xs.length xs.length ∧ w.heap.size ≤ g ∧ w'.heap[g]? = some (.cells cs.toArray e (0, 0)) ∧ LastOw w g w' xs cs := by
  obtain ⟨A, c, rfl, hc, hl⟩ := h.form
  have hlen := hl.len
  have hl24 : xs.length * 24 ≤ 140737488355328 := hl
  have hpos := List.length_pos_iff.2 hne
  refine calls_enter Try.func54 rfl rfl ?_
  repeat(refine run_ ?_)
  refine o_any (e_make rfl rfl (Nat.le_refl _) (by omega) (by unfold maxLen; omega)) (wants_none rfl) rfl ?_
  rintro _ w1 ⟨g, rfl, nb⟩
  have hb0 := nb.at_
  rw [show (Value.slice none 0 0).cells = #[Value.slice none 0 0] from rfl, made_one, Nat.mul_one] at hb0
  have hg := nb.ge
  have hg1 := nb.lt
  repeat(refine run_ ?_)
  refine k_while (fun k => xs.length - k) (fun k : Nat => [(0, .slice A xs.length c), (3, .slice (some ⟨g, 0, none⟩) xs.length xs.length), (9, .int .i64 xs.length), (10, .int .i64 k)])
    (fun k wr => k ≤ xs.length ∧ Kn w wr ∧ w1.heap.size ≤ wr.heap.size ∧ ∃ cs, wr.heap[g]? = some (.cells (cs ++ List.replicate (xs.length - k) (.slice none 0 0)).toArray 35 (0, 0)) ∧ Els kRow (fun k => noB w k ∧ k ≠ g) wr (xs.take k) cs ∧ (0 < k → LastOw w g wr (xs.take k) cs))
    0 (by repeat (first | exact SubB.nil | refine SubB.cons rfl ?_)) ⟨Nat.zero_le _, nb.kn, Nat.le_refl _, [], by simpa using hb0, rfl, fun h => absurd h (by omega)⟩ ?_
  rintro k wr ⟨hk, hkn, hsz, cs, hb, hE, hL⟩ ih
  have hcl := hE.len
  have hcl : cs.length = k := by rw [hcl, List.length_take, show kRow.sz = 1 from rfl]; omega
  repeat(refine run_ ?_)
  refine k_ite rfl (fun hlt => ?_) (fun hge => ?_)
  · have hlt' : k < xs.length := by omega
    repeat(refine run_ ?_)
    obtain ⟨ad, ds, rfl, ⟨v1, rfl, hrow⟩, hcell⟩ := h.at_ (List.getElem?_eq_getElem hlt')
    refine o_still (r_index rfl rfl rfl (by omega) (by omega)) (wants_none rfl) rfl ?_
    refine o_still (r_load rfl (hkn.cell (hcell 0 _ rfl) id)) (wants_none rfl) rfl ?_
    refine o_enter (n_call rfl) (wants_none rfl) rfl ((clone_calls (hkn.sl hrow)).mono ?_)
    rintro v2 w2 ⟨hk2, ho2⟩
    have hbk := ho2.block
    have hb2 := hk2.blk hb id
    have hs2 := hk2.size
    obtain ⟨A2, c2, rfl, _⟩ := ho2.form
    refine o_still (r_index rfl rfl rfl (by omega) (by omega)) (wants_none rfl) rfl ?_
    refine o_unit (u_store (i := k) rfl rfl rfl (by simp only [add_plain, Nat.zero_add, Nat.add_zero]; congr 2; omega) hb2 (by simp [hcl]; omega)) (wants_none rfl) rfl ?_
    rintro w3 hw3
    have hb3 := hw3.at_
    rw [set_row hlt' hcl] at hb3
    have hE2 : Els kRow (fun k => (noB w k ∧ k ≠ g) ∧ k < wr.heap.size) w2 (xs.take k) cs := (hE.mono (F' := fun k => (noB w k ∧ k ≠ g) ∧ k < wr.heap.size) fun i hi hl => ⟨hi, hl⟩).move fun i hi hl => hk2.block i hl (fun h => h)
    have hE3 : Els kRow (fun k => (noB w k ∧ k ≠ g) ∧ k < wr.heap.size) w3 (xs.take k) cs := hE2.move fun i hi hl => hw3.kp.block i hl hi.1.2
    have hO3 : Ow kRune (fun k => noB w k ∧ k ≠ g) (fun _ => False) w3 (.slice A2 xs[k].length c2) xs[k] := Kp.ow hw3.kp (ho2.mono (G' := fun k => noB w k ∧ k ≠ g) (F' := fun _ => False) (fun i hi hl => by simp only [noB] at hi ⊢; omega) (fun _ h _ => h)) (fun i hi => hi.2) (fun _ h => h.elim)
    repeat(refine run_ ?_)
    refine ih (k + 1) w3 ⟨by omega, ?_, ?_, cs ++ [.slice A2 xs[k].length c2], hb3, ?_, fun _ => ?_⟩ (by omega) _ (by repeat (first | exact SubB.nil | refine SubB.cons rfl ?_))
    · refine Kp.then (hkn.trans hk2) hw3.kp (fun _ h => h) ?_
      intro i hi he
      omega
    · have := hw3.kp.size
      omega
    · rw [take_snoc hlt']
      refine (hE3.mono (F' := fun k => noB w k ∧ k ≠ g) fun i hi _ => hi.1).snoc ⟨_, rfl, hO3.slF (fun i hi => hi) (fun _ h => h.elim)⟩
    · refine ⟨xs.take k, xs[k], cs, _, take_snoc hlt', rfl, hE3.mono fun i hi hl => ⟨hi.1.1, hi.1.2, fun he => ?_⟩, hO3⟩
      have := (hbk i he).1
      simp only [noB] at this
      omega
  · have : k = xs.length := by omega
    subst this
    repeat(refine run_ ?_)
    refine k_ret1 rfl rfl ⟨hkn, g, cs, _, rfl, hg, by simpa using hb, ?_⟩
    have := hL hpos
    rwa [List.take_length] at this
end Go.Ink
