/-
  slices.Clone, undo.Lines.
-/
import Derived.Test.YtepjngapfmfkeaaAct2
import Derived.Test.YtepjngapfmfkeaaSeat
import Derived.Test.YtepjngapfmfkeaaLst
import Derived.Test.YtepjngapfmfkeaaApp
set_option linter.unusedVariables false
namespace Go.Ink
open Go Go.Proofs

theorem clone_calls {F : Nat → Prop} {w : World} {v : Value} {xs : List Int} (h : Sl kRune F w v xs) :
    CallsR Try.prog 41 #[v] w fun v' w' => Kn w w' ∧ Ow kRune (noB w) (fun _ => False) w' v' xs := by
  obtain ⟨A, c, rfl, hc, hl⟩ := h.form
  refine calls_enter Try.func41 rfl rfl ?_
  repeat(refine run_ ?_)
  refine k_cond rfl (fun hn => ?_) (fun hn => ?_)
  · repeat(refine run_ ?_)
    have : A = none := by simpa using hn
    subst this
    refine k_ret1 rfl rfl ⟨Kp.refl _ _, ?_⟩
    rw [h.nilA]
    exact Ow.nil _ _ _ _
  · repeat(refine run_ ?_)
    refine o_any e_lit0 (wants_none rfl) rfl ?_
    rintro _ w1 ⟨g, rfl, nb⟩
    repeat(refine run_ ?_)
    refine o_any (e_append (d := kRune) (G := noB w) (F := fun k => k < w.heap.size) rfl rfl (ow_lit0 nb nb.ge) (nb.kn.sl h.old) ?_ ?_ rfl rfl rfl) (wants_none rfl) rfl ?_
    · intro k hk hg
      have := nb.ge
      simp [Value.ownBlock] at hg
      omega
    · simpa [Fits, kRune, kInt] using hl
    rintro v2 w2 ⟨hk, ho, hb⟩
    repeat(refine run_ ?_)
    refine k_ret1 rfl rfl ⟨Kp.then nb.kn hk (fun _ h => h) ?_, ?_⟩
    · intro i hi hs
      have := nb.ge
      simp [Value.ownBlock] at hs
      omega
    · refine (ho.mono ?_ fun k hk _ => hk).sc
      intro k hk _
      have := nb.kn.size
      simp only [noB] at hk ⊢
      omega
theorem lines_calls {F : Nat → Prop} {w : World} {v : Value} {xs : List (List Int)} (h : Sl kRow F w v xs) :
    CallsR Try.prog 54 #[v] w fun v' w' => Kn w w' ∧ Ow kRow (noB w) (noB w) w' v' xs := by
  obtain ⟨A, c, rfl, hc, hl⟩ := h.form
  have hlen := hl.len
  have hl24 : xs.length * 24 ≤ 140737488355328 := hl
  refine calls_enter Try.func54 rfl rfl ?_
  repeat(refine run_ ?_)
  refine o_any (e_make rfl rfl (Nat.le_refl _) (by omega) (by unfold maxLen; omega)) (wants_none rfl) rfl ?_
  rintro _ w1 ⟨g, rfl, nb⟩
  have hO := ow_made (d := kRow) (w := w) (G := noB w) (F := noB w) (n := xs.length) (c := xs.length) (zx := []) ⟨_, rfl, Sl.nil _ _ _⟩ nb (Nat.le_refl _) (by unfold maxLen; omega) hl nb.ge
  repeat(refine run_ ?_)
  refine k_while (fun k => xs.length - k) (fun k : Nat => [(0, .slice A xs.length c), (3, .slice (some ⟨g, 0, none⟩) xs.length xs.length), (9, .int .i64 xs.length), (10, .int .i64 k)])
    (fun k wr => k ≤ xs.length ∧ Kn w wr ∧ w1.heap.size ≤ wr.heap.size ∧ Ow kRow (noB w) (noB w) wr (.slice (some ⟨g, 0, none⟩) xs.length xs.length) (xs.take k ++ List.replicate (xs.length - k) []))
    0 (by repeat (first | exact SubB.nil | refine SubB.cons rfl ?_)) ⟨Nat.zero_le _, nb.kn, Nat.le_refl _, by simpa using hO⟩ ?_
  rintro k wr ⟨hk, hkn, hsz, hO⟩ ih
  repeat(refine run_ ?_)
  refine k_ite rfl (fun hlt => ?_) (fun hge => ?_)
  · have hlt' : k < xs.length := by omega
    repeat(refine run_ ?_)
    obtain ⟨ad, cs, rfl, ⟨v1, rfl, hrow⟩, hcell⟩ := h.at_ (List.getElem?_eq_getElem hlt')
    refine o_still (r_index rfl rfl rfl (by omega) (by omega)) (wants_none rfl) rfl ?_
    refine o_still (r_load rfl (hkn.cell (hcell 0 _ rfl) id)) (wants_none rfl) rfl ?_
    refine o_enter (n_call rfl) (wants_none rfl) rfl ((clone_calls (hkn.sl hrow)).mono ?_)
    rintro v2 w2 ⟨hk2, ho2⟩
    refine o_still (r_index rfl rfl rfl (by omega) (by omega)) (wants_none rfl) rfl ?_
    refine o_unit (u_set (q := xs[k]) rfl rfl (hk2.ow hO) ?_ ?_ rfl) (wants_none rfl) rfl ?_
    · simp; omega
    · refine ⟨v2, rfl, ho2.slF ?_ fun _ h => h.elim⟩
      intro j hj
      have := nb.ge
      have := nb.lt
      have := hkn.size
      simp only [noB] at hj ⊢
      omega
    rintro w3 ⟨hk3, ho3⟩
    repeat(refine run_ ?_)
    refine ih (k + 1) w3 ⟨by omega, ?_, ?_, ?_⟩ (by omega) _ (by repeat (first | exact SubB.nil | refine SubB.cons rfl ?_))
    · refine Kp.then (hkn.trans hk2) hk3 (fun _ h => h) ?_
      intro i hi he
      have := nb.ge
      simp at he
      omega
    · have := hk2.size
      have := hk3.size
      omega
    · have e : (xs.take k ++ List.replicate (xs.length - k) []).set (k : Int).toNat xs[k] = xs.take (k + 1) ++ List.replicate (xs.length - (k + 1)) [] := by
        exact set_step hlt'
      rw [e] at ho3
      exact ho3
  · have : k = xs.length := by omega
    subst this
    repeat(refine run_ ?_)
    refine k_ret1 rfl rfl ⟨hkn, ?_⟩
    simpa using hO
end Go.Ink
