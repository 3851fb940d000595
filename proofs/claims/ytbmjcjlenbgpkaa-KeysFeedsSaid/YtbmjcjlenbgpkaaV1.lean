/-
  slices.Clone, undo.Lines.
  undo.Lines, told apart for its last row.
  undo.Lines, as a table of own rows.
-/
import Derived.Test.YtbmjcjlenbgpkaaAct2
import Derived.Test.YtbmjcjlenbgpkaaSeat
import Derived.Test.YtbmjcjlenbgpkaaLst
import Derived.Test.YtbmjcjlenbgpkaaApp
import Derived.Test.YtbmjcjlenbgpkaaTb
set_option linter.unusedVariables false
namespace Go.Ink
open Go Go.Proofs

theorem clone_calls {F : Nat → Prop} {w : World} {v : Value} {xs : List Int} (h : Sl kRune F w v xs) :
    CallsR Try.prog 33 #[v] w fun v' w' => Kn w w' ∧ Ow kRune (noB w) (fun _ => False) w' v' xs := by
  obtain ⟨A, c, rfl, hc, hl⟩ := h.form
  refine calls_enter Try.func33 rfl rfl ?_
  repeat(refine run_ ?_)
  refine k_cond rfl (fun hn => ?_) (fun hn => ?_)
  · repeat(refine run_ ?_)
    have : A = none := by simpa using hn
    subst this
    refine k_ret1 rfl rfl ⟨Kp.refl _ _, ?_⟩
    rw [h.nilA]
    exact Ow.nil _ _ _ _
  · repeat(refine run_ ?_)
    refine o_any e_lit0 (wants_none rfl) rfl ?_
    rintro _ w1 ⟨g, rfl, nb⟩
    repeat(refine run_ ?_)
    refine o_any (e_append (d := kRune) (G := noB w) (F := fun k => k < w.heap.size) rfl rfl (ow_lit0 nb nb.ge) (nb.kn.sl h.old) ?_ ?_ rfl rfl rfl) (wants_none rfl) rfl ?_
    · intro k hk hg
      have := nb.ge
      simp [Value.ownBlock] at hg
      omega
    · simpa [Fits, kRune, kInt] using hl
    rintro v2 w2 ⟨hk, ho, hb⟩
    repeat(refine run_ ?_)
    refine k_ret1 rfl rfl ⟨Kp.then nb.kn hk (fun _ h => h) ?_, ?_⟩
    · intro i hi hs
      have := nb.ge
      simp [Value.ownBlock] at hs
      omega
    · refine (ho.mono ?_ fun k hk _ => hk).sc
      intro k hk _
      have := nb.kn.size
      simp only [noB] at hk ⊢
      omega
end Go.Ink
