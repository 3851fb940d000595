/-
  inkhornref01.Runes, inkhornref04.Same.
-/
import Derived.Test.YtbmjcjlenbgpkaaSeat
import Derived.Test.YtbmjcjlenbgpkaaLst
set_option linter.unusedVariables false
namespace Go.Ink
open Go Go.Proofs

theorem runes_calls {F G : Nat → Prop} {w : World} {u v : Value} {xs ys : List Int} (h : Sl kRune F w u xs) (h' : Sl kRune G w v ys) :
    CallsR Try.prog 13 #[u, v] w fun r w' => Kn w w' ∧ r = .bool (decide (xs = ys)) := by
  obtain ⟨A, c, rfl, hc, hl⟩ := h.form
  obtain ⟨B, c', rfl, hc', hl'⟩ := h'.form
  have hlen := hl.len
  have hlen' := hl'.len
  refine calls_enter Try.func13 rfl rfl ?_
  repeat(refine run_ ?_)
  refine k_ite rfl (fun hne => ?_) (fun heq => ?_)
  · repeat(refine run_ ?_)
    refine k_ret1 rfl rfl ⟨Kp.refl _ _, ?_⟩
    have : xs ≠ ys := fun e => hne (by rw [e])
    simp [this]
  have heq : xs.length = ys.length := by omega
  repeat(refine run_ ?_)
  refine k_while (fun k => xs.length - k) (fun k : Nat => [(0, .slice A xs.length c), (1, .slice B ys.length c'), (5, .int .i64 k)])
    (fun k wr => k ≤ xs.length ∧ wr = w ∧ xs.take k = ys.take k) 0 (by repeat (first | exact SubB.nil | refine SubB.cons rfl ?_)) ⟨Nat.zero_le _, rfl, by simp⟩ ?_
  rintro k _ ⟨hk, rfl, htk⟩ ih
  repeat(refine run_ ?_)
  refine k_ite rfl (fun hlt => ?_) (fun hge => ?_)
  · have hlt' : k < xs.length := by omega
    have hlt2 : k < ys.length := by omega
    obtain ⟨ad, cs, rfl, ⟨rfl, hr⟩, hcell⟩ := h.at_ (List.getElem?_eq_getElem hlt')
    obtain ⟨bd, ds, rfl, ⟨rfl, hs⟩, hcell'⟩ := h'.at_ (List.getElem?_eq_getElem hlt2)
    repeat(refine run_ ?_)
    refine k_draw [(0, 0), (1, 0), (2, 0), (3, 0), (4, 0), (5, 0), (6, 0), (7, 0), (8, 0)] (by kernel_rfl) (by kernel_rfl) rfl (by kernel_rfl) ?_
    repeat(refine rund_ ?_)
    refine d_open rfl ?_
    refine x_still (r_index rfl rfl rfl (by omega) (by omega)) (wants_none rfl) rfl (St.refl _) ?_
    refine d_open rfl ?_
    refine x_still (r_load rfl (hcell 0 _ rfl)) (wants_none rfl) rfl (St.refl _) ?_
    repeat(refine rund_ ?_)
    refine d_open rfl ?_
    refine x_still (r_index rfl rfl rfl (by omega) (by omega)) (wants_none rfl) rfl (St.refl _) ?_
    refine d_open rfl ?_
    refine x_still (r_load rfl (hcell' 0 _ rfl)) (wants_none rfl) rfl (St.refl _) ?_
    repeat(refine rund_ ?_)
    refine k_ite rfl (fun hne => ?_) (fun he => ?_)
    · repeat(refine run_ ?_)
      refine k_ret1 rfl rfl ⟨Kp.refl _ _, ?_⟩
      have : xs ≠ ys := fun e => hne (by subst e; rfl)
      simp [this]
    · repeat(refine run_ ?_)
      exact ih (k + 1) _ ⟨by omega, rfl, take_eq_step hlt' hlt2 htk (by omega)⟩ (by omega) _ (by repeat (first | exact SubB.nil | refine SubB.cons rfl ?_))
  · repeat(refine run_ ?_)
    have : xs = ys := eq_of_take (by omega) heq htk
    exact k_ret1 rfl rfl ⟨Kp.refl _ _, by simp [this]⟩
end Go.Ink
