/-
  slices.Equal, begins.
-/
import Derived.Test.YtbmjcjlenbgpkaaK5
set_option linter.unusedVariables false
set_option linter.unusedSimpArgs false
namespace Go.Ink
open Go Go.Proofs Go.RowKit

theorem Sl.pre {α : Type} {d : Kd α} {F : Nat → Prop} {w : World} {A : Option Addr} {n c i : Nat} {xs : List α} (h : Sl d F w (.slice A n c) xs) (hi : i ≤ n) (hc : i ≤ c) : Sl d F w (.slice A i c) (xs.take i) := by
  have h1 := Sl.cutV h (l := 0) (hi := i) (m := c) (Nat.zero_le _) hi hc (Nat.le_refl _)
  rwa [cutV_pre, List.drop_zero] at h1
theorem eq_getD {x y : List Int} (hl : x.length = y.length) (h : ∀ j, j < x.length → x.getD j 0 = y.getD j 0) : x = y := by
  apply List.ext_getElem hl
  intro j h1 h2
  have := h j h1
  rwa [List.getD_eq_getElem?_getD, List.getD_eq_getElem?_getD, List.getElem?_eq_getElem h1, List.getElem?_eq_getElem h2] at this
section
variable {F G : Nat → Prop} {w : World} {u v : Value} {x y : List Int}
set_option maxHeartbeats 4000000 in
theorem equal_calls (h : Sl kRune F w u x) (h' : Sl kRune G w v y) : CallsR Try.prog 46 #[u, v] w fun r w' => Kn w w' ∧ r = .bool (decide (x = y)) := by
  obtain ⟨A, c, ad, rfl, hX⟩ := h.rns
  obtain ⟨A', c', ad', rfl, hY⟩ := h'.rns
  have hxl := hX.len
  have hyl := hY.len
  refine l_enter (args := [.slice A x.length c, .slice A' y.length c']) (fun _ => False) Try.func46 rfl rfl ?_
  repeat(first|refine lrun_ ?_|(refine lo_boxA rfl rfl ?_;intro _ _ _)|(refine lo_box1 rfl rfl rfl ?_;intro _ _ _)|(refine lo_alloc rfl ?_;intro _ _ _))
  by_cases hl : x.length = y.length
  case neg =>
    have hne : x ≠ y := fun e => hl (by rw [e])
    rw [decide_eq_false hne]
    refine l_yes rfl (by omega) ?_
    repeat(first|refine lrun_ ?_|(refine lo_boxA rfl rfl ?_;intro _ _ _)|(refine lo_box1 rfl rfl rfl ?_;intro _ _ _)|(refine lo_alloc rfl ?_;intro _ _ _))
    exact l_ret1 rfl rfl fun w' hw => ⟨hw.org, rfl⟩
  refine l_no rfl (by omega) ?_
  refine l_go .skip ?_
  repeat(first|refine lrun_ ?_|(refine lo_boxA rfl rfl ?_;intro _ _ _)|(refine lo_box1 rfl rfl rfl ?_;intro _ _ _)|(refine lo_alloc rfl ?_;intro _ _ _))
  refine l_while (fun i : Nat => x.length - i) (fun i => [(0, .slice A x.length c), (1, .slice A' y.length c'), (12, .int .i64 (x.length : Int)), (13, .int .i64 (i : Int))]) (fun _ => []) (fun i => i ≤ x.length ∧ ∀ j, j < i → x.getD j 0 = y.getD j 0) 0 (by repeat (first | exact SubB.nil | refine SubB.cons rfl ?_)) (by repeat(first|exact MSub.refl|refine MSub.keep rfl ?_|exact MSub.nil|apply MSub.drop)) ⟨Nat.zero_le _, fun j hj => by omega⟩ ?_
  rintro i ⟨hi, he⟩ ih
  by_cases hlt : i < x.length
  · have hlt' : i < y.length := by omega
    repeat(first|refine lrun_ ?_|(refine lo_boxA rfl rfl ?_;intro _ _ _)|(refine lo_box1 rfl rfl rfl ?_;intro _ _ _)|(refine lo_alloc rfl ?_;intro _ _ _))
    refine l_yes rfl (by omega) ?_
    repeat(first|refine lrun_ ?_|(refine lo_boxA rfl rfl ?_;intro _ _ _)|(refine lo_box1 rfl rfl rfl ?_;intro _ _ _)|(refine lo_alloc rfl ?_;intro _ _ _))
    refine l_draw [(0, 0), (1, 0), (2, 0), (3, 0), (4, 0), (5, 0), (6, 0), (7, 0), (8, 0)] (by kernel_rfl) (by kernel_rfl) rfl (by kernel_rfl) ?_
    repeat(first|refine lrund_ ?_|(refine ld_open rfl ?_;first|(refine ld_boxA rfl wy_ rfl ?_;intro _ _ _)|(refine ld_box1 rfl rfl wy_ rfl ?_;intro _ _ _)|(refine ld_alloc wy_ rfl ?_;intro _ _ _)))
    refine ld_open rfl ?_; refine ld_index rfl rfl rfl hlt' (hY.a (by omega)) wy_ rfl ?_
    refine ld_open rfl ?_; refine ld_loadO rfl (hY.run _ hlt') id wy_ rfl ?_
    repeat(first|refine lrund_ ?_|(refine ld_open rfl ?_;first|(refine ld_boxA rfl wy_ rfl ?_;intro _ _ _)|(refine ld_box1 rfl rfl wy_ rfl ?_;intro _ _ _)|(refine ld_alloc wy_ rfl ?_;intro _ _ _)))
    by_cases hq : x.getD i 0 = y.getD i 0
    · refine l_no rfl (fun h => h hq) ?_
      refine l_go .skip ?_
      repeat(first|refine lrun_ ?_|(refine lo_boxA rfl rfl ?_;intro _ _ _)|(refine lo_box1 rfl rfl rfl ?_;intro _ _ _)|(refine lo_alloc rfl ?_;intro _ _ _))
      exact ih (i + 1) ⟨hlt, fun j hj => by
        by_cases e : j = i
        · exact e ▸ hq
        · exact he j (by omega)⟩ (by omega) _ _ (by repeat (first | exact SubB.nil | refine SubB.cons rfl ?_)) (by repeat(first|exact MSub.refl|refine MSub.keep rfl ?_|exact MSub.nil|apply MSub.drop))
    · have hne : x ≠ y := fun e => hq (by rw [e])
      rw [decide_eq_false hne]
      refine l_yes rfl hq ?_
      repeat(first|refine lrun_ ?_|(refine lo_boxA rfl rfl ?_;intro _ _ _)|(refine lo_box1 rfl rfl rfl ?_;intro _ _ _)|(refine lo_alloc rfl ?_;intro _ _ _))
      exact l_ret1 rfl rfl fun w' hw => ⟨hw.org, rfl⟩
  · repeat(first|refine lrun_ ?_|(refine lo_boxA rfl rfl ?_;intro _ _ _)|(refine lo_box1 rfl rfl rfl ?_;intro _ _ _)|(refine lo_alloc rfl ?_;intro _ _ _))
    refine l_no rfl (by omega) ?_
    refine l_go (.exit rfl) ?_
    repeat(first|refine lrun_ ?_|(refine lo_boxA rfl rfl ?_;intro _ _ _)|(refine lo_box1 rfl rfl rfl ?_;intro _ _ _)|(refine lo_alloc rfl ?_;intro _ _ _))
    rw [decide_eq_true (eq_getD hl fun j hj => he j (by omega))]
    exact l_ret1 rfl rfl fun w' hw => ⟨hw.org, rfl⟩
/-- Does a row begin with another one? -/
def begM (l p : List Int) : Bool := decide (p.length ≤ l.length ∧ l.take p.length = p)
set_option maxHeartbeats 4000000 in
theorem begins_calls (h : Sl kRune F w u x) (h' : Sl kRune G w v y) : CallsR Try.prog 28 #[u, v] w fun r w' => Kn w w' ∧ r = .bool (begM x y) := by
  obtain ⟨A, c, rfl, hc, hf⟩ := h.form
  obtain ⟨A', c', rfl, hc', hf'⟩ := h'.form
  have hl1 := hf.len
  have hl2 := hf'.len
  refine l_enter (args := [.slice A x.length c, .slice A' y.length c']) (fun _ => False) Try.func28 rfl rfl ?_
  unfold begM
  by_cases hl : y.length ≤ x.length
  case neg =>
    rw [decide_eq_false (show ¬ (y.length ≤ x.length ∧ x.take y.length = y) from fun h => hl h.1)]
    repeat(first|refine lrun_ ?_|(refine lo_boxA rfl rfl ?_;intro _ _ _)|(refine lo_box1 rfl rfl rfl ?_;intro _ _ _)|(refine lo_alloc rfl ?_;intro _ _ _))
    exact l_ret1 rfl rfl fun w' hw => ⟨hw.org, rfl⟩
  repeat(first|refine lrun_ ?_|(refine lo_boxA rfl rfl ?_;intro _ _ _)|(refine lo_box1 rfl rfl rfl ?_;intro _ _ _)|(refine lo_alloc rfl ?_;intro _ _ _))
  refine lo_call (n_call rfl) rfl (fun w' hw => equal_calls ((Kn.sl hw.org h).pre hl (by omega)) (Kn.sl hw.org h')) ?_
  repeat(first|refine lrun_ ?_|(refine lo_boxA rfl rfl ?_;intro _ _ _)|(refine lo_box1 rfl rfl rfl ?_;intro _ _ _)|(refine lo_alloc rfl ?_;intro _ _ _))
  refine l_ret1 rfl rfl fun w' hw => ⟨hw.org, ?_⟩
  by_cases he : x.take y.length = y
  · rw [decide_eq_true he, decide_eq_true ⟨hl, he⟩]
  · rw [decide_eq_false he, decide_eq_false fun h => he h.2]
end
end Go.Ink
