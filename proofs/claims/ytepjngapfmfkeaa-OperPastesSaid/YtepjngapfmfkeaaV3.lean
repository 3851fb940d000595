/-
  slices.IndexFunc of runes, of any function.
-/
import Derived.Test.YtepjngapfmfkeaaRow
import Derived.Test.YtepjngapfmfkeaaSeat
import Derived.Test.YtepjngapfmfkeaaLn
set_option linter.unusedVariables false
set_option linter.unusedSimpArgs false
namespace Go.Ink
open Go Go.Proofs

theorem idx_some {x : List Int} {P : Int → Bool} {m : Nat} (hm : m < x.length) (h1 : P (x.getD m 0) = true) (h2 : ∀ j, j < m → P (x.getD j 0) = false) : x.findIdx? P = some m := by
  rw [List.findIdx?_eq_some_iff_getElem]
  have e : ∀ j (hj : j < x.length), x[j] = x.getD j 0 := fun j hj => by rw [List.getD_eq_getElem?_getD, List.getElem?_eq_getElem hj]; rfl
  refine ⟨hm, by rw [e]; exact h1, fun j hj => ?_⟩
  rw [e, h2 j hj]
  simp
theorem idx_none {x : List Int} {P : Int → Bool} (h2 : ∀ j, j < x.length → P (x.getD j 0) = false) : x.findIdx? P = none := by
  rw [List.findIdx?_eq_none_iff]
  intro r hr
  obtain ⟨j, hj, rfl⟩ := List.getElem_of_mem hr
  have := h2 j hj
  rw [List.getD_eq_getElem?_getD, List.getElem?_eq_getElem hj] at this
  exact this
def idxW (o : Option Nat) : Value := match o with | some i => .int .i64 (i : Int) | none => .int .i64 (-1)
theorem indexF_calls {F : Nat → Prop} {w : World} {v : Value} {x : List Int} {f : FuncId} [hfn : FnT Try.prog f] {cap : List Value} {P : Int → Bool} (h : Sl kRune F w v x)
    (hp : ∀ w', Kn w w' → ∀ r, CallsR Try.prog f ([Value.int .i32 r] ++ cap).toArray w' fun u w'' => Kn w' w'' ∧ u = .bool (P r)) :
    CallsR Try.prog 67 #[v, .func (.func f) #[] cap.toArray] w fun u w' => Kn w w' ∧ u = idxW (x.findIdx? P) := by
  obtain ⟨A, cx, ad, rfl, hX⟩ := h.rns
  have hl := hX.len
  have hc := hX.cap
  refine l_enter (fun _ => False) Try.func67 rfl rfl ?_
  repeat(first|refine lrun_ ?_|(refine lo_boxA rfl rfl ?_;intro _ _ _)|(refine lo_box1 rfl rfl rfl ?_;intro _ _ _)|(refine lo_alloc rfl ?_;intro _ _ _))
  refine l_while (fun i => x.length - i) (fun i : Nat => [(0, .slice A x.length cx), (1, .func (.func f) #[] cap.toArray), (7, .int .i64 x.length), (8, .int .i64 i)]) (fun _ => []) (fun i => i ≤ x.length ∧ ∀ j, j < i → P (x.getD j 0) = false) 0 (by repeat (first | exact SubB.nil | refine SubB.cons rfl ?_)) (by repeat(first|exact MSub.refl|refine MSub.keep rfl ?_|exact MSub.nil|apply MSub.drop)) ⟨Nat.zero_le _, fun j hj => by omega⟩ ?_
  rintro i ⟨hi, hno⟩ ih
  repeat(first|refine lrun_ ?_|(refine lo_boxA rfl rfl ?_;intro _ _ _)|(refine lo_box1 rfl rfl rfl ?_;intro _ _ _)|(refine lo_alloc rfl ?_;intro _ _ _))
  refine l_ite rfl (fun hlt => ?_) (fun hge => ?_)
  · repeat(first|refine lrun_ ?_|(refine lo_boxA rfl rfl ?_;intro _ _ _)|(refine lo_box1 rfl rfl rfl ?_;intro _ _ _)|(refine lo_alloc rfl ?_;intro _ _ _))
    refine lo_call (n_callV rfl rfl) rfl (fun w hw => hp w hw.org (x.getD i 0)) ?_
    cases hb : P (x.getD i 0) with
    | true =>
      repeat(first|refine lrun_ ?_|(refine lo_boxA rfl rfl ?_;intro _ _ _)|(refine lo_box1 rfl rfl rfl ?_;intro _ _ _)|(refine lo_alloc rfl ?_;intro _ _ _))
      refine l_true rfl ?_
      repeat(first|refine lrun_ ?_|(refine lo_boxA rfl rfl ?_;intro _ _ _)|(refine lo_box1 rfl rfl rfl ?_;intro _ _ _)|(refine lo_alloc rfl ?_;intro _ _ _))
      exact l_ret1 rfl rfl fun w hw => ⟨hw.org, by rw [idx_some (by omega) hb hno]; rfl⟩
    | false =>
      repeat(first|refine lrun_ ?_|(refine lo_boxA rfl rfl ?_;intro _ _ _)|(refine lo_box1 rfl rfl rfl ?_;intro _ _ _)|(refine lo_alloc rfl ?_;intro _ _ _))
      refine l_false rfl ?_
      repeat(first|refine lrun_ ?_|(refine lo_boxA rfl rfl ?_;intro _ _ _)|(refine lo_box1 rfl rfl rfl ?_;intro _ _ _)|(refine lo_alloc rfl ?_;intro _ _ _))
      exact ih (i + 1) ⟨by omega, fun j hj => by
        by_cases e : j = i
        · subst e; exact hb
        · exact hno j (by omega)⟩ (by omega) _ _ (by repeat (first | exact SubB.nil | refine SubB.cons rfl ?_)) (by repeat(first|exact MSub.refl|refine MSub.keep rfl ?_|exact MSub.nil|apply MSub.drop))
  · obtain rfl : i = x.length := by omega
    repeat(first|refine lrun_ ?_|(refine lo_boxA rfl rfl ?_;intro _ _ _)|(refine lo_box1 rfl rfl rfl ?_;intro _ _ _)|(refine lo_alloc rfl ?_;intro _ _ _))
    exact l_ret1 rfl rfl fun w hw => ⟨hw.org, by rw [idx_none hno]; rfl⟩
end Go.Ink
