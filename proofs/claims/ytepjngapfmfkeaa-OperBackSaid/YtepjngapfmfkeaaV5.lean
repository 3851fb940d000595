/-
  undo.Lines, as a table of own rows.
-/
import Derived.Test.YtepjngapfmfkeaaV1
import Derived.Test.YtepjngapfmfkeaaTb
set_option linter.unusedVariables false
set_option linter.unusedSimpArgs false
namespace Go.Ink
open Go Go.Proofs Go.RowKit

set_option maxHeartbeats 4000000 in
theorem linesT_calls {F : Nat → Prop} {w : World} {v : Value} {xs : List (List Int)} (h : Sl kRow F w v xs) :
    CallsR Try.prog 54 #[v] w fun v' w' => Kn w w' ∧ ∃ us, Tab (noB w) (fun _ => True) w' v' us xs := by
  obtain ⟨A, c, ad, rV, rc, ra, rfl, hR⟩ := h.rws
  have hl24 : xs.length * 24 ≤ 140737488355328 := by obtain ⟨_, _, ee, _, h4⟩ := hR.sl.form; exact h4
  have hlen := hR.len
  refine l_enter (fun _ => False) Try.func54 rfl rfl ?_
  repeat(first|refine lrun_ ?_|(refine lo_boxA rfl rfl ?_;intro _ _ _)|(refine lo_box1 rfl rfl rfl ?_;intro _ _ _)|(refine lo_alloc rfl ?_;intro _ _ _))
  refine lo_makeM (d := kRaw) (n := xs.length) (.slice none 0 0) rfl rfl rfl rfl hl24 (fun _ => ⟨rfl, rfl⟩) rfl rfl rfl ?_
  intro w1 g w2 hw1 kn1 ko1 hO
  have hs1 := hw1.org.size
  have hT0 : Tab (fre w (MK [])) (fun j => j < 0) w2 (.slice (some ⟨g, 0, none⟩) xs.length xs.length) (List.replicate xs.length (.slice none 0 0)) xs :=
    ⟨hO.mono (fun k hk _ => ⟨by unfold noB at hk; omega, mk_nil⟩) fun _ h _ => h, by simp, fun j u x hj => absurd hj (by omega), fun i j u u' k hi => absurd hi (by omega)⟩
  clear hO hw1 kn1 ko1
  repeat(first|refine lrun_ ?_|(refine lo_boxA rfl rfl ?_;intro _ _ _)|(refine lo_box1 rfl rfl rfl ?_;intro _ _ _)|(refine lo_alloc rfl ?_;intro _ _ _))
  refine l_whileB (fun k : Nat => xs.length - k) (fun k => [(0, .slice A xs.length c), (3, .slice (some ⟨g, 0, none⟩) xs.length xs.length), (9, .int .i64 xs.length), (10, .int .i64 (k : Int))]) (fun _ => []) (fun k b => k ≤ xs.length ∧ ∃ us, Tab (fre w (MK [])) (fun j => j < k) b (.slice (some ⟨g, 0, none⟩) xs.length xs.length) us xs) 0 (by repeat (first | exact SubB.nil | refine SubB.cons rfl ?_)) (by repeat(first|exact MSub.refl|refine MSub.keep rfl ?_|exact MSub.nil|apply MSub.drop)) (fun w' hw => ⟨Nat.zero_le _, _, hT0.now hw⟩) ?_
  rintro k b ⟨hk, us, hT⟩ hkb ih
  by_cases hlt : k < xs.length
  · repeat(first|refine lrun_ ?_|(refine lo_boxA rfl rfl ?_;intro _ _ _)|(refine lo_box1 rfl rfl rfl ?_;intro _ _ _)|(refine lo_alloc rfl ?_;intro _ _ _))
    refine l_yes rfl (by omega) ?_
    repeat(first|refine lrun_ ?_|(refine lo_boxA rfl rfl ?_;intro _ _ _)|(refine lo_box1 rfl rfl rfl ?_;intro _ _ _)|(refine lo_alloc rfl ?_;intro _ _ _))
    refine lo_callM (n_call rfl) rfl (fun w' hw => clone_calls (Kn.sl hw.org (hR.rs k hlt))) ?_
    intro w3 u w4 hw3 kn3 ko3 hO3
    have hT4 := (hT.now hw3).kn kn3
    have hT3 := (hT.now hw3).bound
    have hs3 := hw3.org.size
    repeat(first|refine lrun_ ?_|(refine lo_boxA rfl rfl ?_;intro _ _ _)|(refine lo_box1 rfl rfl rfl ?_;intro _ _ _)|(refine lo_alloc rfl ?_;intro _ _ _))
    refine lo_index (j := k) rfl rfl rfl (by omega) rfl rfl ?_
    have hb3 := hO3.block
    refine lo_tabSet (j := k) rfl rfl hT4 hlt ((hO3.mono (fun i hi hl => ?_) fun _ h _ => h)) (by omega) (fun i u2 m hi hu hk hk2 => by have := (hT3.blk hi hu hk).2.1; have := (hb3 m hk2).1; unfold noB at this; omega) rfl ?_
    · unfold noB at hi
      exact ⟨⟨by omega, mk_nil⟩, fun e => by have h9 := (hT3.t.block g rfl).2; have h8 : g = i := e; omega⟩
    intro w5 w6 hw5 ko5 kp5 hT6
    have e1 : xs.set k (xs.getD k []) = xs := by
      rw [List.getD_eq_getElem?_getD, List.getElem?_eq_getElem hlt]; exact List.set_getElem_self _
    rw [e1] at hT6
    have hT7 := hT6.less (L' := fun j => j < k + 1) fun j hj => by omega
    repeat(first|refine lrun_ ?_|(refine lo_boxA rfl rfl ?_;intro _ _ _)|(refine lo_box1 rfl rfl rfl ?_;intro _ _ _)|(refine lo_alloc rfl ?_;intro _ _ _))
    exact ih (k + 1) w6 _ ⟨hlt, _, hT7⟩ (by omega) _ _ (by repeat (first | exact SubB.nil | refine SubB.cons rfl ?_)) (by repeat(first|exact MSub.refl|refine MSub.keep rfl ?_|exact MSub.nil|apply MSub.drop)) fun w' hw' => ⟨hlt, _, hT7.now hw'⟩
  · obtain rfl : k = xs.length := by omega
    repeat(first|refine lrun_ ?_|(refine lo_boxA rfl rfl ?_;intro _ _ _)|(refine lo_box1 rfl rfl rfl ?_;intro _ _ _)|(refine lo_alloc rfl ?_;intro _ _ _))
    refine l_no rfl (by omega) ?_
    refine l_go (.exit rfl) ?_
    repeat(first|refine lrun_ ?_|(refine lo_boxA rfl rfl ?_;intro _ _ _)|(refine lo_box1 rfl rfl rfl ?_;intro _ _ _)|(refine lo_alloc rfl ?_;intro _ _ _))
    refine l_ret1 rfl rfl fun w3 hw => ⟨hw.org, us, ?_⟩
    have := (hT.now hw).mono (G' := noB w) fun k hk _ => hk.1
    exact ⟨this.t, this.len, fun j u x _ hu hx => this.row j u x (by rw [← this.len]; exact (List.getElem?_eq_some_iff.1 hu).1) hu hx, fun i j u u' k _ _ hu hu' => this.apart i j u u' k (by rw [← this.len]; exact (List.getElem?_eq_some_iff.1 hu).1) (by rw [← this.len]; exact (List.getElem?_eq_some_iff.1 hu').1) hu hu'⟩
end Go.Ink
