/-
  A text is made; what its lines are told as.
-/
import Derived.Test.YtfgajbilegjbpaaX6
set_option linter.unusedVariables false
set_option linter.unusedSimpArgs false
namespace Go.Ink
open Go Go.Proofs Go.RowKit

theorem new_flat (xs : List Int) : flat (newM xs).store (newM xs).row = xs := by
  unfold newM
  by_cases h : xs = []
  · subst h; rfl
  · simp [h, flat, spanOf]
section
variable {F : Nat → Prop} {w : World} {v : Value} {l : List (List Int)}
set_option maxHeartbeats 4000000 in
theorem newT_calls (h : Sl kRow F w v l) (hb : runesM l + l.length ≤ 65536) : CallsR Try.prog 11 #[v] w fun u w' => Kn w w' ∧ ((plainB l = false ∧ u = .pointer none) ∨ (plainB l = true ∧ ∃ g, u = .pointer (some ⟨g, 0, none⟩) ∧ IsTxt (noB w) g w' (splitM (jndM l)) (jndM l).length)) := by
  refine l_enter (fun _ => False) Try.func11 rfl rfl ?_
  repeat(first|refine lrun_ ?_|(refine lo_boxA rfl rfl ?_;intro _ _ _)|(refine lo_box1 rfl rfl rfl ?_;intro _ _ _)|(refine lo_alloc rfl ?_;intro _ _ _))
  refine lo_callM (n_call rfl) rfl (fun w' hw => joinedC_calls (Kn.sl hw.org h) (by omega)) ?_
  rintro w1 u w2 hw1 kn1 ko1 ⟨x, rfl, hx⟩
  have hs1 := hw1.org.size
  have hs2 := kn1.size
  obtain ⟨A, c, rfl, _⟩ := hx.form
  repeat(first|refine lrun_ ?_|(refine lo_boxA rfl rfl ?_;intro _ _ _)|(refine lo_box1 rfl rfl rfl ?_;intro _ _ _)|(refine lo_alloc rfl ?_;intro _ _ _))
  by_cases hP : plainB l = true
  case neg =>
    have hP2 : plainB l = false := by simpa using hP
    rw [hP2]
    refine l_true rfl ?_
    repeat(first|refine lrun_ ?_|(refine lo_boxA rfl rfl ?_;intro _ _ _)|(refine lo_box1 rfl rfl rfl ?_;intro _ _ _)|(refine lo_alloc rfl ?_;intro _ _ _))
    exact l_ret1 rfl rfl fun w' hw => ⟨hw.org, .inl ⟨rfl, rfl⟩⟩
  rw [hP] at hx ⊢
  rw [if_pos rfl] at hx ⊢
  have hjl := jnd_len l
  refine l_false rfl ?_
  refine l_go .skip ?_
  repeat(first|refine lrun_ ?_|(refine lo_boxA rfl rfl ?_;intro _ _ _)|(refine lo_box1 rfl rfl rfl ?_;intro _ _ _)|(refine lo_alloc rfl ?_;intro _ _ _))
  refine lo_callM (n_call rfl) rfl (fun w' hw => new_calls ((hw.owN hx fun k hm => (mk_nil hm).elim).slF (F' := fun k => noB w1 k) (fun _ h => h) fun _ h => h.elim) (by omega)) ?_
  rintro w3 u w4 hw3 kn3 ko3 ⟨gt, rfl, hT⟩
  have hs3 := hw3.kp.size
  have hs4 := kn3.size
  repeat(first|refine lrun_ ?_|(refine lo_boxA rfl rfl ?_;intro _ _ _)|(refine lo_box1 rfl rfl rfl ?_;intro _ _ _)|(refine lo_alloc rfl ?_;intro _ _ _))
  refine l_false rfl ?_
  refine l_go .skip ?_
  repeat(first|refine lrun_ ?_|(refine lo_boxA rfl rfl ?_;intro _ _ _)|(refine lo_box1 rfl rfl rfl ?_;intro _ _ _)|(refine lo_alloc rfl ?_;intro _ _ _))
  have hx4 : Ow kRune (noB w1) (fun _ => False) w4 (.slice A (jndM l).length c) (jndM l) := Kn.ow kn3 (hw3.owN hx fun k hm => (mk_nil hm).elim)
  refine lo_callM (n_call rfl) rfl (fun w' hw => indexed_calls ((hw.owN hx4 fun k hm => (mk_nil hm).elim).slF (F' := fun k => noB w1 k) (fun _ h => h) fun _ h => h.elim) (by omega)) ?_
  rintro w5 u w6 hw5 kn5 ko5 ⟨vb, gs, rfl, hvb, hfl, hNe⟩
  have hs5 := hw5.kp.size
  have hs6 := kn5.size
  obtain ⟨Ab, cb0, rfl, _⟩ := hvb.form
  repeat(first|refine lrun_ ?_|(refine lo_boxA rfl rfl ?_;intro _ _ _)|(refine lo_box1 rfl rfl rfl ?_;intro _ _ _)|(refine lo_alloc rfl ?_;intro _ _ _))
  rename_i g21 hg21 hg21'
  refine l_ret1 rfl rfl fun w' hw => ⟨hw.org, .inr ⟨rfl, g21, rfl, gt, newM (jndM l), _, gs, fun k => noB w3 k ∧ k < w4.heap.size, fun k => noB w5 k ∧ k < w6.heap.size, ⟨?_, hw.mem g21 _ .hd, ?_, ?_, ?_, ?_, ?_, hfl, hNe, split_plain _, split_ne _⟩, Nat.le_refl _⟩⟩
  · unfold noB; omega
  · have k1 : Kn w4 w5 := kn_mk hw5.kp
    have k2 : Kn w6 w' := kn_mk hw.kp
    exact (((hT.mono (D' := fun k => noB w3 k ∧ k < w4.heap.size) fun k hk hl => ⟨hk, hl⟩).kn k1).kn kn5).kn k2
  · intro k hk
    have h1 := hk.1
    have h2 := hk.2
    unfold noB at *
    exact ⟨by omega, by omega⟩
  · have k2 : Kn w6 w' := kn_mk hw.kp
    exact Kn.sl k2 ((hvb.mono (G' := fun k => noB w5 k ∧ k < w6.heap.size) (F' := fun k => noB w5 k ∧ k < w6.heap.size) (fun k hk hl => ⟨hk, hl⟩) fun k hk hl => ⟨hk, hl⟩).slF (fun _ h => h) fun _ h => h)
  · intro k hk
    have h1 := hk.1
    have h2 := hk.2
    unfold noB at *
    exact ⟨by omega, by omega, fun h => by have := h.2; omega⟩
  · rw [new_flat, jnd_split]
end
end Go.Ink
