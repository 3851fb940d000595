/-
  inkhornref04.Twin, as a table of own rows.
-/
import Derived.Test.YtfgajbilegjbpaaTb
import Derived.Test.YtfgajbilegjbpaaSeat
import Derived.Test.YtfgajbilegjbpaaLst
set_option linter.unusedVariables false
set_option linter.unusedSimpArgs false
namespace Go.Ink
open Go Go.Proofs Go.RowKit
/-- An empty literal, in the base. -/
theorem og_lit0 {α : Type} {d : Kd α} {O B w : World} {S K F : Nat → Prop} {M M' : Mm} {g : Nat} {e : TypeId} (hw : Lw O S B K M w) (hm : MIn g (cb [] e) M) (hO : O.heap.size ≤ g) (hn : ¬ MK M' g) : Og d O w (MK M') F (.slice (some ⟨g, 0, none⟩) 0 0) [] :=
  ⟨[], rfl, Fits.zero d, .inr ⟨g, 0, 0, #[], e, rfl, ⟨hO, hn⟩, hw.mem g _ hm, Nat.le_refl _, Nat.zero_le _, by simp, fun j u hu => by simp at hu⟩⟩
set_option maxHeartbeats 4000000 in
theorem twinT_calls {F : Nat → Prop} {w : World} {v : Value} {xs : List (List Int)} (h : Sl kRow F w v xs) :
    CallsR Try.prog 36 #[v] w fun v' w' => Kn w w' ∧ ∃ us, Tab (noB w) (fun _ => True) w' v' us xs := by
  obtain ⟨A, c, ad, rV, rc, ra, rfl, hR⟩ := h.rws
  have hl24 : xs.length * 24 ≤ 140737488355328 := by obtain ⟨_, _, ee, _, h4⟩ := hR.sl.form; exact h4
  have hlen := hR.len
  refine l_enter (fun _ => False) Try.func36 rfl rfl ?_
  repeat(first|refine lrun_ ?_|(refine lo_boxA rfl rfl ?_;intro _ _ _)|(refine lo_box1 rfl rfl rfl ?_;intro _ _ _)|(refine lo_alloc rfl ?_;intro _ _ _))
  refine l_whileB (fun s : Nat × Value × List Value => xs.length - s.1) (fun s => [(0, .slice A xs.length c), (3, s.2.1), (4, .int .i64 (s.1 : Int))]) (fun _ => []) (fun s b => s.1 ≤ xs.length ∧ Tab (fre w (MK [])) (fun j => True) b s.2.1 s.2.2 (xs.take s.1)) (0, .slice none 0 0, []) (by repeat (first | exact SubB.nil | refine SubB.cons rfl ?_)) (by repeat(first|exact MSub.refl|refine MSub.keep rfl ?_|exact MSub.nil|apply MSub.drop)) (fun w' hw => ⟨Nat.zero_le _, Tab.nil _ _ _⟩) ?_
  rintro ⟨k, v, us⟩ b ⟨hk, hT⟩ hkb ih
  simp only at hk hT
  by_cases hlt : k < xs.length
  · have hkl : (xs.take k).length = k := by rw [List.length_take]; omega
    have hT1 := hT.less (L' := fun j => j < k) fun _ _ => trivial
    have hrl := hR.rl k
    repeat(first|refine lrun_ ?_|(refine lo_boxA rfl rfl ?_;intro _ _ _)|(refine lo_box1 rfl rfl rfl ?_;intro _ _ _)|(refine lo_alloc rfl ?_;intro _ _ _))
    refine l_yes rfl (by omega) ?_
    repeat(first|refine lrun_ ?_|(refine lo_boxA rfl rfl ?_;intro _ _ _)|(refine lo_box1 rfl rfl rfl ?_;intro _ _ _)|(refine lo_alloc rfl ?_;intro _ _ _))
    refine lo_lit (cs := []) rfl (by decide) (by kernel_rfl) rfl ?_
    intro g12 hg12 hg12'
    repeat(first|refine lrun_ ?_|(refine lo_boxA rfl rfl ?_;intro _ _ _)|(refine lo_box1 rfl rfl rfl ?_;intro _ _ _)|(refine lo_alloc rfl ?_;intro _ _ _))
    refine lo_take (M' := []) .nil fun w1 hw1 => ?_
    have hs1 := hw1.kp.size
    have hT2' := (hT1.bound).kp hw1.kp fun _ _ => mk_nil
    have hO2 := og_lit0 (d := kRune) (F := fun _ => False) (M' := []) hw1 .hd hg12 mk_nil
    refine lo_appendS (d := kRune) (ys := xs.getD k []) (F2 := fun k => k < w.heap.size) rfl rfl hO2 (fun w' hw => Kn.sl hw.org (hR.rs k hlt).old) (fun j hj ho => by have h8 : g12 = j := Option.some.inj ho; omega) (by show (0 + (xs.getD k []).length) * 4 ≤ 140737488355328; have := (hR.rs k hlt).form; obtain ⟨_, _, _, _, hf⟩ := this; have : (xs.getD k []).length * 4 ≤ 140737488355328 := hf; omega) rfl rfl rfl rfl ?_
    intro w3 A3 n3 w4 hw3 ko3 kp3 hown hog
    rw [List.nil_append] at hog hown ⊢
    have hT4 := hT2'.kp (S := fun k => MK [] k ∨ (Value.slice (some ⟨g12, 0, none⟩) 0 0).ownBlock = some k) kp3 fun k hk e => by
      have h9 : k < b.heap.size := hk.2
      rcases e with e | e
      · exact mk_nil e
      · have h8 : g12 = k := Option.some.inj e; omega
    have hob : ∀ m, (Value.slice A3 (xs.getD k []).length n3).ownBlock = some m → b.heap.size ≤ m := fun m hm => by
      rcases hown m hm with e | e
      · have h8 : g12 = m := Option.some.inj e; omega
      · omega
    have hvb : ∀ m, v.ownBlock = some m → m < b.heap.size := fun m hm => (hT1.t.block m hm).2
    have hrb : ∀ i u2 m, i < k → us[i]? = some u2 → u2.ownBlock = some m → m < b.heap.size := fun i u2 m hi hu hm => (hT1.blk hi hu hm).2.1
    clear hO2 kp3 ko3
    refine lo_lit (cs := [.slice A3 (xs.getD k []).length n3]) rfl (by decide) (by kernel_rfl) rfl ?_
    intro g18 _ _
    refine lo_tabPush (r := xs.getD k []) rfl rfl (hT4.mono (G' := fre w (MK [])) fun k hk _ => hk.1) (by(repeat(first|exact MIn.hd|refine MIn.tl ?_));done) ((Ow.nE hog).mono (fun i hi hl => ⟨hi.1, fun e => ?_⟩) fun _ h _ => h) (by rw [hkl]; omega) (fun i u2 m hi hu hm hm2 => ?_) (by rw [hkl]; omega) rfl rfl ?_
    · have := hob i hi.2
      have := hvb i e
      omega
    · have := hob m hm2
      have := hrb i u2 m hi hu hm
      omega
    intro w5 A5 n5 w6 hw5 ko5 kp5 hT6
    have e1 : xs.take k ++ [xs.getD k []] = xs.take (k + 1) := by
      rw [take_snoc hlt, List.getD_eq_getElem?_getD, List.getElem?_eq_getElem hlt]; rfl
    rw [e1] at hT6 ⊢
    repeat(first|refine lops_ ?_|(refine lo_boxA rfl rfl ?_;intro _ _ _)|(refine lo_box1 rfl rfl rfl ?_;intro _ _ _)|(refine lo_alloc rfl ?_;intro _ _ _))
    refine lo_nil ?_
    refine l_baseM (M3 := []) .nil fun w7 hw7 => ?_
    have hT7 := ((hT6.kp hw7.kp fun k hk => hk.2).mono (G' := fre w (MK [])) fun k hk _ => ⟨hk.1, mk_nil⟩).all fun j hj => by
      rw [List.length_take] at hj; omega
    repeat(first|refine lrun_ ?_|(refine lo_boxA rfl rfl ?_;intro _ _ _)|(refine lo_box1 rfl rfl rfl ?_;intro _ _ _)|(refine lo_alloc rfl ?_;intro _ _ _))
    exact ih (k + 1, _, _) w7 _ ⟨hlt, hT7⟩ (by simp only; omega) _ _ (by repeat (first | exact SubB.nil | refine SubB.cons rfl ?_)) (by repeat(first|exact MSub.refl|refine MSub.keep rfl ?_|exact MSub.nil|apply MSub.drop)) fun w' hw' => ⟨hlt, hT7.kp hw'.kp fun _ _ => mk_nil⟩
  · obtain rfl : k = xs.length := by omega
    rw [List.take_length] at hT
    repeat(first|refine lrun_ ?_|(refine lo_boxA rfl rfl ?_;intro _ _ _)|(refine lo_box1 rfl rfl rfl ?_;intro _ _ _)|(refine lo_alloc rfl ?_;intro _ _ _))
    refine l_no rfl (by omega) ?_
    refine l_go (.exit rfl) ?_
    repeat(first|refine lrun_ ?_|(refine lo_boxA rfl rfl ?_;intro _ _ _)|(refine lo_box1 rfl rfl rfl ?_;intro _ _ _)|(refine lo_alloc rfl ?_;intro _ _ _))
    refine l_ret1 rfl rfl fun w3 hw => ⟨hw.org, us, ?_⟩
    exact (hT.kp hw.kp fun _ _ => mk_nil).mono (G' := noB w) fun k hk _ => hk.1
end Go.Ink
