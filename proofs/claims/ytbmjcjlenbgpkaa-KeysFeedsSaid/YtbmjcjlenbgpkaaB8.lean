/-
  Push.
-/
import Derived.Test.YtbmjcjlenbgpkaaB7
set_option linter.unusedVariables false
set_option linter.unusedSimpArgs false
namespace Go.Ink
open Go Go.Proofs Go.RowKit

section
variable {D : Nat → Prop} {g : Nat} {w : World} {ms : List Mg} {ws : List Int} {r : Int} {res : List Int × Int × List Int}
set_option maxHeartbeats 8000000 in
theorem push_calls {f0 : Nat} (h : IsBd D g w ms ws) (hto : ∀ m ∈ ms, m.2.length ≤ 64) (hr : -2147483648 ≤ r ∧ r ≤ 2147483647) (hws : ws.length ≤ 99) (hres : pushF ms f0 (ws ++ [r]) 0 [] = some res) :
    CallsR Try.prog 11 #[.pointer (some ⟨g, 0, none⟩), .int .i32 r] w (PushQ D g w ms res) := by
  obtain ⟨hDg, vm, vw, Gm, Fm, Gw, hb, hom, how, h5, h6, h7⟩ := h
  have hgw := blk_lt hb
  obtain ⟨Gm, Fm, Gw, hom, how, h5, h6, h7⟩ : ∃ Gm Fm Gw : Nat → Prop, Ow kMg Gm Fm w vm ms ∧ Ow kRune Gw (fun _ => False) w vw ws ∧ (∀ k, Gm k → D k ∧ k ≠ g ∧ ¬ Gw k ∧ k < w.heap.size) ∧ (∀ k, Fm k → D k ∧ k ≠ g ∧ ¬ Gw k ∧ k < w.heap.size) ∧ ∀ k, Gw k → D k ∧ k ≠ g ∧ k < w.heap.size :=
    ⟨fun k => Gm k ∧ k < w.heap.size, fun k => Fm k ∧ k < w.heap.size, fun k => Gw k ∧ k < w.heap.size, hom.mono (fun k hk hl => ⟨hk, hl⟩) fun k hk hl => ⟨hk, hl⟩, how.mono (fun k hk hl => ⟨hk, hl⟩) fun _ h _ => h, fun k hk => ⟨(h5 k hk.1).1, (h5 k hk.1).2.1, fun h => (h5 k hk.1).2.2 h.1, hk.2⟩, fun k hk => ⟨(h6 k hk.1).1, (h6 k hk.1).2.1, fun h => (h6 k hk.1).2.2 h.1, hk.2⟩, fun k hk => ⟨(h7 k hk.1).1, (h7 k hk.1).2, hk.2⟩⟩
  obtain ⟨Aw, cw, rfl, _⟩ := how.form
  obtain ⟨Am, cm, rfl, _⟩ := hom.form
  refine l_enterM (args := [.pointer (some ⟨g, 0, none⟩), .int .i32 r]) (S := D) hb hDg Try.func11 rfl rfl ?_
  repeat(first|refine lrun_ ?_|(refine lo_boxA rfl rfl ?_;intro _ _ _)|(refine lo_box1 rfl rfl rfl ?_;intro _ _ _)|(refine lo_alloc rfl ?_;intro _ _ _))
  refine l_false rfl ?_
  refine l_go .skip ?_
  repeat(first|refine lrun_ ?_|(refine lo_boxA rfl rfl ?_;intro _ _ _)|(refine lo_box1 rfl rfl rfl ?_;intro _ _ _)|(refine lo_alloc rfl ?_;intro _ _ _))
  refine lo_lit (cs := [.int .i32 r]) rfl (by decide) (by kernel_rfl) rfl ?_
  intro g17 hg17 hg17'
  refine lo_append1T (d := kRune) (F := fun _ => False) (q := r) rfl rfl how (fun k hk => ⟨.inr (h7 k hk).1, fun hm => (h7 k hk).2.1 (mk_one hm)⟩) (fun _ h => h.elim) (by(repeat(first|exact MIn.hd|refine MIn.tl ?_));done) (fun w' hw' => ⟨rfl, hr.1, hr.2⟩) (by show (ws.length + 1) * 4 ≤ 140737488355328; omega) rfl rfl rfl rfl ?_
  intro w3 A3 c3 w4 hw3 ko4 kp4 hown hO4
  have hs3 := hw3.kp.size
  have hs4 := kp4.size
  have hg3 : g17 < w3.heap.size := hw3.lt ⟨_, .hd⟩
  have hvb := hO4.block
  repeat(first|refine lrun_ ?_|(refine lo_boxA rfl rfl ?_;intro _ _ _)|(refine lo_box1 rfl rfl rfl ?_;intro _ _ _)|(refine lo_alloc rfl ?_;intro _ _ _))
  rename_i g6 hg6 hg6'
  refine l_baseM (M3 := [(g6, cb [.slice A3 (ws ++ [r]).length c3] 27), (g, cb [.slice Am ms.length cm, .slice none 0 0] 60)]) (by repeat(first|exact MSub.refl|refine MSub.keep rfl ?_|exact MSub.nil|apply MSub.drop)) fun w5 hw5 => ?_
  have hF : PuF D Gm Fm Gw g g6 w := ⟨hDg, hgw, hg6, h5, h6, h7⟩
  have n3 : ∀ k, k < w.heap.size → k ≠ g → ¬ MK [(g, cb [.slice Am ms.length cm, .slice Aw ws.length cw] 60)] k := fun k h1 h2 hm => h2 (mk_one hm)
  have n5 : ∀ k, k < w.heap.size → k ≠ g → ¬ MK [(g17, cb [.int .i32 r] 21), (g, cb [.slice Am ms.length cm, .slice Aw ws.length cw] 60)] k := fun k h1 h2 hm => (mk_two hm).elim (fun e => by omega) h2
  have hom3 := Kp.ow hw3.kp hom (fun k hk => n3 k (h5 k hk).2.2.2 (h5 k hk).2.1) fun k hk => n3 k (h6 k hk).2.2.2 (h6 k hk).2.1
  have hwb := how.block
  have hom4 := Kp.ow kp4 hom3 (fun k hk e => (h5 k hk).2.2.1 (hwb k e).1) fun k hk e => (h6 k hk).2.2.1 (hwb k e).1
  have hom5 := Kp.ow hw5.kp hom4 (fun k hk => n5 k (h5 k hk).2.2.2 (h5 k hk).2.1) fun k hk => n5 k (h6 k hk).2.2.2 (h6 k hk).2.1
  have hx5 : Ow kRune (fun k => Gw k ∨ (w.heap.size ≤ k ∧ k ≠ g6)) (fun _ => False) w5 (.slice A3 (ws ++ [r]).length c3) (ws ++ [r]) := by
    have h8 := ow_at (G' := fun k => (Gw k ∨ w.heap.size ≤ k) ∧ k < w4.heap.size) hO4 fun k hk => hvb k hk
    exact (h8.keep fun k hk => hw5.kp.block k (hvb k hk).2 (hown k hk)).mono (fun k hk _ => hk.1.imp id fun h => ⟨h, by have := hk.2; omega⟩) fun _ h _ => h
  exact push_loop hF hto ⟨hom5, hx5, Ow.nil _ _ _ _, fun k _ e => by cases e⟩ hres (by rw [List.length_append, List.length_singleton]; omega) _ (by repeat (first | exact SubB.nil | refine SubB.cons rfl ?_)) _ (by repeat(first|exact MSub.refl|refine MSub.keep rfl ?_|exact MSub.nil|apply MSub.drop))
end
end Go.Ink
