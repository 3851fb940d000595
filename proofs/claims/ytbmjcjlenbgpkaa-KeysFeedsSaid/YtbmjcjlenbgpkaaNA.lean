/-
  KeysFeeds.
-/
import Derived.Test.YtbmjcjlenbgpkaaN9
import Derived.Test.YtbmjcjlenbgpkaaV2
import Derived.Test.YtbmjcjlenbgpkaaTb
set_option linter.unusedVariables false
set_option linter.unusedSimpArgs false
namespace Go.Ink
open Go Go.Proofs Go.RowKit

/-- What is held, and what a row tells. -/
def FI (s : Pst) : Prop := ∀ V, (s.held ≠ [] → V = s.vis) → ∀ t, runT V (s.held ++ t) .start cmd0 0 = runT V t s.n s.c s.cnt
theorem fi0 : FI pst0 := fun _ _ _ => rfl
theorem feed_fi {s : Pst} {r : Int} {v V : Bool} (h : FI s) (hV : V = if s.held = [] then v else s.vis) : (feedM s r v).1 = runT V (s.held ++ [r]) .start cmd0 0 ∧ FI (feedM s r v).2 ∧ ((feedM s r v).1.2 = 0 → (feedM s r v).2.held = s.held ++ [r] ∧ (feedM s r v).2.vis = V) ∧ (¬ (feedM s r v).1.2 = 0 → (feedM s r v).2.held = []) := by
  have hv : s.held ≠ [] → V = s.vis := fun e => by rw [hV, if_neg e]
  have h1 : ∀ t, runT V (s.held ++ [r] ++ t) .start cmd0 0 = contT V t (takeM s.n V s.c s.cnt r) := fun t => by
    rw [List.append_assoc, h V hv]
    rfl
  have h0 := h1 []
  rw [List.append_nil] at h0
  rw [h0]
  unfold feedM
  rw [← hV]
  generalize takeM s.n V s.c s.cnt r = x at h1
  obtain ⟨n, c, cnt⟩ := x
  cases n with
  | ended => exact ⟨rfl, fi0, fun e => absurd (show (1 : Int) = 0 from e) (by decide), fun _ => rfl⟩
  | none => exact ⟨rfl, fi0, fun e => absurd (show (2 : Int) = 0 from e) (by decide), fun _ => rfl⟩
  | _ =>
    refine ⟨rfl, fun V' hV' t => ?_, fun _ => ⟨rfl, rfl⟩, fun e => absurd rfl e⟩
    obtain rfl : V' = V := hV' (by simp [fedM])
    exact h1 t
theorem r_neC {P : Program} {N : Nat} {σ : Sig} {w : World} {dst : Option Nat} {ty : TypeId} {pos : String} {af : Array Edge} {gd : Option (Nat × Bool)} {x y : Operand} {t t' : TypeId} {ks : List (Option IntKind)} [hT : EqST P t ks] {vs us : List Value} {b : Bool} (hx : ev σ x = some (.agg vs.toArray)) (hy : ev σ y = some (.agg us.toArray)) (h1 : Okv ks vs) (h2 : Okv ks us) (hb : vbs vs us = !b) :
    Rn P N σ w ⟨dst, .binOp .neq t x y t', ty, pos, af, gd⟩ (.bool b) := by
  have := r_neS (P := P) (N := N) (w := w) (dst := dst) (ty := ty) (pos := pos) (af := af) (gd := gd) (t := t) (t' := t') hx hy h1 h2
  rw [hb, Bool.not_not] at this
  exact this
theorem vbs_self (c : Cmd) : vbs (cmdL c) (cmdL c) = true := by simp [vbs, vb]
instance : SlT Try.prog 52 4 := ⟨by kernel_rfl⟩
section
variable {F : Nat → Prop} {w : World}
theorem bools_at {v : Value} {x : List Bool} (h : Sl kBool F w v x) : ∃ A c ad, v = .slice A x.length c ∧ (0 < x.length → A = some ad) ∧ ∀ j, j < x.length → w.cell? (ad.add (j * 1)) = some (.bool (x.getD j false)) := by
  obtain ⟨A, c, rfl, hc, hf⟩ := h.form
  by_cases h0 : 0 < x.length
  · obtain ⟨ad, cs, hA, -, -⟩ := h.at_ (getD_of (d := false) h0)
    refine ⟨A, c, ad, rfl, fun _ => hA, fun j hj => ?_⟩
    obtain ⟨ad', cs', hA', hr, hcell⟩ := h.at_ (getD_of (d := false) hj)
    rw [hA] at hA'
    cases hA'
    obtain rfl : cs' = [.bool (x.getD j false)] := hr
    have := hcell 0 _ rfl
    exact this
  · exact ⟨A, c, ⟨0, 0, none⟩, rfl, fun e => absurd e h0, fun j hj => by omega⟩
end
set_option maxHeartbeats 64000000 in
theorem law_KeysFeeds {W : World} {u v : Value} {l : List Int} {bs : List Bool} (ha : Sl kRune (fun _ => True) W u l) (hb : Sl kBool (fun _ => True) W v bs) : CallsR Try.prog 6 #[u, v] W fun r w' => r = .bool true ∧ Kn W w' := by
  suffices h : CallsR Try.prog 6 #[u, v] W fun r w' => Kn W w' ∧ r = .bool true from h.mono fun _ _ ⟨a, b⟩ => ⟨b, a⟩
  obtain ⟨A, c, ad, rfl, hX⟩ := ha.rns
  obtain ⟨A1, c1, ad1, rfl, hB1, hB2⟩ := bools_at hb
  refine l_enter (args := [.slice A l.length c, .slice A1 bs.length c1]) (fun _ => False) Try.func6 rfl rfl ?_
  repeat(first|refine lrun_ ?_|(refine lo_boxA rfl rfl ?_;intro _ _ _)|(refine lo_box1 rfl rfl rfl ?_;intro _ _ _)|(refine lo_alloc rfl ?_;intro _ _ _))
  refine lo_callM (n_call (args := []) rfl) rfl (fun w' hw => newP_calls) ?_
  rintro w1 _ w2 hw1 kn1 ko1 ⟨g, rfl, hP⟩
  have hs1 := hw1.org.size
  have hs2 := kn1.size
  have hP2 : PrB W w2 (MK []) (fun k => noB w1 k ∧ k < w2.heap.size) g pst0 := ⟨hP.mono fun k hk hl => ⟨hk, hl⟩, fun k hk => ⟨by have := hk.1; unfold noB at this; omega, hk.2, mk_nil⟩⟩
  clear hP
  repeat(first|refine lrun_ ?_|(refine lo_boxA rfl rfl ?_;intro _ _ _)|(refine lo_box1 rfl rfl rfl ?_;intro _ _ _)|(refine lo_alloc rfl ?_;intro _ _ _))
  refine l_false rfl ?_
  refine l_go .skip ?_
  repeat(first|refine lrun_ ?_|(refine lo_boxA rfl rfl ?_;intro _ _ _)|(refine lo_box1 rfl rfl rfl ?_;intro _ _ _)|(refine lo_alloc rfl ?_;intro _ _ _))
  refine l_whileB (T := Nat × Pst × Value × Bool) (fun x => l.length - x.1) (fun x => [(0, .slice A l.length c), (1, .slice A1 bs.length c1), (5, .pointer (some ⟨g, 0, none⟩)), (6, x.2.2.1), (7, .bool x.2.2.2), (8, .int .i64 (x.1 : Int))]) (fun _ => [])
    (fun x w => x.1 ≤ l.length ∧ x.1 ≤ 200 ∧ PstOk x.2.1 ∧ FI x.2.1 ∧ x.2.1.held.length ≤ x.1 ∧ (x.2.1.held ≠ [] → x.2.2.2 = x.2.1.vis) ∧ ∃ D, PrB W w (MK []) D g x.2.1 ∧ Og kRune W w (MK []) (fun _ => False) x.2.2.1 x.2.1.held ∧ ∀ k, x.2.2.1.ownBlock = some k → ¬ D k) (0, pst0, .slice none 0 0, false) (by repeat (first | exact SubB.nil | refine SubB.cons rfl ?_)) (by repeat(first|exact MSub.refl|refine MSub.keep rfl ?_|exact MSub.nil|apply MSub.drop)) (fun w' hw => ⟨Nat.zero_le _, Nat.zero_le _, pst0_ok, fi0, Nat.le_refl _, fun e => absurd rfl e, _, hP2.re hw .nil, Ow.nil _ _ _ _, fun k hk => by cases hk⟩) ?_
  rintro ⟨i, s, vo, vi⟩ b' ⟨hi, hi2, hos, hfi, hln, hvi, D, hP, hO, hdj⟩ hkb ih
  simp only at hi hi2 hos hfi hln hvi hP hO hdj
  obtain ⟨Ao, co, rfl, _⟩ := hO.form
  by_cases hlt : i < l.length
  · by_cases hlt2 : i < 200
    · have h32 := hX.lo i
      have hhl0 : ∀ v, (feedM s (l.getD i 0) v).2.held.length ≤ s.held.length + 1 := fun v => feed_held
      by_cases hv : i < bs.length
      · have hcell := hB2 i hv
        generalize bs.getD i false = v0 at hcell
        repeat(first|refine lrun_ ?_|(refine lo_boxA rfl rfl ?_;intro _ _ _)|(refine lo_box1 rfl rfl rfl ?_;intro _ _ _)|(refine lo_alloc rfl ?_;intro _ _ _))
        refine l_yes rfl (by omega) ?_
        refine l_go .skip ?_
        repeat(first|refine lrun_ ?_|(refine lo_boxA rfl rfl ?_;intro _ _ _)|(refine lo_box1 rfl rfl rfl ?_;intro _ _ _)|(refine lo_alloc rfl ?_;intro _ _ _))
        refine lo_index (j := i) rfl rfl rfl hv (hB1 (by omega)) rfl ?_
        repeat(first|refine lrun_ ?_|(refine lo_boxA rfl rfl ?_;intro _ _ _)|(refine lo_box1 rfl rfl rfl ?_;intro _ _ _)|(refine lo_alloc rfl ?_;intro _ _ _))
        by_cases hz : s.held = []
        · repeat(first|refine lrun_ ?_|(refine lo_boxA rfl rfl ?_;intro _ _ _)|(refine lo_box1 rfl rfl rfl ?_;intro _ _ _)|(refine lo_alloc rfl ?_;intro _ _ _))
          refine l_yes rfl (by rw [hz]; rfl) ?_
          repeat(first|refine lrun_ ?_|(refine lo_boxA rfl rfl ?_;intro _ _ _)|(refine lo_box1 rfl rfl rfl ?_;intro _ _ _)|(refine lo_alloc rfl ?_;intro _ _ _))
          refine lo_lit (cs := [.int .i32 (l.getD i 0)]) rfl (by decide) (by kernel_rfl) rfl ?_
          intro g46 hg46 hg46'
          refine lo_append1 (d := kRune) (F := fun _ => False) (q := l.getD i 0) rfl rfl hO (fun _ h => h.elim) .hd (fun w' hw' => ⟨rfl, h32.1, h32.2⟩) (by show (s.held.length + 1) * 4 ≤ 140737488355328; omega) rfl rfl rfl rfl ?_
          intro w3 A3 n3 w4 hw3 ko3 kp3 hold hO4
          have hs3 := kp3.size
          have hbo := hO.block
          have hP4 : PrB W w4 (MK [(g46, cb [.int .i32 (l.getD i 0)] 21)]) D g s := ⟨hP.1.kp kp3 fun k hk e => e.elim (fun e => (mk_nil e).elim) fun e => hdj k e hk, fun k hk => ⟨(hP.2 k hk).1, by have := (hP.2 k hk).2.1; omega, fun e => by have := mk_one e; have := (hP.2 k hk).2.1; omega⟩⟩
          have hdj4 : ∀ k, (Value.slice A3 (s.held ++ [l.getD i 0]).length n3).ownBlock = some k → ¬ D k := fun k hk e => (hold k hk).elim (fun e2 => hdj k e2 e) fun e2 => by have := (hP.2 k e).2.1; omega
          repeat(first|refine lrun_ ?_|(refine lo_boxA rfl rfl ?_;intro _ _ _)|(refine lo_box1 rfl rfl rfl ?_;intro _ _ _)|(refine lo_alloc rfl ?_;intro _ _ _))
          refine lo_feed hP4 hos h32 (by omega) (n_call rfl) rfl ?_
          intro w5 w6 hw5 kp5 ko5 hP6
          have hs5 := hw5.kp.size
          have hs6 := kp5.size
          have hO5 : Og kRune W w5 (MK [(g46, cb [.int .i32 (l.getD i 0)] 21)]) (fun _ => False) (.slice A3 (s.held ++ [l.getD i 0]).length n3) (s.held ++ [l.getD i 0]) := hO4.keep fun k hk => hw5.kp.block k (hO4.block k hk).2 (hO4.block k hk).1.2
          have hO6 : Og kRune W w6 (MK [(g46, cb [.int .i32 (l.getD i 0)] 21)]) (fun _ => False) (.slice A3 (s.held ++ [l.getD i 0]).length n3) (s.held ++ [l.getD i 0]) := hO5.keep fun k hk => kp5.block k (hO5.block k hk).2 (hdj4 k hk)
          have hD6 : ∀ k, (Value.slice A3 (s.held ++ [l.getD i 0]).length n3).ownBlock = some k → ¬ (gD D w5 k ∧ k < w6.heap.size) := fun k hk e => e.1.elim (hdj4 k hk) fun e => by have := (hO5.block k hk).2; omega
          obtain ⟨f1, f2, f3, f4⟩ := feed_fi (s := s) (r := l.getD i 0) (v := v0) (V := v0) hfi (by rw [if_pos hz])
          have hok' := feed_ok (s := s) (r := l.getD i 0) (v := v0) hos
          have hhl := hhl0 v0
          have hrow : Sl kRune (fun k => ¬ MK [(g46, cb [.int .i32 (l.getD i 0)] 21)] k) w6 (.slice A3 (s.held ++ [l.getD i 0]).length n3) (s.held ++ [l.getD i 0]) := hO6.slF (fun k hk => hk.2) fun _ h => h.elim
          repeat(first|refine lrun_ ?_|(refine lo_boxA rfl rfl ?_;intro _ _ _)|(refine lo_box1 rfl rfl rfl ?_;intro _ _ _)|(refine lo_alloc rfl ?_;intro _ _ _))
          refine lo_call (n_call rfl) rfl (fun w' hw => parse_calls (vis := v0) (Kp.sl hw.kp hrow fun k hk => hk) (by rw [List.length_append, List.length_singleton]; omega)) ?_
          rw [← f1]
          repeat(first|refine lrun_ ?_|(refine lo_boxA rfl rfl ?_;intro _ _ _)|(refine lo_box1 rfl rfl rfl ?_;intro _ _ _)|(refine lo_alloc rfl ?_;intro _ _ _))
          refine lo_rn (fun _ => r_neC (vs := cmdL (feedM s (l.getD i 0) v0).1.1) (us := cmdL (feedM s (l.getD i 0) v0).1.1) rfl rfl (okv_cmd _) (okv_cmd _) (b := false) (vbs_self _)) rfl ?_
          repeat(first|refine lrun_ ?_|(refine lo_boxA rfl rfl ?_;intro _ _ _)|(refine lo_box1 rfl rfl rfl ?_;intro _ _ _)|(refine lo_alloc rfl ?_;intro _ _ _))
          refine l_no rfl (fun h => h rfl) ?_
          refine l_go .skip ?_
          by_cases hm : (feedM s (l.getD i 0) v0).1.2 = 0
          · obtain ⟨hh, hvv⟩ := f3 hm
            repeat(first|refine lrun_ ?_|(refine lo_boxA rfl rfl ?_;intro _ _ _)|(refine lo_box1 rfl rfl rfl ?_;intro _ _ _)|(refine lo_alloc rfl ?_;intro _ _ _))
            refine l_no rfl (fun h => h hm) ?_
            refine l_go .skip ?_
            repeat(first|refine lrun_ ?_|(refine lo_boxA rfl rfl ?_;intro _ _ _)|(refine lo_box1 rfl rfl rfl ?_;intro _ _ _)|(refine lo_alloc rfl ?_;intro _ _ _))
            refine lo_callM (n_call rfl) rfl (fun w' hw => held_calls (hP6.now hw)) ?_
            intro w7 u7 w8 hw7 kn7 ko7 hOh
            have hs7 := hw7.kp.size
            have hs8 := kn7.size
            have hP8 := (hP6.next hw7 kn7).less (K' := MK []) fun k hk => (mk_nil hk).elim
            have hO8 : Og kRune W w8 (MK []) (fun _ => False) (.slice A3 (s.held ++ [l.getD i 0]).length n3) (s.held ++ [l.getD i 0]) := ((hO6.keep (F' := fun _ => False) fun k hk => hw7.kp.block k (hO6.block k hk).2 (hO6.block k hk).1.2).keep (F' := fun _ => False) fun k hk => kn7.block k (by have := (hO6.block k hk).2; omega) id).mono (fun k hk _ => ⟨hk.1, mk_nil⟩) fun _ h _ => h
            have hrow8 : Sl kRune (fun k => (Value.slice A3 (s.held ++ [l.getD i 0]).length n3).ownBlock = some k) w8 (.slice A3 (s.held ++ [l.getD i 0]).length n3) (s.held ++ [l.getD i 0]) := hO8.nE.slF (fun k hk => hk.2) fun _ h => h.elim
            obtain ⟨A7, c7, rfl, _⟩ := hOh.form
            repeat(first|refine lrun_ ?_|(refine lo_boxA rfl rfl ?_;intro _ _ _)|(refine lo_box1 rfl rfl rfl ?_;intro _ _ _)|(refine lo_alloc rfl ?_;intro _ _ _))
            refine lo_call (v := .bool true) (n_call rfl) rfl (fun w' hw => (runes_calls (Kp.sl hw.kp (hOh.slF (F' := fun k => noB w7 k) (fun _ h => h) fun _ h => h.elim) fun k hk hm => by have := hw7.lt hm; unfold noB at hk; omega) (Kp.sl hw.kp hrow8 fun k hk hm => hw7.apart (hO6.block k hk).1.2 (hO6.block k hk).2 hm)).mono fun u w' h => ⟨h.1, by rw [h.2, hh, decide_eq_true rfl]⟩) ?_
            repeat(first|refine lrun_ ?_|(refine lo_boxA rfl rfl ?_;intro _ _ _)|(refine lo_box1 rfl rfl rfl ?_;intro _ _ _)|(refine lo_alloc rfl ?_;intro _ _ _))
            refine l_false rfl ?_
            refine l_go .skip ?_
            repeat(first|refine lrun_ ?_|(refine lo_boxA rfl rfl ?_;intro _ _ _)|(refine lo_box1 rfl rfl rfl ?_;intro _ _ _)|(refine lo_alloc rfl ?_;intro _ _ _))
            exact ih (i + 1, (feedM s (l.getD i 0) v0).2, .slice A3 (s.held ++ [l.getD i 0]).length n3, v0) w8 _ ⟨hlt, by simp only; omega, hok', f2, by simp only; omega, fun _ => hvv.symm, _, hP8, by simp only [hh]; exact hO8, hD6⟩ (by simp only; omega) _ _ (by repeat (first | exact SubB.nil | refine SubB.cons rfl ?_)) (by repeat(first|exact MSub.refl|refine MSub.keep rfl ?_|exact MSub.nil|apply MSub.drop)) fun w' hw' => ⟨hlt, by simp only; omega, hok', f2, by simp only; omega, fun _ => hvv.symm, _, (hP6.next hw7 kn7).re hw' .nil, by simp only [hh]; exact hO8.keep fun k hk => hw'.kp.block k (hO8.block k hk).2 (hw7.apart (hO6.block k hk).1.2 (hO6.block k hk).2), hD6⟩
          · have hh := f4 hm
            repeat(first|refine lrun_ ?_|(refine lo_boxA rfl rfl ?_;intro _ _ _)|(refine lo_box1 rfl rfl rfl ?_;intro _ _ _)|(refine lo_alloc rfl ?_;intro _ _ _))
            refine l_yes rfl hm ?_
            repeat(first|refine lrun_ ?_|(refine lo_boxA rfl rfl ?_;intro _ _ _)|(refine lo_box1 rfl rfl rfl ?_;intro _ _ _)|(refine lo_alloc rfl ?_;intro _ _ _))
            refine lo_callM (n_call rfl) rfl (fun w' hw => held_calls (hP6.now hw)) ?_
            intro w7 u7 w8 hw7 kn7 ko7 hOh
            have hs7 := hw7.kp.size
            have hs8 := kn7.size
            have hP8 := (hP6.next hw7 kn7).less (K' := MK []) fun k hk => (mk_nil hk).elim
            obtain ⟨A7, c7, rfl, _⟩ := hOh.form
            repeat(first|refine lrun_ ?_|(refine lo_boxA rfl rfl ?_;intro _ _ _)|(refine lo_box1 rfl rfl rfl ?_;intro _ _ _)|(refine lo_alloc rfl ?_;intro _ _ _))
            refine lo_call (v := .bool true) (n_call rfl) rfl (fun w' hw => (runes_calls (Kp.sl hw.kp (hOh.slF (F' := fun k => noB w7 k) (fun _ h => h) fun _ h => h.elim) fun k hk hm => by have := hw7.lt hm; unfold noB at hk; omega) (Sl.nil kRune (fun _ => False) w')).mono fun u w' h => ⟨h.1, by rw [h.2, hh, decide_eq_true rfl]⟩) ?_
            repeat(first|refine lrun_ ?_|(refine lo_boxA rfl rfl ?_;intro _ _ _)|(refine lo_box1 rfl rfl rfl ?_;intro _ _ _)|(refine lo_alloc rfl ?_;intro _ _ _))
            refine l_false rfl ?_
            refine l_go .skip ?_
            repeat(first|refine lrun_ ?_|(refine lo_boxA rfl rfl ?_;intro _ _ _)|(refine lo_box1 rfl rfl rfl ?_;intro _ _ _)|(refine lo_alloc rfl ?_;intro _ _ _))
            exact ih (i + 1, (feedM s (l.getD i 0) v0).2, .slice none 0 0, v0) w8 _ ⟨hlt, by simp only; omega, hok', f2, by simp only; omega, fun e => absurd hh e, _, hP8, by simp only [hh]; exact Ow.nil _ _ _ _, fun k hk => by cases hk⟩ (by simp only; omega) _ _ (by repeat (first | exact SubB.nil | refine SubB.cons rfl ?_)) (by repeat(first|exact MSub.refl|refine MSub.keep rfl ?_|exact MSub.nil|apply MSub.drop)) fun w' hw' => ⟨hlt, by simp only; omega, hok', f2, by simp only; omega, fun e => absurd hh e, _, (hP6.next hw7 kn7).re hw' .nil, by simp only [hh]; exact Ow.nil _ _ _ _, fun k hk => by cases hk⟩
        · repeat(first|refine lrun_ ?_|(refine lo_boxA rfl rfl ?_;intro _ _ _)|(refine lo_box1 rfl rfl rfl ?_;intro _ _ _)|(refine lo_alloc rfl ?_;intro _ _ _))
          refine l_no rfl (fun e => hz (List.length_eq_zero_iff.1 (by omega))) ?_
          refine l_go .skip ?_
          repeat(first|refine lrun_ ?_|(refine lo_boxA rfl rfl ?_;intro _ _ _)|(refine lo_box1 rfl rfl rfl ?_;intro _ _ _)|(refine lo_alloc rfl ?_;intro _ _ _))
          refine lo_lit (cs := [.int .i32 (l.getD i 0)]) rfl (by decide) (by kernel_rfl) rfl ?_
          intro g46 hg46 hg46'
          refine lo_append1 (d := kRune) (F := fun _ => False) (q := l.getD i 0) rfl rfl hO (fun _ h => h.elim) .hd (fun w' hw' => ⟨rfl, h32.1, h32.2⟩) (by show (s.held.length + 1) * 4 ≤ 140737488355328; omega) rfl rfl rfl rfl ?_
          intro w3 A3 n3 w4 hw3 ko3 kp3 hold hO4
          have hs3 := kp3.size
          have hbo := hO.block
          have hP4 : PrB W w4 (MK [(g46, cb [.int .i32 (l.getD i 0)] 21)]) D g s := ⟨hP.1.kp kp3 fun k hk e => e.elim (fun e => (mk_nil e).elim) fun e => hdj k e hk, fun k hk => ⟨(hP.2 k hk).1, by have := (hP.2 k hk).2.1; omega, fun e => by have := mk_one e; have := (hP.2 k hk).2.1; omega⟩⟩
          have hdj4 : ∀ k, (Value.slice A3 (s.held ++ [l.getD i 0]).length n3).ownBlock = some k → ¬ D k := fun k hk e => (hold k hk).elim (fun e2 => hdj k e2 e) fun e2 => by have := (hP.2 k e).2.1; omega
          repeat(first|refine lrun_ ?_|(refine lo_boxA rfl rfl ?_;intro _ _ _)|(refine lo_box1 rfl rfl rfl ?_;intro _ _ _)|(refine lo_alloc rfl ?_;intro _ _ _))
          refine lo_feed hP4 hos h32 (by omega) (n_call rfl) rfl ?_
          intro w5 w6 hw5 kp5 ko5 hP6
          have hs5 := hw5.kp.size
          have hs6 := kp5.size
          have hO5 : Og kRune W w5 (MK [(g46, cb [.int .i32 (l.getD i 0)] 21)]) (fun _ => False) (.slice A3 (s.held ++ [l.getD i 0]).length n3) (s.held ++ [l.getD i 0]) := hO4.keep fun k hk => hw5.kp.block k (hO4.block k hk).2 (hO4.block k hk).1.2
          have hO6 : Og kRune W w6 (MK [(g46, cb [.int .i32 (l.getD i 0)] 21)]) (fun _ => False) (.slice A3 (s.held ++ [l.getD i 0]).length n3) (s.held ++ [l.getD i 0]) := hO5.keep fun k hk => kp5.block k (hO5.block k hk).2 (hdj4 k hk)
          have hD6 : ∀ k, (Value.slice A3 (s.held ++ [l.getD i 0]).length n3).ownBlock = some k → ¬ (gD D w5 k ∧ k < w6.heap.size) := fun k hk e => e.1.elim (hdj4 k hk) fun e => by have := (hO5.block k hk).2; omega
          obtain ⟨f1, f2, f3, f4⟩ := feed_fi (s := s) (r := l.getD i 0) (v := v0) (V := vi) hfi (by rw [if_neg hz]; exact hvi hz)
          have hok' := feed_ok (s := s) (r := l.getD i 0) (v := v0) hos
          have hhl := hhl0 v0
          have hrow : Sl kRune (fun k => ¬ MK [(g46, cb [.int .i32 (l.getD i 0)] 21)] k) w6 (.slice A3 (s.held ++ [l.getD i 0]).length n3) (s.held ++ [l.getD i 0]) := hO6.slF (fun k hk => hk.2) fun _ h => h.elim
          repeat(first|refine lrun_ ?_|(refine lo_boxA rfl rfl ?_;intro _ _ _)|(refine lo_box1 rfl rfl rfl ?_;intro _ _ _)|(refine lo_alloc rfl ?_;intro _ _ _))
          refine lo_call (n_call rfl) rfl (fun w' hw => parse_calls (vis := vi) (Kp.sl hw.kp hrow fun k hk => hk) (by rw [List.length_append, List.length_singleton]; omega)) ?_
          rw [← f1]
          repeat(first|refine lrun_ ?_|(refine lo_boxA rfl rfl ?_;intro _ _ _)|(refine lo_box1 rfl rfl rfl ?_;intro _ _ _)|(refine lo_alloc rfl ?_;intro _ _ _))
          refine lo_rn (fun _ => r_neC (vs := cmdL (feedM s (l.getD i 0) v0).1.1) (us := cmdL (feedM s (l.getD i 0) v0).1.1) rfl rfl (okv_cmd _) (okv_cmd _) (b := false) (vbs_self _)) rfl ?_
          repeat(first|refine lrun_ ?_|(refine lo_boxA rfl rfl ?_;intro _ _ _)|(refine lo_box1 rfl rfl rfl ?_;intro _ _ _)|(refine lo_alloc rfl ?_;intro _ _ _))
          refine l_no rfl (fun h => h rfl) ?_
          refine l_go .skip ?_
          by_cases hm : (feedM s (l.getD i 0) v0).1.2 = 0
          · obtain ⟨hh, hvv⟩ := f3 hm
            repeat(first|refine lrun_ ?_|(refine lo_boxA rfl rfl ?_;intro _ _ _)|(refine lo_box1 rfl rfl rfl ?_;intro _ _ _)|(refine lo_alloc rfl ?_;intro _ _ _))
            refine l_no rfl (fun h => h hm) ?_
            refine l_go .skip ?_
            repeat(first|refine lrun_ ?_|(refine lo_boxA rfl rfl ?_;intro _ _ _)|(refine lo_box1 rfl rfl rfl ?_;intro _ _ _)|(refine lo_alloc rfl ?_;intro _ _ _))
            refine lo_callM (n_call rfl) rfl (fun w' hw => held_calls (hP6.now hw)) ?_
            intro w7 u7 w8 hw7 kn7 ko7 hOh
            have hs7 := hw7.kp.size
            have hs8 := kn7.size
            have hP8 := (hP6.next hw7 kn7).less (K' := MK []) fun k hk => (mk_nil hk).elim
            have hO8 : Og kRune W w8 (MK []) (fun _ => False) (.slice A3 (s.held ++ [l.getD i 0]).length n3) (s.held ++ [l.getD i 0]) := ((hO6.keep (F' := fun _ => False) fun k hk => hw7.kp.block k (hO6.block k hk).2 (hO6.block k hk).1.2).keep (F' := fun _ => False) fun k hk => kn7.block k (by have := (hO6.block k hk).2; omega) id).mono (fun k hk _ => ⟨hk.1, mk_nil⟩) fun _ h _ => h
            have hrow8 : Sl kRune (fun k => (Value.slice A3 (s.held ++ [l.getD i 0]).length n3).ownBlock = some k) w8 (.slice A3 (s.held ++ [l.getD i 0]).length n3) (s.held ++ [l.getD i 0]) := hO8.nE.slF (fun k hk => hk.2) fun _ h => h.elim
            obtain ⟨A7, c7, rfl, _⟩ := hOh.form
            repeat(first|refine lrun_ ?_|(refine lo_boxA rfl rfl ?_;intro _ _ _)|(refine lo_box1 rfl rfl rfl ?_;intro _ _ _)|(refine lo_alloc rfl ?_;intro _ _ _))
            refine lo_call (v := .bool true) (n_call rfl) rfl (fun w' hw => (runes_calls (Kp.sl hw.kp (hOh.slF (F' := fun k => noB w7 k) (fun _ h => h) fun _ h => h.elim) fun k hk hm => by have := hw7.lt hm; unfold noB at hk; omega) (Kp.sl hw.kp hrow8 fun k hk hm => hw7.apart (hO6.block k hk).1.2 (hO6.block k hk).2 hm)).mono fun u w' h => ⟨h.1, by rw [h.2, hh, decide_eq_true rfl]⟩) ?_
            repeat(first|refine lrun_ ?_|(refine lo_boxA rfl rfl ?_;intro _ _ _)|(refine lo_box1 rfl rfl rfl ?_;intro _ _ _)|(refine lo_alloc rfl ?_;intro _ _ _))
            refine l_false rfl ?_
            refine l_go .skip ?_
            repeat(first|refine lrun_ ?_|(refine lo_boxA rfl rfl ?_;intro _ _ _)|(refine lo_box1 rfl rfl rfl ?_;intro _ _ _)|(refine lo_alloc rfl ?_;intro _ _ _))
            exact ih (i + 1, (feedM s (l.getD i 0) v0).2, .slice A3 (s.held ++ [l.getD i 0]).length n3, vi) w8 _ ⟨hlt, by simp only; omega, hok', f2, by simp only; omega, fun _ => hvv.symm, _, hP8, by simp only [hh]; exact hO8, hD6⟩ (by simp only; omega) _ _ (by repeat (first | exact SubB.nil | refine SubB.cons rfl ?_)) (by repeat(first|exact MSub.refl|refine MSub.keep rfl ?_|exact MSub.nil|apply MSub.drop)) fun w' hw' => ⟨hlt, by simp only; omega, hok', f2, by simp only; omega, fun _ => hvv.symm, _, (hP6.next hw7 kn7).re hw' .nil, by simp only [hh]; exact hO8.keep fun k hk => hw'.kp.block k (hO8.block k hk).2 (hw7.apart (hO6.block k hk).1.2 (hO6.block k hk).2), hD6⟩
          · have hh := f4 hm
            repeat(first|refine lrun_ ?_|(refine lo_boxA rfl rfl ?_;intro _ _ _)|(refine lo_box1 rfl rfl rfl ?_;intro _ _ _)|(refine lo_alloc rfl ?_;intro _ _ _))
            refine l_yes rfl hm ?_
            repeat(first|refine lrun_ ?_|(refine lo_boxA rfl rfl ?_;intro _ _ _)|(refine lo_box1 rfl rfl rfl ?_;intro _ _ _)|(refine lo_alloc rfl ?_;intro _ _ _))
            refine lo_callM (n_call rfl) rfl (fun w' hw => held_calls (hP6.now hw)) ?_
            intro w7 u7 w8 hw7 kn7 ko7 hOh
            have hs7 := hw7.kp.size
            have hs8 := kn7.size
            have hP8 := (hP6.next hw7 kn7).less (K' := MK []) fun k hk => (mk_nil hk).elim
            obtain ⟨A7, c7, rfl, _⟩ := hOh.form
            repeat(first|refine lrun_ ?_|(refine lo_boxA rfl rfl ?_;intro _ _ _)|(refine lo_box1 rfl rfl rfl ?_;intro _ _ _)|(refine lo_alloc rfl ?_;intro _ _ _))
            refine lo_call (v := .bool true) (n_call rfl) rfl (fun w' hw => (runes_calls (Kp.sl hw.kp (hOh.slF (F' := fun k => noB w7 k) (fun _ h => h) fun _ h => h.elim) fun k hk hm => by have := hw7.lt hm; unfold noB at hk; omega) (Sl.nil kRune (fun _ => False) w')).mono fun u w' h => ⟨h.1, by rw [h.2, hh, decide_eq_true rfl]⟩) ?_
            repeat(first|refine lrun_ ?_|(refine lo_boxA rfl rfl ?_;intro _ _ _)|(refine lo_box1 rfl rfl rfl ?_;intro _ _ _)|(refine lo_alloc rfl ?_;intro _ _ _))
            refine l_false rfl ?_
            refine l_go .skip ?_
            repeat(first|refine lrun_ ?_|(refine lo_boxA rfl rfl ?_;intro _ _ _)|(refine lo_box1 rfl rfl rfl ?_;intro _ _ _)|(refine lo_alloc rfl ?_;intro _ _ _))
            exact ih (i + 1, (feedM s (l.getD i 0) v0).2, .slice none 0 0, vi) w8 _ ⟨hlt, by simp only; omega, hok', f2, by simp only; omega, fun e => absurd hh e, _, hP8, by simp only [hh]; exact Ow.nil _ _ _ _, fun k hk => by cases hk⟩ (by simp only; omega) _ _ (by repeat (first | exact SubB.nil | refine SubB.cons rfl ?_)) (by repeat(first|exact MSub.refl|refine MSub.keep rfl ?_|exact MSub.nil|apply MSub.drop)) fun w' hw' => ⟨hlt, by simp only; omega, hok', f2, by simp only; omega, fun e => absurd hh e, _, (hP6.next hw7 kn7).re hw' .nil, by simp only [hh]; exact Ow.nil _ _ _ _, fun k hk => by cases hk⟩
      · repeat(first|refine lrun_ ?_|(refine lo_boxA rfl rfl ?_;intro _ _ _)|(refine lo_box1 rfl rfl rfl ?_;intro _ _ _)|(refine lo_alloc rfl ?_;intro _ _ _))
        refine l_yes rfl (by omega) ?_
        refine l_go .skip ?_
        repeat(first|refine lrun_ ?_|(refine lo_boxA rfl rfl ?_;intro _ _ _)|(refine lo_box1 rfl rfl rfl ?_;intro _ _ _)|(refine lo_alloc rfl ?_;intro _ _ _))
        by_cases hz : s.held = []
        · repeat(first|refine lrun_ ?_|(refine lo_boxA rfl rfl ?_;intro _ _ _)|(refine lo_box1 rfl rfl rfl ?_;intro _ _ _)|(refine lo_alloc rfl ?_;intro _ _ _))
          refine l_yes rfl (by rw [hz]; rfl) ?_
          repeat(first|refine lrun_ ?_|(refine lo_boxA rfl rfl ?_;intro _ _ _)|(refine lo_box1 rfl rfl rfl ?_;intro _ _ _)|(refine lo_alloc rfl ?_;intro _ _ _))
          refine lo_lit (cs := [.int .i32 (l.getD i 0)]) rfl (by decide) (by kernel_rfl) rfl ?_
          intro g46 hg46 hg46'
          refine lo_append1 (d := kRune) (F := fun _ => False) (q := l.getD i 0) rfl rfl hO (fun _ h => h.elim) .hd (fun w' hw' => ⟨rfl, h32.1, h32.2⟩) (by show (s.held.length + 1) * 4 ≤ 140737488355328; omega) rfl rfl rfl rfl ?_
          intro w3 A3 n3 w4 hw3 ko3 kp3 hold hO4
          have hs3 := kp3.size
          have hbo := hO.block
          have hP4 : PrB W w4 (MK [(g46, cb [.int .i32 (l.getD i 0)] 21)]) D g s := ⟨hP.1.kp kp3 fun k hk e => e.elim (fun e => (mk_nil e).elim) fun e => hdj k e hk, fun k hk => ⟨(hP.2 k hk).1, by have := (hP.2 k hk).2.1; omega, fun e => by have := mk_one e; have := (hP.2 k hk).2.1; omega⟩⟩
          have hdj4 : ∀ k, (Value.slice A3 (s.held ++ [l.getD i 0]).length n3).ownBlock = some k → ¬ D k := fun k hk e => (hold k hk).elim (fun e2 => hdj k e2 e) fun e2 => by have := (hP.2 k e).2.1; omega
          repeat(first|refine lrun_ ?_|(refine lo_boxA rfl rfl ?_;intro _ _ _)|(refine lo_box1 rfl rfl rfl ?_;intro _ _ _)|(refine lo_alloc rfl ?_;intro _ _ _))
          refine lo_feed hP4 hos h32 (by omega) (n_call rfl) rfl ?_
          intro w5 w6 hw5 kp5 ko5 hP6
          have hs5 := hw5.kp.size
          have hs6 := kp5.size
          have hO5 : Og kRune W w5 (MK [(g46, cb [.int .i32 (l.getD i 0)] 21)]) (fun _ => False) (.slice A3 (s.held ++ [l.getD i 0]).length n3) (s.held ++ [l.getD i 0]) := hO4.keep fun k hk => hw5.kp.block k (hO4.block k hk).2 (hO4.block k hk).1.2
          have hO6 : Og kRune W w6 (MK [(g46, cb [.int .i32 (l.getD i 0)] 21)]) (fun _ => False) (.slice A3 (s.held ++ [l.getD i 0]).length n3) (s.held ++ [l.getD i 0]) := hO5.keep fun k hk => kp5.block k (hO5.block k hk).2 (hdj4 k hk)
          have hD6 : ∀ k, (Value.slice A3 (s.held ++ [l.getD i 0]).length n3).ownBlock = some k → ¬ (gD D w5 k ∧ k < w6.heap.size) := fun k hk e => e.1.elim (hdj4 k hk) fun e => by have := (hO5.block k hk).2; omega
          obtain ⟨f1, f2, f3, f4⟩ := feed_fi (s := s) (r := l.getD i 0) (v := false) (V := false) hfi (by rw [if_pos hz])
          have hok' := feed_ok (s := s) (r := l.getD i 0) (v := false) hos
          have hhl := hhl0 false
          have hrow : Sl kRune (fun k => ¬ MK [(g46, cb [.int .i32 (l.getD i 0)] 21)] k) w6 (.slice A3 (s.held ++ [l.getD i 0]).length n3) (s.held ++ [l.getD i 0]) := hO6.slF (fun k hk => hk.2) fun _ h => h.elim
          repeat(first|refine lrun_ ?_|(refine lo_boxA rfl rfl ?_;intro _ _ _)|(refine lo_box1 rfl rfl rfl ?_;intro _ _ _)|(refine lo_alloc rfl ?_;intro _ _ _))
          refine lo_call (n_call rfl) rfl (fun w' hw => parse_calls (vis := false) (Kp.sl hw.kp hrow fun k hk => hk) (by rw [List.length_append, List.length_singleton]; omega)) ?_
          rw [← f1]
          repeat(first|refine lrun_ ?_|(refine lo_boxA rfl rfl ?_;intro _ _ _)|(refine lo_box1 rfl rfl rfl ?_;intro _ _ _)|(refine lo_alloc rfl ?_;intro _ _ _))
          refine lo_rn (fun _ => r_neC (vs := cmdL (feedM s (l.getD i 0) false).1.1) (us := cmdL (feedM s (l.getD i 0) false).1.1) rfl rfl (okv_cmd _) (okv_cmd _) (b := false) (vbs_self _)) rfl ?_
          repeat(first|refine lrun_ ?_|(refine lo_boxA rfl rfl ?_;intro _ _ _)|(refine lo_box1 rfl rfl rfl ?_;intro _ _ _)|(refine lo_alloc rfl ?_;intro _ _ _))
          refine l_no rfl (fun h => h rfl) ?_
          refine l_go .skip ?_
          by_cases hm : (feedM s (l.getD i 0) false).1.2 = 0
          · obtain ⟨hh, hvv⟩ := f3 hm
            repeat(first|refine lrun_ ?_|(refine lo_boxA rfl rfl ?_;intro _ _ _)|(refine lo_box1 rfl rfl rfl ?_;intro _ _ _)|(refine lo_alloc rfl ?_;intro _ _ _))
            refine l_no rfl (fun h => h hm) ?_
            refine l_go .skip ?_
            repeat(first|refine lrun_ ?_|(refine lo_boxA rfl rfl ?_;intro _ _ _)|(refine lo_box1 rfl rfl rfl ?_;intro _ _ _)|(refine lo_alloc rfl ?_;intro _ _ _))
            refine lo_callM (n_call rfl) rfl (fun w' hw => held_calls (hP6.now hw)) ?_
            intro w7 u7 w8 hw7 kn7 ko7 hOh
            have hs7 := hw7.kp.size
            have hs8 := kn7.size
            have hP8 := (hP6.next hw7 kn7).less (K' := MK []) fun k hk => (mk_nil hk).elim
            have hO8 : Og kRune W w8 (MK []) (fun _ => False) (.slice A3 (s.held ++ [l.getD i 0]).length n3) (s.held ++ [l.getD i 0]) := ((hO6.keep (F' := fun _ => False) fun k hk => hw7.kp.block k (hO6.block k hk).2 (hO6.block k hk).1.2).keep (F' := fun _ => False) fun k hk => kn7.block k (by have := (hO6.block k hk).2; omega) id).mono (fun k hk _ => ⟨hk.1, mk_nil⟩) fun _ h _ => h
            have hrow8 : Sl kRune (fun k => (Value.slice A3 (s.held ++ [l.getD i 0]).length n3).ownBlock = some k) w8 (.slice A3 (s.held ++ [l.getD i 0]).length n3) (s.held ++ [l.getD i 0]) := hO8.nE.slF (fun k hk => hk.2) fun _ h => h.elim
            obtain ⟨A7, c7, rfl, _⟩ := hOh.form
            repeat(first|refine lrun_ ?_|(refine lo_boxA rfl rfl ?_;intro _ _ _)|(refine lo_box1 rfl rfl rfl ?_;intro _ _ _)|(refine lo_alloc rfl ?_;intro _ _ _))
            refine lo_call (v := .bool true) (n_call rfl) rfl (fun w' hw => (runes_calls (Kp.sl hw.kp (hOh.slF (F' := fun k => noB w7 k) (fun _ h => h) fun _ h => h.elim) fun k hk hm => by have := hw7.lt hm; unfold noB at hk; omega) (Kp.sl hw.kp hrow8 fun k hk hm => hw7.apart (hO6.block k hk).1.2 (hO6.block k hk).2 hm)).mono fun u w' h => ⟨h.1, by rw [h.2, hh, decide_eq_true rfl]⟩) ?_
            repeat(first|refine lrun_ ?_|(refine lo_boxA rfl rfl ?_;intro _ _ _)|(refine lo_box1 rfl rfl rfl ?_;intro _ _ _)|(refine lo_alloc rfl ?_;intro _ _ _))
            refine l_false rfl ?_
            refine l_go .skip ?_
            repeat(first|refine lrun_ ?_|(refine lo_boxA rfl rfl ?_;intro _ _ _)|(refine lo_box1 rfl rfl rfl ?_;intro _ _ _)|(refine lo_alloc rfl ?_;intro _ _ _))
            exact ih (i + 1, (feedM s (l.getD i 0) false).2, .slice A3 (s.held ++ [l.getD i 0]).length n3, false) w8 _ ⟨hlt, by simp only; omega, hok', f2, by simp only; omega, fun _ => hvv.symm, _, hP8, by simp only [hh]; exact hO8, hD6⟩ (by simp only; omega) _ _ (by repeat (first | exact SubB.nil | refine SubB.cons rfl ?_)) (by repeat(first|exact MSub.refl|refine MSub.keep rfl ?_|exact MSub.nil|apply MSub.drop)) fun w' hw' => ⟨hlt, by simp only; omega, hok', f2, by simp only; omega, fun _ => hvv.symm, _, (hP6.next hw7 kn7).re hw' .nil, by simp only [hh]; exact hO8.keep fun k hk => hw'.kp.block k (hO8.block k hk).2 (hw7.apart (hO6.block k hk).1.2 (hO6.block k hk).2), hD6⟩
          · have hh := f4 hm
            repeat(first|refine lrun_ ?_|(refine lo_boxA rfl rfl ?_;intro _ _ _)|(refine lo_box1 rfl rfl rfl ?_;intro _ _ _)|(refine lo_alloc rfl ?_;intro _ _ _))
            refine l_yes rfl hm ?_
            repeat(first|refine lrun_ ?_|(refine lo_boxA rfl rfl ?_;intro _ _ _)|(refine lo_box1 rfl rfl rfl ?_;intro _ _ _)|(refine lo_alloc rfl ?_;intro _ _ _))
            refine lo_callM (n_call rfl) rfl (fun w' hw => held_calls (hP6.now hw)) ?_
            intro w7 u7 w8 hw7 kn7 ko7 hOh
            have hs7 := hw7.kp.size
            have hs8 := kn7.size
            have hP8 := (hP6.next hw7 kn7).less (K' := MK []) fun k hk => (mk_nil hk).elim
            obtain ⟨A7, c7, rfl, _⟩ := hOh.form
            repeat(first|refine lrun_ ?_|(refine lo_boxA rfl rfl ?_;intro _ _ _)|(refine lo_box1 rfl rfl rfl ?_;intro _ _ _)|(refine lo_alloc rfl ?_;intro _ _ _))
            refine lo_call (v := .bool true) (n_call rfl) rfl (fun w' hw => (runes_calls (Kp.sl hw.kp (hOh.slF (F' := fun k => noB w7 k) (fun _ h => h) fun _ h => h.elim) fun k hk hm => by have := hw7.lt hm; unfold noB at hk; omega) (Sl.nil kRune (fun _ => False) w')).mono fun u w' h => ⟨h.1, by rw [h.2, hh, decide_eq_true rfl]⟩) ?_
            repeat(first|refine lrun_ ?_|(refine lo_boxA rfl rfl ?_;intro _ _ _)|(refine lo_box1 rfl rfl rfl ?_;intro _ _ _)|(refine lo_alloc rfl ?_;intro _ _ _))
            refine l_false rfl ?_
            refine l_go .skip ?_
            repeat(first|refine lrun_ ?_|(refine lo_boxA rfl rfl ?_;intro _ _ _)|(refine lo_box1 rfl rfl rfl ?_;intro _ _ _)|(refine lo_alloc rfl ?_;intro _ _ _))
            exact ih (i + 1, (feedM s (l.getD i 0) false).2, .slice none 0 0, false) w8 _ ⟨hlt, by simp only; omega, hok', f2, by simp only; omega, fun e => absurd hh e, _, hP8, by simp only [hh]; exact Ow.nil _ _ _ _, fun k hk => by cases hk⟩ (by simp only; omega) _ _ (by repeat (first | exact SubB.nil | refine SubB.cons rfl ?_)) (by repeat(first|exact MSub.refl|refine MSub.keep rfl ?_|exact MSub.nil|apply MSub.drop)) fun w' hw' => ⟨hlt, by simp only; omega, hok', f2, by simp only; omega, fun e => absurd hh e, _, (hP6.next hw7 kn7).re hw' .nil, by simp only [hh]; exact Ow.nil _ _ _ _, fun k hk => by cases hk⟩
        · repeat(first|refine lrun_ ?_|(refine lo_boxA rfl rfl ?_;intro _ _ _)|(refine lo_box1 rfl rfl rfl ?_;intro _ _ _)|(refine lo_alloc rfl ?_;intro _ _ _))
          refine l_no rfl (fun e => hz (List.length_eq_zero_iff.1 (by omega))) ?_
          refine l_go .skip ?_
          repeat(first|refine lrun_ ?_|(refine lo_boxA rfl rfl ?_;intro _ _ _)|(refine lo_box1 rfl rfl rfl ?_;intro _ _ _)|(refine lo_alloc rfl ?_;intro _ _ _))
          refine lo_lit (cs := [.int .i32 (l.getD i 0)]) rfl (by decide) (by kernel_rfl) rfl ?_
          intro g46 hg46 hg46'
          refine lo_append1 (d := kRune) (F := fun _ => False) (q := l.getD i 0) rfl rfl hO (fun _ h => h.elim) .hd (fun w' hw' => ⟨rfl, h32.1, h32.2⟩) (by show (s.held.length + 1) * 4 ≤ 140737488355328; omega) rfl rfl rfl rfl ?_
          intro w3 A3 n3 w4 hw3 ko3 kp3 hold hO4
          have hs3 := kp3.size
          have hbo := hO.block
          have hP4 : PrB W w4 (MK [(g46, cb [.int .i32 (l.getD i 0)] 21)]) D g s := ⟨hP.1.kp kp3 fun k hk e => e.elim (fun e => (mk_nil e).elim) fun e => hdj k e hk, fun k hk => ⟨(hP.2 k hk).1, by have := (hP.2 k hk).2.1; omega, fun e => by have := mk_one e; have := (hP.2 k hk).2.1; omega⟩⟩
          have hdj4 : ∀ k, (Value.slice A3 (s.held ++ [l.getD i 0]).length n3).ownBlock = some k → ¬ D k := fun k hk e => (hold k hk).elim (fun e2 => hdj k e2 e) fun e2 => by have := (hP.2 k e).2.1; omega
          repeat(first|refine lrun_ ?_|(refine lo_boxA rfl rfl ?_;intro _ _ _)|(refine lo_box1 rfl rfl rfl ?_;intro _ _ _)|(refine lo_alloc rfl ?_;intro _ _ _))
          refine lo_feed hP4 hos h32 (by omega) (n_call rfl) rfl ?_
          intro w5 w6 hw5 kp5 ko5 hP6
          have hs5 := hw5.kp.size
          have hs6 := kp5.size
          have hO5 : Og kRune W w5 (MK [(g46, cb [.int .i32 (l.getD i 0)] 21)]) (fun _ => False) (.slice A3 (s.held ++ [l.getD i 0]).length n3) (s.held ++ [l.getD i 0]) := hO4.keep fun k hk => hw5.kp.block k (hO4.block k hk).2 (hO4.block k hk).1.2
          have hO6 : Og kRune W w6 (MK [(g46, cb [.int .i32 (l.getD i 0)] 21)]) (fun _ => False) (.slice A3 (s.held ++ [l.getD i 0]).length n3) (s.held ++ [l.getD i 0]) := hO5.keep fun k hk => kp5.block k (hO5.block k hk).2 (hdj4 k hk)
          have hD6 : ∀ k, (Value.slice A3 (s.held ++ [l.getD i 0]).length n3).ownBlock = some k → ¬ (gD D w5 k ∧ k < w6.heap.size) := fun k hk e => e.1.elim (hdj4 k hk) fun e => by have := (hO5.block k hk).2; omega
          obtain ⟨f1, f2, f3, f4⟩ := feed_fi (s := s) (r := l.getD i 0) (v := false) (V := vi) hfi (by rw [if_neg hz]; exact hvi hz)
          have hok' := feed_ok (s := s) (r := l.getD i 0) (v := false) hos
          have hhl := hhl0 false
          have hrow : Sl kRune (fun k => ¬ MK [(g46, cb [.int .i32 (l.getD i 0)] 21)] k) w6 (.slice A3 (s.held ++ [l.getD i 0]).length n3) (s.held ++ [l.getD i 0]) := hO6.slF (fun k hk => hk.2) fun _ h => h.elim
          repeat(first|refine lrun_ ?_|(refine lo_boxA rfl rfl ?_;intro _ _ _)|(refine lo_box1 rfl rfl rfl ?_;intro _ _ _)|(refine lo_alloc rfl ?_;intro _ _ _))
          refine lo_call (n_call rfl) rfl (fun w' hw => parse_calls (vis := vi) (Kp.sl hw.kp hrow fun k hk => hk) (by rw [List.length_append, List.length_singleton]; omega)) ?_
          rw [← f1]
          repeat(first|refine lrun_ ?_|(refine lo_boxA rfl rfl ?_;intro _ _ _)|(refine lo_box1 rfl rfl rfl ?_;intro _ _ _)|(refine lo_alloc rfl ?_;intro _ _ _))
          refine lo_rn (fun _ => r_neC (vs := cmdL (feedM s (l.getD i 0) false).1.1) (us := cmdL (feedM s (l.getD i 0) false).1.1) rfl rfl (okv_cmd _) (okv_cmd _) (b := false) (vbs_self _)) rfl ?_
          repeat(first|refine lrun_ ?_|(refine lo_boxA rfl rfl ?_;intro _ _ _)|(refine lo_box1 rfl rfl rfl ?_;intro _ _ _)|(refine lo_alloc rfl ?_;intro _ _ _))
          refine l_no rfl (fun h => h rfl) ?_
          refine l_go .skip ?_
          by_cases hm : (feedM s (l.getD i 0) false).1.2 = 0
          · obtain ⟨hh, hvv⟩ := f3 hm
            repeat(first|refine lrun_ ?_|(refine lo_boxA rfl rfl ?_;intro _ _ _)|(refine lo_box1 rfl rfl rfl ?_;intro _ _ _)|(refine lo_alloc rfl ?_;intro _ _ _))
            refine l_no rfl (fun h => h hm) ?_
            refine l_go .skip ?_
            repeat(first|refine lrun_ ?_|(refine lo_boxA rfl rfl ?_;intro _ _ _)|(refine lo_box1 rfl rfl rfl ?_;intro _ _ _)|(refine lo_alloc rfl ?_;intro _ _ _))
            refine lo_callM (n_call rfl) rfl (fun w' hw => held_calls (hP6.now hw)) ?_
            intro w7 u7 w8 hw7 kn7 ko7 hOh
            have hs7 := hw7.kp.size
            have hs8 := kn7.size
            have hP8 := (hP6.next hw7 kn7).less (K' := MK []) fun k hk => (mk_nil hk).elim
            have hO8 : Og kRune W w8 (MK []) (fun _ => False) (.slice A3 (s.held ++ [l.getD i 0]).length n3) (s.held ++ [l.getD i 0]) := ((hO6.keep (F' := fun _ => False) fun k hk => hw7.kp.block k (hO6.block k hk).2 (hO6.block k hk).1.2).keep (F' := fun _ => False) fun k hk => kn7.block k (by have := (hO6.block k hk).2; omega) id).mono (fun k hk _ => ⟨hk.1, mk_nil⟩) fun _ h _ => h
            have hrow8 : Sl kRune (fun k => (Value.slice A3 (s.held ++ [l.getD i 0]).length n3).ownBlock = some k) w8 (.slice A3 (s.held ++ [l.getD i 0]).length n3) (s.held ++ [l.getD i 0]) := hO8.nE.slF (fun k hk => hk.2) fun _ h => h.elim
            obtain ⟨A7, c7, rfl, _⟩ := hOh.form
            repeat(first|refine lrun_ ?_|(refine lo_boxA rfl rfl ?_;intro _ _ _)|(refine lo_box1 rfl rfl rfl ?_;intro _ _ _)|(refine lo_alloc rfl ?_;intro _ _ _))
            refine lo_call (v := .bool true) (n_call rfl) rfl (fun w' hw => (runes_calls (Kp.sl hw.kp (hOh.slF (F' := fun k => noB w7 k) (fun _ h => h) fun _ h => h.elim) fun k hk hm => by have := hw7.lt hm; unfold noB at hk; omega) (Kp.sl hw.kp hrow8 fun k hk hm => hw7.apart (hO6.block k hk).1.2 (hO6.block k hk).2 hm)).mono fun u w' h => ⟨h.1, by rw [h.2, hh, decide_eq_true rfl]⟩) ?_
            repeat(first|refine lrun_ ?_|(refine lo_boxA rfl rfl ?_;intro _ _ _)|(refine lo_box1 rfl rfl rfl ?_;intro _ _ _)|(refine lo_alloc rfl ?_;intro _ _ _))
            refine l_false rfl ?_
            refine l_go .skip ?_
            repeat(first|refine lrun_ ?_|(refine lo_boxA rfl rfl ?_;intro _ _ _)|(refine lo_box1 rfl rfl rfl ?_;intro _ _ _)|(refine lo_alloc rfl ?_;intro _ _ _))
            exact ih (i + 1, (feedM s (l.getD i 0) false).2, .slice A3 (s.held ++ [l.getD i 0]).length n3, vi) w8 _ ⟨hlt, by simp only; omega, hok', f2, by simp only; omega, fun _ => hvv.symm, _, hP8, by simp only [hh]; exact hO8, hD6⟩ (by simp only; omega) _ _ (by repeat (first | exact SubB.nil | refine SubB.cons rfl ?_)) (by repeat(first|exact MSub.refl|refine MSub.keep rfl ?_|exact MSub.nil|apply MSub.drop)) fun w' hw' => ⟨hlt, by simp only; omega, hok', f2, by simp only; omega, fun _ => hvv.symm, _, (hP6.next hw7 kn7).re hw' .nil, by simp only [hh]; exact hO8.keep fun k hk => hw'.kp.block k (hO8.block k hk).2 (hw7.apart (hO6.block k hk).1.2 (hO6.block k hk).2), hD6⟩
          · have hh := f4 hm
            repeat(first|refine lrun_ ?_|(refine lo_boxA rfl rfl ?_;intro _ _ _)|(refine lo_box1 rfl rfl rfl ?_;intro _ _ _)|(refine lo_alloc rfl ?_;intro _ _ _))
            refine l_yes rfl hm ?_
            repeat(first|refine lrun_ ?_|(refine lo_boxA rfl rfl ?_;intro _ _ _)|(refine lo_box1 rfl rfl rfl ?_;intro _ _ _)|(refine lo_alloc rfl ?_;intro _ _ _))
            refine lo_callM (n_call rfl) rfl (fun w' hw => held_calls (hP6.now hw)) ?_
            intro w7 u7 w8 hw7 kn7 ko7 hOh
            have hs7 := hw7.kp.size
            have hs8 := kn7.size
            have hP8 := (hP6.next hw7 kn7).less (K' := MK []) fun k hk => (mk_nil hk).elim
            obtain ⟨A7, c7, rfl, _⟩ := hOh.form
            repeat(first|refine lrun_ ?_|(refine lo_boxA rfl rfl ?_;intro _ _ _)|(refine lo_box1 rfl rfl rfl ?_;intro _ _ _)|(refine lo_alloc rfl ?_;intro _ _ _))
            refine lo_call (v := .bool true) (n_call rfl) rfl (fun w' hw => (runes_calls (Kp.sl hw.kp (hOh.slF (F' := fun k => noB w7 k) (fun _ h => h) fun _ h => h.elim) fun k hk hm => by have := hw7.lt hm; unfold noB at hk; omega) (Sl.nil kRune (fun _ => False) w')).mono fun u w' h => ⟨h.1, by rw [h.2, hh, decide_eq_true rfl]⟩) ?_
            repeat(first|refine lrun_ ?_|(refine lo_boxA rfl rfl ?_;intro _ _ _)|(refine lo_box1 rfl rfl rfl ?_;intro _ _ _)|(refine lo_alloc rfl ?_;intro _ _ _))
            refine l_false rfl ?_
            refine l_go .skip ?_
            repeat(first|refine lrun_ ?_|(refine lo_boxA rfl rfl ?_;intro _ _ _)|(refine lo_box1 rfl rfl rfl ?_;intro _ _ _)|(refine lo_alloc rfl ?_;intro _ _ _))
            exact ih (i + 1, (feedM s (l.getD i 0) false).2, .slice none 0 0, vi) w8 _ ⟨hlt, by simp only; omega, hok', f2, by simp only; omega, fun e => absurd hh e, _, hP8, by simp only [hh]; exact Ow.nil _ _ _ _, fun k hk => by cases hk⟩ (by simp only; omega) _ _ (by repeat (first | exact SubB.nil | refine SubB.cons rfl ?_)) (by repeat(first|exact MSub.refl|refine MSub.keep rfl ?_|exact MSub.nil|apply MSub.drop)) fun w' hw' => ⟨hlt, by simp only; omega, hok', f2, by simp only; omega, fun e => absurd hh e, _, (hP6.next hw7 kn7).re hw' .nil, by simp only [hh]; exact Ow.nil _ _ _ _, fun k hk => by cases hk⟩
    · repeat(first|refine lrun_ ?_|(refine lo_boxA rfl rfl ?_;intro _ _ _)|(refine lo_box1 rfl rfl rfl ?_;intro _ _ _)|(refine lo_alloc rfl ?_;intro _ _ _))
      refine l_no rfl (by omega) ?_
      refine l_go (.exit rfl) ?_
      repeat(first|refine lrun_ ?_|(refine lo_boxA rfl rfl ?_;intro _ _ _)|(refine lo_box1 rfl rfl rfl ?_;intro _ _ _)|(refine lo_alloc rfl ?_;intro _ _ _))
      refine lo_call (n_call (args := []) rfl) rfl (fun w' hw => awake_calls) ?_
      repeat(first|refine lrun_ ?_|(refine lo_boxA rfl rfl ?_;intro _ _ _)|(refine lo_box1 rfl rfl rfl ?_;intro _ _ _)|(refine lo_alloc rfl ?_;intro _ _ _))
      exact l_ret1 rfl rfl fun w' hw => ⟨hw.org, rfl⟩
  · repeat(first|refine lrun_ ?_|(refine lo_boxA rfl rfl ?_;intro _ _ _)|(refine lo_box1 rfl rfl rfl ?_;intro _ _ _)|(refine lo_alloc rfl ?_;intro _ _ _))
    refine l_false rfl ?_
    refine l_go (.exit rfl) ?_
    repeat(first|refine lrun_ ?_|(refine lo_boxA rfl rfl ?_;intro _ _ _)|(refine lo_box1 rfl rfl rfl ?_;intro _ _ _)|(refine lo_alloc rfl ?_;intro _ _ _))
    refine lo_call (n_call (args := []) rfl) rfl (fun w' hw => awake_calls) ?_
    repeat(first|refine lrun_ ?_|(refine lo_boxA rfl rfl ?_;intro _ _ _)|(refine lo_box1 rfl rfl rfl ?_;intro _ _ _)|(refine lo_alloc rfl ?_;intro _ _ _))
    exact l_ret1 rfl rfl fun w' hw => ⟨hw.org, rfl⟩
end Go.Ink
