/-
  The reference's deeds: Insert, between, Delete, Slice.
  The reference's deeds: Replace.
  inkhornlaw04.same: what is told is written over.
  inkhornlaw04.do: a deed with both texts.
-/
import Derived.Test.YtfgajbilegjbpaaP1
import Derived.Test.YtfgajbilegjbpaaY8
import Derived.Test.YtfgajbilegjbpaaP2
import Derived.Test.YtfgajbilegjbpaaY4
set_option linter.unusedVariables false
set_option linter.unusedSimpArgs false
namespace Go.Ink
open Go Go.Proofs Go.RowKit

/-- What a deed with the reference's text leaves. -/
def RefQ (D : Nat → Prop) (g : Nat) (w : World) (L' : List (List Int)) (x : Int) (u : Value) (w' : World) : Prop := Kp (fun k => k = g) w w' ∧ u = .int .i64 x ∧ IsRef (grownD D w) g w' L'
theorem HdF.nextB {α : Type} {d : Kd α} {F T : Nat → Prop} {B w' : World} {K K' : Nat → Prop} {v : Value} {xs : List α} (h : HdF d F B K v xs) (kp : Kp T B w') (hT : ∀ k, F k → ¬ T k) (hK : ∀ k, F k → ¬ K' k) : HdF d F w' K' v xs := ⟨Kp.sl kp h.1 hT, fun k hk => ⟨hK k hk, by have := kp.size; have := (h.2 k hk).2; omega⟩⟩
theorem Sl.pre {α : Type} {d : Kd α} {F : Nat → Prop} {w : World} {A : Option Addr} {n c i : Nat} {xs : List α} (h : Sl d F w (.slice A n c) xs) (hi : i ≤ n) (hc : i ≤ c) : Sl d F w (.slice A i c) (xs.take i) := by
  have h1 := Sl.cutV h (l := 0) (hi := i) (m := c) (Nat.zero_le _) hi hc (Nat.le_refl _)
  rwa [cutV_pre, List.drop_zero] at h1
section
variable {D F : Nat → Prop} {g : Nat} {w : World} {L : List (List Int)} {v : Value} {l : List Int}
set_option maxHeartbeats 8000000 in
theorem insertR_calls {p : Ps} (h : IsRef D g w L) (hL : L ≠ []) (hb : runesM L + L.length ≤ 65537) (hp : P64 p) (hv : Sl kRune F w v l) (hF : ∀ k, F k → k < w.heap.size → k ≠ g) (hl : l.length ≤ 65536) :
    CallsR Try.prog 40 #[.pointer (some ⟨g, 0, none⟩), posV p, v] w (RefQ D g w (insT L p l).1 (insT L p l).2) := by
  obtain ⟨hD, vx, Fx, hbx, hx, hFx⟩ := id h
  have hv' := hv.mono (F' := fun k => F k ∧ k < w.heap.size) fun k hk hl => ⟨hk, hl⟩
  obtain ⟨Al, cl, rfl, _⟩ := hv.form
  have hjl := jnd_len L
  have hL0 := List.length_pos_iff.2 hL
  refine l_enterM (args := [.pointer (some ⟨g, 0, none⟩), posV p, .slice Al l.length cl]) (S := fun k => k = g) hbx rfl Try.func40 rfl rfl ?_
  repeat(first|refine lrun_ ?_|(refine lo_boxA rfl rfl ?_;intro _ _ _)|(refine lo_box1 rfl rfl rfl ?_;intro _ _ _)|(refine lo_alloc rfl ?_;intro _ _ _))
  rename_i g4 hg4 hg4'
  refine lo_call (n_call rfl) rfl (fun w' hw => offset_calls (p := p) (blk_cell (hw.mem g _ (.tl .hd))) (Kp.sl hw.org hx fun k hk e => (hFx k hk).2 e) (by omega) hp) ?_
  by_cases ht : thereP L p
  case neg =>
    rw [if_neg ht, if_neg ht]
    repeat(first|refine lrun_ ?_|(refine lo_boxA rfl rfl ?_;intro _ _ _)|(refine lo_box1 rfl rfl rfl ?_;intro _ _ _)|(refine lo_alloc rfl ?_;intro _ _ _))
    refine l_true rfl ?_
    repeat(first|refine lrun_ ?_|(refine lo_boxA rfl rfl ?_;intro _ _ _)|(refine lo_box1 rfl rfl rfl ?_;intro _ _ _)|(refine lo_alloc rfl ?_;intro _ _ _))
    refine l_ret1 rfl rfl fun w' hw => ⟨hw.org, ?_, ?_⟩
    · unfold insT
      rw [if_neg ht]
    · unfold insT
      rw [if_neg ht]
      exact ⟨.inl hD, vx, Fx, hw.mem g _ (.tl .hd), Kp.sl hw.org hx fun k hk e => (hFx k hk).2 e, fun k hk => ⟨.inl (hFx k hk).1, (hFx k hk).2⟩⟩
  rw [if_pos ht, if_pos ht, ofP_eq ht]
  have hle := ofP_le ht
  have hins : insT L p l = chgM L (ofP L p) 0 l := by unfold insT; rw [if_pos ht]
  generalize ofP L p = n at *
  repeat(first|refine lrun_ ?_|(refine lo_boxA rfl rfl ?_;intro _ _ _)|(refine lo_box1 rfl rfl rfl ?_;intro _ _ _)|(refine lo_alloc rfl ?_;intro _ _ _))
  refine l_false rfl ?_
  refine l_go .skip ?_
  repeat(first|refine lrun_ ?_|(refine lo_boxA rfl rfl ?_;intro _ _ _)|(refine lo_box1 rfl rfl rfl ?_;intro _ _ _)|(refine lo_alloc rfl ?_;intro _ _ _))
  refine lo_callM (n_call rfl) rfl (fun w' hw => joined_calls (Kp.sl hw.org hx fun k hk e => (hFx k hk).2 e) (by omega)) ?_
  intro w1 u w2 hw1 kn1 ko1 hOX
  have hs1 := hw1.org.size
  have hs2 := kn1.size
  have hg1 : g < w1.heap.size := hw1.lt ⟨_, .tl .hd⟩
  have hg41 : g4 < w1.heap.size := hw1.lt ⟨_, .hd⟩
  obtain ⟨Ax, cx, rfl, hcx, _⟩ := hOX.form
  have hX : HdF kRune (fun k => noB w1 k ∧ k < w2.heap.size) w2 (MK [(g4, cb [.int .i64 p.1, .int .i64 p.2] 29), (g, cb [vx] 57)]) (.slice Ax (jndM L).length cx) (jndM L) := ⟨(hOX.slF (fun _ h => h) fun _ h => h.elim).mono fun k hk hl => ⟨hk, hl⟩, fun k hk => ⟨fun hm => by have := hw1.lt hm; have := hk.1; unfold noB at this; omega, hk.2⟩⟩
  clear hOX
  repeat(first|refine lrun_ ?_|(refine lo_boxA rfl rfl ?_;intro _ _ _)|(refine lo_box1 rfl rfl rfl ?_;intro _ _ _)|(refine lo_alloc rfl ?_;intro _ _ _))
  by_cases hfull : (65536 : Int) - (jndM L).length < (l.length : Int)
  · have hc : chgM L n 0 l = (L, 3) := by unfold chgM; rw [if_pos (by omega)]
    rw [hins, hc]
    refine l_yes rfl hfull ?_
    repeat(first|refine lrun_ ?_|(refine lo_boxA rfl rfl ?_;intro _ _ _)|(refine lo_box1 rfl rfl rfl ?_;intro _ _ _)|(refine lo_alloc rfl ?_;intro _ _ _))
    refine l_ret1 rfl rfl fun w' hw => ⟨hw.org, rfl, ?_⟩
    exact ⟨.inl hD, vx, Fx, hw.mem g _ (.tl .hd), Kp.sl hw.org hx fun k hk e => (hFx k hk).2 e, fun k hk => ⟨.inl (hFx k hk).1, (hFx k hk).2⟩⟩
  have hc : chgM L n 0 l = (splitM ((jndM L).take n ++ l ++ (jndM L).drop n), 0) := by unfold chgM; rw [if_neg (by omega)]; rfl
  rw [hins, hc]
  have hxl : (jndM L).length ≤ 65536 := by omega
  generalize jndM L = x at *
  refine l_no rfl hfull ?_
  refine l_go .skip ?_
  repeat(first|refine lrun_ ?_|(refine lo_boxA rfl rfl ?_;intro _ _ _)|(refine lo_box1 rfl rfl rfl ?_;intro _ _ _)|(refine lo_alloc rfl ?_;intro _ _ _))
  refine lo_appendS (d := kRune) (xs := []) (ys := x.take n) (F2 := fun k => noB w1 k ∧ k < w2.heap.size) rfl rfl (Ow.nil _ _ _ _) (fun w' hw' => (hX.now hw').pre (by omega) (by omega)) (fun j hj ho => by cases ho) (by rw [List.length_take]; show (0 + min n x.length) * 4 ≤ 140737488355328; omega) rfl rfl rfl rfl ?_
  intro w3 A3 n3 w4 hw3 ko3 kp3 hown3 hY3
  rw [List.nil_append] at hown3 hY3 ⊢
  have hs4 := kp3.size
  have hX4 := hX.nextB kp3 (fun k hk e => e.elim (hX.2 k hk).1 fun e => by cases e) (fun k hk => (hX.2 k hk).1)
  have hb3 : ∀ k, (Value.slice A3 (x.take n).length n3).ownBlock = some k → w2.heap.size ≤ k := fun k hk => (hown3 k hk).elim (fun e => by cases e) id
  repeat(first|refine lrun_ ?_|(refine lo_boxA rfl rfl ?_;intro _ _ _)|(refine lo_box1 rfl rfl rfl ?_;intro _ _ _)|(refine lo_alloc rfl ?_;intro _ _ _))
  refine lo_appendS (d := kRune) (xs := x.take n) (ys := l) (F2 := fun k => F k ∧ k < w.heap.size) rfl rfl hY3 (fun w' hw' => Kp.sl hw'.org hv' fun k hk e => hF k hk.1 hk.2 e) (fun j hj ho => by have := hb3 j ho; omega) (by rw [List.length_take]; show (min n x.length + l.length) * 4 ≤ 140737488355328; omega) rfl rfl rfl rfl ?_
  intro w5 A5 n5 w6 hw5 ko5 kp5 hown5 hY5
  have hs6 := kp5.size
  have hX6 := hX4.nextB kp5 (fun k hk e => e.elim (hX4.2 k hk).1 fun e => by have := hb3 k e; have := hk.2; omega) (fun k hk => (hX4.2 k hk).1)
  have hb5 : ∀ k, (Value.slice A5 (x.take n ++ l).length n5).ownBlock = some k → w2.heap.size ≤ k := fun k hk => (hown5 k hk).elim (hb3 k) fun h => by omega
  repeat(first|refine lrun_ ?_|(refine lo_boxA rfl rfl ?_;intro _ _ _)|(refine lo_box1 rfl rfl rfl ?_;intro _ _ _)|(refine lo_alloc rfl ?_;intro _ _ _))
  refine lo_suf (j := n) rfl rfl rfl hle hcx rfl ?_
  refine lo_appendS (d := kRune) (xs := x.take n ++ l) (ys := x.drop n) (F2 := fun k => noB w1 k ∧ k < w2.heap.size) rfl rfl hY5 (fun w' hw' => by
      have := Sl.cutV (hX6.now hw') hle (Nat.le_refl _) hcx (Nat.le_refl _)
      rwa [List.take_length] at this) (fun j hj ho => by have := hb5 j ho; omega) (by rw [List.length_append, List.length_take, List.length_drop]; show (min n x.length + l.length + (x.length - n)) * 4 ≤ 140737488355328; omega) rfl rfl rfl rfl ?_
  intro w7 A7 n7 w8 hw7 ko7 kp7 hown7 hY7
  have hyl : (x.take n ++ l ++ x.drop n).length = x.length + l.length := by simp only [List.length_append, List.length_take, List.length_drop]; omega
  refine lo_callM (n_call rfl) rfl (fun w' hw => split_calls ((hY7.now (fun _ h => h.elim) hw).sl) (by omega)) ?_
  intro w9 u9 w10 hw9 kn9 ko9 hO
  have hs9 := hw9.org.size
  obtain ⟨A9, c9, rfl, _⟩ := hO.form
  have hO' := (hO.slF (fun _ h => h) fun _ h => h).mono (F' := fun k => noB w9 k ∧ k < w10.heap.size) fun k hk hl => ⟨hk, hl⟩
  repeat(first|refine lrun_ ?_|(refine lo_boxA rfl rfl ?_;intro _ _ _)|(refine lo_box1 rfl rfl rfl ?_;intro _ _ _)|(refine lo_alloc rfl ?_;intro _ _ _))
  refine l_ret1 rfl rfl fun w' hw => ⟨hw.org, rfl, ?_⟩
  have hg9 : g < w9.heap.size := hw9.lt ⟨_, .tl .hd⟩
  exact ⟨.inl hD, _, fun k => noB w9 k ∧ k < w10.heap.size, hw.mem g _ (.tl .hd), Kp.sl hw.kp hO' fun k hk hm => by
    have := hw9.lt hm; have := hk.1; unfold noB at this; omega, fun k hk => ⟨.inr (by have := hk.1; unfold noB at this; omega), by have := hk.1; unfold noB at this; omega⟩⟩
def betR (L : List (List Int)) (p q : Ps) : Int × Int × Int := if ¬ thereP L p ∨ ¬ thereP L q then (0, 0, 2) else if ofP L q < ofP L p then (0, 0, 1) else ((ofP L p : Int), (ofP L q : Int), 0)
theorem betR_e (L : List (List Int)) (p q : Ps) : (betR L p q).2.2 = (betM L p q).2.2 := by
  unfold betR betM
  split
  · rfl
  · split <;> rfl
set_option maxHeartbeats 4000000 in
theorem betweenR_calls {p q : Ps} (h : IsRef D g w L) (hb : runesM L + L.length ≤ 65537) (hp : P64 p) (hq : P64 q) :
    CallsR Try.prog 52 #[.pointer (some ⟨g, 0, none⟩), posV p, posV q] w fun u w' => Kn w w' ∧ u = .tuple #[.int .i64 (betR L p q).1, .int .i64 (betR L p q).2.1, .int .i64 (betR L p q).2.2] := by
  obtain ⟨hD, vx, Fx, hbx, hx, hFx⟩ := id h
  refine l_enter (args := [.pointer (some ⟨g, 0, none⟩), posV p, posV q]) (fun _ => False) Try.func52 rfl rfl ?_
  repeat(first|refine lrun_ ?_|(refine lo_boxA rfl rfl ?_;intro _ _ _)|(refine lo_box1 rfl rfl rfl ?_;intro _ _ _)|(refine lo_alloc rfl ?_;intro _ _ _))
  refine lo_call (n_call rfl) rfl (fun w' hw => offset_calls (p := p) (hw.org.cell (blk_cell hbx) id) (Kn.sl hw.org hx) (by omega) hp) ?_
  repeat(first|refine lrun_ ?_|(refine lo_boxA rfl rfl ?_;intro _ _ _)|(refine lo_box1 rfl rfl rfl ?_;intro _ _ _)|(refine lo_alloc rfl ?_;intro _ _ _))
  refine lo_call (n_call rfl) rfl (fun w' hw => offset_calls (p := q) (hw.org.cell (blk_cell hbx) id) (Kn.sl hw.org hx) (by omega) hq) ?_
  unfold betR
  by_cases h1 : thereP L p
  case neg =>
    rw [if_neg h1, if_neg h1, if_pos (show ¬ thereP L p ∨ ¬ thereP L q from Or.inl h1)]
    repeat(first|refine lrun_ ?_|(refine lo_boxA rfl rfl ?_;intro _ _ _)|(refine lo_box1 rfl rfl rfl ?_;intro _ _ _)|(refine lo_alloc rfl ?_;intro _ _ _))
    refine l_true rfl ?_
    repeat(first|refine lrun_ ?_|(refine lo_boxA rfl rfl ?_;intro _ _ _)|(refine lo_box1 rfl rfl rfl ?_;intro _ _ _)|(refine lo_alloc rfl ?_;intro _ _ _))
    exact l_retR3 rfl (by repeat(first|exact LRes.nil|refine LRes.tmp rfl ?_|refine LRes.agg rfl (by(repeat(first|exact MIn.hd|refine MIn.tl ?_));done) (by rfl) (by rfl) ?_|refine LRes.one rfl (by(repeat(first|exact MIn.hd|refine MIn.tl ?_));done) (by rfl) ?_)) fun w' hw => ⟨hw.org, rfl⟩
  by_cases h2 : thereP L q
  case neg =>
    rw [if_neg h2, if_neg h2, if_pos h1, if_pos h1, if_pos (show ¬ thereP L p ∨ ¬ thereP L q from Or.inr h2)]
    repeat(first|refine lrun_ ?_|(refine lo_boxA rfl rfl ?_;intro _ _ _)|(refine lo_box1 rfl rfl rfl ?_;intro _ _ _)|(refine lo_alloc rfl ?_;intro _ _ _))
    refine l_true rfl ?_
    repeat(first|refine lrun_ ?_|(refine lo_boxA rfl rfl ?_;intro _ _ _)|(refine lo_box1 rfl rfl rfl ?_;intro _ _ _)|(refine lo_alloc rfl ?_;intro _ _ _))
    exact l_retR3 rfl (by repeat(first|exact LRes.nil|refine LRes.tmp rfl ?_|refine LRes.agg rfl (by(repeat(first|exact MIn.hd|refine MIn.tl ?_));done) (by rfl) (by rfl) ?_|refine LRes.one rfl (by(repeat(first|exact MIn.hd|refine MIn.tl ?_));done) (by rfl) ?_)) fun w' hw => ⟨hw.org, rfl⟩
  rw [if_pos h2, if_pos h2, if_pos h1, if_pos h1, ofP_eq h1, ofP_eq h2, if_neg (show ¬ (¬ thereP L p ∨ ¬ thereP L q) from fun h => h.elim (fun h => h h1) fun h => h h2)]
  repeat(first|refine lrun_ ?_|(refine lo_boxA rfl rfl ?_;intro _ _ _)|(refine lo_box1 rfl rfl rfl ?_;intro _ _ _)|(refine lo_alloc rfl ?_;intro _ _ _))
  refine l_false rfl ?_
  refine l_go .skip ?_
  repeat(first|refine lrun_ ?_|(refine lo_boxA rfl rfl ?_;intro _ _ _)|(refine lo_box1 rfl rfl rfl ?_;intro _ _ _)|(refine lo_alloc rfl ?_;intro _ _ _))
  by_cases h3 : ofP L q < ofP L p
  · rw [if_pos h3]
    refine l_yes rfl (by omega) ?_
    repeat(first|refine lrun_ ?_|(refine lo_boxA rfl rfl ?_;intro _ _ _)|(refine lo_box1 rfl rfl rfl ?_;intro _ _ _)|(refine lo_alloc rfl ?_;intro _ _ _))
    exact l_retR3 rfl (by repeat(first|exact LRes.nil|refine LRes.tmp rfl ?_|refine LRes.agg rfl (by(repeat(first|exact MIn.hd|refine MIn.tl ?_));done) (by rfl) (by rfl) ?_|refine LRes.one rfl (by(repeat(first|exact MIn.hd|refine MIn.tl ?_));done) (by rfl) ?_)) fun w' hw => ⟨hw.org, rfl⟩
  · rw [if_neg h3]
    refine l_no rfl (by omega) ?_
    refine l_go .skip ?_
    repeat(first|refine lrun_ ?_|(refine lo_boxA rfl rfl ?_;intro _ _ _)|(refine lo_box1 rfl rfl rfl ?_;intro _ _ _)|(refine lo_alloc rfl ?_;intro _ _ _))
    exact l_retR3 rfl (by repeat(first|exact LRes.nil|refine LRes.tmp rfl ?_|refine LRes.agg rfl (by(repeat(first|exact MIn.hd|refine MIn.tl ?_));done) (by rfl) (by rfl) ?_|refine LRes.one rfl (by(repeat(first|exact MIn.hd|refine MIn.tl ?_));done) (by rfl) ?_)) fun w' hw => ⟨hw.org, rfl⟩
theorem betR_zero {p q : Ps} (h : (betM L p q).2.2 = 0) : ofP L p ≤ ofP L q ∧ ofP L q ≤ (jndM L).length ∧ betR L p q = ((ofP L p : Int), (ofP L q : Int), 0) := by
  unfold betM at h
  unfold betR
  by_cases h1 : ¬ thereP L p ∨ ¬ thereP L q
  · rw [if_pos h1] at h; cases h
  rw [if_neg h1] at h ⊢
  by_cases h2 : ofP L q < ofP L p
  · rw [if_pos h2] at h; cases h
  rw [if_neg h2]
  have h3 : thereP L q := Classical.byContradiction fun h => h1 (.inr h)
  exact ⟨by omega, ofP_le h3, rfl⟩
set_option maxHeartbeats 4000000 in
theorem sliceR_calls {p q : Ps} (h : IsRef D g w L) (hb : runesM L + L.length ≤ 65537) (hp : P64 p) (hq : P64 q) :
    CallsR Try.prog 42 #[.pointer (some ⟨g, 0, none⟩), posV p, posV q] w fun u w' => Kn w w' ∧ ∃ v, u = .tuple #[v, .int .i64 (sliT L p q).2] ∧ Sl kRune (noB w) w' v (sliT L p q).1 := by
  obtain ⟨hD, vx, Fx, hbx, hx, hFx⟩ := id h
  have hjl := jnd_len L
  refine l_enter (args := [.pointer (some ⟨g, 0, none⟩), posV p, posV q]) (fun _ => False) Try.func42 rfl rfl ?_
  have c0 : w.cell? ⟨g, 0, none⟩ = some vx := blk_cell hbx
  repeat(first|refine lrun_ ?_|(refine lo_boxA rfl rfl ?_;intro _ _ _)|(refine lo_box1 rfl rfl rfl ?_;intro _ _ _)|(refine lo_alloc rfl ?_;intro _ _ _))
  refine lo_call (n_call rfl) rfl (fun w' hw => betweenR_calls (p := p) (q := q) (h.kn hw.org) hb hp hq) ?_
  unfold sliT
  by_cases he : (betM L p q).2.2 = 0
  case neg =>
    have he' := betR_e L p q
    rw [if_neg he]
    repeat(first|refine lrun_ ?_|(refine lo_boxA rfl rfl ?_;intro _ _ _)|(refine lo_box1 rfl rfl rfl ?_;intro _ _ _)|(refine lo_alloc rfl ?_;intro _ _ _))
    refine l_yes rfl (by omega) ?_
    repeat(first|refine lrun_ ?_|(refine lo_boxA rfl rfl ?_;intro _ _ _)|(refine lo_box1 rfl rfl rfl ?_;intro _ _ _)|(refine lo_alloc rfl ?_;intro _ _ _))
    exact l_retR2 rfl (by repeat(first|exact LRes.nil|refine LRes.tmp rfl ?_|refine LRes.agg rfl (by(repeat(first|exact MIn.hd|refine MIn.tl ?_));done) (by rfl) (by rfl) ?_|refine LRes.one rfl (by(repeat(first|exact MIn.hd|refine MIn.tl ?_));done) (by rfl) ?_)) fun w' hw => ⟨hw.org, _, by rw [he'], Sl.nil _ _ _⟩
  rw [if_pos he]
  obtain ⟨h1, h2, h3⟩ := betR_zero he
  rw [h3]
  repeat(first|refine lrun_ ?_|(refine lo_boxA rfl rfl ?_;intro _ _ _)|(refine lo_box1 rfl rfl rfl ?_;intro _ _ _)|(refine lo_alloc rfl ?_;intro _ _ _))
  refine l_false rfl ?_
  refine l_go .skip ?_
  repeat(first|refine lrun_ ?_|(refine lo_boxA rfl rfl ?_;intro _ _ _)|(refine lo_box1 rfl rfl rfl ?_;intro _ _ _)|(refine lo_alloc rfl ?_;intro _ _ _))
  refine lo_callM (n_call rfl) rfl (fun w' hw => joined_calls (Kn.sl hw.org hx) (by omega)) ?_
  intro w1 u w2 hw1 kn1 ko1 hOX
  have hs1 := hw1.org.size
  obtain ⟨Ax, cx, rfl, hcx, _⟩ := hOX.form
  repeat(first|refine lrun_ ?_|(refine lo_boxA rfl rfl ?_;intro _ _ _)|(refine lo_box1 rfl rfl rfl ?_;intro _ _ _)|(refine lo_alloc rfl ?_;intro _ _ _))
  refine lo_rn (fun _ => r_slice rfl (ofP L p) (ofP L q) cx rfl ⟨_, rfl⟩ ⟨_, rfl⟩ h1 (by omega) (Nat.le_refl _)) rfl ?_
  repeat(first|refine lrun_ ?_|(refine lo_boxA rfl rfl ?_;intro _ _ _)|(refine lo_box1 rfl rfl rfl ?_;intro _ _ _)|(refine lo_alloc rfl ?_;intro _ _ _))
  refine l_retR2 rfl (by repeat(first|exact LRes.nil|refine LRes.tmp rfl ?_|refine LRes.agg rfl (by(repeat(first|exact MIn.hd|refine MIn.tl ?_));done) (by rfl) (by rfl) ?_|refine LRes.one rfl (by(repeat(first|exact MIn.hd|refine MIn.tl ?_));done) (by rfl) ?_)) fun w' hw => ⟨hw.org, _, rfl, ?_⟩
  have hX := (hOX.slF (fun _ h => h) fun _ h => h.elim).mono (F' := fun k => noB w1 k ∧ k < w2.heap.size) fun k hk hl => ⟨hk, hl⟩
  have hX' := (Kp.sl hw.kp hX fun k hk hm => by have := hw1.lt hm; have := hk.1; unfold noB at this; omega).mono (F' := noB w) fun k hk _ => by have := hk.1; unfold noB at *; omega
  have := Sl.cutV hX' h1 h2 (Nat.le_trans h2 hcx) (Nat.le_refl _)
  rwa [List.drop_take] at this
set_option maxHeartbeats 8000000 in
theorem deleteR_calls {p q : Ps} (h : IsRef D g w L) (hL : L ≠ []) (hb : runesM L + L.length ≤ 65537) (hp : P64 p) (hq : P64 q) :
    CallsR Try.prog 41 #[.pointer (some ⟨g, 0, none⟩), posV p, posV q] w (RefQ D g w (delT L p q).1 (delT L p q).2) := by
  obtain ⟨hD, vx, Fx, hbx, hx, hFx⟩ := id h
  have hjl := jnd_len L
  have hL0 := List.length_pos_iff.2 hL
  refine l_enterM (args := [.pointer (some ⟨g, 0, none⟩), posV p, posV q]) (S := fun k => k = g) hbx rfl Try.func41 rfl rfl ?_
  repeat(first|refine lrun_ ?_|(refine lo_boxA rfl rfl ?_;intro _ _ _)|(refine lo_box1 rfl rfl rfl ?_;intro _ _ _)|(refine lo_alloc rfl ?_;intro _ _ _))
  rename_i g4 hg4 hg4' g5 hg5 hg5'
  refine lo_call (n_call rfl) rfl (fun w' hw => betweenR_calls (p := p) (q := q) ⟨hD, vx, Fx, hw.mem g _ (.tl (.tl .hd)), Kp.sl hw.org hx fun k hk e => (hFx k hk).2 e, hFx⟩ hb hp hq) ?_
  unfold delT
  by_cases he : (betM L p q).2.2 = 0
  case neg =>
    have he' := betR_e L p q
    rw [if_neg he]
    repeat(first|refine lrun_ ?_|(refine lo_boxA rfl rfl ?_;intro _ _ _)|(refine lo_box1 rfl rfl rfl ?_;intro _ _ _)|(refine lo_alloc rfl ?_;intro _ _ _))
    refine l_yes rfl (by omega) ?_
    repeat(first|refine lrun_ ?_|(refine lo_boxA rfl rfl ?_;intro _ _ _)|(refine lo_box1 rfl rfl rfl ?_;intro _ _ _)|(refine lo_alloc rfl ?_;intro _ _ _))
    exact l_ret1 rfl rfl fun w' hw => ⟨hw.org, by rw [he'], .inl hD, vx, Fx, hw.mem g _ (.tl (.tl .hd)), Kp.sl hw.org hx fun k hk e => (hFx k hk).2 e, fun k hk => ⟨.inl (hFx k hk).1, (hFx k hk).2⟩⟩
  rw [if_pos he]
  obtain ⟨h1, h2, h3⟩ := betR_zero he
  rw [h3]
  have hc : chgM L (ofP L p) (ofP L q - ofP L p) [] = (splitM ((jndM L).take (ofP L p) ++ (jndM L).drop (ofP L q)), 0) := by
    unfold chgM
    rw [if_neg (by simp only [List.length_nil]; omega)]
    unfold chgY
    rw [List.append_nil, show ofP L p + (ofP L q - ofP L p) = ofP L q by omega]
  rw [hc]
  repeat(first|refine lrun_ ?_|(refine lo_boxA rfl rfl ?_;intro _ _ _)|(refine lo_box1 rfl rfl rfl ?_;intro _ _ _)|(refine lo_alloc rfl ?_;intro _ _ _))
  refine l_false rfl ?_
  refine l_go .skip ?_
  repeat(first|refine lrun_ ?_|(refine lo_boxA rfl rfl ?_;intro _ _ _)|(refine lo_box1 rfl rfl rfl ?_;intro _ _ _)|(refine lo_alloc rfl ?_;intro _ _ _))
  refine lo_callM (n_call rfl) rfl (fun w' hw => joined_calls (Kp.sl hw.org hx fun k hk e => (hFx k hk).2 e) (by omega)) ?_
  intro w1 u w2 hw1 kn1 ko1 hOX
  have hs1 := hw1.org.size
  have hs2 := kn1.size
  obtain ⟨Ax, cx, rfl, hcx, _⟩ := hOX.form
  have hX : HdF kRune (fun k => noB w1 k ∧ k < w2.heap.size) w2 (MK [(g5, cb [.int .i64 q.1, .int .i64 q.2] 29), (g4, cb [.int .i64 p.1, .int .i64 p.2] 29), (g, cb [vx] 57)]) (.slice Ax (jndM L).length cx) (jndM L) := ⟨(hOX.slF (fun _ h => h) fun _ h => h.elim).mono fun k hk hl => ⟨hk, hl⟩, fun k hk => ⟨fun hm => by have := hw1.lt hm; have := hk.1; unfold noB at this; omega, hk.2⟩⟩
  clear hOX
  have hxl : (jndM L).length ≤ 65536 := by omega
  generalize jndM L = x at *
  generalize ofP L p = a at *
  generalize ofP L q = b at *
  repeat(first|refine lrun_ ?_|(refine lo_boxA rfl rfl ?_;intro _ _ _)|(refine lo_box1 rfl rfl rfl ?_;intro _ _ _)|(refine lo_alloc rfl ?_;intro _ _ _))
  refine lo_appendS (d := kRune) (xs := []) (ys := x.take a) (F2 := fun k => noB w1 k ∧ k < w2.heap.size) rfl rfl (Ow.nil _ _ _ _) (fun w' hw' => (hX.now hw').pre (by omega) (by omega)) (fun j hj ho => by cases ho) (by rw [List.length_take]; show (0 + min a x.length) * 4 ≤ 140737488355328; omega) rfl rfl rfl rfl ?_
  intro w3 A3 n3 w4 hw3 ko3 kp3 hown3 hY3
  rw [List.nil_append] at hown3 hY3 ⊢
  have hs4 := kp3.size
  have hX4 := hX.nextB kp3 (fun k hk e => e.elim (hX.2 k hk).1 fun e => by cases e) (fun k hk => (hX.2 k hk).1)
  have hb3 : ∀ k, (Value.slice A3 (x.take a).length n3).ownBlock = some k → w2.heap.size ≤ k := fun k hk => (hown3 k hk).elim (fun e => by cases e) id
  repeat(first|refine lrun_ ?_|(refine lo_boxA rfl rfl ?_;intro _ _ _)|(refine lo_box1 rfl rfl rfl ?_;intro _ _ _)|(refine lo_alloc rfl ?_;intro _ _ _))
  refine lo_suf (j := b) rfl rfl rfl h2 hcx rfl ?_
  refine lo_appendS (d := kRune) (xs := x.take a) (ys := x.drop b) (F2 := fun k => noB w1 k ∧ k < w2.heap.size) rfl rfl hY3 (fun w' hw' => by
      have := Sl.cutV (hX4.now hw') h2 (Nat.le_refl _) hcx (Nat.le_refl _)
      rwa [List.take_length] at this) (fun j hj ho => by have := hb3 j ho; omega) (by rw [List.length_take, List.length_drop]; show (min a x.length + (x.length - b)) * 4 ≤ 140737488355328; omega) rfl rfl rfl rfl ?_
  intro w7 A7 n7 w8 hw7 ko7 kp7 hown7 hY7
  have hyl : (x.take a ++ x.drop b).length ≤ x.length := by simp only [List.length_append, List.length_take, List.length_drop]; omega
  refine lo_callM (n_call rfl) rfl (fun w' hw => split_calls ((hY7.now (fun _ h => h.elim) hw).sl) (by omega)) ?_
  intro w9 u9 w10 hw9 kn9 ko9 hO
  have hs9 := hw9.org.size
  obtain ⟨A9, c9, rfl, _⟩ := hO.form
  have hO' := (hO.slF (fun _ h => h) fun _ h => h).mono (F' := fun k => noB w9 k ∧ k < w10.heap.size) fun k hk hl => ⟨hk, hl⟩
  repeat(first|refine lrun_ ?_|(refine lo_boxA rfl rfl ?_;intro _ _ _)|(refine lo_box1 rfl rfl rfl ?_;intro _ _ _)|(refine lo_alloc rfl ?_;intro _ _ _))
  refine l_ret1 rfl rfl fun w' hw => ⟨hw.org, rfl, ?_⟩
  have hg9 : g < w9.heap.size := hw9.lt ⟨_, .tl (.tl .hd)⟩
  exact ⟨.inl hD, _, fun k => noB w9 k ∧ k < w10.heap.size, hw.mem g _ (.tl (.tl .hd)), Kp.sl hw.kp hO' fun k hk hm => by
    have := hw9.lt hm; have := hk.1; unfold noB at this; omega, fun k hk => ⟨.inr (by have := hk.1; unfold noB at this; omega), by have := hk.1; unfold noB at this; omega⟩⟩
end
end Go.Ink

set_option linter.unusedVariables false
set_option linter.unusedSimpArgs false
namespace Go.Ink
open Go Go.Proofs Go.RowKit

section
variable {D F : Nat → Prop} {g : Nat} {w : World} {L l : List (List Int)} {v : Value}
theorem badR_out {i n : Int} (h : badR L i n) : repT L i n l = (L, 2) := by unfold repT; rw [if_pos h]
theorem repT_plain {i n : Nat} (hin : i + n ≤ L.length) (hp : plainB l = false) : repT L i n l = (L, 1) := by
  unfold repT
  rw [if_neg (by unfold badR; omega), hp]
  rfl
theorem repT_law {i n : Nat} (hpl : ∀ x ∈ L, 10 ∉ x) (hL : L ≠ []) (hjb : (jndM L).length ≤ 65536) (hin : i + n ≤ L.length) (hp : plainB l = true) : repT L i n l = if 65536 < cntM (newL (L.take i ++ l ++ L.drop (i + n))) then (L, 3) else (newL (L.take i ++ l ++ L.drop (i + n)), 0) := by
  have h1 := cnt_jnd (newL_ne (L.take i ++ l ++ L.drop (i + n)))
  have h2 := rep_law hpl hL hjb hin (plain_iff.1 hp)
  unfold repT
  rw [if_neg (by unfold badR; omega), hp, if_pos rfl, Int.toNat_natCast, Int.toNat_natCast, h2, h1]
  unfold repR
  by_cases h3 : 65536 < (jndM (newL (L.take i ++ l ++ L.drop (i + n)))).length
  · rw [if_pos h3, if_pos (by omega)]
  · rw [if_neg h3, if_neg (by omega)]
set_option maxHeartbeats 8000000 in
theorem repl_end {w B : World} {K Fx FY : Nat → Prop} {vx : Value} {A : Option Addr} {c : Nat} {X : List (List Int)} (hD : D g) (hx : Sl kRow Fx w vx L) (hFx : ∀ k, Fx k → D k ∧ k ≠ g) (hY : Og kRow w B K FY (.slice A X.length c) X) (hFY : ∀ k, FY k → w.heap.size ≤ k ∧ ¬ K k) (hgB : g < w.heap.size) (hb : runesM X + X.length ≤ 1099511627776) :
    ∀ σ', SubB σ' [(0, .pointer (some ⟨g, 0, none⟩)), (9, .slice A X.length c)] → ∀ M', MSub [(g, cb [vx] 57)] M' →
      WL Try.prog Try.f43 (.code (bodyC Try.f43 [1, 1, 1, 1, 1, 1, 1]) :: []) σ' w (fun k => k = g) B K M' (RefQ D g w (if 65536 < cntM (newL X) then (L, (3 : Int)) else (newL X, (0 : Int))).1 (if 65536 < cntM (newL X) then (L, 3) else (newL X, (0 : Int))).2) := by
  intro σ' hs M' hM
  refine WL.sub hs hM ?_
  have J : ∀ (B2 : World) (K2 FZ : Nat → Prop) (A2 : Option Addr) (c2 : Nat), Sl kRow FZ B2 (.slice A2 (newL X).length c2) (newL X) → (∀ k, FZ k → w.heap.size ≤ k ∧ ¬ K2 k) → ∀ σ', SubB σ' [(0, .pointer (some ⟨g, 0, none⟩)), (9, .slice A2 (newL X).length c2)] → ∀ M', MSub [(g, cb [vx] 57)] M' →
      WL Try.prog Try.f43 (.code (bodyC Try.f43 [1, 1, 1, 1, 1, 1, 1, 1]) :: []) σ' w (fun k => k = g) B2 K2 M' (RefQ D g w (if 65536 < cntM (newL X) then (L, (3 : Int)) else (newL X, (0 : Int))).1 (if 65536 < cntM (newL X) then (L, 3) else (newL X, (0 : Int))).2) := by
    intro B2 K2 FZ A2 c2 hZ hFZ σ' hs M' hM
    refine WL.sub hs hM ?_
    have hnb : runesM (newL X) + (newL X).length ≤ 1099511627776 := by
      unfold newL
      split
      · decide
      · exact hb
    repeat(first|refine lrun_ ?_|(refine lo_boxA rfl rfl ?_;intro _ _ _)|(refine lo_box1 rfl rfl rfl ?_;intro _ _ _)|(refine lo_alloc rfl ?_;intro _ _ _))
    refine lo_call (n_call rfl) rfl (fun w' hw => runesG_calls (Kp.sl hw.kp hZ fun k hk => (hFZ k hk).2) hnb) ?_
    by_cases hf : 65536 < cntM (newL X)
    · rw [if_pos hf]
      repeat(first|refine lrun_ ?_|(refine lo_boxA rfl rfl ?_;intro _ _ _)|(refine lo_box1 rfl rfl rfl ?_;intro _ _ _)|(refine lo_alloc rfl ?_;intro _ _ _))
      refine l_yes rfl hf ?_
      repeat(first|refine lrun_ ?_|(refine lo_boxA rfl rfl ?_;intro _ _ _)|(refine lo_box1 rfl rfl rfl ?_;intro _ _ _)|(refine lo_alloc rfl ?_;intro _ _ _))
      exact l_ret1 rfl rfl fun w' hw => ⟨hw.org, rfl, .inl hD, vx, Fx, hw.mem g _ .hd, Kp.sl hw.org hx fun k hk e => (hFx k hk).2 e, fun k hk => ⟨.inl (hFx k hk).1, (hFx k hk).2⟩⟩
    · rw [if_neg hf]
      repeat(first|refine lrun_ ?_|(refine lo_boxA rfl rfl ?_;intro _ _ _)|(refine lo_box1 rfl rfl rfl ?_;intro _ _ _)|(refine lo_alloc rfl ?_;intro _ _ _))
      refine l_no rfl hf ?_
      refine l_go .skip ?_
      repeat(first|refine lrun_ ?_|(refine lo_boxA rfl rfl ?_;intro _ _ _)|(refine lo_box1 rfl rfl rfl ?_;intro _ _ _)|(refine lo_alloc rfl ?_;intro _ _ _))
      refine l_ret1 rfl rfl fun w' hw => ⟨hw.org, rfl, .inl hD, _, FZ, hw.mem g _ .hd, Kp.sl hw.kp hZ fun k hk => (hFZ k hk).2, fun k hk => ⟨.inr (hFZ k hk).1, by have := (hFZ k hk).1; omega⟩⟩
  by_cases h0 : X = []
  · have h00 : X.length = 0 := by rw [h0]; rfl
    have hn : newL X = [[]] := by rw [h0]; rfl
    repeat(first|refine lrun_ ?_|(refine lo_boxA rfl rfl ?_;intro _ _ _)|(refine lo_box1 rfl rfl rfl ?_;intro _ _ _)|(refine lo_alloc rfl ?_;intro _ _ _))
    refine l_yes rfl (by omega) ?_
    repeat(first|refine lrun_ ?_|(refine lo_boxA rfl rfl ?_;intro _ _ _)|(refine lo_box1 rfl rfl rfl ?_;intro _ _ _)|(refine lo_alloc rfl ?_;intro _ _ _))
    refine lo_lit (cs := [.slice none 0 0]) rfl (by decide) (by kernel_rfl) rfl ?_
    intro g1 hg1 hg1'
    repeat(first|refine lops_ ?_|(refine lo_boxA rfl rfl ?_;intro _ _ _)|(refine lo_box1 rfl rfl rfl ?_;intro _ _ _)|(refine lo_alloc rfl ?_;intro _ _ _))
    refine lo_nil ?_
    refine l_baseM (M3 := [(g, cb [vx] 57)]) (by repeat(first|exact MSub.refl|refine MSub.keep rfl ?_|exact MSub.nil|apply MSub.drop)) fun w3 hw3 => ?_
    have hnd := hw3.nd
    simp at hnd
    rw [hn] at J ⊢
    exact J w3 _ (fun k => k = g1) (some ⟨g1, 0, none⟩) 1 (sl_lines1 (hw3.mem g1 _ .hd) rfl (Sl.nil _ _ _)) (fun k hk => ⟨by omega, fun ⟨o, hm⟩ => by cases hm with
      | hd => omega
      | tl h => cases h⟩) _ (by repeat (first | exact SubB.nil | refine SubB.cons rfl ?_)) _ (by repeat(first|exact MSub.refl|refine MSub.keep rfl ?_|exact MSub.nil|apply MSub.drop))
  · have h00 := List.length_pos_iff.2 h0
    have hn : newL X = X := newL_pos h0
    repeat(first|refine lrun_ ?_|(refine lo_boxA rfl rfl ?_;intro _ _ _)|(refine lo_box1 rfl rfl rfl ?_;intro _ _ _)|(refine lo_alloc rfl ?_;intro _ _ _))
    refine l_no rfl (by omega) ?_
    refine l_go .skip ?_
    rw [hn] at J ⊢
    exact J B K (fun k => w.heap.size ≤ k ∧ ¬ K k) A c (hY.slF (fun k hk => hk) fun k hk => hFY k hk) (fun k hk => hk) _ (by repeat (first | exact SubB.nil | refine SubB.cons rfl ?_)) _ (by repeat(first|exact MSub.refl|refine MSub.keep rfl ?_|exact MSub.nil|apply MSub.drop))
theorem Og.nextN {α : Type} {d : Kd α} {O B w w' : World} {S K F : Nat → Prop} {M : Mm} {v : Value} {xs : List α} (h : Og d O B K F v xs) (hF : ∀ k, F k → ¬ K k ∧ k < B.heap.size) (hw : Lw O S B K M w) (kn : Kn w w') : Og d O w' (MK M) F v xs := by
  have h1 := Kn.ow kn (h.now (fun k hk => (hF k hk).1) hw)
  have hb := h.block
  obtain ⟨cells, h2, h3, h4⟩ := h1
  refine ⟨cells, h2, h3, h4.imp id ?_⟩
  rintro ⟨g, o, cap, cur, e, rfl, hg, h5⟩
  exact ⟨g, o, cap, cur, e, rfl, ⟨hg.1, hw.apart hg.2 (hb g rfl).2⟩, h5⟩
set_option maxHeartbeats 8000000 in
theorem replaceR_calls {i n : Int} (h : IsRef D g w L) (hpl : ∀ x ∈ L, 10 ∉ x) (hL : L ≠ []) (hb : runesM L + L.length ≤ 65537) (hi : -9223372036854775808 ≤ i ∧ i ≤ 9223372036854775807) (hn : -9223372036854775808 ≤ n ∧ n ≤ 9223372036854775807) (hl : Sl kRow F w v l) (hF : ∀ k, F k → k < w.heap.size → k ≠ g) (hlb : runesM l + l.length ≤ 65536) :
    CallsR Try.prog 43 #[.pointer (some ⟨g, 0, none⟩), .int .i64 i, .int .i64 n, v] w (RefQ D g w (repT L i n l).1 (repT L i n l).2) := by
  obtain ⟨hD, vx, Fx, hbx, hx, hFx⟩ := id h
  have hl' := hl.mono (F' := fun k => F k ∧ k < w.heap.size) fun k hk hl => ⟨hk, hl⟩
  obtain ⟨A, c, rfl, hcA, hfA⟩ := hx.form
  have hlA := hfA.len
  have hjl := jnd_len L
  have hL0 := List.length_pos_iff.2 hL
  have hgw := blk_lt hbx
  refine l_enterM (args := [.pointer (some ⟨g, 0, none⟩), .int .i64 i, .int .i64 n, v]) (S := fun k => k = g) hbx rfl Try.func43 rfl rfl ?_
  have hout : ∀ {u : Int} {B K M'}, MSub [(g, cb [.slice A L.length c] 57)] M' → ∀ w', Lw w (fun k => k = g) B K M' w' → RefQ D g w L u (.int .i64 u) w' := fun hs w' hw => ⟨hw.org, rfl, .inl hD, _, Fx, hw.mem g _ (hs.mem .hd), Kp.sl hw.org hx fun k hk e => (hFx k hk).2 e, fun k hk => ⟨.inl (hFx k hk).1, (hFx k hk).2⟩⟩
  by_cases hbad : badR L i n
  · rw [badR_out hbad]
    by_cases h1 : i < 0
    · repeat(first|refine lrun_ ?_|(refine lo_boxA rfl rfl ?_;intro _ _ _)|(refine lo_box1 rfl rfl rfl ?_;intro _ _ _)|(refine lo_alloc rfl ?_;intro _ _ _))
      refine l_true rfl ?_
      repeat(first|refine lrun_ ?_|(refine lo_boxA rfl rfl ?_;intro _ _ _)|(refine lo_box1 rfl rfl rfl ?_;intro _ _ _)|(refine lo_alloc rfl ?_;intro _ _ _))
      exact l_ret1 rfl rfl (hout (by repeat(first|exact MSub.refl|refine MSub.keep rfl ?_|exact MSub.nil|apply MSub.drop)))
    by_cases h2 : (L.length : Int) < i
    · repeat(first|refine lrun_ ?_|(refine lo_boxA rfl rfl ?_;intro _ _ _)|(refine lo_box1 rfl rfl rfl ?_;intro _ _ _)|(refine lo_alloc rfl ?_;intro _ _ _))
      refine l_true rfl ?_
      repeat(first|refine lrun_ ?_|(refine lo_boxA rfl rfl ?_;intro _ _ _)|(refine lo_box1 rfl rfl rfl ?_;intro _ _ _)|(refine lo_alloc rfl ?_;intro _ _ _))
      exact l_ret1 rfl rfl (hout (by repeat(first|exact MSub.refl|refine MSub.keep rfl ?_|exact MSub.nil|apply MSub.drop)))
    by_cases h3 : n < 0
    · repeat(first|refine lrun_ ?_|(refine lo_boxA rfl rfl ?_;intro _ _ _)|(refine lo_box1 rfl rfl rfl ?_;intro _ _ _)|(refine lo_alloc rfl ?_;intro _ _ _))
      refine l_true rfl ?_
      repeat(first|refine lrun_ ?_|(refine lo_boxA rfl rfl ?_;intro _ _ _)|(refine lo_box1 rfl rfl rfl ?_;intro _ _ _)|(refine lo_alloc rfl ?_;intro _ _ _))
      exact l_ret1 rfl rfl (hout (by repeat(first|exact MSub.refl|refine MSub.keep rfl ?_|exact MSub.nil|apply MSub.drop)))
    · repeat(first|refine lrun_ ?_|(refine lo_boxA rfl rfl ?_;intro _ _ _)|(refine lo_box1 rfl rfl rfl ?_;intro _ _ _)|(refine lo_alloc rfl ?_;intro _ _ _))
      refine l_yes rfl (by unfold badR at hbad; omega) ?_
      repeat(first|refine lrun_ ?_|(refine lo_boxA rfl rfl ?_;intro _ _ _)|(refine lo_box1 rfl rfl rfl ?_;intro _ _ _)|(refine lo_alloc rfl ?_;intro _ _ _))
      exact l_ret1 rfl rfl (hout (by repeat(first|exact MSub.refl|refine MSub.keep rfl ?_|exact MSub.nil|apply MSub.drop)))
  unfold badR at hbad
  obtain ⟨i, rfl⟩ : ∃ m : Nat, i = (m : Int) := ⟨i.toNat, by omega⟩
  obtain ⟨n, rfl⟩ : ∃ m : Nat, n = (m : Int) := ⟨n.toNat, by omega⟩
  have hin : i + n ≤ L.length := by omega
  repeat(first|refine lrun_ ?_|(refine lo_boxA rfl rfl ?_;intro _ _ _)|(refine lo_box1 rfl rfl rfl ?_;intro _ _ _)|(refine lo_alloc rfl ?_;intro _ _ _))
  refine l_no rfl (by omega) ?_
  refine l_go .skip ?_
  repeat(first|refine lrun_ ?_|(refine lo_boxA rfl rfl ?_;intro _ _ _)|(refine lo_box1 rfl rfl rfl ?_;intro _ _ _)|(refine lo_alloc rfl ?_;intro _ _ _))
  refine lo_call (n_call rfl) rfl (fun w' hw => plain04_calls (Kp.sl hw.org hl' fun k hk e => hF k hk.1 hk.2 e)) ?_
  cases hp : plainB l
  case false =>
    rw [repT_plain hin hp]
    repeat(first|refine lrun_ ?_|(refine lo_boxA rfl rfl ?_;intro _ _ _)|(refine lo_box1 rfl rfl rfl ?_;intro _ _ _)|(refine lo_alloc rfl ?_;intro _ _ _))
    refine l_true rfl ?_
    repeat(first|refine lrun_ ?_|(refine lo_boxA rfl rfl ?_;intro _ _ _)|(refine lo_box1 rfl rfl rfl ?_;intro _ _ _)|(refine lo_alloc rfl ?_;intro _ _ _))
    exact l_ret1 rfl rfl (hout (by repeat(first|exact MSub.refl|refine MSub.keep rfl ?_|exact MSub.nil|apply MSub.drop)))
  rw [repT_law hpl hL (by omega) hin hp]
  clear hout
  repeat(first|refine lrun_ ?_|(refine lo_boxA rfl rfl ?_;intro _ _ _)|(refine lo_box1 rfl rfl rfl ?_;intro _ _ _)|(refine lo_alloc rfl ?_;intro _ _ _))
  refine l_false rfl ?_
  refine l_go .skip ?_
  repeat(first|refine lrun_ ?_|(refine lo_boxA rfl rfl ?_;intro _ _ _)|(refine lo_box1 rfl rfl rfl ?_;intro _ _ _)|(refine lo_alloc rfl ?_;intro _ _ _))
  refine lo_callM (n_call rfl) rfl (fun w' hw => twinT_calls ((Kp.sl hw.org hx fun k hk e => (hFx k hk).2 e).pre (by omega) (by omega))) ?_
  rintro w1 u1 w2 hw1 kn1 ko1 ⟨us1, hT1⟩
  have hO1 := hT1.ow fun _ _ => trivial
  obtain ⟨A1, c1, rfl, _⟩ := hO1.form
  have hs1 := hw1.org.size
  have hs2 := kn1.size
  have hX1 : HdF kRow (fun k => noB w1 k ∧ k < w2.heap.size) w2 (MK [(g, cb [.slice A L.length c] 57)]) (.slice A1 (L.take i).length c1) (L.take i) := ⟨(hO1.slF (fun _ h => h) fun _ h => h).mono fun k hk hl => ⟨hk, hl⟩, fun k hk => ⟨fun hm => by have := hw1.lt hm; have := hk.1; unfold noB at this; omega, hk.2⟩⟩
  clear hT1 hO1
  have hgK : ∀ {k : Nat}, MK [(g, cb [.slice A L.length c] 57)] k → k < w.heap.size := fun hm => by
    obtain ⟨o, hm⟩ := hm
    cases hm with
    | hd => exact hgw
    | tl h => cases h
  refine lo_append (d := kRow) (xs := []) (ys := L.take i) (F := fun _ => False) (F2 := fun k => noB w1 k ∧ k < w2.heap.size) rfl rfl (Ow.nil _ _ _ _) (fun _ h => h.elim) (fun w' hw' => hX1.now hw') (fun j hj ho => by cases ho) (by rw [List.length_take]; show (0 + min i L.length) * 24 ≤ 140737488355328; omega) rfl rfl rfl rfl ?_
  intro w3 v3 w4 hw3 ko3 kp3 hown3 hY3
  obtain ⟨A3, c3, rfl, _⟩ := hY3.form
  rw [List.nil_append] at hY3 hown3 ⊢
  have hs4 := kp3.size
  replace hY3 := hY3.mono (F' := fun k => w.heap.size ≤ k ∧ k < w4.heap.size) (fun k hk _ => hk) fun k hk hl => ⟨hk.elim (fun h => h.elim) fun hk => by have := hk.1; unfold noB at this; omega, hl⟩
  repeat(first|refine lrun_ ?_|(refine lo_boxA rfl rfl ?_;intro _ _ _)|(refine lo_box1 rfl rfl rfl ?_;intro _ _ _)|(refine lo_alloc rfl ?_;intro _ _ _))
  refine lo_callM (n_call rfl) rfl (fun w' hw => twinT_calls (Kp.sl hw.org hl' fun k hk e => hF k hk.1 hk.2 e)) ?_
  rintro w5 u5 w6 hw5 kn5 ko5 ⟨us5, hT5⟩
  have hO5 := hT5.ow fun _ _ => trivial
  obtain ⟨A5, c5, rfl, _⟩ := hO5.form
  have hs5 := hw5.kp.size
  have hs6 := kn5.size
  have hX5 : HdF kRow (fun k => noB w5 k ∧ k < w6.heap.size) w6 (MK [(g, cb [.slice A L.length c] 57)]) (.slice A5 l.length c5) l := ⟨(hO5.slF (fun _ h => h) fun _ h => h).mono fun k hk hl => ⟨hk, hl⟩, fun k hk => ⟨fun hm => by have := hw5.lt hm; have := hk.1; unfold noB at this; omega, hk.2⟩⟩
  clear hT5 hO5
  have hY6 := Og.nextN hY3 (fun k hk => ⟨fun hm => by have := hgK hm; omega, hk.2⟩) hw5 kn5
  refine lo_append (d := kRow) (xs := L.take i) (ys := l) (F := fun k => w.heap.size ≤ k ∧ k < w4.heap.size) (F2 := fun k => noB w5 k ∧ k < w6.heap.size) rfl rfl hY6 (fun k hk hm => by have := hgK hm; omega) (fun w' hw' => hX5.now hw') (fun j hj ho => by have := (hY3.block j ho).2; have := hj.1; unfold noB at this; omega) (by rw [List.length_take]; show (min i L.length + l.length) * 24 ≤ 140737488355328; omega) rfl rfl rfl rfl ?_
  intro w7 v7 w8 hw7 ko7 kp7 hown7 hY7
  obtain ⟨A7, c7, rfl, _⟩ := hY7.form
  have hs8 := kp7.size
  replace hY7 := hY7.mono (F' := fun k => w.heap.size ≤ k ∧ k < w8.heap.size) (fun k hk _ => hk) fun k hk hl => ⟨hk.elim (fun h => by omega) fun hk => by have := hk.1; unfold noB at this; omega, hl⟩
  clear hX1 hX5 hY3 hY6 hown3
  repeat(first|refine lrun_ ?_|(refine lo_boxA rfl rfl ?_;intro _ _ _)|(refine lo_box1 rfl rfl rfl ?_;intro _ _ _)|(refine lo_alloc rfl ?_;intro _ _ _))
  rw [show (i : Int) + (n : Int) = ((i + n : Nat) : Int) by omega]
  refine lo_suf (j := i + n) rfl rfl rfl hin hcA rfl ?_
  refine lo_callM (n_call rfl) rfl (fun w' hw => twinT_calls (Sl.cutV (Kp.sl hw.org hx fun k hk e => (hFx k hk).2 e) hin (Nat.le_refl _) hcA (Nat.le_refl _))) ?_
  rintro w9 u9 w10 hw9 kn9 ko9 ⟨us9, hT9⟩
  rw [List.take_length] at hT9
  have hO9 := hT9.ow fun _ _ => trivial
  obtain ⟨A9, c9, rfl, _⟩ := hO9.form
  have hs9 := hw9.kp.size
  have hs10 := kn9.size
  have hX9 : HdF kRow (fun k => noB w9 k ∧ k < w10.heap.size) w10 (MK [(g, cb [.slice A L.length c] 57)]) (.slice A9 (L.drop (i + n)).length c9) (L.drop (i + n)) := ⟨(hO9.slF (fun _ h => h) fun _ h => h).mono fun k hk hl => ⟨hk, hl⟩, fun k hk => ⟨fun hm => by have := hw9.lt hm; have := hk.1; unfold noB at this; omega, hk.2⟩⟩
  clear hT9 hO9
  have hY10 := Og.nextN hY7 (fun k hk => ⟨fun hm => by have := hgK hm; omega, hk.2⟩) hw9 kn9
  refine lo_append (d := kRow) (xs := L.take i ++ l) (ys := L.drop (i + n)) (F := fun k => w.heap.size ≤ k ∧ k < w8.heap.size) (F2 := fun k => noB w9 k ∧ k < w10.heap.size) rfl rfl hY10 (fun k hk hm => by have := hgK hm; omega) (fun w' hw' => hX9.now hw') (fun j hj ho => by have := (hY7.block j ho).2; have := hj.1; unfold noB at this; omega) (by rw [List.length_append, List.length_take, List.length_drop]; show (min i L.length + l.length + (L.length - (i + n))) * 24 ≤ 140737488355328; omega) rfl rfl rfl rfl ?_
  intro w11 v11 w12 hw11 ko11 kp11 hown11 hY11
  obtain ⟨A11, c11, rfl, _⟩ := hY11.form
  have hs12 := kp11.size
  have hss := splice_small (l := l) hin
  repeat(first|refine lops_ ?_|(refine lo_boxA rfl rfl ?_;intro _ _ _)|(refine lo_box1 rfl rfl rfl ?_;intro _ _ _)|(refine lo_alloc rfl ?_;intro _ _ _))
  refine lo_nil ?_
  exact repl_end hD hx hFx hY11 (fun k hk => ⟨hk.elim (fun h => by omega) fun hk => by have := hk.1; unfold noB at this; omega, fun hm => by
    have := hgK hm
    rcases hk with hk | hk
    · omega
    · have := hk.1; unfold noB at this; omega⟩) hgw (by omega) _ (by repeat (first | exact SubB.nil | refine SubB.cons rfl ?_)) _ (by repeat(first|exact MSub.refl|refine MSub.keep rfl ?_|exact MSub.nil|apply MSub.drop))
end
end Go.Ink

set_option linter.unusedVariables false
set_option linter.unusedSimpArgs false
namespace Go.Ink
open Go Go.Proofs Go.RowKit

theorem add_one (a : Addr) (i j : Nat) : (a.add (i * 1)).add (j * 1) = a.add ((i + j) * 1) := by
  unfold Addr.add
  rw [Nat.mul_one, Nat.mul_one, Nat.mul_one]
  by_cases hi : i = 0
  · subst hi; simp
  · by_cases hj : j = 0
    · subst hj; simp
    · simp [hi, hj, Nat.add_assoc]
/-- What is behind a place of an own row is own. -/
theorem ow_suf {G F : Nat → Prop} {w : World} {A : Option Addr} {c l : Nat} {xs : List Int} (h : Ow kRune G F w (.slice A xs.length c) xs) (hl : l ≤ xs.length) : Ow kRune G F w (cutV A l xs.length c 1) (xs.drop l) := by
  obtain ⟨cells, hE, hf, hor⟩ := h
  have hf2 : Fits kRune (xs.drop l).length := by unfold Fits at *; rw [List.length_drop]; have : xs.length * 4 ≤ 140737488355328 := hf; show (xs.length - l) * 4 ≤ 140737488355328; omega
  rcases hor with ⟨e, rfl⟩ | ⟨g, o, cap, cur, e, hv, hg, hb, h1, h2, h3, h4⟩
  · simp only [Value.slice.injEq] at e
    obtain ⟨rfl, _, rfl⟩ := e
    have hl0 : l = 0 := by simpa using hl
    subst hl0
    exact Ow.nil _ _ _ _
  · simp only [Value.slice.injEq] at hv
    obtain ⟨rfl, _, rfl⟩ := hv
    have hsz : o + c ≤ cur.size := by have : o + c * 1 ≤ cur.size := h3; omega
    have hE2 := (hE.cut l).2
    rw [show kRune.sz = 1 from rfl, Nat.mul_one] at hE2
    unfold cutV
    by_cases hcl : c = l
    · have hx0 : xs.drop l = [] := List.drop_of_length_le (by omega)
      rw [hx0] at hE2 hf2 ⊢
      rw [if_pos hcl, show xs.length - l = ([] : List Int).length by simp; omega, show c - l = 0 by omega]
      have hc0 : cells.drop l = [] := hE2
      exact ⟨[], rfl, hf2, .inr ⟨g, o, 0, cur, e, rfl, hg, hb, Nat.le_refl _, Nat.zero_le _, by omega, fun j u hu => by simp at hu⟩⟩
    · rw [if_neg hcl, show xs.length - l = (xs.drop l).length by rw [List.length_drop], show Option.map (fun x => Addr.add x (l * 1)) (some (⟨g, o, none⟩ : Addr)) = some ⟨g, o + l * 1, none⟩ from congrArg some (add_plain _ _ _)]
      refine ⟨cells.drop l, hE2, hf2, .inr ⟨g, o + l * 1, c - l, cur, e, rfl, hg, hb, by rw [List.length_drop]; omega, by omega, by show o + l * 1 + (c - l) * 1 ≤ cur.size; omega, fun j u hu => ?_⟩⟩
      rw [List.getElem?_drop] at hu
      rw [Nat.mul_one, Nat.add_assoc]
      exact h4 _ u hu
theorem ow_own {α : Type} {d : Kd α} {G F : Nat → Prop} {w : World} {au : Addr} {n c : Nat} {xs : List α} (h : Ow d G F w (.slice (some au) n c) xs) : Ow d (fun k => k = au.block) F w (.slice (some au) n c) xs := by
  obtain ⟨cells, h1, h2, h3⟩ := h
  refine ⟨cells, h1, h2, h3.imp id ?_⟩
  rintro ⟨g, o, cap, cur, e, hv, hg, h4⟩
  exact ⟨g, o, cap, cur, e, hv, by cases hv; rfl, h4⟩
theorem own_shift {A : Option Addr} {n c n' c' k g : Nat} {p : Prop} [Decidable p] (e : (Value.slice (if p then A else A.map (·.add k)) n c).ownBlock = some g) : (Value.slice A n' c').ownBlock = some g := by
  cases A with
  | none => split at e <;> exact e
  | some ad =>
    split at e
    · exact e
    · have e2 : (ad.add k).block = g := Option.some.inj e
      rw [add_block] at e2
      show some ad.block = some g
      rw [e2]
theorem mk_one {g k : Nat} {o : Obj} (h : MK [(g, o)] k) : k = g := by
  obtain ⟨o, hm⟩ := h
  cases hm with
  | hd => rfl
  | tl h => cases h
/-- What is told of a text's lines, some of it written over. -/
structure Jk (w : World) (top : Nat) (b : World) (L : List (List Int)) (A : Option Addr) (c : Nat) (au : Addr) (cu i : Nat) (X : List Int) (cells : List Value) : Prop where
  xl : i < L.length → X.length = (jndM L).length
  ox : i < L.length → Ow kRune (fun k => noB w k ∧ k < top) (fun _ => False) b (.slice A X.length c) X
  ou : Ow kRaw (fun k => noB w k ∧ k < top) (fun _ => False) b (.slice (some au) L.length cu) cells
  ne : ∀ n, (Value.slice A n c).ownBlock ≠ some au.block
  len : cells.length = L.length
  at_ : ∀ j, i ≤ j → j < L.length → cells[j]? = some (cutV A (ofs L j) (ofs L j + (L.getD j []).length) (if j + 1 < L.length then ofs L j + (L.getD j []).length else c) 1)
section
variable {w b b' : World} {top : Nat} {L : List (List Int)} {A : Option Addr} {c : Nat} {au : Addr} {cu i : Nat} {X : List Int} {cells : List Value}
theorem Jk.kp {S : Nat → Prop} (h : Jk w top b L A c au cu i X cells) (hk : Kp S b b') (hs : ∀ k, noB w k ∧ k < top → ¬ S k) : Jk w top b' L A c au cu i X cells :=
  ⟨h.xl, fun hi => Kp.ow hk (h.ox hi) hs (fun _ h => h.elim), Kp.ow hk h.ou hs (fun _ h => h.elim), h.ne, h.len, h.at_⟩
set_option maxHeartbeats 8000000 in
theorem same_loop {W B : World} (hL : L ≠ []) (hb : (jndM L).length ≤ 65536) (hlb : L.length ≤ 65537) (hcA : (jndM L).length ≤ c) (htop : top ≤ B.heap.size) (hJ : Jk W top B L A c au cu 0 X cells) :
    ∀ σ', SubB σ' [(5, .slice (some au) L.length cu)] → ∀ M', MSub [] M' →
      WL Try.prog Try.f20 (.code (bodyC Try.f20 [1, 1, 1]) :: []) σ' W (fun _ => False) B (MK []) M' fun u w' => Kn W w' ∧ u = .bool true := by
  intro σ' hs M' hM
  refine WL.sub hs hM ?_
  repeat(first|refine lrun_ ?_|(refine lo_boxA rfl rfl ?_;intro _ _ _)|(refine lo_box1 rfl rfl rfl ?_;intro _ _ _)|(refine lo_alloc rfl ?_;intro _ _ _))
  refine l_whileB (fun s : Nat × List Int × List Value => L.length - s.1) (fun s => [(5, .slice (some au) L.length cu), (6, .int .i64 (s.1 : Int))]) (fun _ => [])
    (fun s b => (s.1 ≤ L.length ∧ top ≤ b.heap.size) ∧ Jk W top b L A c au cu s.1 s.2.1 s.2.2) (0, X, cells) (by repeat (first | exact SubB.nil | refine SubB.cons rfl ?_)) (by repeat(first|exact MSub.refl|refine MSub.keep rfl ?_|exact MSub.nil|apply MSub.drop)) (fun w' hw => ⟨⟨Nat.zero_le _, Nat.le_trans htop hw.kp.size⟩, hJ.kp hw.kp fun k _ => mk_nil⟩) ?_
  rintro ⟨i, X, cells⟩ b ⟨⟨hi, htb⟩, hJ⟩ hkb ih
  simp only at hi htb hJ ih
  dsimp only
  by_cases hlt : i < L.length
  case neg =>
    repeat(first|refine lrun_ ?_|(refine lo_boxA rfl rfl ?_;intro _ _ _)|(refine lo_box1 rfl rfl rfl ?_;intro _ _ _)|(refine lo_alloc rfl ?_;intro _ _ _))
    refine l_no rfl (by omega) ?_
    refine l_go (.exit rfl) ?_
    repeat(first|refine lrun_ ?_|(refine lo_boxA rfl rfl ?_;intro _ _ _)|(refine lo_box1 rfl rfl rfl ?_;intro _ _ _)|(refine lo_alloc rfl ?_;intro _ _ _))
    exact l_ret1 rfl rfl fun w' hw => ⟨hw.org, rfl⟩
  have hoe := ofs_end hlt
  generalize hn : (L.getD i []).length = n at *
  generalize ho : ofs L i = o at *
  have hat := hJ.at_ i (Nat.le_refl _) hlt
  rw [hn, ho] at hat
  obtain ⟨m, hm, hm1, hm2⟩ : ∃ m, (if i + 1 < L.length then o + n else c) = m ∧ o + n ≤ m ∧ m ≤ c := by
    refine ⟨_, rfl, ?_, ?_⟩ <;> split <;> omega
  rw [hm] at hat
  have hcv : cutV A o (o + n) m 1 = .slice (if m = o then A else A.map (·.add (o * 1))) n (m - o) := by unfold cutV; rw [show o + n - o = n by omega]
  rw [hcv] at hat
  repeat(first|refine lrun_ ?_|(refine lo_boxA rfl rfl ?_;intro _ _ _)|(refine lo_box1 rfl rfl rfl ?_;intro _ _ _)|(refine lo_alloc rfl ?_;intro _ _ _))
  refine l_yes rfl (by omega) ?_
  repeat(first|refine lrun_ ?_|(refine lo_boxA rfl rfl ?_;intro _ _ _)|(refine lo_box1 rfl rfl rfl ?_;intro _ _ _)|(refine lo_alloc rfl ?_;intro _ _ _))
  refine l_whileB (fun s : Nat × List Int => n - s.1) (fun s => [(5, .slice (some au) L.length cu), (6, .int .i64 (i : Int)), (7, .int .i64 (s.1 : Int))]) (fun _ => [])
    (fun s b => (s.1 ≤ n ∧ top ≤ b.heap.size) ∧ Jk W top b L A c au cu i s.2 cells) (0, X) (by repeat (first | exact SubB.nil | refine SubB.cons rfl ?_)) (by repeat(first|exact MSub.refl|refine MSub.keep rfl ?_|exact MSub.nil|apply MSub.drop)) (fun w' hw => ⟨⟨Nat.zero_le _, Nat.le_trans htb hw.kp.size⟩, hJ.kp hw.kp fun k _ => mk_nil⟩) ?_
  rintro ⟨k, X⟩ b2 ⟨⟨hk, htb2⟩, hJ2⟩ hkb2 ih2
  simp only at hk htb2 hJ2 ih2
  dsimp only
  have hXl := hJ2.xl hlt
  have hcell := hJ2.ou.rawCell hat
  by_cases hkn : k < n
  · have hmo : m ≠ o := by omega
    rw [if_neg hmo] at hcell
    obtain ⟨ad, rfl⟩ := ow_someA (hJ2.ox hlt) (List.length_pos_iff.1 (by omega))
    have hne := hJ2.ne X.length
    repeat(first|refine lrun_ ?_|(refine lo_boxA rfl rfl ?_;intro _ _ _)|(refine lo_box1 rfl rfl rfl ?_;intro _ _ _)|(refine lo_alloc rfl ?_;intro _ _ _))
    refine lo_index rfl rfl rfl (by omega) rfl rfl ?_
    refine lo_loadB rfl hcell mk_nil rfl ?_
    repeat(first|refine lrun_ ?_|(refine lo_boxA rfl rfl ?_;intro _ _ _)|(refine lo_box1 rfl rfl rfl ?_;intro _ _ _)|(refine lo_alloc rfl ?_;intro _ _ _))
    refine l_yes rfl (by omega) ?_
    repeat(first|refine lrun_ ?_|(refine lo_boxA rfl rfl ?_;intro _ _ _)|(refine lo_box1 rfl rfl rfl ?_;intro _ _ _)|(refine lo_alloc rfl ?_;intro _ _ _))
    refine lo_index rfl rfl rfl (by omega) rfl rfl ?_
    refine lo_loadB rfl hcell mk_nil rfl ?_
    repeat(first|refine lrun_ ?_|(refine lo_boxA rfl rfl ?_;intro _ _ _)|(refine lo_box1 rfl rfl rfl ?_;intro _ _ _)|(refine lo_alloc rfl ?_;intro _ _ _))
    refine lo_index (A := some (ad.add (o * 1))) rfl rfl rfl hkn rfl rfl ?_
    rw [add_one]
    refine lo_setM (d := kRune) (F := fun _ => False) (xs := X) (q := 7) (j := o + k) (n := X.length) (c := c) rfl rfl ((hJ2.ox hlt).mono (fun k hk _ => ⟨by have := hk.1; unfold noB at this; omega, mk_nil⟩) fun _ h _ => h) (fun _ h => h.elim) (by omega) (fun w hw => ⟨rfl, by decide, by decide⟩) rfl rfl ?_
    intro w3 w4 hw3 ko3 kp3 hn4
    have htb3 := Nat.le_trans htb2 (Nat.le_trans hw3.kp.size kp3.size)
    have hob := (hJ2.ox hlt).block ad.block rfl
    have hJ4 : Jk W top w4 L (some ad) c au cu i (X.set (o + k) 7) cells := ⟨fun h => by rw [List.length_set]; exact hXl, fun h => by rw [List.length_set]; exact (ow_own hn4).mono (fun k hk _ => by rw [hk]; exact hob.1) fun _ h _ => h, (Kp.ow hw3.kp hJ2.ou (fun k _ => mk_nil) fun _ h => h.elim).keep fun k hk => by
      cases hk
      exact kp3.block au.block ((Kp.ow hw3.kp hJ2.ou (fun k _ => mk_nil) fun _ h => h.elim).block _ rfl).2 fun e => hne (e ▸ rfl), hJ2.ne, hJ2.len, hJ2.at_⟩
    repeat(first|refine lrun_ ?_|(refine lo_boxA rfl rfl ?_;intro _ _ _)|(refine lo_box1 rfl rfl rfl ?_;intro _ _ _)|(refine lo_alloc rfl ?_;intro _ _ _))
    exact ih2 (k + 1, X.set (o + k) 7) w4 _ ⟨⟨hkn, htb3⟩, hJ4⟩ (by simp only; omega) _ _ (by repeat (first | exact SubB.nil | refine SubB.cons rfl ?_)) (by repeat(first|exact MSub.refl|refine MSub.keep rfl ?_|exact MSub.nil|apply MSub.drop)) fun w' hw' => ⟨⟨hkn, Nat.le_trans htb3 hw'.kp.size⟩, hJ4.kp hw'.kp fun k _ => mk_nil⟩
  · repeat(first|refine lrun_ ?_|(refine lo_boxA rfl rfl ?_;intro _ _ _)|(refine lo_box1 rfl rfl rfl ?_;intro _ _ _)|(refine lo_alloc rfl ?_;intro _ _ _))
    refine lo_index rfl rfl rfl (by omega) rfl rfl ?_
    refine lo_loadB rfl hcell mk_nil rfl ?_
    repeat(first|refine lrun_ ?_|(refine lo_boxA rfl rfl ?_;intro _ _ _)|(refine lo_box1 rfl rfl rfl ?_;intro _ _ _)|(refine lo_alloc rfl ?_;intro _ _ _))
    refine l_no rfl (by omega) ?_
    refine l_go (.exit rfl) ?_
    repeat(first|refine lrun_ ?_|(refine lo_boxA rfl rfl ?_;intro _ _ _)|(refine lo_box1 rfl rfl rfl ?_;intro _ _ _)|(refine lo_alloc rfl ?_;intro _ _ _))
    refine lo_index rfl rfl rfl (by omega) rfl rfl ?_
    refine lo_loadB rfl hcell mk_nil rfl ?_
    repeat(first|refine lrun_ ?_|(refine lo_boxA rfl rfl ?_;intro _ _ _)|(refine lo_box1 rfl rfl rfl ?_;intro _ _ _)|(refine lo_alloc rfl ?_;intro _ _ _))
    refine lo_lit (cs := [.int .i32 8]) rfl (by decide) (by kernel_rfl) rfl ?_
    intro g8 hg8 hg8'
    have hne := hJ2.ne (o + n)
    have hXs : ∀ w', Lw W (fun _ => False) b2 (MK []) [(g8, cb [.int .i32 8] 21)] w' → Sl kRune (fun k => noB W k ∧ k < top) w' (.slice A X.length c) X := fun w' hw' => (Kp.ow hw'.kp (hJ2.ox hlt) (fun k _ => mk_nil) fun _ h => h.elim).slF (fun _ h => h) fun _ h => h.elim
    have hrl : ((X.take (o + n)).drop o).length = n := by rw [List.length_drop, List.length_take]; omega
    by_cases hi1 : i + 1 < L.length
    · rw [if_pos hi1] at hm
      subst hm
      rw [show o + n - o = n by omega]
      refine lo_anyM (Φ := fun w v' w' => Kn w w' ∧ ((([8] : List Int) = [] ∧ v' = .slice (if o + n = o then A else A.map (·.add (o * 1))) n n) ∨ Ow kRune (fun k => w.heap.size ≤ k) (fun k => (noB W k ∧ k < top) ∨ True) w' v' (((X.take (o + n)).drop o) ++ [8]))) (fun w' hw' => e_append_full (d := kRune) (xs := (X.take (o + n)).drop o) (ys := [8]) (F := fun k => noB W k ∧ k < top) (F2 := fun _ => True) rfl rfl ?_ (sl_row (xs := [8]) (hw'.mem g8 _ .hd) trivial (by decide) (by decide)) ?_ rfl rfl rfl) (fun _ _ _ h => h.1) rfl ?_
      · have := Sl.cutV (hXs w' hw') (l := o) (hi := o + n) (m := o + n) (by omega) (by omega) (Nat.le_refl _) (by omega)
        unfold cutV at this
        rwa [show o + n - o = n by omega] at this
      · rw [hrl]; show (n + 1) * 4 ≤ 140737488355328; omega
      rintro w3 v8 w4 hw3 ⟨kn4, hO⟩ ko4
      rcases hO with ⟨h, _⟩ | hO
      · cases h
      obtain ⟨A', c', rfl, _⟩ := hO.form
      have hJ4 : Jk W top w4 L A c au cu i X cells := (hJ2.kp hw3.kp fun k _ => mk_nil).kp kn4 fun _ _ h => h
      refine lo_index rfl rfl rfl (by omega) rfl rfl ?_
      have hub := hJ4.ou.block au.block rfl
      refine lo_setM (d := kRaw) (F := fun _ => False) (xs := cells) (q := .slice A' (((X.take (o + n)).drop o) ++ [8]).length c') (j := i) (n := L.length) (c := cu) rfl rfl ((ow_own hJ4.ou).mono (fun k hk _ => ⟨by rw [hk]; have := hub.1.1; unfold noB at this; omega, fun hm => by have := mk_one hm; have := hub.1.2; omega⟩) fun _ h _ => h) (fun _ h => h.elim) (by rw [hJ4.len]; exact hlt) (fun w hw => ⟨rfl, rfl⟩) rfl rfl ?_
      intro w5 w6 hw5 ko5 kp5 hn6
      have ht6 : top ≤ w6.heap.size := by have := hw3.kp.size; have := kn4.size; have := hw5.kp.size; have := kp5.size; omega
      have hg8t : ∀ k, noB W k ∧ k < top → ¬ MK [(g8, cb [.int .i32 8] 21)] k := fun k hk hm => by have := mk_one hm; omega
      have hJ6 : Jk W top w6 L A c au cu (i + 1) X (cells.set i (.slice A' (((X.take (o + n)).drop o) ++ [8]).length c')) := ⟨fun _ => hXl, fun _ => ((hJ4.kp hw5.kp hg8t).ox hlt).keep fun k hk => kp5.block k (((hJ4.kp hw5.kp hg8t).ox hlt).block k hk).2 fun e => by subst e; exact hJ4.ne _ hk, (ow_own hn6).mono (fun k hk _ => by rw [hk]; exact hub.1) fun _ h _ => h, hJ4.ne, by rw [List.length_set]; exact hJ4.len, fun j h1 h2 => by rw [List.getElem?_set_ne (by omega)]; exact hJ4.at_ j (by omega) h2⟩
      repeat(first|refine lops_ ?_|(refine lo_boxA rfl rfl ?_;intro _ _ _)|(refine lo_box1 rfl rfl rfl ?_;intro _ _ _)|(refine lo_alloc rfl ?_;intro _ _ _))
      refine lo_nil ?_
      refine l_baseM (M3 := []) .nil fun w7 hw7 => ?_
      have hJ7 := hJ6.kp hw7.kp hg8t
      have ht7 := Nat.le_trans ht6 hw7.kp.size
      repeat(first|refine lrun_ ?_|(refine lo_boxA rfl rfl ?_;intro _ _ _)|(refine lo_box1 rfl rfl rfl ?_;intro _ _ _)|(refine lo_alloc rfl ?_;intro _ _ _))
      exact ih (i + 1, X, _) w7 _ ⟨⟨hlt, ht7⟩, hJ7⟩ (by simp only; omega) _ _ (by repeat (first | exact SubB.nil | refine SubB.cons rfl ?_)) (by repeat(first|exact MSub.refl|refine MSub.keep rfl ?_|exact MSub.nil|apply MSub.drop)) fun w' hw' => ⟨⟨hlt, Nat.le_trans ht7 hw'.kp.size⟩, hJ7.kp hw'.kp fun k _ => mk_nil⟩
    · rw [if_neg hi1] at hm
      subst hm
      have hXN : X.length = o + n := by
        have := ofs_last hL
        rw [show L.length - 1 = i by omega, hn, ho] at this
        omega
      have hsuf := ow_suf (hJ2.ox hlt) (l := o) (by omega)
      have hsl : (X.drop o).length = n := by rw [List.length_drop]; omega
      unfold cutV at hsuf
      rw [show X.length - o = n by omega] at hsuf
      refine lo_append1 (d := kRune) (F := fun _ => False) (xs := X.drop o) (q := 8) rfl rfl (hsuf.mono (fun k hk _ => ⟨by have := hk.1; unfold noB at this; omega, mk_nil⟩) fun _ h _ => h) (fun _ h => h.elim) (by(repeat(first|exact MIn.hd|refine MIn.tl ?_));done) (fun w' hw' => ⟨rfl, by decide, by decide⟩) (by rw [hsl]; show (n + 1) * 4 ≤ 140737488355328; omega) rfl rfl rfl rfl ?_
      intro w3 A' c' w4 hw3 ko4 kp4 hown4 hog4
      have hou4 : Ow kRaw (fun k => noB W k ∧ k < top) (fun _ => False) w4 (.slice (some au) L.length cu) cells := hJ2.ou.keep fun k hk => kp4.block k (hJ2.ou.block k hk).2 fun e => by
        cases hk
        rcases e with e | e
        · exact mk_nil e
        · exact hne (own_shift e)
      have hub := hou4.block au.block rfl
      refine lo_index rfl rfl rfl (by omega) rfl rfl ?_
      refine lo_setM (d := kRaw) (F := fun _ => False) (xs := cells) (q := .slice A' ((X.drop o) ++ [8]).length c') (j := i) (n := L.length) (c := cu) rfl rfl ((ow_own hou4).mono (fun k hk _ => ⟨by rw [hk]; have := hub.1.1; unfold noB at this; omega, fun hm => by have := mk_one hm; have := hub.1.2; omega⟩) fun _ h _ => h) (fun _ h => h.elim) (by rw [hJ2.len]; exact hlt) (fun w hw => ⟨rfl, rfl⟩) rfl rfl ?_
      intro w5 w6 hw5 ko5 kp5 hn6
      have ht6 : top ≤ w6.heap.size := by have := hw3.kp.size; have := kp4.size; have := hw5.kp.size; have := kp5.size; omega
      have hg8t : ∀ k, noB W k ∧ k < top → ¬ MK [(g8, cb [.int .i32 8] 21)] k := fun k hk hm => by have := mk_one hm; omega
      have hJ6 : Jk W top w6 L A c au cu (i + 1) X (cells.set i (.slice A' ((X.drop o) ++ [8]).length c')) := ⟨fun h => absurd h hi1, fun h => absurd h hi1, (ow_own hn6).mono (fun k hk _ => by rw [hk]; exact hub.1) fun _ h _ => h, hJ2.ne, by rw [List.length_set]; exact hJ2.len, fun j h1 h2 => by omega⟩
      repeat(first|refine lops_ ?_|(refine lo_boxA rfl rfl ?_;intro _ _ _)|(refine lo_box1 rfl rfl rfl ?_;intro _ _ _)|(refine lo_alloc rfl ?_;intro _ _ _))
      refine lo_nil ?_
      refine l_baseM (M3 := []) .nil fun w7 hw7 => ?_
      have hJ7 := hJ6.kp hw7.kp hg8t
      have ht7 := Nat.le_trans ht6 hw7.kp.size
      repeat(first|refine lrun_ ?_|(refine lo_boxA rfl rfl ?_;intro _ _ _)|(refine lo_box1 rfl rfl rfl ?_;intro _ _ _)|(refine lo_alloc rfl ?_;intro _ _ _))
      exact ih (i + 1, X, _) w7 _ ⟨⟨hlt, ht7⟩, hJ7⟩ (by simp only; omega) _ _ (by repeat (first | exact SubB.nil | refine SubB.cons rfl ?_)) (by repeat(first|exact MSub.refl|refine MSub.keep rfl ?_|exact MSub.nil|apply MSub.drop)) fun w' hw' => ⟨⟨hlt, Nat.le_trans ht7 hw'.kp.size⟩, hJ7.kp hw'.kp fun k _ => mk_nil⟩
end
set_option maxHeartbeats 8000000 in
theorem same_calls {w : World} {D E : Nat → Prop} {gt gx b : Nat} {L : List (List Int)} (hT : IsTxt D gt w L b) (hX : IsRef E gx w L) : CallsR Try.prog 20 #[.pointer (some ⟨gt, 0, none⟩), .pointer (some ⟨gx, 0, none⟩)] w fun u w' => Kn w w' ∧ u = .bool true := by
  obtain ⟨_, hL, _, _⟩ := hT.facts
  have hbd := hT.bound
  have hbd2 : sumN L = runesM L + L.length := rfl
  obtain ⟨_, vx, Fx, hbx, hx, hFx⟩ := id hX
  have cx : w.cell? ⟨gx, 0, none⟩ = some vx := blk_cell hbx
  obtain ⟨Ax, cX, rfl, _⟩ := hx.form
  have hcn := cnt_jnd hL
  refine l_enter (args := [.pointer (some ⟨gt, 0, none⟩), .pointer (some ⟨gx, 0, none⟩)]) (fun _ => False) Try.func20 rfl rfl ?_
  repeat(first|refine lrun_ ?_|(refine lo_boxA rfl rfl ?_;intro _ _ _)|(refine lo_box1 rfl rfl rfl ?_;intro _ _ _)|(refine lo_alloc rfl ?_;intro _ _ _))
  refine lo_callM (n_call rfl) rfl (fun w' hw => all_calls (hT.kn hw.org)) ?_
  rintro w1 u w2 hw1 kn1 ko1 hA
  have hs1 := hw1.org.size
  have hs2 := kn1.size
  have hAo := hA.ow (by omega)
  obtain ⟨A, c, cells, hXo, hUo, hne, hcl, hat⟩ := hA
  obtain ⟨Au, cu, rfl, _⟩ := hUo.form
  rw [hcl] at hUo hne hAo ⊢
  obtain ⟨au, rfl⟩ := ow_someA hUo (List.length_pos_iff.1 (by rw [hcl]; exact List.length_pos_iff.2 hL))
  have hAs := hAo.slF (F' := noB w1) (fun _ h => h) fun _ h => h
  have hcA : (jndM L).length ≤ c := by obtain ⟨_, _, e, h, _⟩ := hXo.form; simp only [Value.slice.injEq] at e; rw [e.2.2]; exact h
  repeat(first|refine lrun_ ?_|(refine lo_boxA rfl rfl ?_;intro _ _ _)|(refine lo_box1 rfl rfl rfl ?_;intro _ _ _)|(refine lo_alloc rfl ?_;intro _ _ _))
  refine l_draw [(0, 0), (1, 0), (2, 0), (3, 0), (4, 0), (5, 1), (6, 0), (7, 0), (8, 0), (10, 0), (11, 0), (12, 0), (13, 0), (14, 0), (9, 1), (15, 0), (16, 0), (17, 0), (18, 0), (20, 0), (21, 0), (22, 0), (23, 0), (19, 1), (24, 1), (25, 0), (26, 0)] (by kernel_rfl) (by kernel_rfl) rfl (by kernel_rfl) ?_
  repeat(first|refine lrund_ ?_|(refine ld_open rfl ?_;first|(refine ld_boxA rfl wy_ rfl ?_;intro _ _ _)|(refine ld_box1 rfl rfl wy_ rfl ?_;intro _ _ _)|(refine ld_alloc wy_ rfl ?_;intro _ _ _)))
  refine ld_open rfl ?_; refine ld_call (n_call rfl) wy_ rfl (fun w' hw' => same04_calls (Kp.sl hw'.kp hAs fun k _ => mk_nil) (Kn.sl hw'.org hx)) ?_
  rw [decide_eq_true rfl]
  repeat(first|refine lrund_ ?_|(refine ld_open rfl ?_;first|(refine ld_boxA rfl wy_ rfl ?_;intro _ _ _)|(refine ld_box1 rfl rfl wy_ rfl ?_;intro _ _ _)|(refine ld_alloc wy_ rfl ?_;intro _ _ _)))
  refine ld_open rfl ?_; refine ld_call (n_call rfl) wy_ rfl (fun w' hw' => count_calls (hT.kn hw'.org)) ?_
  repeat(first|refine lrund_ ?_|(refine ld_open rfl ?_;first|(refine ld_boxA rfl wy_ rfl ?_;intro _ _ _)|(refine ld_box1 rfl rfl wy_ rfl ?_;intro _ _ _)|(refine ld_alloc wy_ rfl ?_;intro _ _ _)))
  refine ld_open rfl ?_; refine ld_call (n_call rfl) wy_ rfl (fun w' hw' => runesT_calls (hT.kn hw'.org)) ?_
  repeat(first|refine lrund_ ?_|(refine ld_open rfl ?_;first|(refine ld_boxA rfl wy_ rfl ?_;intro _ _ _)|(refine ld_box1 rfl rfl wy_ rfl ?_;intro _ _ _)|(refine ld_alloc wy_ rfl ?_;intro _ _ _)))
  refine ld_open rfl ?_; refine ld_call (n_call rfl) wy_ rfl (fun w' hw' => runesG_calls (Kn.sl hw'.org hx) (by omega)) ?_
  rw [hcn]
  repeat(first|refine lrund_ ?_|(refine ld_open rfl ?_;first|(refine ld_boxA rfl wy_ rfl ?_;intro _ _ _)|(refine ld_box1 rfl rfl wy_ rfl ?_;intro _ _ _)|(refine ld_alloc wy_ rfl ?_;intro _ _ _)))
  first | refine l_false rfl ?_ | refine l_no rfl (by simp) ?_
  refine l_go .skip ?_
  refine same_loop (A := A) (c := c) (top := w2.heap.size) (X := jndM L) (cells := cells) hL hbd.2 (by omega) hcA (Nat.le_refl _) ⟨fun _ => rfl, fun _ => hXo.mono (fun k hk hl => ⟨by unfold noB at *; omega, hl⟩) fun _ h _ => h, hUo.mono (fun k hk hl => ⟨by unfold noB at *; omega, hl⟩) fun _ h _ => h, fun n e => hne au.block rfl (by cases A <;> exact e), hcl, fun j _ hj => hat j hj⟩ _ (by repeat (first | exact SubB.nil | refine SubB.cons rfl ?_)) _ (by repeat(first|exact MSub.refl|refine MSub.keep rfl ?_|exact MSub.nil|apply MSub.drop))
end Go.Ink

set_option linter.unusedVariables false
set_option linter.unusedSimpArgs false
namespace Go.Ink
open Go Go.Proofs Go.RowKit

/-- Two texts of the same lines, apart, of what was there or is new. -/
structure Two (D E : Nat → Prop) (gt gx : Nat) (w : World) (L : List (List Int)) (b : Nat) : Prop where
  t : IsTxt D gt w L b
  x : IsRef E gx w L
  ap : ∀ k, D k → ¬ E k
  ld : ∀ k, D k → k < w.heap.size
  le : ∀ k, E k → k < w.heap.size
def DoQ (D E : Nat → Prop) (gt gx : Nat) (w : World) (b : Nat) (u : Value) (w' : World) : Prop := Kp (fun k => D k ∨ E k) w w' ∧ u = .bool true ∧ ∃ L' D' E', Two D' E' gt gx w' L' (b + 66000) ∧ ∀ k, D' k ∨ E' k → D k ∨ E k ∨ w.heap.size ≤ k
section
variable {D E F : Nat → Prop} {gt gx b b' : Nat} {w w2 w3 w4 w5 : World} {L L' : List (List Int)}
theorem Two.kp {S : Nat → Prop} (h : Two D E gt gx w L b) (hk : Kp S w w2) (hs : ∀ k, D k ∨ E k → ¬ S k) : Two D E gt gx w2 L b :=
  ⟨h.t.kp hk fun k hk => hs k (.inl hk), h.x.kp hk fun k hk => hs k (.inr hk), h.ap, fun k h1 => by have := h.ld k h1; have := hk.size; omega, fun k h1 => by have := h.le k h1; have := hk.size; omega⟩
theorem two_after (h : Two D E gt gx w L b) (hs : w.heap.size ≤ w2.heap.size) (hT3 : IsTxt (grownD D w2) gt w3 L' b') (k23 : w2.heap.size ≤ w3.heap.size) (k3 : Kp (fun k => k = gx) w3 w4) (hX4 : IsRef (grownD E w3) gx w4 L') (hb : b' ≤ b + 66000) :
    ∃ L' D' E', Two D' E' gt gx w4 L' (b + 66000) ∧ ∀ k, D' k ∨ E' k → D k ∨ E k ∨ w.heap.size ≤ k := by
  have hgx : E gx := h.x.1
  have hgl := h.le gx hgx
  have h43 := k3.size
  refine ⟨L', fun k => grownD D w2 k ∧ k < w3.heap.size, fun k => grownD E w3 k ∧ k < w4.heap.size, ⟨((hT3.mono fun k hk hl => ⟨hk, hl⟩).kp k3 fun k hk e => ?_).more hb, hX4.mono fun k hk hl => ⟨hk, hl⟩, fun k hk he => ?_, fun k hk => by have := hk.2; omega, fun k hk => hk.2⟩, fun k hk => ?_⟩
  · rcases hk.1 with h1 | h1
    · exact h.ap k h1 (e ▸ hgx)
    · omega
  · rcases hk.1 with h1 | h1 <;> rcases he.1 with h2 | h2
    · exact h.ap k h1 h2
    · have := hk.2; omega
    · have := h.le k h2; omega
    · have := hk.2; omega
  · rcases hk with hk | hk
    · exact hk.1.elim .inl fun h => .inr (.inr (by omega))
    · exact hk.1.elim (fun h => .inr (.inl h)) fun h => .inr (.inr (by omega))
set_option maxHeartbeats 8000000 in
theorem do_calls {d : Deed04} {vl vs : Value} (h : Two D E gt gx w L b) (hl : Sl kRune F w vl d.l) (hs : Sl kRow F w vs d.ls) (hF : ∀ k, F k → k < w.heap.size → ¬ D k ∧ ¬ E k) (hk : -9223372036854775808 ≤ d.kind ∧ d.kind ≤ 9223372036854775807) (hn : -9223372036854775808 ≤ d.n ∧ d.n ≤ 9223372036854775807) (hp : P64 d.fr) (hq : P64 d.to) (hll : d.l.length ≤ 1000) (hls : d.ls.length ≤ 300 ∧ runesM d.ls + d.ls.length ≤ 3001) (hb : b + 66000 ≤ 1099511627776) :
    CallsR Try.prog 19 #[.pointer (some ⟨gt, 0, none⟩), .pointer (some ⟨gx, 0, none⟩), .agg #[.int .i64 d.kind, .int .i64 d.n, .int .i64 d.fr.1, .int .i64 d.fr.2, .int .i64 d.to.1, .int .i64 d.to.2, vl, vs]] w (DoQ D E gt gx w b) := by
  obtain ⟨hpl, hL, _, _⟩ := h.t.facts
  have hbd := h.t.bound
  have hbd2 : sumN L = runesM L + L.length := rfl
  have hjl := jnd_len L
  obtain ⟨d0, dn, ⟨p1, p2⟩, ⟨q1, q2⟩, dl, dls⟩ := d
  simp only at hl hs hk hn hp hq hll hls ⊢
  have hl' := hl.mono (F' := fun k => F k ∧ k < w.heap.size) fun k hk hl => ⟨hk, hl⟩
  have hs' := hs.mono (F' := fun k => F k ∧ k < w.heap.size) fun k hk hl => ⟨hk, hl⟩
  obtain ⟨Al, cl, rfl, hcl, hfl⟩ := hl.form
  obtain ⟨As, cs, rfl, hcs, hfs⟩ := hs.form
  refine l_enter0 (args := [.pointer (some ⟨gt, 0, none⟩), .pointer (some ⟨gx, 0, none⟩), .agg #[.int .i64 d0, .int .i64 dn, .int .i64 p1, .int .i64 p2, .int .i64 q1, .int .i64 q2, .slice Al dl.length cl, .slice As dls.length cs]]) (S := fun k => D k ∨ E k) Try.func19 rfl rfl ?_
  repeat(first|refine lrun_ ?_|(refine lo_boxA rfl rfl ?_;intro _ _ _)|(refine lo_box1 rfl rfl rfl ?_;intro _ _ _)|(refine lo_alloc rfl ?_;intro _ _ _))
  rename_i g5 hg5 hg5'
  by_cases h0 : d0 = 0
  · subst h0
    refine l_true rfl ?_
    refine l_seq ?_
    unfold WLG
    intro w0 hw0
    have kn0 : Kn w w0 := kn_mk hw0.kp
    have h0 := h.kp kn0 (fun _ _ h => h)
    have hb5 := hw0.mem g5 _ .hd
    have hl0 := Kn.sl kn0 hl'
    have hs0 := kn0.size
    have nq : ¬ (D g5 ∨ E g5) := fun e => by have := e.elim (h.ld g5) (h.le g5); omega
    refine k_drawQ (fun k => D k ∨ E k) [(0, 0), (1, 0), (2, 0), (4, 0), (5, 0), (8, 0), (9, 0), (10, 0), (11, 0), (12, 0), (3, 1), (6, 1), (7, 1), (13, 1), (14, 0), (15, 0)] (by kernel_rfl) (by kernel_rfl) rfl (by kernel_rfl) ?_
    repeat(refine runq_ ?_)
    refine q_open rfl ?_; refine q_still (v := posV (p1, p2)) (fun w1 hq => r_loadA (cs := [.int .i64 p1, .int .i64 p2]) rfl rfl (fun j u hu => by
      match j, hu with
      | 0, hu => cases hu; exact hq.cell (blk_cell hb5) nq
      | 1, hu => cases hu; exact hq.cell (blk_cell hb5) nq)) wy_ rfl (StQ.refl _ _) ?_
    repeat(refine runq_ ?_)
    refine q_open rfl ?_; refine q_still (v := .slice Al dl.length cl) (fun w1 hq => r_load rfl (hq.cell (blk_cell hb5) nq)) wy_ rfl (StQ.refl _ _) ?_
    repeat(refine runq_ ?_)
    refine q_open rfl ?_; refine q_still (v := posV (p1, p2)) (fun w1 hq => r_loadA (cs := [.int .i64 p1, .int .i64 p2]) rfl rfl (fun j u hu => by
      match j, hu with
      | 0, hu => cases hu; exact hq.cell (blk_cell hb5) nq
      | 1, hu => cases hu; exact hq.cell (blk_cell hb5) nq)) wy_ rfl (StQ.refl _ _) ?_
    repeat(refine runq_ ?_)
    refine q_open rfl ?_; refine q_still (v := .slice Al dl.length cl) (fun w1 hq => r_load rfl (hq.cell (blk_cell hb5) nq)) wy_ rfl (StQ.refl _ _) ?_
    repeat(refine runq_ ?_)
    refine q_open rfl ?_; refine q_lit (cs := []) rfl (by decide) (by kernel_rfl) wy_ rfl (StQ.refl _ _) (Nat.le_refl _) ?_
    intro g18 w1 nb1 hst1
    have hg18 := nb1.ge
    have hs1 := nb1.kn.size
    have hl1 := Kn.sl nb1.kn hl0
    refine q_open rfl ?_; refine q_any (e_append (d := kRune) (G := fun k => k = g18) (F := fun k => F k ∧ k < w.heap.size) (xs := []) (ys := dl) rfl rfl ⟨[], rfl, Fits.zero _, .inr ⟨g18, 0, 0, #[], _, rfl, rfl, nb1.at_, Nat.le_refl _, Nat.zero_le _, by simp, fun j u hu => by simp at hu⟩⟩ hl1 (fun k hk e => by have h8 : g18 = k := Option.some.inj e; have := hk.2; omega) (by show (0 + dl.length) * 4 ≤ 140737488355328; omega) rfl rfl rfl) wy_ rfl fun v2 w2 hA => ?_
    have hv2 := hA.ow.slF (F' := fun k => w.heap.size ≤ k ∨ (F k ∧ k < w.heap.size)) (fun k hk => .inl (by omega)) (fun k hk => .inr hk)
    rw [List.nil_append] at hv2
    have hs2 := hA.kp.size
    have k12 : Kp (fun k => k = g18) w1 w2 := hA.kp.mono fun k _ e => (Option.some.inj e).symm
    have hst2 : StQ (fun k => D k ∨ E k) w0 w2 := fun k hk hq => (k12.block k (by omega) (by omega)).trans (hst1 k hk hq)
    refine .inl ⟨hst2, ?_⟩
    have h2 := (h0.kp nb1.kn fun _ _ h => h).kp k12 fun k hk e => by have := hk.elim (h.ld k) (h.le k); omega
    refine q_open rfl ?_; refine q_enter (n_call rfl) wy_ rfl ((insertT_calls (p := (p1, p2)) h2.t hp hv2 (fun k hk hl e => ?_) (by omega)).mono ?_)
    · rcases hk with hk | hk
      · have := h.ld k e; omega
      · exact (hF k hk.1 hk.2).1 e
    rintro _ w3 ⟨k23, rfl, hT3⟩
    have hs3 := k23.size
    have hst3 : StQ (fun k => D k ∨ E k) w0 w3 := fun k hk hq => (k23.block k (by omega) fun e => hq (.inl e)).trans (hst2 k hk hq)
    refine .inl ⟨hst3, ?_⟩
    have hX3 := h2.x.kp k23 fun k hk e => h.ap k e hk
    refine q_open rfl ?_; refine q_enter (n_call rfl) wy_ rfl ((insertR_calls (p := (p1, p2)) hX3 hL (by omega) hp (Kp.sl k23 (Kp.sl k12 hl1 fun k hk e => by have := hk.2; omega) fun k hk e => (hF k hk.1 hk.2).1 e) (fun k hk _ e => (hF k hk.1 hk.2).2 (e ▸ h.x.1)) (by omega)).mono ?_)
    rintro _ w4 ⟨k34, rfl, hX4⟩
    have hs4 := k34.size
    have hgx := h.x.1
    have hst4 : StQ (fun k => D k ∨ E k) w0 w4 := fun k hk hq => (k34.block k (by omega) fun e => hq (.inr (e ▸ hgx))).trans (hst3 k hk hq)
    refine .inl ⟨hst4, ?_⟩
    repeat(refine runq_ ?_)
    refine k_ret1 rfl rfl ?_
    have kw1 : Kn w w1 := kn0.trans nb1.kn
    have kw2 : Kp (fun k => D k ∨ E k) w w2 := Kp.then kw1 k12 (fun _ h => h.elim) (fun k hk e => by exfalso; omega)
    have kw3 : Kp (fun k => D k ∨ E k) w w3 := Kp.then kw2 k23 (fun _ h => h) (fun k hk e => .inl e)
    exact ⟨Kp.then kw3 k34 (fun _ h => h) (fun k hk e => .inr (e ▸ hgx)), by simp, two_after h (by omega) hT3 hs3 k34 hX4 (by omega)⟩
  refine l_no rfl h0 ?_
  repeat(first|refine lrun_ ?_|(refine lo_boxA rfl rfl ?_;intro _ _ _)|(refine lo_box1 rfl rfl rfl ?_;intro _ _ _)|(refine lo_alloc rfl ?_;intro _ _ _))
  by_cases h1 : d0 = 1
  · subst h1
    refine l_true rfl ?_
    refine l_seq ?_
    unfold WLG
    intro w0 hw0
    have kn0 : Kn w w0 := kn_mk hw0.kp
    have h0 := h.kp kn0 (fun _ _ h => h)
    have hb5 := hw0.mem g5 _ .hd
    have hs0 := kn0.size
    have nq : ¬ (D g5 ∨ E g5) := fun e => by have := e.elim (h.ld g5) (h.le g5); omega
    refine k_drawQ (fun k => D k ∨ E k) [(0, 0), (1, 0), (2, 0), (3, 0), (4, 0), (6, 0), (7, 0), (8, 0), (9, 0), (10, 0), (5, 1), (11, 1), (12, 0), (13, 0)] (by kernel_rfl) (by kernel_rfl) rfl (by kernel_rfl) ?_
    repeat(refine runq_ ?_)
    refine q_open rfl ?_; refine q_still (v := posV (p1, p2)) (fun w1 hq => r_loadA (cs := [.int .i64 p1, .int .i64 p2]) rfl rfl (fun j u hu => by
      match j, hu with
      | 0, hu => cases hu; exact hq.cell (blk_cell hb5) nq
      | 1, hu => cases hu; exact hq.cell (blk_cell hb5) nq)) wy_ rfl (StQ.refl _ _) ?_
    repeat(refine runq_ ?_)
    refine q_open rfl ?_; refine q_still (v := posV (q1, q2)) (fun w1 hq => r_loadA (cs := [.int .i64 q1, .int .i64 q2]) rfl rfl (fun j u hu => by
      match j, hu with
      | 0, hu => cases hu; exact hq.cell (blk_cell hb5) nq
      | 1, hu => cases hu; exact hq.cell (blk_cell hb5) nq)) wy_ rfl (StQ.refl _ _) ?_
    repeat(refine runq_ ?_)
    refine q_open rfl ?_; refine q_still (v := posV (p1, p2)) (fun w1 hq => r_loadA (cs := [.int .i64 p1, .int .i64 p2]) rfl rfl (fun j u hu => by
      match j, hu with
      | 0, hu => cases hu; exact hq.cell (blk_cell hb5) nq
      | 1, hu => cases hu; exact hq.cell (blk_cell hb5) nq)) wy_ rfl (StQ.refl _ _) ?_
    repeat(refine runq_ ?_)
    refine q_open rfl ?_; refine q_still (v := posV (q1, q2)) (fun w1 hq => r_loadA (cs := [.int .i64 q1, .int .i64 q2]) rfl rfl (fun j u hu => by
      match j, hu with
      | 0, hu => cases hu; exact hq.cell (blk_cell hb5) nq
      | 1, hu => cases hu; exact hq.cell (blk_cell hb5) nq)) wy_ rfl (StQ.refl _ _) ?_
    repeat(refine runq_ ?_)
    refine q_open rfl ?_; refine q_enter (n_call rfl) wy_ rfl ((deleteT_calls (p := (p1, p2)) (q := (q1, q2)) h0.t hp hq (by omega)).mono ?_)
    rintro _ w3 ⟨k23, rfl, hT3⟩
    have hs3 := k23.size
    have hst3 : StQ (fun k => D k ∨ E k) w0 w3 := k23.stq fun k _ e => .inl e
    refine .inl ⟨hst3, ?_⟩
    have hX3 := h0.x.kp k23 fun k hk e => h.ap k e hk
    refine q_open rfl ?_; refine q_enter (n_call rfl) wy_ rfl ((deleteR_calls (p := (p1, p2)) (q := (q1, q2)) hX3 hL (by omega) hp hq).mono ?_)
    rintro _ w4 ⟨k34, rfl, hX4⟩
    have hs4 := k34.size
    have hgx := h.x.1
    have hst4 : StQ (fun k => D k ∨ E k) w0 w4 := fun k hk hq => (k34.block k (by omega) fun e => hq (.inr (e ▸ hgx))).trans (hst3 k hk hq)
    refine .inl ⟨hst4, ?_⟩
    repeat(refine runq_ ?_)
    refine k_ret1 rfl rfl ?_
    have kw3 : Kp (fun k => D k ∨ E k) w w3 := Kp.then kn0 k23 (fun _ h => h.elim) (fun k hk e => .inl e)
    exact ⟨Kp.then kw3 k34 (fun _ h => h) (fun k hk e => .inr (e ▸ hgx)), by simp, two_after h (by omega) hT3 hs3 k34 hX4 (by omega)⟩
  refine l_no rfl h1 ?_
  repeat(first|refine lrun_ ?_|(refine lo_boxA rfl rfl ?_;intro _ _ _)|(refine lo_box1 rfl rfl rfl ?_;intro _ _ _)|(refine lo_alloc rfl ?_;intro _ _ _))
  by_cases h2 : d0 = 2
  · subst h2
    refine l_true rfl ?_
    repeat(first|refine lrun_ ?_|(refine lo_boxA rfl rfl ?_;intro _ _ _)|(refine lo_box1 rfl rfl rfl ?_;intro _ _ _)|(refine lo_alloc rfl ?_;intro _ _ _))
    refine lo_callM (n_call rfl) rfl (fun w' hw => sliceT_calls (p := (p1, p2)) (q := (q1, q2)) (h.t.kn (kn_mk hw.kp)) hp hq) ?_
    rintro w1 _ w2 hw1 kn1 ko1 ⟨v7, rfl, hV⟩
    have hk1 := kn_mk hw1.kp
    have h2 := (h.kp hk1 fun _ _ h => h).kp kn1 fun _ _ h => h
    have hV2 := Hd.of hV hw1
    obtain ⟨A7, c7, rfl, _⟩ := hV2.form
    have hs1 := hk1.size
    have hs2 := kn1.size
    have hg5n : ∀ k, D k ∨ E k → ¬ MK [(g5, cb [.int .i64 2, .int .i64 dn, .int .i64 p1, .int .i64 p2, .int .i64 q1, .int .i64 q2, .slice Al dl.length cl, .slice As dls.length cs] 43)] k := fun k hk hm => by have := mk_one hm; have := hk.elim (h.ld k) (h.le k); omega
    repeat(first|refine lrun_ ?_|(refine lo_boxA rfl rfl ?_;intro _ _ _)|(refine lo_box1 rfl rfl rfl ?_;intro _ _ _)|(refine lo_alloc rfl ?_;intro _ _ _))
    refine lo_callM (n_call rfl) rfl (fun w' hw => sliceR_calls (p := (p1, p2)) (q := (q1, q2)) (h2.x.kp hw.kp fun k hk => hg5n k (.inr hk)) (by omega) hp hq) ?_
    rintro w3 _ w4 hw3 kn3 ko3 ⟨v9, rfl, hU⟩
    have h4 := (h2.kp hw3.kp hg5n).kp kn3 fun _ _ h => h
    have hV4 := hV2.next hw3 kn3
    have hU4 : HdF kRune (fun k => noB w3 k ∧ k < w4.heap.size) w4 (MK [(g5, cb [.int .i64 2, .int .i64 dn, .int .i64 p1, .int .i64 p2, .int .i64 q1, .int .i64 q2, .slice Al dl.length cl, .slice As dls.length cs] 43)]) v9 (sliT L (p1, p2) (q1, q2)).1 := ⟨hU.mono fun k hk hl => ⟨hk, hl⟩, fun k hk => ⟨fun hm => by have := hw3.lt hm; have := hk.1; unfold noB at this; omega, hk.2⟩⟩
    repeat(first|refine lrun_ ?_|(refine lo_boxA rfl rfl ?_;intro _ _ _)|(refine lo_box1 rfl rfl rfl ?_;intro _ _ _)|(refine lo_alloc rfl ?_;intro _ _ _))
    refine lo_call (n_call rfl) rfl (fun w' hw => runes_calls (hV4.now hw) (hU4.now hw)) ?_
    rw [decide_eq_true rfl]
    repeat(first|refine lrun_ ?_|(refine lo_boxA rfl rfl ?_;intro _ _ _)|(refine lo_box1 rfl rfl rfl ?_;intro _ _ _)|(refine lo_alloc rfl ?_;intro _ _ _))
    refine l_ret1 rfl rfl fun w' hw => ⟨hw.org, by simp, L, D, E, ?_, fun k hk => hk.elim .inl fun h => .inr (.inl h)⟩
    have h5 := h4.kp hw.kp hg5n
    exact ⟨h5.t.more (by omega), h5.x, h5.ap, h5.ld, h5.le⟩
  refine l_no rfl h2 ?_
  refine l_go .skip ?_
  repeat(first|refine lrun_ ?_|(refine lo_boxA rfl rfl ?_;intro _ _ _)|(refine lo_box1 rfl rfl rfl ?_;intro _ _ _)|(refine lo_alloc rfl ?_;intro _ _ _))
  unfold WLG
  intro w0 hw0
  have kn0 : Kn w w0 := kn_mk hw0.kp
  have h0' := h.kp kn0 (fun _ _ h => h)
  have hb5 := hw0.mem g5 _ .hd
  have hs0 := kn0.size
  have nq : ¬ (D g5 ∨ E g5) := fun e => by have := e.elim (h.ld g5) (h.le g5); omega
  refine k_drawQ (fun k => D k ∨ E k) [(0, 0), (1, 0), (2, 0), (3, 0), (4, 0), (5, 0), (6, 0), (7, 0), (10, 0), (11, 0), (12, 0), (13, 0), (14, 0), (15, 0), (16, 0), (17, 0), (8, 1), (9, 1), (18, 1), (19, 0), (20, 0)] (by kernel_rfl) (by kernel_rfl) rfl (by kernel_rfl) ?_
  repeat(refine runq_ ?_)
  refine q_open rfl ?_; refine q_still (v := .int .i64 p1) (fun w1 hq => r_load rfl (hq.cell (blk_cell hb5) nq)) wy_ rfl (StQ.refl _ _) ?_
  repeat(refine runq_ ?_)
  refine q_open rfl ?_; refine q_still (v := .int .i64 dn) (fun w1 hq => r_load rfl (hq.cell (blk_cell hb5) nq)) wy_ rfl (StQ.refl _ _) ?_
  repeat(refine runq_ ?_)
  refine q_open rfl ?_; refine q_still (v := .slice As dls.length cs) (fun w1 hq => r_load rfl (hq.cell (blk_cell hb5) nq)) wy_ rfl (StQ.refl _ _) ?_
  repeat(refine runq_ ?_)
  refine q_open rfl ?_; refine q_still (v := .int .i64 p1) (fun w1 hq => r_load rfl (hq.cell (blk_cell hb5) nq)) wy_ rfl (StQ.refl _ _) ?_
  repeat(refine runq_ ?_)
  refine q_open rfl ?_; refine q_still (v := .int .i64 dn) (fun w1 hq => r_load rfl (hq.cell (blk_cell hb5) nq)) wy_ rfl (StQ.refl _ _) ?_
  repeat(refine runq_ ?_)
  refine q_open rfl ?_; refine q_still (v := .slice As dls.length cs) (fun w1 hq => r_load rfl (hq.cell (blk_cell hb5) nq)) wy_ rfl (StQ.refl _ _) ?_
  repeat(refine runq_ ?_)
  have hs0' := Kn.sl kn0 hs'
  refine q_open rfl ?_; refine q_enter (n_call rfl) wy_ rfl ((twinT_calls hs0').mono ?_)
  rintro v2 w2 ⟨kn1, us, hTb⟩
  have hv2 := (hTb.ow fun _ _ => trivial).slF (F' := noB w0) (fun _ h => h) fun _ h => h
  have hs2 := kn1.size
  have hst2 : StQ (fun k => D k ∨ E k) w0 w2 := kn1.stq fun k _ e => e.elim
  refine .inl ⟨hst2, ?_⟩
  have h2' := h0'.kp kn1 fun _ _ h => h
  refine q_open rfl ?_; refine q_enter (n_call rfl) wy_ rfl ((replaceT_calls (i := p1) (n := dn) h2'.t hp.1 hn hv2 (fun k hk hl e => by have := h.ld k e; unfold noB at hk; omega) (by omega) (by omega)).mono ?_)
  rintro _ w3 ⟨k23, rfl, hT3⟩
  have hs3 := k23.size
  have hst3 : StQ (fun k => D k ∨ E k) w0 w3 := fun k hk hq => (k23.block k (by omega) fun e => hq (.inl e)).trans (hst2 k hk hq)
  refine .inl ⟨hst3, ?_⟩
  have hX3 := h2'.x.kp k23 fun k hk e => h.ap k e hk
  refine q_open rfl ?_; refine q_enter (n_call rfl) wy_ rfl ((replaceR_calls (i := p1) (n := dn) hX3 hpl hL (by omega) hp.1 hn (Kp.sl k23 (Kn.sl kn1 hs0') fun k hk e => (hF k hk.1 hk.2).1 e) (fun k hk _ e => (hF k hk.1 hk.2).2 (e ▸ h.x.1)) (by omega)).mono ?_)
  rintro _ w4 ⟨k34, rfl, hX4⟩
  have hs4 := k34.size
  have hgx := h.x.1
  have hst4 : StQ (fun k => D k ∨ E k) w0 w4 := fun k hk hq => (k34.block k (by omega) fun e => hq (.inr (e ▸ hgx))).trans (hst3 k hk hq)
  refine .inl ⟨hst4, ?_⟩
  repeat(refine runq_ ?_)
  refine k_ret1 rfl rfl ?_
  have kw2 : Kn w w2 := kn0.trans kn1
  have kw3 : Kp (fun k => D k ∨ E k) w w3 := Kp.then kw2 k23 (fun _ h => h.elim) (fun k hk e => .inl e)
  exact ⟨Kp.then kw3 k34 (fun _ h => h) (fun k hk e => .inr (e ▸ hgx)), by simp, two_after h (by omega) hT3 hs3 k34 hX4 (by have hx := jnd_len dls; omega)⟩
end
end Go.Ink
