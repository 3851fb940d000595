/-
  KeysApart.
-/
import Derived.Test.YtbmjcjlenbgpkaaK8
import Derived.Test.YtbmjcjlenbgpkaaRead
import Derived.Test.YtbmjcjlenbgpkaaV2
set_option linter.unusedVariables false
set_option linter.unusedSimpArgs false
namespace Go.Ink
open Go Go.Proofs Go.RowKit

/-- How often a rune 0 goes on, at most, ahead of an end. -/
def leftM : Wa → Nat
  | .start => 1
  | .after => 1
  | .reg => 2
  | .big _ => 1
  | .obj => 1
  | .arg => 1
  | .key => 1
  | .ended => 1
  | .none => 1
theorem feed_zero {s : Pst} {v : Bool} : (feedM s 0 v).2 = pst0 ∨ leftM (feedM s 0 v).2.n < leftM s.n := by
  obtain ⟨h, n, c, cnt, vis⟩ := s
  have hd : isDg 0 cnt = false := by unfold isDg; exact decide_eq_false fun h => by omega
  have hm : ∀ c : Cmd, (motionM c 0).1 = .none := fun c => rfl
  have hs : ∀ (v : Bool) (c : Cmd), (startC v c 0).1 = .none := fun v c => by cases v <;> rfl
  have ha : ∀ c : Cmd, (afterC c 0).1 = .none ∨ (afterC c 0).1 = .ended := fun c => by
    unfold afterC
    split
    · exact .inr rfl
    · exact .inl rfl
  cases n with
  | start =>
    left
    simp only [feedM, take_start, hd, fedM, Bool.false_eq_true, if_false, hs]
  | after =>
    left
    simp only [feedM, take_after, hd, fedM, Bool.false_eq_true, if_false]
    rcases ha (countedM c cnt) with e | e <;> rw [e]
  | reg => right; exact (by decide : 1 < 2)
  | big b => left; cases b <;> rfl
  | obj => left; rfl
  | arg => left; rfl
  | key => left; rfl
  | ended => left; rfl
  | none => left; rfl
/-- What is held is nothing only at the begin. -/
def Bare (s : Pst) : Prop := s.held = [] → s.n = .start ∧ s.c = cmd0 ∧ s.cnt = 0
theorem feed_bare {s : Pst} {r : Int} {v : Bool} : Bare (feedM s r v).2 := by
  unfold feedM fedM Bare
  split
  · exact fun _ => ⟨rfl, rfl, rfl⟩
  · exact fun _ => ⟨rfl, rfl, rfl⟩
  · intro h; simp at h
/-- Two that tell the same. -/
def Like (s t : Pst) : Prop := s.held = t.held ∧ s.n = t.n ∧ s.c = t.c ∧ s.cnt = t.cnt ∧ (s.held ≠ [] → s.vis = t.vis)
theorem like_feed {s t : Pst} {r : Int} {v : Bool} (h : Like s t) : (feedM s r v).1 = (feedM t r v).1 ∧ Like (feedM s r v).2 (feedM t r v).2 := by
  obtain ⟨h1, n, c, cnt, vis⟩ := s
  obtain ⟨h1', n', c', cnt', vis'⟩ := t
  obtain ⟨rfl, rfl, rfl, rfl, hv⟩ := h
  have e : (if h1 = [] then v else vis) = if h1 = [] then v else vis' := by
    by_cases h : h1 = []
    · rw [if_pos h, if_pos h]
    · rw [if_neg h, if_neg h]; exact hv h
  have e2 : feedM ⟨h1, n, c, cnt, vis⟩ r v = feedM ⟨h1, n, c, cnt, vis'⟩ r v := by
    show fedM _ _ _ (takeM n (if h1 = [] then v else vis) c cnt r) = fedM _ _ _ (takeM n (if h1 = [] then v else vis') c cnt r)
    simp only
    rw [e]
    rfl
  rw [e2]
  exact ⟨rfl, rfl, rfl, rfl, rfl, fun _ => rfl⟩
theorem like_run (v : Bool) : ∀ (l : List Int) (x y : (Cmd × Int) × Pst), Like x.2 y.2 → Like (runM v l x).2 (runM v l y).2
  | [], _, _, h => h
  | r :: t, x, y, h => like_run v t _ _ (like_feed h).2
theorem left_le (n : Wa) : 1 ≤ leftM n ∧ leftM n ≤ 2 := by cases n <;> simp [leftM]
section
variable {P : Program} {fn : Func} {k : List Item} {σ : Sig} {O B w w' : World} {S K D D2 : Nat → Prop} {M M3 : Mm} {R : Pt} {ops : Array Oper} {rest : List Oper}
variable {dd : Option Nat} {op : Op} {oty : TypeId} {opos : String} {oaf : Array Edge} {g g2 : Nat} {s t : Pst}
theorem PrB.nextT {T : Nat → Prop} (h : PrB O B K D g s) (hw : Lw O S B K M w) (kp : Kp T w w') (hT : ∀ k, D k → ¬ T k) : PrB O w' (MK M) D g s :=
  ⟨(h.now hw).kp kp hT, fun k hk => ⟨(h.2 k hk).1, by have := (h.2 k hk).2.1; have := hw.kp.size; have := kp.size; omega, hw.apart (h.2 k hk).2.2 (h.2 k hk).2.1⟩⟩
theorem lo_feedT {r : Int} {v : Bool} (hT : PrB O B K D g s) (hT2 : PrB O B K D2 g2 t) (hdj : ∀ k, D k → ¬ D2 k) (hok : PstOk s) (hr : -2147483648 ≤ r ∧ r ≤ 2147483647) (hl : s.held.length ≤ 1048576) (hrun : En Try.prog fn.ntmps σ ⟨dd, op, oty, opos, oaf, none⟩ 20 #[.pointer (some ⟨g, 0, none⟩), .int .i32 r, .bool v]) (hd : okD dd fn.ntmps = true)
    (h : ∀ w w' D', Lw O S B K M w → Kp S O w' → PrB O w' (MK M) D' g (feedM s r v).2 → PrB O w' (MK M) D2 g2 t → (∀ k, D' k → ¬ D2 k) → WLo Try.prog fn ops rest k (putS dd (.tuple #[.agg (cmdL (feedM s r v).1.1).toArray, .int .i64 (feedM s r v).1.2]) σ) O S w' (MK M) M R) : WLo Try.prog fn ops ((⟨dd, op, oty, opos, oaf, none⟩ : Oper) :: rest) k σ O S B K M R :=
  lo_feed hT hok hr hl hrun hd fun w w' hw kp ko hP => h w w' _ hw ko hP (hT2.nextT hw kp fun k h2 h1 => hdj k h1 h2) fun k hk h2 => hk.1.elim (fun h1 => hdj k h1 h2) fun h1 => by have := (hT2.2 k h2).2.1; have := hw.kp.size; omega
end
theorem r_neC {P : Program} {N : Nat} {σ : Sig} {w : World} {dst : Option Nat} {ty : TypeId} {pos : String} {af : Array Edge} {gd : Option (Nat × Bool)} {x y : Operand} {t t' : TypeId} {ks : List (Option IntKind)} [hT : EqST P t ks] {vs us : List Value} {b : Bool} (hx : ev σ x = some (.agg vs.toArray)) (hy : ev σ y = some (.agg us.toArray)) (h1 : Okv ks vs) (h2 : Okv ks us) (hb : vbs vs us = !b) :
    Rn P N σ w ⟨dst, .binOp .neq t x y t', ty, pos, af, gd⟩ (.bool b) := by
  have := r_neS (P := P) (N := N) (w := w) (dst := dst) (ty := ty) (pos := pos) (af := af) (gd := gd) (t := t) (t' := t') hx hy h1 h2
  rw [hb, Bool.not_not] at this
  exact this
theorem vbs_self (c : Cmd) : vbs (cmdL c) (cmdL c) = true := by simp [vbs, vb]
set_option maxHeartbeats 16000000 in
theorem apart_tail3 {W B : World} {K D1 D2 : Nat → Prop} {A1 : Option Addr} {c1 : Nat} {b : List Int} {ad1 : Addr} {v : Bool} {g1 g2 : Nat} {s0 : Pst} (hX : Rns (fun _ => True) W A1 c1 b ad1) (hb : b.length ≤ 50) (hP1 : PrB W B K D1 g1 s0) (hP2 : PrB W B K D2 g2 pst0) (hdj : ∀ k, D1 k → ¬ D2 k) (hok : PstOk s0) (hlk : Like s0 pst0) :
    ∀ σ', SubB σ' [(1, .slice A1 b.length c1), (2, .bool v), (7, .pointer (some ⟨g1, 0, none⟩)), (8, .pointer (some ⟨g2, 0, none⟩))] → ∀ M', MSub [] M' → WL Try.prog Try.f7 (.code (bodyC Try.f7 [1, 1, 1, 1, 1, 1]) :: []) σ' W (fun _ => False) B K M' (fun u w' => Kn W w' ∧ u = .bool true) := by
  intro σ' hs M' hM
  refine WL.sub hs hM ?_
  repeat(first|refine lrun_ ?_|(refine lo_boxA rfl rfl ?_;intro _ _ _)|(refine lo_box1 rfl rfl rfl ?_;intro _ _ _)|(refine lo_alloc rfl ?_;intro _ _ _))
  refine l_whileB (T := Nat × Pst × Pst) (fun x => b.length - x.1) (fun x => [(1, .slice A1 b.length c1), (2, .bool v), (7, .pointer (some ⟨g1, 0, none⟩)), (8, .pointer (some ⟨g2, 0, none⟩)), (11, .int .i64 (x.1 : Int))]) (fun _ => [])
    (fun x w => x.1 ≤ b.length ∧ PstOk x.2.1 ∧ PstOk x.2.2 ∧ Like x.2.1 x.2.2 ∧ x.2.1.held.length ≤ x.1 ∧ ∃ D1 D2, PrB W w (MK []) D1 g1 x.2.1 ∧ PrB W w (MK []) D2 g2 x.2.2 ∧ ∀ k, D1 k → ¬ D2 k) (0, s0, pst0) (by repeat (first | exact SubB.nil | refine SubB.cons rfl ?_)) (by repeat(first|exact MSub.refl|refine MSub.keep rfl ?_|exact MSub.nil|apply MSub.drop)) (fun w' hw => ⟨Nat.zero_le _, hok, pst0_ok, hlk, by rw [hlk.1]; exact Nat.zero_le _, _, _, hP1.re hw .nil, hP2.re hw .nil, hdj⟩) ?_
  rintro ⟨i, s, t⟩ b' ⟨hi, hos, hot, hlk, hln, D1, D2, hP1, hP2, hdj⟩ hkb ih
  simp only at hi hos hot hlk hln hP1 hP2 hdj
  by_cases hlt : i < b.length
  · have h32 := hX.lo i
    have hlf := like_feed (r := b.getD i 0) (v := v) hlk
    have hh := hlk.1
    repeat(first|refine lrun_ ?_|(refine lo_boxA rfl rfl ?_;intro _ _ _)|(refine lo_box1 rfl rfl rfl ?_;intro _ _ _)|(refine lo_alloc rfl ?_;intro _ _ _))
    refine l_yes rfl (by omega) ?_
    repeat(first|refine lrun_ ?_|(refine lo_boxA rfl rfl ?_;intro _ _ _)|(refine lo_box1 rfl rfl rfl ?_;intro _ _ _)|(refine lo_alloc rfl ?_;intro _ _ _))
    refine lo_feedT hP1 hP2 hdj hos h32 (by omega) (n_call rfl) rfl ?_
    intro w1 w2 D1' hw1 ko1 hP1' hP2' hdj'
    repeat(first|refine lrun_ ?_|(refine lo_boxA rfl rfl ?_;intro _ _ _)|(refine lo_box1 rfl rfl rfl ?_;intro _ _ _)|(refine lo_alloc rfl ?_;intro _ _ _))
    refine lo_feedT hP2' hP1' (fun k h2 h1 => hdj' k h1 h2) hot h32 (by rw [← hh]; omega) (n_call rfl) rfl ?_
    intro w3 w4 D2' hw3 ko3 hP2f hP1f hdj2
    repeat(first|refine lrun_ ?_|(refine lo_boxA rfl rfl ?_;intro _ _ _)|(refine lo_box1 rfl rfl rfl ?_;intro _ _ _)|(refine lo_alloc rfl ?_;intro _ _ _))
    refine lo_rn (fun _ => r_neC (vs := cmdL (feedM s (b.getD i 0) v).1.1) (us := cmdL (feedM t (b.getD i 0) v).1.1) rfl rfl (okv_cmd _) (okv_cmd _) (b := false) (by rw [hlf.1]; exact vbs_self _)) rfl ?_
    repeat(first|refine lrun_ ?_|(refine lo_boxA rfl rfl ?_;intro _ _ _)|(refine lo_box1 rfl rfl rfl ?_;intro _ _ _)|(refine lo_alloc rfl ?_;intro _ _ _))
    refine l_no rfl (fun h => h (by rw [hlf.1])) ?_
    refine l_go .skip ?_
    repeat(first|refine lrun_ ?_|(refine lo_boxA rfl rfl ?_;intro _ _ _)|(refine lo_box1 rfl rfl rfl ?_;intro _ _ _)|(refine lo_alloc rfl ?_;intro _ _ _))
    have hP1g := hP1f.less (K' := MK []) fun k hk => (mk_nil hk).elim
    have hP2g := hP2f.less (K' := MK []) fun k hk => (mk_nil hk).elim
    have hhl := feed_held (s := s) (r := b.getD i 0) (v := v)
    exact ih (i + 1, (feedM s (b.getD i 0) v).2, (feedM t (b.getD i 0) v).2) w4 _ ⟨hlt, feed_ok hos, feed_ok hot, hlf.2, by simp only; omega, _, _, hP1g, hP2g, fun k h1 h2 => hdj2 k h2 h1⟩ (by simp only; omega) _ _ (by repeat (first | exact SubB.nil | refine SubB.cons rfl ?_)) (by repeat(first|exact MSub.refl|refine MSub.keep rfl ?_|exact MSub.nil|apply MSub.drop)) fun w' hw' => ⟨hlt, feed_ok hos, feed_ok hot, hlf.2, by simp only; omega, _, _, hP1f.re hw' .nil, hP2f.re hw' .nil, fun k h1 h2 => hdj2 k h2 h1⟩
  · repeat(first|refine lrun_ ?_|(refine lo_boxA rfl rfl ?_;intro _ _ _)|(refine lo_box1 rfl rfl rfl ?_;intro _ _ _)|(refine lo_alloc rfl ?_;intro _ _ _))
    refine l_no rfl (by omega) ?_
    refine l_go (.exit rfl) ?_
    repeat(first|refine lrun_ ?_|(refine lo_boxA rfl rfl ?_;intro _ _ _)|(refine lo_box1 rfl rfl rfl ?_;intro _ _ _)|(refine lo_alloc rfl ?_;intro _ _ _))
    refine lo_callM (n_call rfl) rfl (fun w' hw => held_calls (hP1.now hw)) ?_
    intro w1 u w2 hw1 kn1 ko1 hO
    have hP2' := hP2.next hw1 kn1
    repeat(first|refine lrun_ ?_|(refine lo_boxA rfl rfl ?_;intro _ _ _)|(refine lo_box1 rfl rfl rfl ?_;intro _ _ _)|(refine lo_alloc rfl ?_;intro _ _ _))
    refine lo_callM (n_call rfl) rfl (fun w' hw => held_calls (hP2'.now hw)) ?_
    intro w3 u' w4 hw3 kn3 ko3 hO'
    have hO4 := Kn.ow kn3 (Kp.ow hw3.kp hO (fun k _ => mk_nil) fun _ h => h.elim)
    repeat(first|refine lrun_ ?_|(refine lo_boxA rfl rfl ?_;intro _ _ _)|(refine lo_box1 rfl rfl rfl ?_;intro _ _ _)|(refine lo_alloc rfl ?_;intro _ _ _))
    refine lo_call (n_call rfl) rfl (fun w' hw => runes_calls (Kp.sl hw.kp hO4.sl fun k _ => mk_nil) (Kp.sl hw.kp hO'.sl fun k _ => mk_nil)) ?_
    rw [hlk.1]
    repeat(first|refine lrun_ ?_|(refine lo_boxA rfl rfl ?_;intro _ _ _)|(refine lo_box1 rfl rfl rfl ?_;intro _ _ _)|(refine lo_alloc rfl ?_;intro _ _ _))
    refine lo_call (n_call (args := []) rfl) rfl (fun w' hw => awake_calls) ?_
    repeat(first|refine lrun_ ?_|(refine lo_boxA rfl rfl ?_;intro _ _ _)|(refine lo_box1 rfl rfl rfl ?_;intro _ _ _)|(refine lo_alloc rfl ?_;intro _ _ _))
    exact l_ret1 rfl rfl fun w' hw => ⟨hw.org, rfl⟩
set_option maxHeartbeats 16000000 in
theorem apart_tail2 {W B : World} {K D1 D2 : Nat → Prop} {A1 : Option Addr} {c1 : Nat} {b : List Int} {ad1 : Addr} {v : Bool} {g1 g2 : Nat} {s0 : Pst} (hX : Rns (fun _ => True) W A1 c1 b ad1) (hb : b.length ≤ 50) (hP1 : PrB W B K D1 g1 s0) (hP2 : PrB W B K D2 g2 pst0) (hdj : ∀ k, D1 k → ¬ D2 k) (hok : PstOk s0) (hbr : Bare s0) (hl0 : s0.held.length ≤ 50) :
    ∀ σ', SubB σ' [(1, .slice A1 b.length c1), (2, .bool v), (7, .pointer (some ⟨g1, 0, none⟩)), (8, .pointer (some ⟨g2, 0, none⟩))] → ∀ M', MSub [] M' → WL Try.prog Try.f7 (.code (bodyC Try.f7 [1, 1, 1, 1, 1]) :: []) σ' W (fun _ => False) B K M' (fun u w' => Kn W w' ∧ u = .bool true) := by
  intro σ' hs M' hM
  refine WL.sub hs hM ?_
  repeat(first|refine lrun_ ?_|(refine lo_boxA rfl rfl ?_;intro _ _ _)|(refine lo_box1 rfl rfl rfl ?_;intro _ _ _)|(refine lo_alloc rfl ?_;intro _ _ _))
  refine l_whileB (T := Nat × Pst) (fun x => if x.2.held = [] then 0 else leftM x.2.n) (fun x => [(1, .slice A1 b.length c1), (2, .bool v), (7, .pointer (some ⟨g1, 0, none⟩)), (8, .pointer (some ⟨g2, 0, none⟩)), (10, .int .i64 (x.1 : Int))]) (fun _ => [])
    (fun x w => x.1 ≤ 4 ∧ (x.2.held = [] ∨ leftM x.2.n + x.1 ≤ 2) ∧ PstOk x.2 ∧ Bare x.2 ∧ x.2.held.length ≤ 50 + x.1 ∧ ∃ D1 D2, PrB W w (MK []) D1 g1 x.2 ∧ PrB W w (MK []) D2 g2 pst0 ∧ ∀ k, D1 k → ¬ D2 k) (0, s0) (by repeat (first | exact SubB.nil | refine SubB.cons rfl ?_)) (by repeat(first|exact MSub.refl|refine MSub.keep rfl ?_|exact MSub.nil|apply MSub.drop)) (fun w' hw => ⟨Nat.zero_le _, .inr (left_le _).2, hok, hbr, hl0, _, _, hP1.re hw .nil, hP2.re hw .nil, hdj⟩) ?_
  rintro ⟨i, s⟩ b' ⟨hi, hle, hos, hbs, hln, D1, D2, hP1, hP2, hdj⟩ hkb ih
  simp only at hi hle hos hbs hln hP1 hP2 hdj
  have h1 := left_le s.n
  repeat(first|refine lrun_ ?_|(refine lo_boxA rfl rfl ?_;intro _ _ _)|(refine lo_box1 rfl rfl rfl ?_;intro _ _ _)|(refine lo_alloc rfl ?_;intro _ _ _))
  refine lo_callM (n_call rfl) rfl (fun w' hw => held_calls (hP1.now hw)) ?_
  intro w1 u w2 hw1 kn1 ko1 hO
  obtain ⟨Au, cu, rfl, _⟩ := hO.form
  have hP1' := hP1.next hw1 kn1
  have hP2' := hP2.next hw1 kn1
  by_cases he : s.held = []
  · have hlk : Like s pst0 := ⟨he, (hbs he).1, (hbs he).2.1, (hbs he).2.2, fun h => absurd he h⟩
    repeat(first|refine lrun_ ?_|(refine lo_boxA rfl rfl ?_;intro _ _ _)|(refine lo_box1 rfl rfl rfl ?_;intro _ _ _)|(refine lo_alloc rfl ?_;intro _ _ _))
    refine l_no rfl (by rw [he]; decide) ?_
    refine l_go (.exit rfl) ?_
    exact apart_tail3 hX hb hP1' hP2' hdj hos hlk _ (by repeat (first | exact SubB.nil | refine SubB.cons rfl ?_)) _ .nil
  · have hpos := List.length_pos_iff.2 he
    have hle2 := hle.resolve_left he
    have hfz := feed_zero (s := s) (v := v)
    repeat(first|refine lrun_ ?_|(refine lo_boxA rfl rfl ?_;intro _ _ _)|(refine lo_box1 rfl rfl rfl ?_;intro _ _ _)|(refine lo_alloc rfl ?_;intro _ _ _))
    refine l_yes rfl (by omega) ?_
    refine l_go .skip ?_
    repeat(first|refine lrun_ ?_|(refine lo_boxA rfl rfl ?_;intro _ _ _)|(refine lo_box1 rfl rfl rfl ?_;intro _ _ _)|(refine lo_alloc rfl ?_;intro _ _ _))
    refine l_no rfl (by omega) ?_
    refine l_go .skip ?_
    repeat(first|refine lrun_ ?_|(refine lo_boxA rfl rfl ?_;intro _ _ _)|(refine lo_box1 rfl rfl rfl ?_;intro _ _ _)|(refine lo_alloc rfl ?_;intro _ _ _))
    refine lo_feedT hP1' hP2' hdj hos (by decide) (by omega) (n_call rfl) rfl ?_
    intro w3 w4 D1' hw3 ko3 hP1f hP2f hdj2
    repeat(first|refine lrun_ ?_|(refine lo_boxA rfl rfl ?_;intro _ _ _)|(refine lo_box1 rfl rfl rfl ?_;intro _ _ _)|(refine lo_alloc rfl ?_;intro _ _ _))
    have hhl := feed_held (s := s) (r := 0) (v := v)
    have hP1g := hP1f.less (K' := MK []) fun k hk => (mk_nil hk).elim
    have hP2g := hP2f.less (K' := MK []) fun k hk => (mk_nil hk).elim
    have hleft : (feedM s 0 v).2.held = [] ∨ leftM (feedM s 0 v).2.n + (i + 1) ≤ 2 := by
      rcases hfz with e | e
      · left; rw [e]
      · right; omega
    exact ih (i + 1, (feedM s 0 v).2) w4 _ ⟨by simp only; omega, hleft, feed_ok hos, feed_bare, by simp only; omega, _, _, hP1g, hP2g, hdj2⟩ (by
      simp only
      rw [if_neg he]
      rcases hfz with e | e
      · rw [e, if_pos rfl]; omega
      · split <;> omega) _ _ (by repeat (first | exact SubB.nil | refine SubB.cons rfl ?_)) (by repeat(first|exact MSub.refl|refine MSub.keep rfl ?_|exact MSub.nil|apply MSub.drop)) fun w' hw' => ⟨by simp only; omega, hleft, feed_ok hos, feed_bare, by simp only; omega, _, _, hP1f.re hw' .nil, hP2f.re hw' .nil, hdj2⟩
set_option maxHeartbeats 16000000 in
theorem law_KeysApart {W : World} {va vb : Value} {a b : List Int} (ha : Sl kRune (fun _ => True) W va a) (hb : Sl kRune (fun _ => True) W vb b) (v : Bool) : CallsR Try.prog 7 #[va, vb, .bool v] W fun r w' => r = .bool true ∧ Kn W w' := by
  suffices h : CallsR Try.prog 7 #[va, vb, .bool v] W fun r w' => Kn W w' ∧ r = .bool true from h.mono fun _ _ ⟨a, b⟩ => ⟨b, a⟩
  obtain ⟨A, c, ad, rfl, hX⟩ := ha.rns
  obtain ⟨A1, c1, ad1, rfl, hY⟩ := hb.rns
  refine l_enter (args := [.slice A a.length c, .slice A1 b.length c1, .bool v]) (fun _ => False) Try.func7 rfl rfl ?_
  by_cases h1 : 50 < a.length
  · repeat(first|refine lrun_ ?_|(refine lo_boxA rfl rfl ?_;intro _ _ _)|(refine lo_box1 rfl rfl rfl ?_;intro _ _ _)|(refine lo_alloc rfl ?_;intro _ _ _))
    refine l_true rfl ?_
    repeat(first|refine lrun_ ?_|(refine lo_boxA rfl rfl ?_;intro _ _ _)|(refine lo_box1 rfl rfl rfl ?_;intro _ _ _)|(refine lo_alloc rfl ?_;intro _ _ _))
    exact l_ret1 rfl rfl fun w' hw => ⟨hw.org, rfl⟩
  by_cases h2 : 50 < b.length
  · repeat(first|refine lrun_ ?_|(refine lo_boxA rfl rfl ?_;intro _ _ _)|(refine lo_box1 rfl rfl rfl ?_;intro _ _ _)|(refine lo_alloc rfl ?_;intro _ _ _))
    refine l_yes rfl (by omega) ?_
    repeat(first|refine lrun_ ?_|(refine lo_boxA rfl rfl ?_;intro _ _ _)|(refine lo_box1 rfl rfl rfl ?_;intro _ _ _)|(refine lo_alloc rfl ?_;intro _ _ _))
    exact l_ret1 rfl rfl fun w' hw => ⟨hw.org, rfl⟩
  repeat(first|refine lrun_ ?_|(refine lo_boxA rfl rfl ?_;intro _ _ _)|(refine lo_box1 rfl rfl rfl ?_;intro _ _ _)|(refine lo_alloc rfl ?_;intro _ _ _))
  refine l_no rfl (by omega) ?_
  refine l_go .skip ?_
  repeat(first|refine lrun_ ?_|(refine lo_boxA rfl rfl ?_;intro _ _ _)|(refine lo_box1 rfl rfl rfl ?_;intro _ _ _)|(refine lo_alloc rfl ?_;intro _ _ _))
  refine lo_callM (n_call (args := []) rfl) rfl (fun w' hw => newP_calls) ?_
  rintro w1 _ w2 hw1 kn1 ko1 ⟨g1, rfl, hP⟩
  have hs1 := hw1.org.size
  have hs2 := kn1.size
  have hP2 : PrB W w2 (MK []) (fun k => noB w1 k ∧ k < w2.heap.size) g1 pst0 := ⟨hP.mono fun k hk hl => ⟨hk, hl⟩, fun k hk => ⟨by have := hk.1; unfold noB at this; omega, hk.2, mk_nil⟩⟩
  clear hP
  repeat(first|refine lrun_ ?_|(refine lo_boxA rfl rfl ?_;intro _ _ _)|(refine lo_box1 rfl rfl rfl ?_;intro _ _ _)|(refine lo_alloc rfl ?_;intro _ _ _))
  refine lo_callM (n_call (args := []) rfl) rfl (fun w' hw => newP_calls) ?_
  rintro w3 _ w4 hw3 kn3 ko3 ⟨g2, rfl, hP⟩
  have hs3 := hw3.org.size
  have hs3' := hw3.kp.size
  have hs4 := kn3.size
  have hP4 : PrB W w4 (MK []) (fun k => noB w3 k ∧ k < w4.heap.size) g2 pst0 := ⟨hP.mono fun k hk hl => ⟨hk, hl⟩, fun k hk => ⟨by have := hk.1; unfold noB at this; omega, hk.2, mk_nil⟩⟩
  have hP3 := hP2.next hw3 kn3
  have hdj : ∀ k, noB w1 k ∧ k < w2.heap.size → ¬ (noB w3 k ∧ k < w4.heap.size) := fun k h1 h2 => by have := h1.2; have := h2.1; unfold noB at this; omega
  clear hP hP2
  repeat(first|refine lrun_ ?_|(refine lo_boxA rfl rfl ?_;intro _ _ _)|(refine lo_box1 rfl rfl rfl ?_;intro _ _ _)|(refine lo_alloc rfl ?_;intro _ _ _))
  refine l_false rfl ?_
  refine l_go .skip ?_
  repeat(first|refine lrun_ ?_|(refine lo_boxA rfl rfl ?_;intro _ _ _)|(refine lo_box1 rfl rfl rfl ?_;intro _ _ _)|(refine lo_alloc rfl ?_;intro _ _ _))
  refine l_whileB (T := Nat × Pst) (fun x => a.length - x.1) (fun x => [(0, .slice A a.length c), (1, .slice A1 b.length c1), (2, .bool v), (7, .pointer (some ⟨g1, 0, none⟩)), (8, .pointer (some ⟨g2, 0, none⟩)), (9, .int .i64 (x.1 : Int))]) (fun _ => [])
    (fun x w => x.1 ≤ a.length ∧ PstOk x.2 ∧ Bare x.2 ∧ x.2.held.length ≤ x.1 ∧ ∃ D1 D2, PrB W w (MK []) D1 g1 x.2 ∧ PrB W w (MK []) D2 g2 pst0 ∧ ∀ k, D1 k → ¬ D2 k) (0, pst0) (by repeat (first | exact SubB.nil | refine SubB.cons rfl ?_)) (by repeat(first|exact MSub.refl|refine MSub.keep rfl ?_|exact MSub.nil|apply MSub.drop)) (fun w' hw => ⟨Nat.zero_le _, pst0_ok, fun _ => ⟨rfl, rfl, rfl⟩, Nat.zero_le _, _, _, hP3.re hw .nil, hP4.re hw .nil, hdj⟩) ?_
  rintro ⟨i, s⟩ b' ⟨hi, hos, hbs, hln, D1, D2, hP1, hP2, hdj⟩ hkb ih
  simp only at hi hos hbs hln hP1 hP2 hdj
  by_cases hlt : i < a.length
  · have h32 := hX.lo i
    repeat(first|refine lrun_ ?_|(refine lo_boxA rfl rfl ?_;intro _ _ _)|(refine lo_box1 rfl rfl rfl ?_;intro _ _ _)|(refine lo_alloc rfl ?_;intro _ _ _))
    refine l_yes rfl (by omega) ?_
    repeat(first|refine lrun_ ?_|(refine lo_boxA rfl rfl ?_;intro _ _ _)|(refine lo_box1 rfl rfl rfl ?_;intro _ _ _)|(refine lo_alloc rfl ?_;intro _ _ _))
    refine lo_feedT hP1 hP2 hdj hos h32 (by omega) (n_call rfl) rfl ?_
    intro w3 w4 D1' hw3 ko3 hP1f hP2f hdj2
    repeat(first|refine lrun_ ?_|(refine lo_boxA rfl rfl ?_;intro _ _ _)|(refine lo_box1 rfl rfl rfl ?_;intro _ _ _)|(refine lo_alloc rfl ?_;intro _ _ _))
    have hhl := feed_held (s := s) (r := a.getD i 0) (v := v)
    have hP1g := hP1f.less (K' := MK []) fun k hk => (mk_nil hk).elim
    have hP2g := hP2f.less (K' := MK []) fun k hk => (mk_nil hk).elim
    exact ih (i + 1, (feedM s (a.getD i 0) v).2) w4 _ ⟨hlt, feed_ok hos, feed_bare, by simp only; omega, _, _, hP1g, hP2g, hdj2⟩ (by simp only; omega) _ _ (by repeat (first | exact SubB.nil | refine SubB.cons rfl ?_)) (by repeat(first|exact MSub.refl|refine MSub.keep rfl ?_|exact MSub.nil|apply MSub.drop)) fun w' hw' => ⟨hlt, feed_ok hos, feed_bare, by simp only; omega, _, _, hP1f.re hw' .nil, hP2f.re hw' .nil, hdj2⟩
  · repeat(first|refine lrun_ ?_|(refine lo_boxA rfl rfl ?_;intro _ _ _)|(refine lo_box1 rfl rfl rfl ?_;intro _ _ _)|(refine lo_alloc rfl ?_;intro _ _ _))
    refine l_no rfl (by omega) ?_
    refine l_go (.exit rfl) ?_
    exact apart_tail2 hY (by omega) hP1 hP2 hdj hos hbs (by omega) _ (by repeat (first | exact SubB.nil | refine SubB.cons rfl ?_)) _ .nil
end Go.Ink
