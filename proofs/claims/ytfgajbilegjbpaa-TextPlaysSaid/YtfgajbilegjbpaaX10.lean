/-
  Insert, between, Delete, Slice.
-/
import Derived.Test.YtfgajbilegjbpaaX9
set_option linter.unusedVariables false
set_option linter.unusedSimpArgs false
namespace Go.Ink
open Go Go.Proofs Go.RowKit

section
variable {P : Program} {fn : Func} {O : World}
/-- Blocks of S may turn later; none has turned yet. -/
theorem l_enter0 {f : FuncId} {c : Code} {args : List Value} {S : Nat → Prop} (hf : P.funcs[f]? = some fn) (hb : fn.body = some c) (hn : Nat.ble args.length fn.ntmps = true)
    {R : Value → World → Prop} (h : WL P fn [.code c] (sigOf 0 args) O S O (MK []) [] R) : CallsR P f args.toArray O R := by
  unfold WL WLG at h
  exact calls_enter hf hb hn (h O (Lw.init O S (MK [])))
end
/-- The offset of a place. -/
def ofP (L : List (List Int)) (p : Ps) : Nat := (p.2 + (ofs L p.1.toNat : Nat)).toNat
theorem ofP_eq {L : List (List Int)} {p : Ps} (h : thereP L p) : p.2 + (ofs L p.1.toNat : Nat) = ((ofP L p : Nat) : Int) := by
  have := h.2.2.1
  unfold ofP; omega
theorem ofP_le {L : List (List Int)} {p : Ps} (h : thereP L p) : ofP L p ≤ (jndM L).length := by
  obtain ⟨h1, h2, h3, h4⟩ := h
  have h5 := ofs_lt (L := L) (i := p.1.toNat) (by omega)
  have h6 := jnd_len L
  unfold ofP
  unfold sumN at h5
  omega
def insT (L : List (List Int)) (p : Ps) (l : List Int) : List (List Int) × Int := if thereP L p then chgM L (ofP L p) 0 l else (L, 2)
section
variable {D F : Nat → Prop} {g : Nat} {w w' : World} {L : List (List Int)} {b : Nat} {v : Value} {l : List Int}
theorem IsTxt.grow {w0 : World} (h : IsTxt (grownD D w0) g w L b) (hs : w'.heap.size ≤ w0.heap.size) : IsTxt (grownD D w') g w L b := h.mono fun k hk _ => hk.imp id fun hk => by omega
set_option maxHeartbeats 4000000 in
theorem insertT_calls {p : Ps} (h : IsTxt D g w L b) (hp : P64 p) (hv : Sl kRune F w v l) (hF : ∀ k, F k → k < w.heap.size → ¬ D k) (hb : b + l.length ≤ 1099511627776) :
    CallsR Try.prog 22 #[.pointer (some ⟨g, 0, none⟩), posV p, v] w (TxtQ D g w (insT L p l).1 (b + l.length) (insT L p l).2) := by
  refine l_enter0 (S := D) Try.func22 rfl rfl ?_
  repeat(first|refine lrun_ ?_|(refine lo_boxA rfl rfl ?_;intro _ _ _)|(refine lo_box1 rfl rfl rfl ?_;intro _ _ _)|(refine lo_alloc rfl ?_;intro _ _ _))
  refine lo_call (n_call rfl) rfl (fun w' hw => offsetT_calls (h.kn (kn_mk hw.kp)) hp) ?_
  unfold insT
  by_cases ht : thereP L p
  case neg =>
    rw [if_neg ht, if_neg ht, if_neg ht]
    repeat(first|refine lrun_ ?_|(refine lo_boxA rfl rfl ?_;intro _ _ _)|(refine lo_box1 rfl rfl rfl ?_;intro _ _ _)|(refine lo_alloc rfl ?_;intro _ _ _))
    refine l_true rfl ?_
    repeat(first|refine lrun_ ?_|(refine lo_boxA rfl rfl ?_;intro _ _ _)|(refine lo_box1 rfl rfl rfl ?_;intro _ _ _)|(refine lo_alloc rfl ?_;intro _ _ _))
    exact l_ret1 rfl rfl fun w' hw => ⟨hw.org, rfl, ((h.kn (kn_mk hw.kp)).mono fun k hk _ => .inl hk).more (by omega)⟩
  rw [if_pos ht, if_pos ht, if_pos ht, ofP_eq ht]
  have hle := ofP_le ht
  repeat(first|refine lrun_ ?_|(refine lo_boxA rfl rfl ?_;intro _ _ _)|(refine lo_box1 rfl rfl rfl ?_;intro _ _ _)|(refine lo_alloc rfl ?_;intro _ _ _))
  refine l_false rfl ?_
  refine l_go .skip ?_
  repeat(first|refine lrun_ ?_|(refine lo_boxA rfl rfl ?_;intro _ _ _)|(refine lo_box1 rfl rfl rfl ?_;intro _ _ _)|(refine lo_alloc rfl ?_;intro _ _ _))
  refine lo_callT (M3 := []) .nil (n_call rfl) rfl (T := D) (fun k hk => ⟨.inr hk, mk_nil⟩) (fun w' hw => (change_calls (a := ofP L p) (n := 0) (h.kn (kn_mk hw.kp)) (Kn.sl (kn_mk hw.kp) (hv.mono (F' := fun k => F k ∧ k < w.heap.size) fun k hk hl => ⟨hk, hl⟩)) (fun k hk _ => hF k hk.1 hk.2) (by omega) hb).mono fun u w' h => h) ?_
  rintro w1 _ w2 hw1 kp1 ko1 ⟨rfl, hT⟩
  have hs1 := hw1.org.size
  repeat(first|refine lrun_ ?_|(refine lo_boxA rfl rfl ?_;intro _ _ _)|(refine lo_box1 rfl rfl rfl ?_;intro _ _ _)|(refine lo_alloc rfl ?_;intro _ _ _))
  exact l_ret1 rfl rfl fun w' hw => ⟨hw.org, rfl, (hT.grow hs1).kn (kn_mk hw.kp)⟩
/-- Where a part begins, how long it is, what is told. -/
def betM (L : List (List Int)) (p q : Ps) : Int × Int × Int := if ¬ thereP L p ∨ ¬ thereP L q then (0, 0, 2) else if ofP L q < ofP L p then (0, 0, 1) else ((ofP L p : Int), (ofP L q : Int) - (ofP L p : Int), 0)
set_option maxHeartbeats 4000000 in
theorem betweenT_calls {p q : Ps} (h : IsTxt D g w L b) (hp : P64 p) (hq : P64 q) :
    CallsR Try.prog 46 #[.pointer (some ⟨g, 0, none⟩), posV p, posV q] w fun u w' => Kn w w' ∧ u = .tuple #[.int .i64 (betM L p q).1, .int .i64 (betM L p q).2.1, .int .i64 (betM L p q).2.2] := by
  have hbd := h.bound
  refine l_enter (fun _ => False) Try.func46 rfl rfl ?_
  repeat(first|refine lrun_ ?_|(refine lo_boxA rfl rfl ?_;intro _ _ _)|(refine lo_box1 rfl rfl rfl ?_;intro _ _ _)|(refine lo_alloc rfl ?_;intro _ _ _))
  refine lo_call (n_call rfl) rfl (fun w' hw => offsetT_calls (h.kn hw.org) hp) ?_
  unfold betM
  by_cases ht : thereP L p
  case neg =>
    rw [if_neg ht, if_neg ht, if_pos (.inl ht)]
    repeat(first|refine lrun_ ?_|(refine lo_boxA rfl rfl ?_;intro _ _ _)|(refine lo_box1 rfl rfl rfl ?_;intro _ _ _)|(refine lo_alloc rfl ?_;intro _ _ _))
    refine l_true rfl ?_
    repeat(first|refine lrun_ ?_|(refine lo_boxA rfl rfl ?_;intro _ _ _)|(refine lo_box1 rfl rfl rfl ?_;intro _ _ _)|(refine lo_alloc rfl ?_;intro _ _ _))
    exact l_retR3 rfl (by repeat(first|exact LRes.nil|refine LRes.tmp rfl ?_|refine LRes.agg rfl (by(repeat(first|exact MIn.hd|refine MIn.tl ?_));done) (by rfl) (by rfl) ?_|refine LRes.one rfl (by(repeat(first|exact MIn.hd|refine MIn.tl ?_));done) (by rfl) ?_)) fun w' hw => ⟨hw.org, rfl⟩
  rw [if_pos ht, if_pos ht, ofP_eq ht]
  have hle := ofP_le ht
  repeat(first|refine lrun_ ?_|(refine lo_boxA rfl rfl ?_;intro _ _ _)|(refine lo_box1 rfl rfl rfl ?_;intro _ _ _)|(refine lo_alloc rfl ?_;intro _ _ _))
  refine l_false rfl ?_
  refine l_go .skip ?_
  repeat(first|refine lrun_ ?_|(refine lo_boxA rfl rfl ?_;intro _ _ _)|(refine lo_box1 rfl rfl rfl ?_;intro _ _ _)|(refine lo_alloc rfl ?_;intro _ _ _))
  refine lo_call (n_call rfl) rfl (fun w' hw => offsetT_calls (h.kn hw.org) hq) ?_
  by_cases ht2 : thereP L q
  case neg =>
    rw [if_neg ht2, if_neg ht2, if_pos (.inr ht2)]
    repeat(first|refine lrun_ ?_|(refine lo_boxA rfl rfl ?_;intro _ _ _)|(refine lo_box1 rfl rfl rfl ?_;intro _ _ _)|(refine lo_alloc rfl ?_;intro _ _ _))
    refine l_true rfl ?_
    repeat(first|refine lrun_ ?_|(refine lo_boxA rfl rfl ?_;intro _ _ _)|(refine lo_box1 rfl rfl rfl ?_;intro _ _ _)|(refine lo_alloc rfl ?_;intro _ _ _))
    exact l_retR3 rfl (by repeat(first|exact LRes.nil|refine LRes.tmp rfl ?_|refine LRes.agg rfl (by(repeat(first|exact MIn.hd|refine MIn.tl ?_));done) (by rfl) (by rfl) ?_|refine LRes.one rfl (by(repeat(first|exact MIn.hd|refine MIn.tl ?_));done) (by rfl) ?_)) fun w' hw => ⟨hw.org, rfl⟩
  rw [if_pos ht2, if_pos ht2, ofP_eq ht2, if_neg (fun h => h.elim (fun h => h ht) fun h => h ht2)]
  have hle2 := ofP_le ht2
  repeat(first|refine lrun_ ?_|(refine lo_boxA rfl rfl ?_;intro _ _ _)|(refine lo_box1 rfl rfl rfl ?_;intro _ _ _)|(refine lo_alloc rfl ?_;intro _ _ _))
  refine l_false rfl ?_
  refine l_go .skip ?_
  by_cases hlt : ofP L q < ofP L p
  · rw [if_pos hlt]
    repeat(first|refine lrun_ ?_|(refine lo_boxA rfl rfl ?_;intro _ _ _)|(refine lo_box1 rfl rfl rfl ?_;intro _ _ _)|(refine lo_alloc rfl ?_;intro _ _ _))
    refine l_yes rfl (by omega) ?_
    repeat(first|refine lrun_ ?_|(refine lo_boxA rfl rfl ?_;intro _ _ _)|(refine lo_box1 rfl rfl rfl ?_;intro _ _ _)|(refine lo_alloc rfl ?_;intro _ _ _))
    exact l_retR3 rfl (by repeat(first|exact LRes.nil|refine LRes.tmp rfl ?_|refine LRes.agg rfl (by(repeat(first|exact MIn.hd|refine MIn.tl ?_));done) (by rfl) (by rfl) ?_|refine LRes.one rfl (by(repeat(first|exact MIn.hd|refine MIn.tl ?_));done) (by rfl) ?_)) fun w' hw => ⟨hw.org, rfl⟩
  · rw [if_neg hlt]
    repeat(first|refine lrun_ ?_|(refine lo_boxA rfl rfl ?_;intro _ _ _)|(refine lo_box1 rfl rfl rfl ?_;intro _ _ _)|(refine lo_alloc rfl ?_;intro _ _ _))
    refine l_no rfl (by omega) ?_
    refine l_go .skip ?_
    repeat(first|refine lrun_ ?_|(refine lo_boxA rfl rfl ?_;intro _ _ _)|(refine lo_box1 rfl rfl rfl ?_;intro _ _ _)|(refine lo_alloc rfl ?_;intro _ _ _))
    exact l_retR3 rfl (by repeat(first|exact LRes.nil|refine LRes.tmp rfl ?_|refine LRes.agg rfl (by(repeat(first|exact MIn.hd|refine MIn.tl ?_));done) (by rfl) (by rfl) ?_|refine LRes.one rfl (by(repeat(first|exact MIn.hd|refine MIn.tl ?_));done) (by rfl) ?_)) fun w' hw => ⟨hw.org, rfl⟩
def delT (L : List (List Int)) (p q : Ps) : List (List Int) × Int := if (betM L p q).2.2 = 0 then chgM L (ofP L p) (ofP L q - ofP L p) [] else (L, (betM L p q).2.2)
set_option maxHeartbeats 4000000 in
theorem deleteT_calls {p q : Ps} (h : IsTxt D g w L b) (hp : P64 p) (hq : P64 q) (hb : b ≤ 1099511627776) :
    CallsR Try.prog 25 #[.pointer (some ⟨g, 0, none⟩), posV p, posV q] w (TxtQ D g w (delT L p q).1 b (delT L p q).2) := by
  have hbd := h.bound
  refine l_enter0 (S := D) Try.func25 rfl rfl ?_
  repeat(first|refine lrun_ ?_|(refine lo_boxA rfl rfl ?_;intro _ _ _)|(refine lo_box1 rfl rfl rfl ?_;intro _ _ _)|(refine lo_alloc rfl ?_;intro _ _ _))
  refine lo_call (n_call rfl) rfl (fun w' hw => betweenT_calls (h.kn (kn_mk hw.kp)) hp hq) ?_
  unfold delT
  by_cases hz : (betM L p q).2.2 = 0
  case neg =>
    rw [if_neg hz]
    repeat(first|refine lrun_ ?_|(refine lo_boxA rfl rfl ?_;intro _ _ _)|(refine lo_box1 rfl rfl rfl ?_;intro _ _ _)|(refine lo_alloc rfl ?_;intro _ _ _))
    refine l_yes rfl hz ?_
    repeat(first|refine lrun_ ?_|(refine lo_boxA rfl rfl ?_;intro _ _ _)|(refine lo_box1 rfl rfl rfl ?_;intro _ _ _)|(refine lo_alloc rfl ?_;intro _ _ _))
    exact l_ret1 rfl rfl fun w' hw => ⟨hw.org, rfl, ((h.kn (kn_mk hw.kp)).mono fun k hk _ => .inl hk)⟩
  rw [if_pos hz]
  obtain ⟨ht1, ht2, hle, hbe⟩ : thereP L p ∧ thereP L q ∧ ofP L p ≤ ofP L q ∧ betM L p q = ((ofP L p : Int), (ofP L q : Int) - (ofP L p : Int), 0) := by
    unfold betM at hz ⊢
    by_cases h1 : ¬ thereP L p ∨ ¬ thereP L q
    · rw [if_pos h1] at hz; cases hz
    · rw [if_neg h1] at hz ⊢
      by_cases h2 : ofP L q < ofP L p
      · rw [if_pos h2] at hz; cases hz
      · rw [if_neg h2]
        refine ⟨?_, ?_, by omega, rfl⟩
        · exact Classical.byContradiction fun h => h1 (.inl h)
        · exact Classical.byContradiction fun h => h1 (.inr h)
  have hl2 := ofP_le ht2
  rw [hbe]
  repeat(first|refine lrun_ ?_|(refine lo_boxA rfl rfl ?_;intro _ _ _)|(refine lo_box1 rfl rfl rfl ?_;intro _ _ _)|(refine lo_alloc rfl ?_;intro _ _ _))
  refine l_false rfl ?_
  refine l_go .skip ?_
  repeat(first|refine lrun_ ?_|(refine lo_boxA rfl rfl ?_;intro _ _ _)|(refine lo_box1 rfl rfl rfl ?_;intro _ _ _)|(refine lo_alloc rfl ?_;intro _ _ _))
  rw [show (ofP L q : Int) - (ofP L p : Int) = ((ofP L q - ofP L p : Nat) : Int) by omega]
  refine lo_callT (M3 := []) .nil (n_call rfl) rfl (T := D) (fun k hk => ⟨.inr hk, mk_nil⟩) (fun w' hw => (change_calls (a := ofP L p) (n := ofP L q - ofP L p) (l := []) (F := fun _ => False) (h.kn (kn_mk hw.kp)) (Sl.nil _ _ _) (fun _ h => h.elim) (by omega) (by simpa using hb)).mono fun u w' h => h) ?_
  rintro w1 _ w2 hw1 kp1 ko1 ⟨rfl, hT⟩
  have hs1 := hw1.org.size
  repeat(first|refine lrun_ ?_|(refine lo_boxA rfl rfl ?_;intro _ _ _)|(refine lo_box1 rfl rfl rfl ?_;intro _ _ _)|(refine lo_alloc rfl ?_;intro _ _ _))
  exact l_ret1 rfl rfl fun w' hw => ⟨hw.org, rfl, (hT.grow hs1).kn (kn_mk hw.kp)⟩
end
end Go.Ink
