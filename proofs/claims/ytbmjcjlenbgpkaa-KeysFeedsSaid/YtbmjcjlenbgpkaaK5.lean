/-
  The parser: Feed.
-/
import Derived.Test.YtbmjcjlenbgpkaaK4
set_option linter.unusedVariables false
set_option linter.unusedSimpArgs false
namespace Go.Ink
open Go Go.Proofs Go.RowKit

section
variable {P : Program} {fn : Func} {k : List Item} {σ : Sig} {O B : World} {S K : Nat → Prop} {M M' : Mm} {R : Pt} {ops : Array Oper} {rest : List Oper}
variable {dd : Option Nat} {op : Op} {oty : TypeId} {opos : String} {oaf : Array Edge}
/-- append of the one element of a literal, to a row of what may turn. -/
theorem lo_append1T {α : Type} {d : Kd α} {x y : Operand} {t e : TypeId} {sz bytes : Nat} {z : Value} [hT : SlT P t e] [hE : ElT P e sz bytes z] {G F : Nat → Prop} {v : Value} {xs : List α} {q : α} {g : Nat} {cs : List Value} {eb : TypeId} (hx : ev σ x = some v) (hy : ev σ y = some (.slice (some ⟨g, 0, none⟩) 1 1))
    (hO : Ow d G F B v xs) (hG : ∀ k, G k → (O.heap.size ≤ k ∨ S k) ∧ ¬ K k) (hF : ∀ k, F k → ¬ K k) (hm : MIn g (cb cs eb) M) (hq : ∀ w, Lw O S B K M w → d.R (fun k => F k ∧ v.ownBlock ≠ some k) w q cs) (hlen : (xs.length + 1) * bytes ≤ 140737488355328) (hsz : d.sz = sz) (hby : d.bytes = bytes) (hz : z.cells.size = sz) (hd : okD dd fn.ntmps = true)
    (h : ∀ w A n w', Lw O S B K M w → Kp S O w' → Kp (fun k => v.ownBlock = some k) w w' → (∀ k, (Value.slice A (xs ++ [q]).length n).ownBlock = some k → ¬ MK M k) → Ow d (fun k => G k ∨ B.heap.size ≤ k) F w' (.slice A (xs ++ [q]).length n) (xs ++ [q]) → WLo P fn ops rest k (putS dd (.slice A (xs ++ [q]).length n) σ) O S w' (MK M) M R) :
    WLo P fn ops ((⟨dd, .call { callee := .builtin .append, args := #[x, y], argTypes := #[t, t] }, oty, opos, oaf, none⟩ : Oper) :: rest) k σ O S B K M R := by
  unfold WLo at *
  intro w hw
  have hOw := Kp.ow hw.kp hO (fun k hk => (hG k hk).2) hF
  have hbB := hO.block
  refine o_any (e_append1 hx hy hOw (hw.mem g _ hm) (hq w hw) hlen hsz hby hz) (wants_none rfl) hd fun v' w' hA => ?_
  have hs := hw.kp.size
  have hap : ∀ k, v.ownBlock = some k → ¬ MK M k := fun k hk => hw.apart (hG k (hbB k hk).1).2 (hbB k hk).2
  have ko : Kp S O w' := Kp.then hw.org hA.kp (fun _ h => h) fun i hi ht => ((hG i (hbB i ht).1).1).elim (fun h => by omega) id
  have hO' : Ow d (fun k => G k ∨ B.heap.size ≤ k) F w' v' (xs ++ [q]) := hA.ow.mono (fun k hk _ => hk.imp id fun h => by omega) fun _ h _ => h
  obtain ⟨A, n, rfl, _⟩ := hO'.form
  refine h w A n w' hw ko hA.kp (fun k hk hm => ?_) hO' w' ⟨ko, Kp.refl _ _, fun q o hm => hA.kp.blk (hw.mem q o hm) fun ht => hap q ht ⟨o, hm⟩, hw.nd, fun q hm => ⟨(hw.ge q hm).1, .inr hm⟩⟩
  rcases hA.blk with e | ⟨g', e, hg'⟩
  · exact hap k (e ▸ hk) hm
  · rw [e] at hk; cases hk; have := hw.lt hm; omega
end
theorem mk_one {g k : Nat} {o : Obj} (h : MK [(g, o)] k) : k = g := by
  obtain ⟨o, hm⟩ := h
  cases hm with
  | hd => rfl
  | tl h => cases h
abbrev gD (D : Nat → Prop) (w : World) : Nat → Prop := fun k => D k ∨ w.heap.size ≤ k
/-- A parser's state. -/
structure Pst where
  held : List Int
  n : Wa
  c : Cmd
  cnt : Int
  vis : Bool
abbrev pst0 : Pst := ⟨[], .start, cmd0, 0, false⟩
/-- A parser at block g, all of it in D. -/
def IsPr (D : Nat → Prop) (g : Nat) (w : World) (s : Pst) : Prop := D g ∧ ∃ vh, w.heap[g]? = some (cb (pcs vh (waV s.n) s.c s.cnt s.vis) 78) ∧ Ow kRune (fun k => D k ∧ k ≠ g) (fun _ => False) w vh s.held
def Wa.on : Wa → Bool
  | .ended => false
  | .none => false
  | _ => true
/-- What it may be, its counts no more than may be. -/
structure PstOk (s : Pst) : Prop where
  on : s.n.on = true
  cnt : 0 ≤ s.cnt ∧ s.cnt ≤ 2147483647
  cc : 0 ≤ s.c.count ∧ s.c.count ≤ 2147483647
abbrev cmdL (c : Cmd) : List Value := [.int .i32 c.reg, .int .i64 c.count, .int .i32 c.op, .int .i32 c.key, .int .i32 c.pre, .int .i32 c.arg, .bool c.line]
def fedM (s : Pst) (v : Bool) (r : Int) (t : Wa × Cmd × Int) : (Cmd × Int) × Pst :=
  match t.1 with
  | .ended => ((t.2.1, 1), pst0)
  | .none => ((cmd0, 2), pst0)
  | n => ((cmd0, 0), ⟨s.held ++ [r], n, t.2.1, t.2.2, v⟩)
/-- What Feed tells, and leaves. -/
def feedM (s : Pst) (r : Int) (visual : Bool) : (Cmd × Int) × Pst := fedM s (if s.held = [] then visual else s.vis) r (takeM s.n (if s.held = [] then visual else s.vis) s.c s.cnt r)
section
variable {D : Nat → Prop} {g : Nat} {w w' : World} {s : Pst}
theorem IsPr.kp {S : Nat → Prop} (h : IsPr D g w s) (hk : Kp S w w') (hs : ∀ k, D k → ¬ S k) : IsPr D g w' s := by
  obtain ⟨h1, vh, h2, h3⟩ := h
  exact ⟨h1, vh, hk.blk h2 (hs g h1), Kp.ow hk h3 (fun k hk => hs k hk.1) fun _ h => h.elim⟩
theorem IsPr.mono {D' : Nat → Prop} (h : IsPr D g w s) (hd : ∀ k, D k → k < w.heap.size → D' k) : IsPr D' g w s := by
  obtain ⟨h1, vh, h2, h3⟩ := h
  exact ⟨hd g h1 (blk_lt h2), vh, h2, h3.mono (fun k hk hl => ⟨hd k hk.1 hl, hk.2⟩) fun _ h _ => h⟩
def FeedQ (D : Nat → Prop) (g : Nat) (w : World) (x : (Cmd × Int) × Pst) (u : Value) (w' : World) : Prop := Kp D w w' ∧ u = .tuple #[.agg (cmdL x.1.1).toArray, .int .i64 x.1.2] ∧ IsPr (gD D w) g w' x.2
set_option maxHeartbeats 8000000 in
theorem feed_tail {B : World} {K : Nat → Prop} {g6 : Nat} {vh : Value} {v : Bool} {r : Int} {t : Wa × Cmd × Int} {nv : Value} (hDg : D g) (hO : Ow kRune (fun k => (D k ∧ k ≠ g) ∨ w.heap.size ≤ k) (fun _ => False) B vh (s.held ++ [r])) (hK : ∀ k, vh.ownBlock = some k → ¬ K k) (hne : vh.ownBlock ≠ some g6) (hg6 : w.heap.size ≤ g6) (hgw : g < w.heap.size) :
    ∀ σ', SubB σ' [(0, .pointer (some ⟨g, 0, none⟩)), (6, .pointer (some ⟨g6, 0, none⟩))] → ∀ M', MSub [(g6, cb (cmdL cmd0) 43), (g, cb (pcs vh (waV t.1) t.2.1 t.2.2 v) 78)] M' →
      WL Try.prog Try.f20 (.code (bodyC Try.f20 [1, 1, 1, 1, 1]) :: []) σ' w D B K M' (FeedQ D g w (fedM s v r t)) := by
  intro σ' hs M' hM
  refine WL.sub hs hM ?_
  obtain ⟨n, c, cnt⟩ := t
  cases n
  case ended =>
    repeat(first|refine lrun_ ?_|(refine lo_boxA rfl rfl ?_;intro _ _ _)|(refine lo_box1 rfl rfl rfl ?_;intro _ _ _)|(refine lo_alloc rfl ?_;intro _ _ _))
    refine lo_rn (fun _ => r_assertYes rfl) rfl ?_
    repeat(first|refine lrun_ ?_|(refine lo_boxA rfl rfl ?_;intro _ _ _)|(refine lo_box1 rfl rfl rfl ?_;intro _ _ _)|(refine lo_alloc rfl ?_;intro _ _ _))
    refine l_false rfl ?_
    refine l_go .skip ?_
    repeat(first|refine lrun_ ?_|(refine lo_boxA rfl rfl ?_;intro _ _ _)|(refine lo_box1 rfl rfl rfl ?_;intro _ _ _)|(refine lo_alloc rfl ?_;intro _ _ _))
    refine lo_rn (fun _ => r_eqI1 rfl) rfl ?_
    repeat(first|refine lrun_ ?_|(refine lo_boxA rfl rfl ?_;intro _ _ _)|(refine lo_box1 rfl rfl rfl ?_;intro _ _ _)|(refine lo_alloc rfl ?_;intro _ _ _))
    refine l_false rfl ?_
    refine l_go .skip ?_
    repeat(first|refine lrun_ ?_|(refine lo_boxA rfl rfl ?_;intro _ _ _)|(refine lo_box1 rfl rfl rfl ?_;intro _ _ _)|(refine lo_alloc rfl ?_;intro _ _ _))
    refine lo_rn (fun _ => r_makeI rfl) rfl ?_
    repeat(first|refine lrun_ ?_|(refine lo_boxA rfl rfl ?_;intro _ _ _)|(refine lo_box1 rfl rfl rfl ?_;intro _ _ _)|(refine lo_alloc rfl ?_;intro _ _ _))
    exact l_retR2 rfl (by repeat(first|exact LRes.nil|refine LRes.tmp rfl ?_|refine LRes.agg rfl (by(repeat(first|exact MIn.hd|refine MIn.tl ?_));done) (by rfl) (by rfl) ?_|refine LRes.one rfl (by(repeat(first|exact MIn.hd|refine MIn.tl ?_));done) (by rfl) ?_)) fun w' hw => ⟨hw.org, rfl, .inl hDg, .slice none 0 0, hw.mem g _ (by(repeat(first|exact MIn.hd|refine MIn.tl ?_));done), Ow.nil _ _ _ _⟩
  case none =>
    repeat(first|refine lrun_ ?_|(refine lo_boxA rfl rfl ?_;intro _ _ _)|(refine lo_box1 rfl rfl rfl ?_;intro _ _ _)|(refine lo_alloc rfl ?_;intro _ _ _))
    refine lo_rn (fun _ => r_assertNil rfl) rfl ?_
    repeat(first|refine lrun_ ?_|(refine lo_boxA rfl rfl ?_;intro _ _ _)|(refine lo_box1 rfl rfl rfl ?_;intro _ _ _)|(refine lo_alloc rfl ?_;intro _ _ _))
    refine lo_rn (fun _ => r_neI0 rfl) rfl ?_
    repeat(first|refine lrun_ ?_|(refine lo_boxA rfl rfl ?_;intro _ _ _)|(refine lo_box1 rfl rfl rfl ?_;intro _ _ _)|(refine lo_alloc rfl ?_;intro _ _ _))
    refine l_false rfl ?_
    refine l_go .skip ?_
    repeat(first|refine lrun_ ?_|(refine lo_boxA rfl rfl ?_;intro _ _ _)|(refine lo_box1 rfl rfl rfl ?_;intro _ _ _)|(refine lo_alloc rfl ?_;intro _ _ _))
    refine lo_rn (fun _ => r_eqI0 rfl) rfl ?_
    repeat(first|refine lrun_ ?_|(refine lo_boxA rfl rfl ?_;intro _ _ _)|(refine lo_box1 rfl rfl rfl ?_;intro _ _ _)|(refine lo_alloc rfl ?_;intro _ _ _))
    refine l_true rfl ?_
    repeat(first|refine lrun_ ?_|(refine lo_boxA rfl rfl ?_;intro _ _ _)|(refine lo_box1 rfl rfl rfl ?_;intro _ _ _)|(refine lo_alloc rfl ?_;intro _ _ _))
    refine lo_rn (fun _ => r_makeI rfl) rfl ?_
    repeat(first|refine lrun_ ?_|(refine lo_boxA rfl rfl ?_;intro _ _ _)|(refine lo_box1 rfl rfl rfl ?_;intro _ _ _)|(refine lo_alloc rfl ?_;intro _ _ _))
    exact l_retR2 rfl (by repeat(first|exact LRes.nil|refine LRes.tmp rfl ?_|refine LRes.agg rfl (by(repeat(first|exact MIn.hd|refine MIn.tl ?_));done) (by rfl) (by rfl) ?_|refine LRes.one rfl (by(repeat(first|exact MIn.hd|refine MIn.tl ?_));done) (by rfl) ?_)) fun w' hw => ⟨hw.org, rfl, .inl hDg, .slice none 0 0, hw.mem g _ (by(repeat(first|exact MIn.hd|refine MIn.tl ?_));done), Ow.nil _ _ _ _⟩
  case start =>
    repeat(first|refine lrun_ ?_|(refine lo_boxA rfl rfl ?_;intro _ _ _)|(refine lo_box1 rfl rfl rfl ?_;intro _ _ _)|(refine lo_alloc rfl ?_;intro _ _ _))
    refine lo_rn (fun _ => r_assertNo rfl (by decide)) rfl ?_
    repeat(first|refine lrun_ ?_|(refine lo_boxA rfl rfl ?_;intro _ _ _)|(refine lo_box1 rfl rfl rfl ?_;intro _ _ _)|(refine lo_alloc rfl ?_;intro _ _ _))
    refine lo_rn (fun _ => r_neI1 rfl) rfl ?_
    repeat(first|refine lrun_ ?_|(refine lo_boxA rfl rfl ?_;intro _ _ _)|(refine lo_box1 rfl rfl rfl ?_;intro _ _ _)|(refine lo_alloc rfl ?_;intro _ _ _))
    refine l_true rfl ?_
    repeat(first|refine lrun_ ?_|(refine lo_boxA rfl rfl ?_;intro _ _ _)|(refine lo_box1 rfl rfl rfl ?_;intro _ _ _)|(refine lo_alloc rfl ?_;intro _ _ _))
    exact l_retR2 rfl (by repeat(first|exact LRes.nil|refine LRes.tmp rfl ?_|refine LRes.agg rfl (by(repeat(first|exact MIn.hd|refine MIn.tl ?_));done) (by rfl) (by rfl) ?_|refine LRes.one rfl (by(repeat(first|exact MIn.hd|refine MIn.tl ?_));done) (by rfl) ?_)) fun w' hw => ⟨hw.org, rfl, .inl hDg, vh, hw.mem g _ (by(repeat(first|exact MIn.hd|refine MIn.tl ?_));done), (hO.keep (F' := fun _ => False) fun k hk => hw.kp.block k (hO.block k hk).2 (hK k hk)).mono (fun k hk _ => hk.elim (fun h => ⟨.inl h.1, h.2⟩) fun h => ⟨.inr h, by omega⟩) fun _ h _ => h⟩
  case reg =>
    repeat(first|refine lrun_ ?_|(refine lo_boxA rfl rfl ?_;intro _ _ _)|(refine lo_box1 rfl rfl rfl ?_;intro _ _ _)|(refine lo_alloc rfl ?_;intro _ _ _))
    refine lo_rn (fun _ => r_assertNo rfl (by decide)) rfl ?_
    repeat(first|refine lrun_ ?_|(refine lo_boxA rfl rfl ?_;intro _ _ _)|(refine lo_box1 rfl rfl rfl ?_;intro _ _ _)|(refine lo_alloc rfl ?_;intro _ _ _))
    refine lo_rn (fun _ => r_neI1 rfl) rfl ?_
    repeat(first|refine lrun_ ?_|(refine lo_boxA rfl rfl ?_;intro _ _ _)|(refine lo_box1 rfl rfl rfl ?_;intro _ _ _)|(refine lo_alloc rfl ?_;intro _ _ _))
    refine l_true rfl ?_
    repeat(first|refine lrun_ ?_|(refine lo_boxA rfl rfl ?_;intro _ _ _)|(refine lo_box1 rfl rfl rfl ?_;intro _ _ _)|(refine lo_alloc rfl ?_;intro _ _ _))
    exact l_retR2 rfl (by repeat(first|exact LRes.nil|refine LRes.tmp rfl ?_|refine LRes.agg rfl (by(repeat(first|exact MIn.hd|refine MIn.tl ?_));done) (by rfl) (by rfl) ?_|refine LRes.one rfl (by(repeat(first|exact MIn.hd|refine MIn.tl ?_));done) (by rfl) ?_)) fun w' hw => ⟨hw.org, rfl, .inl hDg, vh, hw.mem g _ (by(repeat(first|exact MIn.hd|refine MIn.tl ?_));done), (hO.keep (F' := fun _ => False) fun k hk => hw.kp.block k (hO.block k hk).2 (hK k hk)).mono (fun k hk _ => hk.elim (fun h => ⟨.inl h.1, h.2⟩) fun h => ⟨.inr h, by omega⟩) fun _ h _ => h⟩
  case after =>
    repeat(first|refine lrun_ ?_|(refine lo_boxA rfl rfl ?_;intro _ _ _)|(refine lo_box1 rfl rfl rfl ?_;intro _ _ _)|(refine lo_alloc rfl ?_;intro _ _ _))
    refine lo_rn (fun _ => r_assertNo rfl (by decide)) rfl ?_
    repeat(first|refine lrun_ ?_|(refine lo_boxA rfl rfl ?_;intro _ _ _)|(refine lo_box1 rfl rfl rfl ?_;intro _ _ _)|(refine lo_alloc rfl ?_;intro _ _ _))
    refine lo_rn (fun _ => r_neI1 rfl) rfl ?_
    repeat(first|refine lrun_ ?_|(refine lo_boxA rfl rfl ?_;intro _ _ _)|(refine lo_box1 rfl rfl rfl ?_;intro _ _ _)|(refine lo_alloc rfl ?_;intro _ _ _))
    refine l_true rfl ?_
    repeat(first|refine lrun_ ?_|(refine lo_boxA rfl rfl ?_;intro _ _ _)|(refine lo_box1 rfl rfl rfl ?_;intro _ _ _)|(refine lo_alloc rfl ?_;intro _ _ _))
    exact l_retR2 rfl (by repeat(first|exact LRes.nil|refine LRes.tmp rfl ?_|refine LRes.agg rfl (by(repeat(first|exact MIn.hd|refine MIn.tl ?_));done) (by rfl) (by rfl) ?_|refine LRes.one rfl (by(repeat(first|exact MIn.hd|refine MIn.tl ?_));done) (by rfl) ?_)) fun w' hw => ⟨hw.org, rfl, .inl hDg, vh, hw.mem g _ (by(repeat(first|exact MIn.hd|refine MIn.tl ?_));done), (hO.keep (F' := fun _ => False) fun k hk => hw.kp.block k (hO.block k hk).2 (hK k hk)).mono (fun k hk _ => hk.elim (fun h => ⟨.inl h.1, h.2⟩) fun h => ⟨.inr h, by omega⟩) fun _ h _ => h⟩
  case big =>
    repeat(first|refine lrun_ ?_|(refine lo_boxA rfl rfl ?_;intro _ _ _)|(refine lo_box1 rfl rfl rfl ?_;intro _ _ _)|(refine lo_alloc rfl ?_;intro _ _ _))
    refine lo_rn (fun _ => r_assertNo rfl (by decide)) rfl ?_
    repeat(first|refine lrun_ ?_|(refine lo_boxA rfl rfl ?_;intro _ _ _)|(refine lo_box1 rfl rfl rfl ?_;intro _ _ _)|(refine lo_alloc rfl ?_;intro _ _ _))
    refine lo_rn (fun _ => r_neI1 rfl) rfl ?_
    repeat(first|refine lrun_ ?_|(refine lo_boxA rfl rfl ?_;intro _ _ _)|(refine lo_box1 rfl rfl rfl ?_;intro _ _ _)|(refine lo_alloc rfl ?_;intro _ _ _))
    refine l_true rfl ?_
    repeat(first|refine lrun_ ?_|(refine lo_boxA rfl rfl ?_;intro _ _ _)|(refine lo_box1 rfl rfl rfl ?_;intro _ _ _)|(refine lo_alloc rfl ?_;intro _ _ _))
    exact l_retR2 rfl (by repeat(first|exact LRes.nil|refine LRes.tmp rfl ?_|refine LRes.agg rfl (by(repeat(first|exact MIn.hd|refine MIn.tl ?_));done) (by rfl) (by rfl) ?_|refine LRes.one rfl (by(repeat(first|exact MIn.hd|refine MIn.tl ?_));done) (by rfl) ?_)) fun w' hw => ⟨hw.org, rfl, .inl hDg, vh, hw.mem g _ (by(repeat(first|exact MIn.hd|refine MIn.tl ?_));done), (hO.keep (F' := fun _ => False) fun k hk => hw.kp.block k (hO.block k hk).2 (hK k hk)).mono (fun k hk _ => hk.elim (fun h => ⟨.inl h.1, h.2⟩) fun h => ⟨.inr h, by omega⟩) fun _ h _ => h⟩
  case obj =>
    repeat(first|refine lrun_ ?_|(refine lo_boxA rfl rfl ?_;intro _ _ _)|(refine lo_box1 rfl rfl rfl ?_;intro _ _ _)|(refine lo_alloc rfl ?_;intro _ _ _))
    refine lo_rn (fun _ => r_assertNo rfl (by decide)) rfl ?_
    repeat(first|refine lrun_ ?_|(refine lo_boxA rfl rfl ?_;intro _ _ _)|(refine lo_box1 rfl rfl rfl ?_;intro _ _ _)|(refine lo_alloc rfl ?_;intro _ _ _))
    refine lo_rn (fun _ => r_neI1 rfl) rfl ?_
    repeat(first|refine lrun_ ?_|(refine lo_boxA rfl rfl ?_;intro _ _ _)|(refine lo_box1 rfl rfl rfl ?_;intro _ _ _)|(refine lo_alloc rfl ?_;intro _ _ _))
    refine l_true rfl ?_
    repeat(first|refine lrun_ ?_|(refine lo_boxA rfl rfl ?_;intro _ _ _)|(refine lo_box1 rfl rfl rfl ?_;intro _ _ _)|(refine lo_alloc rfl ?_;intro _ _ _))
    exact l_retR2 rfl (by repeat(first|exact LRes.nil|refine LRes.tmp rfl ?_|refine LRes.agg rfl (by(repeat(first|exact MIn.hd|refine MIn.tl ?_));done) (by rfl) (by rfl) ?_|refine LRes.one rfl (by(repeat(first|exact MIn.hd|refine MIn.tl ?_));done) (by rfl) ?_)) fun w' hw => ⟨hw.org, rfl, .inl hDg, vh, hw.mem g _ (by(repeat(first|exact MIn.hd|refine MIn.tl ?_));done), (hO.keep (F' := fun _ => False) fun k hk => hw.kp.block k (hO.block k hk).2 (hK k hk)).mono (fun k hk _ => hk.elim (fun h => ⟨.inl h.1, h.2⟩) fun h => ⟨.inr h, by omega⟩) fun _ h _ => h⟩
  case arg =>
    repeat(first|refine lrun_ ?_|(refine lo_boxA rfl rfl ?_;intro _ _ _)|(refine lo_box1 rfl rfl rfl ?_;intro _ _ _)|(refine lo_alloc rfl ?_;intro _ _ _))
    refine lo_rn (fun _ => r_assertNo rfl (by decide)) rfl ?_
    repeat(first|refine lrun_ ?_|(refine lo_boxA rfl rfl ?_;intro _ _ _)|(refine lo_box1 rfl rfl rfl ?_;intro _ _ _)|(refine lo_alloc rfl ?_;intro _ _ _))
    refine lo_rn (fun _ => r_neI1 rfl) rfl ?_
    repeat(first|refine lrun_ ?_|(refine lo_boxA rfl rfl ?_;intro _ _ _)|(refine lo_box1 rfl rfl rfl ?_;intro _ _ _)|(refine lo_alloc rfl ?_;intro _ _ _))
    refine l_true rfl ?_
    repeat(first|refine lrun_ ?_|(refine lo_boxA rfl rfl ?_;intro _ _ _)|(refine lo_box1 rfl rfl rfl ?_;intro _ _ _)|(refine lo_alloc rfl ?_;intro _ _ _))
    exact l_retR2 rfl (by repeat(first|exact LRes.nil|refine LRes.tmp rfl ?_|refine LRes.agg rfl (by(repeat(first|exact MIn.hd|refine MIn.tl ?_));done) (by rfl) (by rfl) ?_|refine LRes.one rfl (by(repeat(first|exact MIn.hd|refine MIn.tl ?_));done) (by rfl) ?_)) fun w' hw => ⟨hw.org, rfl, .inl hDg, vh, hw.mem g _ (by(repeat(first|exact MIn.hd|refine MIn.tl ?_));done), (hO.keep (F' := fun _ => False) fun k hk => hw.kp.block k (hO.block k hk).2 (hK k hk)).mono (fun k hk _ => hk.elim (fun h => ⟨.inl h.1, h.2⟩) fun h => ⟨.inr h, by omega⟩) fun _ h _ => h⟩
  case key =>
    repeat(first|refine lrun_ ?_|(refine lo_boxA rfl rfl ?_;intro _ _ _)|(refine lo_box1 rfl rfl rfl ?_;intro _ _ _)|(refine lo_alloc rfl ?_;intro _ _ _))
    refine lo_rn (fun _ => r_assertNo rfl (by decide)) rfl ?_
    repeat(first|refine lrun_ ?_|(refine lo_boxA rfl rfl ?_;intro _ _ _)|(refine lo_box1 rfl rfl rfl ?_;intro _ _ _)|(refine lo_alloc rfl ?_;intro _ _ _))
    refine lo_rn (fun _ => r_neI1 rfl) rfl ?_
    repeat(first|refine lrun_ ?_|(refine lo_boxA rfl rfl ?_;intro _ _ _)|(refine lo_box1 rfl rfl rfl ?_;intro _ _ _)|(refine lo_alloc rfl ?_;intro _ _ _))
    refine l_true rfl ?_
    repeat(first|refine lrun_ ?_|(refine lo_boxA rfl rfl ?_;intro _ _ _)|(refine lo_box1 rfl rfl rfl ?_;intro _ _ _)|(refine lo_alloc rfl ?_;intro _ _ _))
    exact l_retR2 rfl (by repeat(first|exact LRes.nil|refine LRes.tmp rfl ?_|refine LRes.agg rfl (by(repeat(first|exact MIn.hd|refine MIn.tl ?_));done) (by rfl) (by rfl) ?_|refine LRes.one rfl (by(repeat(first|exact MIn.hd|refine MIn.tl ?_));done) (by rfl) ?_)) fun w' hw => ⟨hw.org, rfl, .inl hDg, vh, hw.mem g _ (by(repeat(first|exact MIn.hd|refine MIn.tl ?_));done), (hO.keep (F' := fun _ => False) fun k hk => hw.kp.block k (hO.block k hk).2 (hK k hk)).mono (fun k hk _ => hk.elim (fun h => ⟨.inl h.1, h.2⟩) fun h => ⟨.inr h, by omega⟩) fun _ h _ => h⟩
set_option maxHeartbeats 8000000 in
theorem feed_calls {r : Int} {visual : Bool} (h : IsPr D g w s) (hok : PstOk s) (hr : -2147483648 ≤ r ∧ r ≤ 2147483647) (hl : s.held.length ≤ 1048576) :
    CallsR Try.prog 20 #[.pointer (some ⟨g, 0, none⟩), .int .i32 r, .bool visual] w (FeedQ D g w (feedM s r visual)) := by
  obtain ⟨hDg, vh, hb, hO⟩ := h
  have hgw := blk_lt hb
  obtain ⟨A, ca, rfl, _⟩ := hO.form
  obtain ⟨held, n, c, cnt, vis⟩ := s
  simp only at hb hO hl
  refine l_enterM (args := [.pointer (some ⟨g, 0, none⟩), .int .i32 r, .bool visual]) (S := D) hb hDg Try.func20 rfl rfl ?_
  repeat(first|refine lrun_ ?_|(refine lo_boxA rfl rfl ?_;intro _ _ _)|(refine lo_box1 rfl rfl rfl ?_;intro _ _ _)|(refine lo_alloc rfl ?_;intro _ _ _))
  rename_i g6 hg6 _
  refine l_false rfl ?_
  refine l_go .skip ?_
  repeat(first|refine lrun_ ?_|(refine lo_boxA rfl rfl ?_;intro _ _ _)|(refine lo_box1 rfl rfl rfl ?_;intro _ _ _)|(refine lo_alloc rfl ?_;intro _ _ _))
  have J : ∀ v : Bool, (if held = [] then visual else vis) = v → ∀ σ', SubB σ' [(0, .pointer (some ⟨g, 0, none⟩)), (1, .int .i32 r), (6, .pointer (some ⟨g6, 0, none⟩))] → ∀ M', MSub [(g6, cb (cmdL cmd0) 43), (g, cb (pcs (.slice A held.length ca) (waV n) c cnt v) 78)] M' →
      WL Try.prog Try.f20 (.code (bodyC Try.f20 [1, 1, 1]) :: []) σ' w D w (MK [(g, cb (pcs (.slice A held.length ca) (waV n) c cnt vis) 78)]) M' (FeedQ D g w (feedM ⟨held, n, c, cnt, vis⟩ r visual)) := by
    intro v hv σ' hs M' hM
    refine WL.sub hs hM ?_
    have e : feedM ⟨held, n, c, cnt, vis⟩ r visual = fedM ⟨held, n, c, cnt, vis⟩ v r (takeM n v c cnt r) := by unfold feedM; simp only [hv]
    rw [e]
    repeat(first|refine lrun_ ?_|(refine lo_boxA rfl rfl ?_;intro _ _ _)|(refine lo_box1 rfl rfl rfl ?_;intro _ _ _)|(refine lo_alloc rfl ?_;intro _ _ _))
    refine lo_lit (cs := [.int .i32 r]) rfl (by decide) (by kernel_rfl) rfl ?_
    intro g31 hg31 hg31'
    refine lo_append1T (d := kRune) (F := fun _ => False) (q := r) rfl rfl hO (fun k hk => ⟨.inr hk.1, fun hm => hk.2 (mk_one hm)⟩) (fun _ h => h.elim) (by(repeat(first|exact MIn.hd|refine MIn.tl ?_));done) (fun w' hw' => ⟨rfl, hr.1, hr.2⟩) (by show (held.length + 1) * 4 ≤ 140737488355328; omega) rfl rfl rfl rfl ?_
    intro w3 A3 n3 w4 hw3 ko4 kp4 hown hO4
    repeat(first|refine lrun_ ?_|(refine lo_boxA rfl rfl ?_;intro _ _ _)|(refine lo_box1 rfl rfl rfl ?_;intro _ _ _)|(refine lo_alloc rfl ?_;intro _ _ _))
    have on := hok.on
    cases n with
    | ended => cases on
    | none => cases on
    | start =>
      refine lo_callG (by first|exact .hd|exact .tl .hd|exact .tl (.tl .hd)|exact .tl (.tl (.tl .hd))|exact .tl (.tl (.tl (.tl .hd)))|exact .tl (.tl (.tl (.tl (.tl .hd))))|exact .tl (.tl (.tl (.tl (.tl (.tl .hd)))))|exact .tl (.tl (.tl (.tl (.tl (.tl (.tl .hd))))))|exact .tl (.tl (.tl (.tl (.tl (.tl (.tl (.tl .hd)))))))) (n_invoke rfl rfl) rfl (fun w' hw => startW_calls hok.cnt hok.cc hr (hw.mem g _ (by(repeat(first|exact MIn.hd|refine MIn.tl ?_));done))) ?_
      generalize takeM .start v c cnt r = t
      obtain ⟨n', c', cnt'⟩ := t
      have h1 : (waV n').oneCell' = true := by cases n' <;> rfl
      repeat(first|refine lrun_ ?_|(refine lo_boxA rfl rfl ?_;intro _ _ _)|(refine lo_box1 rfl rfl rfl ?_;intro _ _ _)|(refine lo_alloc rfl ?_;intro _ _ _))
      refine lo_store rfl rfl (by(repeat(first|exact MIn.hd|refine MIn.tl ?_));done) (by rfl) rfl h1 (by repeat(first|exact SetL.hd|apply SetL.tl)) (by first|exact .hd|exact .tl .hd|exact .tl (.tl .hd)|exact .tl (.tl (.tl .hd))|exact .tl (.tl (.tl (.tl .hd)))|exact .tl (.tl (.tl (.tl (.tl .hd))))|exact .tl (.tl (.tl (.tl (.tl (.tl .hd)))))|exact .tl (.tl (.tl (.tl (.tl (.tl (.tl .hd))))))|exact .tl (.tl (.tl (.tl (.tl (.tl (.tl (.tl .hd)))))))) rfl ?_
      repeat(first|refine lops_ ?_|(refine lo_boxA rfl rfl ?_;intro _ _ _)|(refine lo_box1 rfl rfl rfl ?_;intro _ _ _)|(refine lo_alloc rfl ?_;intro _ _ _))
      refine lo_nil ?_
      exact feed_tail (t := (n', c', cnt')) (s := ⟨held, .start, c, cnt, vis⟩) (nv := .nilIface) hDg hO4 hown (fun e => hown _ e ⟨_, .tl .hd⟩) hg6 hgw _ (by repeat (first | exact SubB.nil | refine SubB.cons rfl ?_)) _ (by repeat(first|exact MSub.refl|refine MSub.keep rfl ?_|exact MSub.nil|apply MSub.drop))
    | reg =>
      refine lo_callG (by first|exact .hd|exact .tl .hd|exact .tl (.tl .hd)|exact .tl (.tl (.tl .hd))|exact .tl (.tl (.tl (.tl .hd)))|exact .tl (.tl (.tl (.tl (.tl .hd))))|exact .tl (.tl (.tl (.tl (.tl (.tl .hd)))))|exact .tl (.tl (.tl (.tl (.tl (.tl (.tl .hd))))))|exact .tl (.tl (.tl (.tl (.tl (.tl (.tl (.tl .hd)))))))) (n_invoke rfl rfl) rfl (fun w' hw => regW_calls (hw.mem g _ (by(repeat(first|exact MIn.hd|refine MIn.tl ?_));done))) ?_
      generalize takeM .reg v c cnt r = t
      obtain ⟨n', c', cnt'⟩ := t
      have h1 : (waV n').oneCell' = true := by cases n' <;> rfl
      repeat(first|refine lrun_ ?_|(refine lo_boxA rfl rfl ?_;intro _ _ _)|(refine lo_box1 rfl rfl rfl ?_;intro _ _ _)|(refine lo_alloc rfl ?_;intro _ _ _))
      refine lo_store rfl rfl (by(repeat(first|exact MIn.hd|refine MIn.tl ?_));done) (by rfl) rfl h1 (by repeat(first|exact SetL.hd|apply SetL.tl)) (by first|exact .hd|exact .tl .hd|exact .tl (.tl .hd)|exact .tl (.tl (.tl .hd))|exact .tl (.tl (.tl (.tl .hd)))|exact .tl (.tl (.tl (.tl (.tl .hd))))|exact .tl (.tl (.tl (.tl (.tl (.tl .hd)))))|exact .tl (.tl (.tl (.tl (.tl (.tl (.tl .hd))))))|exact .tl (.tl (.tl (.tl (.tl (.tl (.tl (.tl .hd)))))))) rfl ?_
      repeat(first|refine lops_ ?_|(refine lo_boxA rfl rfl ?_;intro _ _ _)|(refine lo_box1 rfl rfl rfl ?_;intro _ _ _)|(refine lo_alloc rfl ?_;intro _ _ _))
      refine lo_nil ?_
      exact feed_tail (t := (n', c', cnt')) (s := ⟨held, .reg, c, cnt, vis⟩) (nv := .nilIface) hDg hO4 hown (fun e => hown _ e ⟨_, .tl .hd⟩) hg6 hgw _ (by repeat (first | exact SubB.nil | refine SubB.cons rfl ?_)) _ (by repeat(first|exact MSub.refl|refine MSub.keep rfl ?_|exact MSub.nil|apply MSub.drop))
    | after =>
      refine lo_callG (by first|exact .hd|exact .tl .hd|exact .tl (.tl .hd)|exact .tl (.tl (.tl .hd))|exact .tl (.tl (.tl (.tl .hd)))|exact .tl (.tl (.tl (.tl (.tl .hd))))|exact .tl (.tl (.tl (.tl (.tl (.tl .hd)))))|exact .tl (.tl (.tl (.tl (.tl (.tl (.tl .hd))))))|exact .tl (.tl (.tl (.tl (.tl (.tl (.tl (.tl .hd)))))))) (n_invoke rfl rfl) rfl (fun w' hw => afterW_calls hok.cnt hok.cc hr (hw.mem g _ (by(repeat(first|exact MIn.hd|refine MIn.tl ?_));done))) ?_
      generalize takeM .after v c cnt r = t
      obtain ⟨n', c', cnt'⟩ := t
      have h1 : (waV n').oneCell' = true := by cases n' <;> rfl
      repeat(first|refine lrun_ ?_|(refine lo_boxA rfl rfl ?_;intro _ _ _)|(refine lo_box1 rfl rfl rfl ?_;intro _ _ _)|(refine lo_alloc rfl ?_;intro _ _ _))
      refine lo_store rfl rfl (by(repeat(first|exact MIn.hd|refine MIn.tl ?_));done) (by rfl) rfl h1 (by repeat(first|exact SetL.hd|apply SetL.tl)) (by first|exact .hd|exact .tl .hd|exact .tl (.tl .hd)|exact .tl (.tl (.tl .hd))|exact .tl (.tl (.tl (.tl .hd)))|exact .tl (.tl (.tl (.tl (.tl .hd))))|exact .tl (.tl (.tl (.tl (.tl (.tl .hd)))))|exact .tl (.tl (.tl (.tl (.tl (.tl (.tl .hd))))))|exact .tl (.tl (.tl (.tl (.tl (.tl (.tl (.tl .hd)))))))) rfl ?_
      repeat(first|refine lops_ ?_|(refine lo_boxA rfl rfl ?_;intro _ _ _)|(refine lo_box1 rfl rfl rfl ?_;intro _ _ _)|(refine lo_alloc rfl ?_;intro _ _ _))
      refine lo_nil ?_
      exact feed_tail (t := (n', c', cnt')) (s := ⟨held, .after, c, cnt, vis⟩) (nv := .nilIface) hDg hO4 hown (fun e => hown _ e ⟨_, .tl .hd⟩) hg6 hgw _ (by repeat (first | exact SubB.nil | refine SubB.cons rfl ?_)) _ (by repeat(first|exact MSub.refl|refine MSub.keep rfl ?_|exact MSub.nil|apply MSub.drop))
    | big op =>
      refine lo_callG (by first|exact .hd|exact .tl .hd|exact .tl (.tl .hd)|exact .tl (.tl (.tl .hd))|exact .tl (.tl (.tl (.tl .hd)))|exact .tl (.tl (.tl (.tl (.tl .hd))))|exact .tl (.tl (.tl (.tl (.tl (.tl .hd)))))|exact .tl (.tl (.tl (.tl (.tl (.tl (.tl .hd))))))|exact .tl (.tl (.tl (.tl (.tl (.tl (.tl (.tl .hd)))))))) (n_invoke rfl rfl) rfl (fun w' hw => bigW_calls (hw.mem g _ (by(repeat(first|exact MIn.hd|refine MIn.tl ?_));done))) ?_
      generalize takeM (.big op) v c cnt r = t
      obtain ⟨n', c', cnt'⟩ := t
      have h1 : (waV n').oneCell' = true := by cases n' <;> rfl
      repeat(first|refine lrun_ ?_|(refine lo_boxA rfl rfl ?_;intro _ _ _)|(refine lo_box1 rfl rfl rfl ?_;intro _ _ _)|(refine lo_alloc rfl ?_;intro _ _ _))
      refine lo_store rfl rfl (by(repeat(first|exact MIn.hd|refine MIn.tl ?_));done) (by rfl) rfl h1 (by repeat(first|exact SetL.hd|apply SetL.tl)) (by first|exact .hd|exact .tl .hd|exact .tl (.tl .hd)|exact .tl (.tl (.tl .hd))|exact .tl (.tl (.tl (.tl .hd)))|exact .tl (.tl (.tl (.tl (.tl .hd))))|exact .tl (.tl (.tl (.tl (.tl (.tl .hd)))))|exact .tl (.tl (.tl (.tl (.tl (.tl (.tl .hd))))))|exact .tl (.tl (.tl (.tl (.tl (.tl (.tl (.tl .hd)))))))) rfl ?_
      repeat(first|refine lops_ ?_|(refine lo_boxA rfl rfl ?_;intro _ _ _)|(refine lo_box1 rfl rfl rfl ?_;intro _ _ _)|(refine lo_alloc rfl ?_;intro _ _ _))
      refine lo_nil ?_
      exact feed_tail (t := (n', c', cnt')) (s := ⟨held, (.big op), c, cnt, vis⟩) (nv := .nilIface) hDg hO4 hown (fun e => hown _ e ⟨_, .tl .hd⟩) hg6 hgw _ (by repeat (first | exact SubB.nil | refine SubB.cons rfl ?_)) _ (by repeat(first|exact MSub.refl|refine MSub.keep rfl ?_|exact MSub.nil|apply MSub.drop))
    | obj =>
      refine lo_callG (by first|exact .hd|exact .tl .hd|exact .tl (.tl .hd)|exact .tl (.tl (.tl .hd))|exact .tl (.tl (.tl (.tl .hd)))|exact .tl (.tl (.tl (.tl (.tl .hd))))|exact .tl (.tl (.tl (.tl (.tl (.tl .hd)))))|exact .tl (.tl (.tl (.tl (.tl (.tl (.tl .hd))))))|exact .tl (.tl (.tl (.tl (.tl (.tl (.tl (.tl .hd)))))))) (n_invoke rfl rfl) rfl (fun w' hw => objW_calls (hw.mem g _ (by(repeat(first|exact MIn.hd|refine MIn.tl ?_));done))) ?_
      generalize takeM .obj v c cnt r = t
      obtain ⟨n', c', cnt'⟩ := t
      have h1 : (waV n').oneCell' = true := by cases n' <;> rfl
      repeat(first|refine lrun_ ?_|(refine lo_boxA rfl rfl ?_;intro _ _ _)|(refine lo_box1 rfl rfl rfl ?_;intro _ _ _)|(refine lo_alloc rfl ?_;intro _ _ _))
      refine lo_store rfl rfl (by(repeat(first|exact MIn.hd|refine MIn.tl ?_));done) (by rfl) rfl h1 (by repeat(first|exact SetL.hd|apply SetL.tl)) (by first|exact .hd|exact .tl .hd|exact .tl (.tl .hd)|exact .tl (.tl (.tl .hd))|exact .tl (.tl (.tl (.tl .hd)))|exact .tl (.tl (.tl (.tl (.tl .hd))))|exact .tl (.tl (.tl (.tl (.tl (.tl .hd)))))|exact .tl (.tl (.tl (.tl (.tl (.tl (.tl .hd))))))|exact .tl (.tl (.tl (.tl (.tl (.tl (.tl (.tl .hd)))))))) rfl ?_
      repeat(first|refine lops_ ?_|(refine lo_boxA rfl rfl ?_;intro _ _ _)|(refine lo_box1 rfl rfl rfl ?_;intro _ _ _)|(refine lo_alloc rfl ?_;intro _ _ _))
      refine lo_nil ?_
      exact feed_tail (t := (n', c', cnt')) (s := ⟨held, .obj, c, cnt, vis⟩) (nv := .nilIface) hDg hO4 hown (fun e => hown _ e ⟨_, .tl .hd⟩) hg6 hgw _ (by repeat (first | exact SubB.nil | refine SubB.cons rfl ?_)) _ (by repeat(first|exact MSub.refl|refine MSub.keep rfl ?_|exact MSub.nil|apply MSub.drop))
    | arg =>
      refine lo_callG (by first|exact .hd|exact .tl .hd|exact .tl (.tl .hd)|exact .tl (.tl (.tl .hd))|exact .tl (.tl (.tl (.tl .hd)))|exact .tl (.tl (.tl (.tl (.tl .hd))))|exact .tl (.tl (.tl (.tl (.tl (.tl .hd)))))|exact .tl (.tl (.tl (.tl (.tl (.tl (.tl .hd))))))|exact .tl (.tl (.tl (.tl (.tl (.tl (.tl (.tl .hd)))))))) (n_invoke rfl rfl) rfl (fun w' hw => argW_calls (hw.mem g _ (by(repeat(first|exact MIn.hd|refine MIn.tl ?_));done))) ?_
      generalize takeM .arg v c cnt r = t
      obtain ⟨n', c', cnt'⟩ := t
      have h1 : (waV n').oneCell' = true := by cases n' <;> rfl
      repeat(first|refine lrun_ ?_|(refine lo_boxA rfl rfl ?_;intro _ _ _)|(refine lo_box1 rfl rfl rfl ?_;intro _ _ _)|(refine lo_alloc rfl ?_;intro _ _ _))
      refine lo_store rfl rfl (by(repeat(first|exact MIn.hd|refine MIn.tl ?_));done) (by rfl) rfl h1 (by repeat(first|exact SetL.hd|apply SetL.tl)) (by first|exact .hd|exact .tl .hd|exact .tl (.tl .hd)|exact .tl (.tl (.tl .hd))|exact .tl (.tl (.tl (.tl .hd)))|exact .tl (.tl (.tl (.tl (.tl .hd))))|exact .tl (.tl (.tl (.tl (.tl (.tl .hd)))))|exact .tl (.tl (.tl (.tl (.tl (.tl (.tl .hd))))))|exact .tl (.tl (.tl (.tl (.tl (.tl (.tl (.tl .hd)))))))) rfl ?_
      repeat(first|refine lops_ ?_|(refine lo_boxA rfl rfl ?_;intro _ _ _)|(refine lo_box1 rfl rfl rfl ?_;intro _ _ _)|(refine lo_alloc rfl ?_;intro _ _ _))
      refine lo_nil ?_
      exact feed_tail (t := (n', c', cnt')) (s := ⟨held, .arg, c, cnt, vis⟩) (nv := .nilIface) hDg hO4 hown (fun e => hown _ e ⟨_, .tl .hd⟩) hg6 hgw _ (by repeat (first | exact SubB.nil | refine SubB.cons rfl ?_)) _ (by repeat(first|exact MSub.refl|refine MSub.keep rfl ?_|exact MSub.nil|apply MSub.drop))
    | key =>
      refine lo_callG (by first|exact .hd|exact .tl .hd|exact .tl (.tl .hd)|exact .tl (.tl (.tl .hd))|exact .tl (.tl (.tl (.tl .hd)))|exact .tl (.tl (.tl (.tl (.tl .hd))))|exact .tl (.tl (.tl (.tl (.tl (.tl .hd)))))|exact .tl (.tl (.tl (.tl (.tl (.tl (.tl .hd))))))|exact .tl (.tl (.tl (.tl (.tl (.tl (.tl (.tl .hd)))))))) (n_invoke rfl rfl) rfl (fun w' hw => keyW_calls (hw.mem g _ (by(repeat(first|exact MIn.hd|refine MIn.tl ?_));done))) ?_
      generalize takeM .key v c cnt r = t
      obtain ⟨n', c', cnt'⟩ := t
      have h1 : (waV n').oneCell' = true := by cases n' <;> rfl
      repeat(first|refine lrun_ ?_|(refine lo_boxA rfl rfl ?_;intro _ _ _)|(refine lo_box1 rfl rfl rfl ?_;intro _ _ _)|(refine lo_alloc rfl ?_;intro _ _ _))
      refine lo_store rfl rfl (by(repeat(first|exact MIn.hd|refine MIn.tl ?_));done) (by rfl) rfl h1 (by repeat(first|exact SetL.hd|apply SetL.tl)) (by first|exact .hd|exact .tl .hd|exact .tl (.tl .hd)|exact .tl (.tl (.tl .hd))|exact .tl (.tl (.tl (.tl .hd)))|exact .tl (.tl (.tl (.tl (.tl .hd))))|exact .tl (.tl (.tl (.tl (.tl (.tl .hd)))))|exact .tl (.tl (.tl (.tl (.tl (.tl (.tl .hd))))))|exact .tl (.tl (.tl (.tl (.tl (.tl (.tl (.tl .hd)))))))) rfl ?_
      repeat(first|refine lops_ ?_|(refine lo_boxA rfl rfl ?_;intro _ _ _)|(refine lo_box1 rfl rfl rfl ?_;intro _ _ _)|(refine lo_alloc rfl ?_;intro _ _ _))
      refine lo_nil ?_
      exact feed_tail (t := (n', c', cnt')) (s := ⟨held, .key, c, cnt, vis⟩) (nv := .nilIface) hDg hO4 hown (fun e => hown _ e ⟨_, .tl .hd⟩) hg6 hgw _ (by repeat (first | exact SubB.nil | refine SubB.cons rfl ?_)) _ (by repeat(first|exact MSub.refl|refine MSub.keep rfl ?_|exact MSub.nil|apply MSub.drop))
  by_cases h0 : held = []
  · refine l_yes rfl (by rw [h0]; rfl) ?_
    refine l_region ?_;(repeat(first|refine lops_ ?_|(refine lo_boxA rfl rfl ?_;intro _ _ _)|(refine lo_box1 rfl rfl rfl ?_;intro _ _ _)|(refine lo_alloc rfl ?_;intro _ _ _)));refine lo_nil ?_
    exact J visual (if_pos h0) _ (by repeat (first | exact SubB.nil | refine SubB.cons rfl ?_)) _ (by repeat(first|exact MSub.refl|refine MSub.keep rfl ?_|exact MSub.nil|apply MSub.drop))
  · refine l_no rfl (fun e => h0 (List.length_eq_zero_iff.1 (by omega))) ?_
    refine l_go .skip ?_
    exact J vis (if_neg h0) _ (by repeat (first | exact SubB.nil | refine SubB.cons rfl ?_)) _ (by repeat(first|exact MSub.refl|refine MSub.keep rfl ?_|exact MSub.nil|apply MSub.drop))
end
end Go.Ink
