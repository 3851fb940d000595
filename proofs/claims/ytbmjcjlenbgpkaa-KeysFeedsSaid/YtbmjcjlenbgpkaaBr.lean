/-
  Two operations of a drawn region that may both come up next.
-/
import Derived.Test.YtbmjcjlenbgpkaaAct3
set_option linter.unusedVariables false
namespace Go.Ink
open Go Go.RowKit
/-- Operation i is taken now. -/
def BR (P : Program) (fn : Func) (ops : Array Oper) (listed : Array Bool) (i : Nat) (l : List (Nat × Nat)) (k : List Item) (σ : Sig) (w w2 : World) (R : Pt) : Prop :=
  ∀ a w0, Fr R.D fn.ntmps σ a → Dr w2 w0 → wpOp P ops (QO P fn k R) i (fun a' w' => ∃ σ' w3, Fr R.D fn.ntmps σ' a' ∧ Dr w3 w' ∧ ((St w w3 ∧ WD P fn ops (listed.setIfInBounds i true) l k σ' w w3 R) ∨ (waitsAll ops i = true ∧ WD P fn ops (listed.setIfInBounds i true) l k σ' w3 w3 R))) a w0
section
variable {P : Program} {fn : Func} {ops : Array Oper} {listed : Array Bool} {l : List (Nat × Nat)} {k : List Item} {σ : Sig} {w w2 : World} {R : Pt} {i : Nat} {dd : Option Nat} {op : Op} {oty : TypeId} {opos : String} {oaf : Array Edge} {og : Option (Nat × Bool)}
theorem br_any (hi : ops[i]? = some (⟨dd, op, oty, opos, oaf, og⟩ : Oper)) {Φ : Value → World → Prop} (hrun : Ef P fn.ntmps σ w2 ⟨dd, op, oty, opos, oaf, og⟩ Φ) (hg : wants ops σ ⟨dd, op, oty, opos, oaf, og⟩ true) (hd : okD dd fn.ntmps = true)
    (h : ∀ v w', Φ v w' → (St w w' ∧ WD P fn ops (listed.setIfInBounds i true) l k (putS dd v σ) w w' R) ∨ (waitsAll ops i = true ∧ WD P fn ops (listed.setIfInBounds i true) l k (putS dd v σ) w' w' R)) : BR P fn ops listed i l k σ w w2 R := by
  intro a w0 ha h0
  unfold wpOp
  simp only [hi]
  rw [wants_wanted ha hg, if_pos rfl]
  left
  obtain ⟨v, w', hr, hf⟩ := hrun.run a w0 ha h0
  unfold Oper.wp
  rw [hr, Oper.upon_value]
  exact ⟨_, w', ha.put dd v hd, Dr.refl _, h v w' hf⟩
theorem br_now {v : Value} (hi : ops[i]? = some (⟨dd, op, oty, opos, oaf, og⟩ : Oper)) (hrun : Rn P fn.ntmps σ w2 ⟨dd, op, oty, opos, oaf, og⟩ v) (hg : wants ops σ ⟨dd, op, oty, opos, oaf, og⟩ true) (hd : okD dd fn.ntmps = true) (hS : St w w2)
    (h : WD P fn ops (listed.setIfInBounds i true) l k (putS dd v σ) w w2 R) : BR P fn ops listed i l k σ w w2 R := by
  intro a w0 ha h0
  unfold wpOp
  simp only [hi]
  rw [wants_wanted ha hg, if_pos rfl]
  left
  unfold Oper.wp
  rw [hrun.run a w0 ha h0.st, Oper.upon_value]
  exact ⟨_, w2, ha.put dd v hd, h0, .inl ⟨hS, h⟩⟩
theorem br_pass (hi : ops[i]? = some (⟨dd, op, oty, opos, oaf, og⟩ : Oper)) (hg : wants ops σ ⟨dd, op, oty, opos, oaf, og⟩ false) (hd : okD dd fn.ntmps = true) (hS : St w w2)
    (h : WD P fn ops (listed.setIfInBounds i true) l k (putS dd undef σ) w w2 R) : BR P fn ops listed i l k σ w w2 R := by
  intro a w0 ha h0
  unfold wpOp
  simp only [hi]
  rw [wants_wanted ha hg, if_neg (by simp)]
  exact ⟨_, w2, ha.put dd undef hd, h0, .inl ⟨hS, h⟩⟩
theorem br_enter {f : FuncId} {args : Array Value} (hi : ops[i]? = some (⟨dd, op, oty, opos, oaf, og⟩ : Oper)) (hrun : En P fn.ntmps σ ⟨dd, op, oty, opos, oaf, og⟩ f args) (hg : wants ops σ ⟨dd, op, oty, opos, oaf, og⟩ true) (hd : okD dd fn.ntmps = true)
    (h : CallsR P f args w2 fun v w' => (St w w' ∧ WD P fn ops (listed.setIfInBounds i true) l k (putS dd v σ) w w' R) ∨ (waitsAll ops i = true ∧ WD P fn ops (listed.setIfInBounds i true) l k (putS dd v σ) w' w' R)) : BR P fn ops listed i l k σ w w2 R := by
  intro a w0 ha h0
  unfold wpOp
  simp only [hi]
  rw [wants_wanted ha hg, if_pos rfl]
  left
  unfold CallsR at h
  unfold Oper.wp
  rw [hrun.run a w0 ha, Oper.upon_enter]
  refine Calls.mono (h w0 h0) fun e w' ⟨v, w1, he, hd1, hv⟩ => ?_
  subst he
  exact ⟨_, w1, ha.put dd v hd, hd1, hv⟩
theorem d_branch2 {i j x : Nat} {l1 l2 : List (Nat × Nat)} (hr : (Region.ready .any ops listed == [i, j]) = true) (h1 : l1.length = l.length) (h2 : l2.length = l.length)
    (o1 : ordOK ops l1 (listed.setIfInBounds i true) = true) (o2 : ordOK ops l2 (listed.setIfInBounds j true) = true)
    (w1 : BR P fn ops listed i l1 k σ w w2 R) (w2' : BR P fn ops listed j l2 k σ w w2 R) :
    WD P fn ops listed ((x, 2) :: l) k σ w w2 R :=
  d_branch (l1 := (i, 1) :: l1) (l2 := (j, 1) :: l2) hr (by simp [h1]) (by simp [h2]) (by rw [hr]; simpa using o1) (by rw [hr]; simpa using o2) w1 w2'
end
attribute [irreducible] BR
/-- A block's cells as a slice. -/
theorem sl_blk {α : Type} {d : Kd α} {F : Nat → Prop} {w : World} {xs : List α} {cells : List Value} {g : Nat} {e : TypeId} {fr : Nat × Nat} (hb : w.heap[g]? = some (.cells cells.toArray e fr)) (hE : Els d F w xs cells) (hF : F g) (hf : Fits d xs.length) :
    Sl d F w (.slice (some ⟨g, 0, none⟩) xs.length xs.length) xs :=
  ⟨_, _, cells, rfl, Nat.le_refl _, by have := hf.len; unfold maxLen; omega, hf, hE, .inr ⟨_, rfl, hF, fun j u hu => by rw [add_plain, blk_cell hb]; simpa using hu⟩⟩
end Go.Ink
