/-
  Regions that draw, in which some blocks may turn while others are read.
-/
import Derived.Test.YtbmjcjlenbgpkaaMem
set_option linter.unusedVariables false
set_option linter.unusedSimpArgs false
namespace Go.Ink
open Go Go.RowKit
/-- Every block that stood is as it was, but for those of Q. -/
def StQ (Q : Nat → Prop) (w w' : World) : Prop := ∀ k, k < w.heap.size → ¬ Q k → w'.heap[k]? = w.heap[k]?
theorem StQ.refl (Q : Nat → Prop) (w : World) : StQ Q w w := fun _ _ _ => rfl
theorem StQ.cell {Q : Nat → Prop} {w w' : World} (h : StQ Q w w') {a : Addr} {v : Value} (hc : w.cell? a = some v) (hq : ¬ Q a.block) : w'.cell? a = some v :=
  (World.cell?_of_block (h _ (World.block_lt_of_cell? w a hc) hq)).trans hc
theorem Kp.stq {S Q : Nat → Prop} {w w' : World} (h : Kp S w w') (hs : ∀ k, k < w.heap.size → S k → Q k) : StQ Q w w' := fun k hk hq => h.block k hk fun h' => hq (hs k hk h')
def WQ (P : Program) (fn : Func) (ops : Array Oper) (listed : Array Bool) (l : List (Nat × Nat)) (k : List Item) (σ : Sig) (Q : Nat → Prop) (w w2 : World) (R : Pt) : Prop :=
  Region.noSelect ops = true → ordOK ops l listed = true → Shut ops listed → ∀ a w0, Fr R.D fn.ntmps σ a → Dr w2 w0 → anyL P ops (QO P fn k R) (StQ Q w) l.length listed a w0
section
variable {P : Program} {fn : Func} {ops : Array Oper} {listed : Array Bool} {l : List (Nat × Nat)} {k : List Item} {σ : Sig} {Q : Nat → Prop} {w w2 : World} {R : Pt}
theorem k_drawQ {id : Nat} (Q : Nat → Prop) (l : List (Nat × Nat)) (hm : P.follows .mixedOrders = true) (hn : Region.noSelect ops = true) (hl : ops.size = l.length) (ho : ordOK ops l (Array.replicate ops.size false) = true)
    (h : WQ P fn ops (Array.replicate ops.size false) l k σ Q w w R) (hro : R.ro = none := by rfl) : WG P fn (.code (.region id ops true) :: k) σ w R :=
  k_code hro fun a w0 ha h0 => wp_region_any hm (by
    have := h hn ho (fun m hm => by rw [Array.getD_eq_getD_getElem?, Array.getElem?_replicate] at hm; split at hm <;> cases hm) a { w0 with drawn := w0.drawn + 1 } ha (h0.trans (Dr.drawn _ _))
    rw [← hl] at this
    exact any_of_L _ _ _ _ _ this)
theorem q_nil (h : WG P fn k σ w2 R) : WQ P fn ops listed [] k σ Q w w2 R :=
  fun _ ho _ a w0 ha h0 => anyL_done (by simpa [ordOK] using ho) ⟨rfl, σ, w2, ha, h0, h⟩ _
theorem qd_still {i : Nat} {dd : Option Nat} {op : Op} {oty : TypeId} {opos : String} {oaf : Array Edge} {og : Option (Nat × Bool)} {v : Value} (hi : ops[i]? = some (⟨dd, op, oty, opos, oaf, og⟩ : Oper)) (hrun : ∀ w1, StQ Q w w1 → Rn P fn.ntmps σ w1 ⟨dd, op, oty, opos, oaf, og⟩ v) (hg : wants ops σ ⟨dd, op, oty, opos, oaf, og⟩ true) (hd : okD dd fn.ntmps = true) (hS : StQ Q w w2)
    (h : WQ P fn ops (listed.setIfInBounds i true) l k (putS dd v σ) Q w w2 R) : WQ P fn ops listed ((i, 0) :: l) k σ Q w w2 R := by
  intro hn ho hsh a w0 ha h0
  simp only [ordOK, Bool.and_eq_true] at ho
  have hrd := List.contains_iff_mem.1 ho.1.2
  exact anyL_take hi hn ho.1.1 ho.1.2 (fun c a w hq => by simp [QO] at hq) (.inl ⟨wants_wanted ha hg, fun w1 h1 => (hrun w1 h1).run a w1 ha (St.refl _)⟩)
    (fun k hk hq => by rw [h0.heap]; exact hS k hk hq) hsh (h hn ho.2 (hsh.set hrd) _ _ (ha.put dd v hd) h0)
theorem qd_pass {i : Nat} {dd : Option Nat} {op : Op} {oty : TypeId} {opos : String} {oaf : Array Edge} {og : Option (Nat × Bool)} (hi : ops[i]? = some (⟨dd, op, oty, opos, oaf, og⟩ : Oper)) (hg : wants ops σ ⟨dd, op, oty, opos, oaf, og⟩ false) (hd : okD dd fn.ntmps = true) (hS : StQ Q w w2)
    (h : WQ P fn ops (listed.setIfInBounds i true) l k (putS dd undef σ) Q w w2 R) : WQ P fn ops listed ((i, 0) :: l) k σ Q w w2 R := by
  intro hn ho hsh a w0 ha h0
  simp only [ordOK, Bool.and_eq_true] at ho
  have hrd := List.contains_iff_mem.1 ho.1.2
  exact anyL_take hi hn ho.1.1 ho.1.2 (fun c a w hq => by simp [QO] at hq) (.inr ⟨wants_wanted ha hg, rfl⟩)
    (fun k hk hq => by rw [h0.heap]; exact hS k hk hq) hsh (h hn ho.2 (hsh.set hrd) _ _ (ha.put dd undef hd) h0)
theorem qd_loud {i : Nat} {o : Oper} (hi : ops[i]? = some o) (h : ∀ a w0, Fr R.D fn.ntmps σ a → Dr w2 w0 → wpOp P ops (QO P fn k R) i (fun a' w' => ∃ σ' w3, Fr R.D fn.ntmps σ' a' ∧ Dr w3 w' ∧ ((StQ Q w w3 ∧ WQ P fn ops (listed.setIfInBounds i true) l k σ' Q w w3 R) ∨ (waitsAll ops i = true ∧ WQ P fn ops (listed.setIfInBounds i true) l k σ' Q w3 w3 R))) a w0) :
    WQ P fn ops listed ((i, 1) :: l) k σ Q w w2 R := by
  intro hn ho hsh a w0 ha h0
  simp only [ordOK, Bool.and_eq_true, beq_iff_eq] at ho
  refine anyL_all ho.1 (by simp) fun j hj => ?_
  have hs2 := hsh.set (j := i) (by rw [ho.1]; simp)
  obtain rfl : j = i := by simpa using hj
  exact wpOp_mono (fun a' w' ⟨σ', w3, h1, h2, h3⟩ => h3.imp (fun ⟨hS, h3⟩ => ⟨fun k hk hq => by rw [h2.heap]; exact hS k hk hq, h3 hn ho.2 hs2 a' w' h1 h2⟩) (fun ⟨hB, h3⟩ => ⟨hB, StQ Q w3, fun k _ _ => by rw [h2.heap], h3 hn ho.2 hs2 a' w' h1 h2⟩)) (h a w0 ha h0)
/-- Two that may come up, both of which are carried out in some world: each order is walked. -/
theorem qd_branch {i j x : Nat} {l1 l2 : List (Nat × Nat)} (hr : (Region.ready .any ops listed == [i, j]) = true) (h1 : l1.length = l.length + 1) (h2 : l2.length = l.length + 1)
    (o1 : (Region.ready .any ops listed == [i, j] && ordOK ops l1.tail (listed.setIfInBounds i true)) = true) (o2 : (Region.ready .any ops listed == [i, j] && ordOK ops l2.tail (listed.setIfInBounds j true)) = true)
    (w1 : (∀ a w0, Fr R.D fn.ntmps σ a → Dr w2 w0 → wpOp P ops (QO P fn k R) i (fun a' w' => ∃ σ' w3, Fr R.D fn.ntmps σ' a' ∧ Dr w3 w' ∧ ((StQ Q w w3 ∧ WQ P fn ops (listed.setIfInBounds i true) l1.tail k σ' Q w w3 R) ∨ (waitsAll ops i = true ∧ WQ P fn ops (listed.setIfInBounds i true) l1.tail k σ' Q w3 w3 R))) a w0))
    (w2' : (∀ a w0, Fr R.D fn.ntmps σ a → Dr w2 w0 → wpOp P ops (QO P fn k R) j (fun a' w' => ∃ σ' w3, Fr R.D fn.ntmps σ' a' ∧ Dr w3 w' ∧ ((StQ Q w w3 ∧ WQ P fn ops (listed.setIfInBounds j true) l2.tail k σ' Q w w3 R) ∨ (waitsAll ops j = true ∧ WQ P fn ops (listed.setIfInBounds j true) l2.tail k σ' Q w3 w3 R))) a w0)) :
    WQ P fn ops listed ((x, 2) :: l) k σ Q w w2 R := by
  intro hn ho hsh a w0 ha h0
  simp only [Bool.and_eq_true, beq_iff_eq] at hr o1 o2
  have hsi := hsh.set (j := i) (by rw [hr]; simp)
  have hsj := hsh.set (j := j) (by rw [hr]; simp)
  refine anyL_all hr (by simp) fun m hm => ?_
  have e1 : l1.tail.length = l.length := by simp [h1]
  have e2 : l2.tail.length = l.length := by simp [h2]
  rcases (by simpa using hm : m = i ∨ m = j) with rfl | rfl
  · refine wpOp_mono (fun a' w' ⟨σ', w3, h1, h2, h3⟩ => h3.imp (fun ⟨hS, h3⟩ => ⟨fun k hk hq => by rw [h2.heap]; exact hS k hk hq, ?_⟩) (fun ⟨hB, h3⟩ => ⟨hB, StQ Q w3, fun k _ _ => by rw [h2.heap], ?_⟩)) (w1 a w0 ha h0)
    all_goals
      have := h3 hn o1.2 hsi a' w' h1 h2
      rwa [e1] at this
  · refine wpOp_mono (fun a' w' ⟨σ', w3, h1, h2, h3⟩ => h3.imp (fun ⟨hS, h3⟩ => ⟨fun k hk hq => by rw [h2.heap]; exact hS k hk hq, ?_⟩) (fun ⟨hB, h3⟩ => ⟨hB, StQ Q w3, fun k _ _ => by rw [h2.heap], ?_⟩)) (w2' a w0 ha h0)
    all_goals
      have := h3 hn o2.2 hsj a' w' h1 h2
      rwa [e2] at this
theorem qd_any {i : Nat} {dd : Option Nat} {op : Op} {oty : TypeId} {opos : String} {oaf : Array Edge} {og : Option (Nat × Bool)} (hi : ops[i]? = some (⟨dd, op, oty, opos, oaf, og⟩ : Oper)) {Φ : Value → World → Prop} (hrun : Ef P fn.ntmps σ w2 ⟨dd, op, oty, opos, oaf, og⟩ Φ) (hg : wants ops σ ⟨dd, op, oty, opos, oaf, og⟩ true) (hd : okD dd fn.ntmps = true)
    (h : ∀ v w', Φ v w' → (StQ Q w w' ∧ WQ P fn ops (listed.setIfInBounds i true) l k (putS dd v σ) Q w w' R) ∨ (waitsAll ops i = true ∧ WQ P fn ops (listed.setIfInBounds i true) l k (putS dd v σ) Q w' w' R)) : WQ P fn ops listed ((i, 1) :: l) k σ Q w w2 R := by
  refine qd_loud hi fun a w0 ha h0 => ?_
  unfold wpOp
  simp only [hi]
  rw [wants_wanted ha hg, if_pos rfl]
  left
  obtain ⟨v, w', hr, hf⟩ := hrun.run a w0 ha h0
  unfold Oper.wp
  rw [hr, Oper.upon_value]
  exact ⟨_, w', ha.put dd v hd, Dr.refl _, h v w' hf⟩
theorem qd_unit {i : Nat} {dd : Option Nat} {op : Op} {oty : TypeId} {opos : String} {oaf : Array Edge} {og : Option (Nat × Bool)} (hi : ops[i]? = some (⟨dd, op, oty, opos, oaf, og⟩ : Oper)) {Φ : World → Prop} (hrun : Eu P fn.ntmps σ w2 ⟨dd, op, oty, opos, oaf, og⟩ Φ) (hg : wants ops σ ⟨dd, op, oty, opos, oaf, og⟩ true) (hd : okD dd fn.ntmps = true)
    (h : ∀ w', Φ w' → (StQ Q w w' ∧ WQ P fn ops (listed.setIfInBounds i true) l k (putS dd undef σ) Q w w' R) ∨ (waitsAll ops i = true ∧ WQ P fn ops (listed.setIfInBounds i true) l k (putS dd undef σ) Q w' w' R)) : WQ P fn ops listed ((i, 1) :: l) k σ Q w w2 R := by
  refine qd_loud hi fun a w0 ha h0 => ?_
  unfold wpOp
  simp only [hi]
  rw [wants_wanted ha hg, if_pos rfl]
  left
  obtain ⟨w', hr, hf⟩ := hrun.run a w0 ha h0
  unfold Oper.wp
  rw [hr, Oper.upon_skip]
  exact ⟨_, w', ha.put dd undef hd, Dr.refl _, h w' hf⟩
/-- An operation that leaves the world alone, in the world as it now is. -/
theorem qd_now {i : Nat} {dd : Option Nat} {op : Op} {oty : TypeId} {opos : String} {oaf : Array Edge} {og : Option (Nat × Bool)} {v : Value} (hi : ops[i]? = some (⟨dd, op, oty, opos, oaf, og⟩ : Oper)) (hrun : Rn P fn.ntmps σ w2 ⟨dd, op, oty, opos, oaf, og⟩ v) (hg : wants ops σ ⟨dd, op, oty, opos, oaf, og⟩ true) (hd : okD dd fn.ntmps = true) (hS : StQ Q w w2)
    (h : WQ P fn ops (listed.setIfInBounds i true) l k (putS dd v σ) Q w w2 R) : WQ P fn ops listed ((i, 1) :: l) k σ Q w w2 R := by
  refine qd_loud hi fun a w0 ha h0 => ?_
  unfold wpOp
  simp only [hi]
  rw [wants_wanted ha hg, if_pos rfl]
  left
  unfold Oper.wp
  rw [hrun.run a w0 ha h0.st, Oper.upon_value]
  exact ⟨_, w2, ha.put dd v hd, h0, .inl ⟨hS, h⟩⟩
theorem qd_passNow {i : Nat} {dd : Option Nat} {op : Op} {oty : TypeId} {opos : String} {oaf : Array Edge} {og : Option (Nat × Bool)} (hi : ops[i]? = some (⟨dd, op, oty, opos, oaf, og⟩ : Oper)) (hg : wants ops σ ⟨dd, op, oty, opos, oaf, og⟩ false) (hd : okD dd fn.ntmps = true) (hS : StQ Q w w2)
    (h : WQ P fn ops (listed.setIfInBounds i true) l k (putS dd undef σ) Q w w2 R) : WQ P fn ops listed ((i, 1) :: l) k σ Q w w2 R := by
  refine qd_loud hi fun a w0 ha h0 => ?_
  unfold wpOp
  simp only [hi]
  rw [wants_wanted ha hg, if_neg (by simp)]
  exact ⟨_, w2, ha.put dd undef hd, h0, .inl ⟨hS, h⟩⟩
theorem qd_enter {i : Nat} {dd : Option Nat} {op : Op} {oty : TypeId} {opos : String} {oaf : Array Edge} {og : Option (Nat × Bool)} {f : FuncId} {args : Array Value} (hi : ops[i]? = some (⟨dd, op, oty, opos, oaf, og⟩ : Oper)) (hrun : En P fn.ntmps σ ⟨dd, op, oty, opos, oaf, og⟩ f args) (hg : wants ops σ ⟨dd, op, oty, opos, oaf, og⟩ true) (hd : okD dd fn.ntmps = true)
    (h : CallsR P f args w2 fun v w' => (StQ Q w w' ∧ WQ P fn ops (listed.setIfInBounds i true) l k (putS dd v σ) Q w w' R) ∨ (waitsAll ops i = true ∧ WQ P fn ops (listed.setIfInBounds i true) l k (putS dd v σ) Q w' w' R)) : WQ P fn ops listed ((i, 1) :: l) k σ Q w w2 R := by
  refine qd_loud hi fun a w0 ha h0 => ?_
  unfold wpOp
  simp only [hi]
  rw [wants_wanted ha hg, if_pos rfl]
  left
  unfold CallsR at h
  unfold Oper.wp
  rw [hrun.run a w0 ha, Oper.upon_enter]
  refine Calls.mono (h w0 h0) fun e w' ⟨v, w1, he, hd1, hv⟩ => ?_
  subst he
  exact ⟨_, w1, ha.put dd v hd, hd1, hv⟩
/-- The operation that comes up next, laid open. -/
def WQo (P : Program) (fn : Func) (ops : Array Oper) (listed : Array Bool) (i kd : Nat) (o : Oper) (l : List (Nat × Nat)) (k : List Item) (σ : Sig) (Q : Nat → Prop) (w w2 : World) (R : Pt) : Prop :=
  ops[i]? = some o → WQ P fn ops listed ((i, kd) :: l) k σ Q w w2 R
theorem q_open {i kd : Nat} {o : Oper} (hi : ops[i]? = some o) (h : WQo P fn ops listed i kd o l k σ Q w w2 R) : WQ P fn ops listed ((i, kd) :: l) k σ Q w w2 R := h hi
theorem q_still {i : Nat} {dd : Option Nat} {op : Op} {oty : TypeId} {opos : String} {oaf : Array Edge} {og : Option (Nat × Bool)} {v : Value} (hrun : ∀ w1, StQ Q w w1 → Rn P fn.ntmps σ w1 ⟨dd, op, oty, opos, oaf, og⟩ v) (hg : wants ops σ ⟨dd, op, oty, opos, oaf, og⟩ true) (hd : okD dd fn.ntmps = true) (hS : StQ Q w w2)
    (h : WQ P fn ops (listed.setIfInBounds i true) l k (putS dd v σ) Q w w2 R) : WQo P fn ops listed i 0 (⟨dd, op, oty, opos, oaf, og⟩ : Oper) l k σ Q w w2 R := fun hi => qd_still hi hrun hg hd hS h
theorem q_pass {i : Nat} {dd : Option Nat} {op : Op} {oty : TypeId} {opos : String} {oaf : Array Edge} {og : Option (Nat × Bool)} (hg : wants ops σ ⟨dd, op, oty, opos, oaf, og⟩ false) (hd : okD dd fn.ntmps = true) (hS : StQ Q w w2)
    (h : WQ P fn ops (listed.setIfInBounds i true) l k (putS dd undef σ) Q w w2 R) : WQo P fn ops listed i 0 (⟨dd, op, oty, opos, oaf, og⟩ : Oper) l k σ Q w w2 R := fun hi => qd_pass hi hg hd hS h
theorem q_any {i : Nat} {dd : Option Nat} {op : Op} {oty : TypeId} {opos : String} {oaf : Array Edge} {og : Option (Nat × Bool)} {Φ : Value → World → Prop} (hrun : Ef P fn.ntmps σ w2 ⟨dd, op, oty, opos, oaf, og⟩ Φ) (hg : wants ops σ ⟨dd, op, oty, opos, oaf, og⟩ true) (hd : okD dd fn.ntmps = true)
    (h : ∀ v w', Φ v w' → (StQ Q w w' ∧ WQ P fn ops (listed.setIfInBounds i true) l k (putS dd v σ) Q w w' R) ∨ (waitsAll ops i = true ∧ WQ P fn ops (listed.setIfInBounds i true) l k (putS dd v σ) Q w' w' R)) : WQo P fn ops listed i 1 (⟨dd, op, oty, opos, oaf, og⟩ : Oper) l k σ Q w w2 R := fun hi => qd_any hi hrun hg hd h
theorem q_unit {i : Nat} {dd : Option Nat} {op : Op} {oty : TypeId} {opos : String} {oaf : Array Edge} {og : Option (Nat × Bool)} {Φ : World → Prop} (hrun : Eu P fn.ntmps σ w2 ⟨dd, op, oty, opos, oaf, og⟩ Φ) (hg : wants ops σ ⟨dd, op, oty, opos, oaf, og⟩ true) (hd : okD dd fn.ntmps = true)
    (h : ∀ w', Φ w' → (StQ Q w w' ∧ WQ P fn ops (listed.setIfInBounds i true) l k (putS dd undef σ) Q w w' R) ∨ (waitsAll ops i = true ∧ WQ P fn ops (listed.setIfInBounds i true) l k (putS dd undef σ) Q w' w' R)) : WQo P fn ops listed i 1 (⟨dd, op, oty, opos, oaf, og⟩ : Oper) l k σ Q w w2 R := fun hi => qd_unit hi hrun hg hd h
theorem q_now {i : Nat} {dd : Option Nat} {op : Op} {oty : TypeId} {opos : String} {oaf : Array Edge} {og : Option (Nat × Bool)} {v : Value} (hrun : Rn P fn.ntmps σ w2 ⟨dd, op, oty, opos, oaf, og⟩ v) (hg : wants ops σ ⟨dd, op, oty, opos, oaf, og⟩ true) (hd : okD dd fn.ntmps = true) (hS : StQ Q w w2)
    (h : WQ P fn ops (listed.setIfInBounds i true) l k (putS dd v σ) Q w w2 R) : WQo P fn ops listed i 1 (⟨dd, op, oty, opos, oaf, og⟩ : Oper) l k σ Q w w2 R := fun hi => qd_now hi hrun hg hd hS h
theorem q_passNow {i : Nat} {dd : Option Nat} {op : Op} {oty : TypeId} {opos : String} {oaf : Array Edge} {og : Option (Nat × Bool)} (hg : wants ops σ ⟨dd, op, oty, opos, oaf, og⟩ false) (hd : okD dd fn.ntmps = true) (hS : StQ Q w w2)
    (h : WQ P fn ops (listed.setIfInBounds i true) l k (putS dd undef σ) Q w w2 R) : WQo P fn ops listed i 1 (⟨dd, op, oty, opos, oaf, og⟩ : Oper) l k σ Q w w2 R := fun hi => qd_passNow hi hg hd hS h
theorem q_enter {i : Nat} {dd : Option Nat} {op : Op} {oty : TypeId} {opos : String} {oaf : Array Edge} {og : Option (Nat × Bool)} {f : FuncId} {args : Array Value} (hrun : En P fn.ntmps σ ⟨dd, op, oty, opos, oaf, og⟩ f args) (hg : wants ops σ ⟨dd, op, oty, opos, oaf, og⟩ true) (hd : okD dd fn.ntmps = true)
    (h : CallsR P f args w2 fun v w' => (StQ Q w w' ∧ WQ P fn ops (listed.setIfInBounds i true) l k (putS dd v σ) Q w w' R) ∨ (waitsAll ops i = true ∧ WQ P fn ops (listed.setIfInBounds i true) l k (putS dd v σ) Q w' w' R)) : WQo P fn ops listed i 1 (⟨dd, op, oty, opos, oaf, og⟩ : Oper) l k σ Q w w2 R := fun hi => qd_enter hi hrun hg hd h
/-- Guards of operations in a region that draws: q_still .. take 'hg' as they stand. -/
theorem q_yes {i kd : Nat} {o : Oper} (h : WQo P fn ops listed i kd o l k σ Q w w2 R) : WQo P fn ops listed i kd o l k σ Q w w2 R := h
end
attribute [irreducible] WQ WQo
end Go.Ink
