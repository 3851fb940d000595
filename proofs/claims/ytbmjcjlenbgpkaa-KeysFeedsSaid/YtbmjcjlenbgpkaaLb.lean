/-
  Walks over a list of one's own blocks: two operations of a drawn region that may both come next.
-/
import Derived.Test.YtbmjcjlenbgpkaaLx
import Derived.Test.YtbmjcjlenbgpkaaBr
set_option linter.unusedVariables false
set_option linter.unusedSimpArgs false
namespace Go.Ink
open Go Go.RowKit

/-- Operation i is taken now. -/
def WLb (P : Program) (fn : Func) (ops : Array Oper) (listed : Array Bool) (i : Nat) (l : List (Nat × Nat)) (k : List Item) (σ : Sig) (O : World) (S : Nat → Prop) (B : World) (K : Nat → Prop) (X M : Mm) (R : Pt) : Prop :=
  ∀ w w2, Lw O S B K M w → Lw O S B K (X ++ M) w2 → St w w2 → w.heap.size ≤ w2.heap.size → (∀ g, MK X g → w.heap.size ≤ g) → BR P fn ops listed i l k σ w w2 R
def WLbo (P : Program) (fn : Func) (ops : Array Oper) (listed : Array Bool) (i : Nat) (o : Oper) (l : List (Nat × Nat)) (k : List Item) (σ : Sig) (O : World) (S : Nat → Prop) (B : World) (K : Nat → Prop) (X M : Mm) (R : Pt) : Prop :=
  ops[i]? = some o → WLb P fn ops listed i l k σ O S B K X M R
section
variable {P : Program} {fn : Func} {k : List Item} {σ : Sig} {O B : World} {S K : Nat → Prop} {X M M' : Mm} {R : Pt} {ops : Array Oper} {listed : Array Bool} {l : List (Nat × Nat)} {i kd : Nat}
variable {dd : Option Nat} {op : Op} {oty : TypeId} {opos : String} {oaf : Array Edge} {og : Option (Nat × Bool)}
theorem ld_branch2 {x : Nat} (i j : Nat) (l1 l2 : List (Nat × Nat)) (hr : (Region.ready .any ops listed == [i, j]) = true) (h1 : l1.length = l.length) (h2 : l2.length = l.length)
    (o1 : ordOK ops l1 (listed.setIfInBounds i true) = true) (o2 : ordOK ops l2 (listed.setIfInBounds j true) = true)
    (w1 : WLb P fn ops listed i l1 k σ O S B K X M R) (w2 : WLb P fn ops listed j l2 k σ O S B K X M R) : WLd P fn ops listed ((x, 2) :: l) k σ O S B K X M R := by
  unfold WLd
  exact fun w w' a b c d e => d_branch2 hr h1 h2 o1 o2 (w1 w w' a b c d e) (w2 w w' a b c d e)
theorem lb_open {o : Oper} (hi : ops[i]? = some o) (h : WLbo P fn ops listed i o l k σ O S B K X M R) : WLb P fn ops listed i l k σ O S B K X M R := h hi
theorem lb_new {Φ : World → Value → Nat → Obj → Prop} (hrun : ∀ w, Ef P fn.ntmps σ w ⟨dd, op, oty, opos, oaf, og⟩ fun u w' => ∃ g o, Φ w u g o ∧ Nb w w' g o) (hg : wants ops σ ⟨dd, op, oty, opos, oaf, og⟩ true) (hd : okD dd fn.ntmps = true)
    (h : ∀ w u g o, Φ w u g o → O.heap.size ≤ g → B.heap.size ≤ g → WLd P fn ops (listed.setIfInBounds i true) l k (putS dd u σ) O S B K ((g, o) :: X) M R) : WLbo P fn ops listed i (⟨dd, op, oty, opos, oaf, og⟩ : Oper) l k σ O S B K X M R := by
  unfold WLd at h
  exact fun hi w w2 h1 h2 h3 h4 h5 => br_any hi (hrun w2) hg hd fun u w' ⟨g, o, hf, hn⟩ => .inl ⟨h3.trans h4 hn.kn.st, h w2 u g o hf (Nat.le_trans h2.org.size hn.ge) (Nat.le_trans h2.kp.size hn.ge) w w' h1 (h2.nb hn) (h3.trans h4 hn.kn.st) (Nat.le_trans h4 hn.kn.size)
    fun g' hg' => by
      obtain ⟨o', hg'⟩ := hg'
      cases hg' with
      | hd => exact Nat.le_trans h4 hn.ge
      | tl hg' => exact h5 _ ⟨o', hg'⟩⟩
theorem lb_alloc {e : TypeId} {sz bytes : Nat} {z : Value} [hE : ElT P e sz bytes z] (hg : wants ops σ ⟨dd, .alloc e, oty, opos, oaf, og⟩ true) (hd : okD dd fn.ntmps = true)
    (h : ∀ g, O.heap.size ≤ g → B.heap.size ≤ g → WLd P fn ops (listed.setIfInBounds i true) l k (putS dd (.pointer (some ⟨g, 0, none⟩)) σ) O S B K ((g, .cells z.cells e (0, 0)) :: X) M R) : WLbo P fn ops listed i (⟨dd, .alloc e, oty, opos, oaf, og⟩ : Oper) l k σ O S B K X M R :=
  lb_new (Φ := fun _ u g o => u = .pointer (some ⟨g, 0, none⟩) ∧ o = .cells z.cells e) (fun w => ⟨fun a w0 ha h0 => let ⟨u, w', h1, g, h2, h3⟩ := (e_alloc).run a w0 ha h0; ⟨u, w', h1, g, _, ⟨h2, rfl⟩, h3⟩⟩) hg hd fun w u g o ⟨h1, h2⟩ => by
    subst h1 h2; exact h g
theorem lb_box1 {x : Operand} {e : TypeId} {v : Value} (hx : ev σ x = some v) (hv : v.oneCell' = true) (hg : wants ops σ ⟨dd, .box e x, oty, opos, oaf, og⟩ true) (hd : okD dd fn.ntmps = true)
    (h : ∀ g, O.heap.size ≤ g → B.heap.size ≤ g → WLd P fn ops (listed.setIfInBounds i true) l k (putS dd (.pointer (some ⟨g, 0, none⟩)) σ) O S B K ((g, cb [v] e) :: X) M R) : WLbo P fn ops listed i (⟨dd, .box e x, oty, opos, oaf, og⟩ : Oper) l k σ O S B K X M R :=
  lb_new (Φ := fun _ u g o => u = .pointer (some ⟨g, 0, none⟩) ∧ o = .cells v.cells e) (fun w => ⟨fun a w0 ha h0 => let ⟨u, w', h1, g, h2, h3⟩ := (e_box hx).run a w0 ha h0; ⟨u, w', h1, g, _, ⟨h2, rfl⟩, h3⟩⟩) hg hd fun w u g o ⟨h1, h2⟩ => by
    subst h1 h2; rw [one_size hv]; exact h g
theorem lb_call {f : FuncId} {args : Array Value} {v : Value} (hrun : En P fn.ntmps σ ⟨dd, op, oty, opos, oaf, og⟩ f args) (hg : wants ops σ ⟨dd, op, oty, opos, oaf, og⟩ true) (hd : okD dd fn.ntmps = true) (hc : ∀ w, Lw O S B K (X ++ M) w → CallsR P f args w fun u w' => Kn w w' ∧ u = v)
    (h : WLd P fn ops (listed.setIfInBounds i true) l k (putS dd v σ) O S B K X M R) : WLbo P fn ops listed i (⟨dd, op, oty, opos, oaf, og⟩ : Oper) l k σ O S B K X M R := by
  unfold WLd at h
  exact fun hi w w2 h1 h2 h3 h4 h5 => br_enter hi hrun hg hd ((hc w2 h2).mono fun u w' ⟨k1, k2⟩ => by
    subst k2; exact .inl ⟨h3.trans h4 k1.st, h w w' h1 (h2.kn k1) (h3.trans h4 k1.st) (Nat.le_trans h4 k1.size) h5⟩)
theorem lb_callB {f : FuncId} {args : Array Value} {Φ : World → Value → World → Prop} (hrun : En P fn.ntmps σ ⟨dd, op, oty, opos, oaf, og⟩ f args) (hg : wants ops σ ⟨dd, op, oty, opos, oaf, og⟩ true) (hd : okD dd fn.ntmps = true) (hc : ∀ w, Lw O S B K (X ++ M) w → CallsR P f args w fun u w' => Kn w w' ∧ Φ w u w')
    (h : ∀ w u w', Lw O S B K (X ++ M) w → Kn w w' → Kp S O w' → Φ w u w' → WLd P fn ops (listed.setIfInBounds i true) l k (putS dd u σ) O S B K X M R) : WLbo P fn ops listed i (⟨dd, op, oty, opos, oaf, og⟩ : Oper) l k σ O S B K X M R := by
  unfold WLd at h
  exact fun hi w w2 h1 h2 h3 h4 h5 => br_enter hi hrun hg hd ((hc w2 h2).mono fun u w' ⟨k1, k2⟩ => .inl ⟨h3.trans h4 k1.st, h w2 u w' h2 k1 (h2.kn k1).org k2 w w' h1 (h2.kn k1) (h3.trans h4 k1.st) (Nat.le_trans h4 k1.size) h5⟩)
end
attribute [irreducible] WLb WLbo
end Go.Ink
