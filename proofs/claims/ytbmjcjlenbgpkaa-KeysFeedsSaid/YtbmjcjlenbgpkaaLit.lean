/-
  Literal slices as own blocks; blocks that the base takes over.
-/
import Derived.Test.YtbmjcjlenbgpkaaLw
set_option linter.unusedVariables false
set_option linter.unusedSimpArgs false
namespace Go.Ink
open Go Go.RowKit

section
variable {P : Program} {fn : Func} {k : List Item} {σ : Sig} {O B : World} {S K : Nat → Prop} {X M M' : Mm} {R : Pt} {ops : Array Oper} {rest : List Oper} {listed : Array Bool} {l : List (Nat × Nat)} {i kd : Nat}
variable {dd : Option Nat} {op : Op} {oty : TypeId} {opos : String} {oaf : Array Edge} {og : Option (Nat × Bool)}
theorem lo_lit {t e : TypeId} {sz bytes : Nat} {z : Value} [hT : SlT P t e] [hE : ElT P e sz bytes z] {len : Nat} {ps : List (Nat × Operand)} {qs : List (Nat × Value)} {cs : List Value} (hx : evps σ ps = some qs) (hn : len * sz ≤ 16777216)
    (hf : Instr.fill (fun i => some (i * sz, sz)) (madeCells z.cells (len * sz)) qs = some cs.toArray) (hd : okD dd fn.ntmps = true)
    (h : ∀ g, O.heap.size ≤ g → B.heap.size ≤ g → WLo P fn ops rest k (putS dd (.slice (some ⟨g, 0, none⟩) len len) σ) O S B K ((g, cb cs e) :: M) R) :
    WLo P fn ops ((⟨dd, .buildSlice t len ps.toArray, oty, opos, oaf, none⟩ : Oper) :: rest) k σ O S B K M R := by
  unfold WLo at *
  exact fun w hw => o_any (e_lit hx hn hf) (wants_none rfl) hd fun u w' ⟨g, hu, hn⟩ => by
    subst hu
    exact h g (Nat.le_trans hw.org.size hn.ge) (Nat.le_trans hw.kp.size hn.ge) w' (hw.nb hn)
theorem ld_lit {t e : TypeId} {sz bytes : Nat} {z : Value} [hT : SlT P t e] [hE : ElT P e sz bytes z] {len : Nat} {ps : List (Nat × Operand)} {qs : List (Nat × Value)} {cs : List Value} (hx : evps σ ps = some qs) (hn : len * sz ≤ 16777216)
    (hf : Instr.fill (fun i => some (i * sz, sz)) (madeCells z.cells (len * sz)) qs = some cs.toArray) (hg : wants ops σ ⟨dd, .buildSlice t len ps.toArray, oty, opos, oaf, og⟩ true) (hd : okD dd fn.ntmps = true)
    (h : ∀ g, O.heap.size ≤ g → B.heap.size ≤ g → WLd P fn ops (listed.setIfInBounds i true) l k (putS dd (.slice (some ⟨g, 0, none⟩) len len) σ) O S B K ((g, cb cs e) :: X) M R) :
    WLdo P fn ops listed i 1 (⟨dd, .buildSlice t len ps.toArray, oty, opos, oaf, og⟩ : Oper) l k σ O S B K X M R :=
  ld_new (Φ := fun _ u g o => u = .slice (some ⟨g, 0, none⟩) len len ∧ o = cb cs e) (fun w => ⟨fun a w0 ha h0 => let ⟨u, w', h1, g, h2, h3⟩ := (e_lit hx hn hf).run a w0 ha h0; ⟨u, w', h1, g, _, ⟨h2, rfl⟩, h3⟩⟩) hg hd fun w u g o ⟨h1, h2⟩ => by
    subst h1 h2; exact h g
/-- From here on the base has what M has and M' has not. -/
theorem l_take (hs : MSub M' M) (h : ∀ w, Lw O S B K M w → WLG P fn k σ O S w (MK M') M' R) : WLG P fn k σ O S B K M R := by
  unfold WLG at *
  exact fun w hw => h w hw w (hw.sub hs).base
theorem lo_take (hs : MSub M' M) (h : ∀ w, Lw O S B K M w → WLo P fn ops rest k σ O S w (MK M') M' R) : WLo P fn ops rest k σ O S B K M R := by
  unfold WLo at *
  exact fun w hw => h w hw w (hw.sub hs).base
end
end Go.Ink
