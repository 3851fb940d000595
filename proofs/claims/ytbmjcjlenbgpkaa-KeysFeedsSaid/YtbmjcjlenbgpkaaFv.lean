/-
  A field of a struct that is a value.
-/
import Derived.Test.YtbmjcjlenbgpkaaLw
import Derived.Test.YtbmjcjlenbgpkaaSeat
set_option linter.unusedVariables false
set_option linter.unusedSimpArgs false
namespace Go.Ink
open Go Go.RowKit Go.Proofs

/-- Field f of struct type t has type ft and lies at off. -/
class FvT (P : Program) (t : TypeId) (f : Nat) (ft off : outParam Nat) : Prop where
  at_ : ∀ cs w, (Instr.field t (.agg cs) f).run P w = (part ft cs off).run P w
theorem part_run {P : Program} {ft : TypeId} [h : CellT P ft] {cs : Array Value} {off : Nat} {v : Value} {w : World} (hv : cs[off]? = some v) : (part ft cs off).run P w = .ok v w := by
  simp [part, h.na, hv]
section
variable {P : Program} {fn : Func} {k : List Item} {σ : Sig} {w : World} {O B : World} {S K : Nat → Prop} {M X : Mm} {R : Pt} {ops : Array Oper} {rest : List Oper} {listed : Array Bool} {l : List (Nat × Nat)} {i : Nat}
variable {N : Nat} {d : Option Nat} {ty : TypeId} {pos : String} {af : Array Edge} {g : Option (Nat × Bool)}
theorem r_fv {x : Operand} {t ft : TypeId} {f off : Nat} [h : FvT P t f ft off] [h1 : CellT P ft] {cs : Array Value} {v : Value} (hx : ev σ x = some (.agg cs)) (hv : cs[off]? = some v) : Rn P N σ w ⟨d, .field t x f, ty, pos, af, g⟩ v := by
  constructor; intro _ a w0 ha _
  simp [execOp, ha.ev hx, h.at_, part_run hv]
variable {dd : Option Nat} {op : Op} {oty : TypeId} {opos : String} {oaf : Array Edge} {og : Option (Nat × Bool)}
theorem lo_fv {x : Operand} {t ft : TypeId} {f off : Nat} [h : FvT P t f ft off] [h1 : CellT P ft] {cs : Array Value} {v : Value} (hx : ev σ x = some (.agg cs)) (hv : cs[off]? = some v) (hd : okD dd fn.ntmps = true)
    (hk : WLo P fn ops rest k (putS dd v σ) O S B K M R) : WLo P fn ops ((⟨dd, .field t x f, oty, opos, oaf, none⟩ : Oper) :: rest) k σ O S B K M R :=
  lo_rn (fun _ => r_fv hx hv) hd hk
theorem ld_fv {x : Operand} {t ft : TypeId} {f off : Nat} [h : FvT P t f ft off] [h1 : CellT P ft] {cs : Array Value} {v : Value} (hx : ev σ x = some (.agg cs)) (hv : cs[off]? = some v) (hg : wants ops σ ⟨dd, .field t x f, oty, opos, oaf, og⟩ true) (hd : okD dd fn.ntmps = true)
    (hk : WLd P fn ops (listed.setIfInBounds i true) l k (putS dd v σ) O S B K X M R) : WLdo P fn ops listed i 0 (⟨dd, .field t x f, oty, opos, oaf, og⟩ : Oper) l k σ O S B K X M R :=
  ld_still (fun _ _ => r_fv hx hv) hg hd hk
theorem ld_fvN {x : Operand} {t ft : TypeId} {f off : Nat} [h : FvT P t f ft off] [h1 : CellT P ft] {cs : Array Value} {v : Value} (hx : ev σ x = some (.agg cs)) (hv : cs[off]? = some v) (hg : wants ops σ ⟨dd, .field t x f, oty, opos, oaf, og⟩ true) (hd : okD dd fn.ntmps = true)
    (hk : WLd P fn ops (listed.setIfInBounds i true) l k (putS dd v σ) O S B K X M R) : WLdo P fn ops listed i 1 (⟨dd, .field t x f, oty, opos, oaf, og⟩ : Oper) l k σ O S B K X M R :=
  ld_now (fun _ _ => r_fv hx hv) hg hd hk
theorem ld_loadAB {x : Operand} {t : TypeId} {n : Nat} [hT : AggT P t n] {p : Addr} {cs : List Value} (hx : ev σ x = some (.pointer (some p))) (hl : cs.length = n) (hc : ∀ j u, cs[j]? = some u → B.cell? (p.add j) = some u) (hs : ¬ K p.block)
    (hg : wants ops σ ⟨dd, .load t x, oty, opos, oaf, og⟩ true) (hd : okD dd fn.ntmps = true) (h : WLd P fn ops (listed.setIfInBounds i true) l k (putS dd (.agg cs.toArray) σ) O S B K X M R) : WLdo P fn ops listed i 0 (⟨dd, .load t x, oty, opos, oaf, og⟩ : Oper) l k σ O S B K X M R :=
  ld_still (fun w hw => r_loadA hx hl fun j u hu => hw.cellB (hc j u hu) (by rw [add_block]; exact hs)) hg hd h
theorem ld_loadABN {x : Operand} {t : TypeId} {n : Nat} [hT : AggT P t n] {p : Addr} {cs : List Value} (hx : ev σ x = some (.pointer (some p))) (hl : cs.length = n) (hc : ∀ j u, cs[j]? = some u → B.cell? (p.add j) = some u) (hs : ¬ K p.block)
    (hg : wants ops σ ⟨dd, .load t x, oty, opos, oaf, og⟩ true) (hd : okD dd fn.ntmps = true) (h : WLd P fn ops (listed.setIfInBounds i true) l k (putS dd (.agg cs.toArray) σ) O S B K X M R) : WLdo P fn ops listed i 1 (⟨dd, .load t x, oty, opos, oaf, og⟩ : Oper) l k σ O S B K X M R :=
  ld_now (fun w hw => r_loadA hx hl fun j u hu => hw.cellB (hc j u hu) (by rw [add_block]; exact hs)) hg hd h
end
end Go.Ink
