/-
  A text that is one's own: deeds on it, one behind the other.
-/
import Derived.Test.YtfgajbilegjbpaaX11
set_option linter.unusedVariables false
set_option linter.unusedSimpArgs false
namespace Go.Ink
open Go Go.Proofs Go.RowKit

/-- A text in the base, all of it made since the begin, none of it own blocks. -/
def TxB (O B : World) (K D : Nat → Prop) (g : Nat) (L : List (List Int)) (b : Nat) : Prop := IsTxt D g B L b ∧ ∀ k, D k → O.heap.size ≤ k ∧ k < B.heap.size ∧ ¬ K k
section
variable {P : Program} {fn : Func} {k : List Item} {σ : Sig} {O B w w' : World} {S K D : Nat → Prop} {M M3 : Mm} {R : Pt} {ops : Array Oper} {rest : List Oper}
variable {dd : Option Nat} {op : Op} {oty : TypeId} {opos : String} {oaf : Array Edge} {g : Nat} {L : List (List Int)} {b : Nat}
theorem TxB.now (h : TxB O B K D g L b) (hw : Lw O S B K M w) : IsTxt D g w L b := h.1.kp hw.kp fun k hk => (h.2 k hk).2.2
theorem TxB.next (h : TxB O B K D g L b) (hw : Lw O S B K M w) (kn : Kn w w') : TxB O w' (MK M) D g L b :=
  ⟨(h.now hw).kn kn, fun k hk => ⟨(h.2 k hk).1, by have := (h.2 k hk).2.1; have := hw.kp.size; have := kn.size; omega, hw.apart (h.2 k hk).2.2 (h.2 k hk).2.1⟩⟩
theorem lo_txt {f : FuncId} {args : Array Value} {L' : List (List Int)} {b' : Nat} {x : Int} (hT : TxB O B K D g L b) (hrun : En P fn.ntmps σ ⟨dd, op, oty, opos, oaf, none⟩ f args) (hd : okD dd fn.ntmps = true) (hc : ∀ w, Lw O S B K M w → IsTxt D g w L b → CallsR P f args w (TxtQ D g w L' b' x))
    (h : ∀ w w', Lw O S B K M w → Kp D w w' → Kp S O w' → TxB O w' (MK M) (fun k => grownD D w k ∧ k < w'.heap.size) g L' b' → WLo P fn ops rest k (putS dd (.int .i64 x) σ) O S w' (MK M) M R) : WLo P fn ops ((⟨dd, op, oty, opos, oaf, none⟩ : Oper) :: rest) k σ O S B K M R := by
  unfold WLo at *
  refine fun w hw => o_enter hrun (wants_none rfl) hd ((hc w hw (hT.now hw)).mono fun u w' ⟨k1, hu, k3⟩ => ?_)
  subst hu
  have hdm : ∀ k, D k → ¬ MK M k := fun k hk => hw.apart (hT.2 k hk).2.2 (hT.2 k hk).2.1
  have ko : Kp S O w' := Kp.then hw.org k1 (fun _ h => h) fun i hi ht => by have := (hT.2 i ht).1; omega
  have hs := hw.org.size
  refine h w w' hw k1 ko ⟨k3.mono fun k hk hl => ⟨hk, hl⟩, fun k hk => ⟨?_, hk.2, ?_⟩⟩ w' ⟨ko, Kp.refl _ _, fun q o hm => k1.blk (hw.mem q o hm) fun ht => hdm q ht ⟨o, hm⟩, hw.nd, fun q hm => ⟨(hw.ge q hm).1, .inr hm⟩⟩
  · exact hk.1.elim (fun h => (hT.2 k h).1) fun h => by omega
  · exact fun hm => hk.1.elim (fun h => hdm k h hm) fun h => by have := hw.lt hm; omega
end
end Go.Ink
