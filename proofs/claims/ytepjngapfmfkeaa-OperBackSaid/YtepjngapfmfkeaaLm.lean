/-
  Lines that are laid out by literals: calls behind which the base is told, and what may turn.
-/
import Derived.Test.YtepjngapfmfkeaaLit
import Derived.Test.YtepjngapfmfkeaaBr
import Derived.Test.YtepjngapfmfkeaaApp
import Derived.Test.YtepjngapfmfkeaaRow
import Derived.Test.YtepjngapfmfkeaaLst
set_option linter.unusedVariables false
set_option linter.unusedSimpArgs false
namespace Go.Ink
open Go Go.RowKit

section
variable {P : Program} {fn : Func} {k : List Item} {σ : Sig} {O B : World} {S K : Nat → Prop} {X M M' : Mm} {R : Pt} {ops : Array Oper} {rest : List Oper} {listed : Array Bool} {l : List (Nat × Nat)} {i kd : Nat}
variable {dd : Option Nat} {op : Op} {oty : TypeId} {opos : String} {oaf : Array Edge} {og : Option (Nat × Bool)}
/-- One that hands back what is told by Φ, in a world that is the new base; M may turn. -/
theorem lo_callM {f : FuncId} {args : Array Value} {Φ : World → Value → World → Prop} (hrun : En P fn.ntmps σ ⟨dd, op, oty, opos, oaf, none⟩ f args) (hd : okD dd fn.ntmps = true) (hc : ∀ w, Lw O S B K M w → CallsR P f args w fun u w' => Kn w w' ∧ Φ w u w')
    (h : ∀ w u w', Lw O S B K M w → Kn w w' → Kp S O w' → Φ w u w' → WLo P fn ops rest k (putS dd u σ) O S w' (MK M) M R) : WLo P fn ops ((⟨dd, op, oty, opos, oaf, none⟩ : Oper) :: rest) k σ O S B K M R := by
  unfold WLo at *
  exact fun w hw => o_enter hrun (wants_none rfl) hd ((hc w hw).mono fun u w' ⟨h1, h2⟩ => h w u w' hw h1 (hw.kn h1).org h2 w' (hw.kn h1).base)
end
theorem one_rowL {O B : World} {S K : Nat → Prop} {M : Mm} {w0 w : World} {A : Option Addr} {c g : Nat} {xs : List Int} {e : TypeId} (hw : Lw O S B K M w) (h : Ow kRune (noB w0) (fun _ => False) B (.slice A xs.length c) xs) (hK : ∀ k, K k → k < w0.heap.size) (hg : w0.heap.size ≤ g) (hm : MIn g (cb [.slice A xs.length c] e) M) : Sl kRow (noB w0) w (.slice (some ⟨g, 0, none⟩) 1 1) [xs] :=
  sl_blk (d := kRow) (xs := [xs]) (cells := [.slice A xs.length c]) (hw.mem g _ hm) ⟨_, [], rfl, ⟨_, rfl, (Kp.sl hw.kp h.sl (fun k hk hK' => by
    have := hK k hK'
    rcases hk with hk | hk
    · unfold noB at hk; omega
    · exact hk)).mono fun k hk _ => hk.elim id False.elim⟩, rfl⟩ hg (show 1 * 24 ≤ 140737488355328 by decide)
theorem two_rowL {O B : World} {S K : Nat → Prop} {M : Mm} {w0 w : World} {A A' : Option Addr} {c c' g : Nat} {xs ys : List Int} {e : TypeId} (hw : Lw O S B K M w) (h : Sl kRune (noB w0) B (.slice A xs.length c) xs) (h' : Sl kRune (noB w0) B (.slice A' ys.length c') ys) (hK : ∀ k, K k → k < w0.heap.size) (hg : w0.heap.size ≤ g) (hm : MIn g (cb [.slice A xs.length c, .slice A' ys.length c'] e) M) : Sl kRow (noB w0) w (.slice (some ⟨g, 0, none⟩) 2 2) [xs, ys] :=
  have hn : ∀ k, noB w0 k → ¬ K k := fun k hk hK' => by have := hK k hK'; unfold noB at hk; omega
  sl_blk (d := kRow) (xs := [xs, ys]) (cells := [.slice A xs.length c, .slice A' ys.length c']) (hw.mem g _ hm) ⟨_, [.slice A' ys.length c'], rfl, ⟨_, rfl, Kp.sl hw.kp h hn⟩, _, [], rfl, ⟨_, rfl, Kp.sl hw.kp h' hn⟩, rfl⟩ hg (show 2 * 24 ≤ 140737488355328 by decide)
theorem hk4 {O b w0 w' : World} {S : Nat → Prop} {M M' : Mm} {l : List (List Int)} {v : Value} (hM : ∀ k, MK M' k → k < w0.heap.size) (h : Sl kRow (noB w0) b v l) (hw : Lw O S b (MK M') M w') : Sl kRow (noB w0) w' v l :=
  Kp.sl hw.kp h fun k hk h => by have := hM k h; unfold noB at hk; omega
theorem mk_nil {k : Nat} : ¬ MK [] k := fun ⟨_, h⟩ => by cases h
end Go.Ink
