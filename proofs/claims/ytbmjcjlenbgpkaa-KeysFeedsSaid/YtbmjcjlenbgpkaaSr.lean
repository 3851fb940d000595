/-
  Ranges over strings that are constants; bits of whole numbers.
-/
import Derived.Test.YtbmjcjlenbgpkaaLb
import Derived.Test.YtbmjcjlenbgpkaaIdx
import Derived.Laws.RangeString
set_option linter.unusedVariables false
set_option linter.unusedSimpArgs false
namespace Go.Ink
open Go Go.RowKit

section
variable {P : Program} {N : Nat} {σ : Sig} {w : World} {d : Option Nat} {ty : TypeId} {pos : String} {af : Array Edge} {gd : Option (Nat × Bool)}
theorem e_rangeS {x : Operand} {t : TypeId} [hT : StrT P t] {s : ByteArray} (hx : ev σ x = some (.string s)) : Ef P N σ w ⟨d, .range t x, ty, pos, af, gd⟩ (fun u w' => ∃ g, u = .pointer (some ⟨g, 0, none⟩) ∧ Nb w w' g (.stringIter s 0)) := by
  constructor; intro _ a w0 ha h0
  refine ⟨_, _, ?_, w0.heap.size, rfl, nb_alloc h0 _⟩
  simp only [execOp, ha.ev hx, run_range_string w0 t s hT.und, Sem.run_bind, Result.andThen_ok, Sem.run_pure]
  rfl
theorem e_nextS {x : Operand} {g : Nat} {s : ByteArray} {q : Nat} (hx : ev σ x = some (.pointer (some ⟨g, 0, none⟩))) (hg : w.heap[g]? = some (.stringIter s q)) (hq : q < s.size) :
    Ef P N σ w ⟨d, .next x true, ty, pos, af, gd⟩ (fun u w' => u = .tuple #[.bool true, .int .i64 q, .int .i32 (Utf8.decode s q).1] ∧ Wr w w' g (.stringIter s (q + (Utf8.decode s q).2))) := by
  constructor; intro _ a w0 ha h0
  refine ⟨_, _, ?_, rfl, wr_obj h0 (blk_lt hg) _⟩
  have hg0 : w0.heap[g]? = some (.stringIter s q) := by rw [h0.heap]; exact hg
  simp only [execOp, ha.ev hx, Instr.next, getObj, setObj, Sem.run_bind, Sem.run, hg0, Result.andThen_ok, hq, if_true, Sem.run_pure, goInt]
theorem r_nextEnd {x : Operand} {g : Nat} {s : ByteArray} {q : Nat} (hx : ev σ x = some (.pointer (some ⟨g, 0, none⟩))) (hg : w.heap[g]? = some (.stringIter s q)) (hq : ¬ q < s.size) :
    Rn P N σ w ⟨d, .next x true, ty, pos, af, gd⟩ (.tuple #[.bool false]) := by
  constructor; intro _ a w0 ha hS
  have hg0 : w0.heap[g]? = some (.stringIter s q) := (hS g (blk_lt hg)).trans hg
  simp only [execOp, ha.ev hx, Instr.next, getObj, setObj, Sem.run_bind, Sem.run, hg0, Result.andThen_ok, hq, if_false, Sem.run_pure]
theorem r_xor {x y : Operand} {t t' : TypeId} {k : IntKind} {a b c : Int} (hx : ev σ x = some (.int k a)) (hy : ev σ y = some (.int k b)) (hc : k.wrap ((BitVec.ofInt k.bits a ^^^ BitVec.ofInt k.bits b).toNat) = c) : Rn P N σ w ⟨d, .binOp .xor t x y t', ty, pos, af, gd⟩ (.int k c) := by
  constructor; intro _ ac w0 ha _
  subst hc
  simp [execOp, ha.ev hx, ha.ev hy, binOp_xor, eqGuard_at_int, Op.intBits]
end
section
variable {P : Program} {fn : Func} {k : List Item} {σ : Sig} {O B : World} {S K : Nat → Prop} {X M M' : Mm} {R : Pt} {ops : Array Oper} {rest : List Oper} {listed : Array Bool} {l : List (Nat × Nat)} {i kd : Nat}
variable {dd : Option Nat} {op : Op} {oty : TypeId} {opos : String} {oaf : Array Edge} {og : Option (Nat × Bool)}
theorem lo_rangeS {x : Operand} {t : TypeId} [hT : StrT P t] {s : ByteArray} (hx : ev σ x = some (.string s)) (hd : okD dd fn.ntmps = true)
    (h : ∀ g, O.heap.size ≤ g → B.heap.size ≤ g → WLo P fn ops rest k (putS dd (.pointer (some ⟨g, 0, none⟩)) σ) O S B K ((g, .stringIter s 0) :: M) R) :
    WLo P fn ops ((⟨dd, .range t x, oty, opos, oaf, none⟩ : Oper) :: rest) k σ O S B K M R := by
  unfold WLo at *
  exact fun w hw => o_any (e_rangeS hx) (wants_none rfl) hd fun u w' ⟨g, hu, hn⟩ => by
    subst hu
    exact h g (Nat.le_trans hw.org.size hn.ge) (Nat.le_trans hw.kp.size hn.ge) w' (hw.nb hn)
theorem lo_nextS {x : Operand} {g : Nat} {s : ByteArray} {q : Nat} {r n : Nat} (hx : ev σ x = some (.pointer (some ⟨g, 0, none⟩))) (hm : MIn g (.stringIter s q) M) (hq : q < s.size) (hc : Utf8.decode s q = (r, n))
    (hu : MUp g (.stringIter s (q + n)) M M') (hd : okD dd fn.ntmps = true)
    (h : WLo P fn ops rest k (putS dd (.tuple #[.bool true, .int .i64 q, .int .i32 r]) σ) O S B K M' R) : WLo P fn ops ((⟨dd, .next x true, oty, opos, oaf, none⟩ : Oper) :: rest) k σ O S B K M R := by
  unfold WLo at *
  exact fun w hw => o_any (e_nextS hx (hw.mem g _ hm) hq) (wants_none rfl) hd fun u w' ⟨h1, h2⟩ => by
    rw [hc] at h1 h2
    subst h1
    exact h w' (hw.wr h2 hu)
theorem lo_nextEnd {x : Operand} {g : Nat} {s : ByteArray} {q : Nat} (hx : ev σ x = some (.pointer (some ⟨g, 0, none⟩))) (hm : MIn g (.stringIter s q) M) (hq : ¬ q < s.size) (hd : okD dd fn.ntmps = true)
    (h : WLo P fn ops rest k (putS dd (.tuple #[.bool false]) σ) O S B K M R) : WLo P fn ops ((⟨dd, .next x true, oty, opos, oaf, none⟩ : Oper) :: rest) k σ O S B K M R :=
  lo_still (fun w hw => r_nextEnd hx (hw.mem g _ hm) hq) hd h
end
end Go.Ink
