/-
  More rules of the walk: minus, maps of whole numbers, parts of own blocks.
-/
import Derived.Test.YtbmjcjlenbgpkaaLit
import Derived.Test.YtbmjcjlenbgpkaaFv
import Derived.Laws.Unary
set_option linter.unusedVariables false
set_option linter.unusedSimpArgs false
namespace Go.Ink
open Go Go.RowKit

/-- More steps. -/
theorem lox_ {A B : Prop} (hb : B) (h : Nxt B → A := by intro hb; (first|refine lo_neg rfl (by omega) (by omega) rfl ?_|refine lo_loadP rfl rfl (by(repeat(first|exact MIn.hd|refine MIn.tl ?_));done) (by simp only [List.drop,List.take];rfl) (by rfl) rfl ?_|refine lo_lookup rfl rfl (by(repeat(first|exact MIn.hd|refine MIn.tl ?_));done) rfl ?_|refine lo_insert rfl rfl rfl (by(repeat(first|exact MIn.hd|refine MIn.tl ?_));done) (by decide) (by first|exact .hd|exact .tl .hd|exact .tl (.tl .hd)|exact .tl (.tl (.tl .hd))|exact .tl (.tl (.tl (.tl .hd)))|exact .tl (.tl (.tl (.tl (.tl .hd))))|exact .tl (.tl (.tl (.tl (.tl (.tl .hd)))))|exact .tl (.tl (.tl (.tl (.tl (.tl (.tl .hd))))))|exact .tl (.tl (.tl (.tl (.tl (.tl (.tl (.tl .hd)))))))) rfl ?_); exact hb.out) : A := h ⟨hb⟩
/-- A map type with keys of a kind of whole numbers; what it tells where it has nothing. -/
class MapT (P : Program) (t : TypeId) (k : outParam IntKind) (e : outParam TypeId) (z : outParam Value) : Prop where
  und : ∃ kt, P.underlying t = some (.map kt e) ∧ P.underlying kt = some (.int k)
  zero : ∀ w, (zeroValue e).run P w = .ok z w
/-- Entries of a literal map: the keys, all different. -/
def ents (k : IntKind) : Nat → List (Int × Value) → List MapEntry
  | _, [] => []
  | n, (a, v) :: r => { key := .int k a, val := v, born := n } :: ents k (n + 1) r
def entFind (a : Int) : List (Int × Value) → Option Value
  | [] => none
  | (b, v) :: r => if a = b then some v else entFind a r
theorem ents_append {k : IntKind} : ∀ (n : Nat) (l r : List (Int × Value)), ents k n (l ++ r) = ents k n l ++ ents k (n + l.length) r
  | n, [], r => rfl
  | n, (a, v) :: l, r => by
    show _ :: ents k (n + 1) (l ++ r) = _ :: (ents k (n + 1) l ++ ents k (n + (l.length + 1)) r)
    rw [ents_append (n + 1) l r, show n + 1 + l.length = n + (l.length + 1) by omega]
theorem ents_len {k : IntKind} : ∀ (n : Nat) (l : List (Int × Value)), (ents k n l).length = l.length
  | n, [] => rfl
  | n, (a, v) :: l => by show (ents k (n + 1) l).length + 1 = l.length + 1; rw [ents_len]
theorem find_ents {k : IntKind} {a : Int} : ∀ (n i : Nat) (l : List (Int × Value)), (Instr.findNow (.int k) (.int k a) (ents k n l) i).map (·.map (·.2)) = some (entFind a l)
  | n, i, [] => rfl
  | n, i, (b, v) :: l => by
    simp only [ents, Instr.findNow, Instr.sameNow, if_true, entFind]
    by_cases h : a = b
    · subst h; simp
    · rw [show (a == b) = false by simpa using h, if_neg h]
      exact find_ents (n + 1) (i + 1) l
theorem find_none {k : IntKind} {a : Int} {n i : Nat} {l : List (Int × Value)} (h : entFind a l = none) : Instr.findNow (.int k) (.int k a) (ents k n l) i = some none := by
  have := find_ents (k := k) (a := a) n i l
  rw [h] at this
  cases hf : Instr.findNow (.int k) (.int k a) (ents k n l) i with
  | none => rw [hf] at this; cases this
  | some o =>
    cases o with
    | none => rfl
    | some x => rw [hf] at this; simp at this
theorem find_some {k : IntKind} {a : Int} {n i : Nat} {l : List (Int × Value)} {v : Value} (h : entFind a l = some v) : ∃ j, Instr.findNow (.int k) (.int k a) (ents k n l) i = some (some (j, v)) := by
  have := find_ents (k := k) (a := a) n i l
  rw [h] at this
  cases hf : Instr.findNow (.int k) (.int k a) (ents k n l) i with
  | none => rw [hf] at this; cases this
  | some o =>
    cases o with
    | none => rw [hf] at this; simp at this
    | some x =>
      obtain ⟨j, u⟩ := x
      rw [hf] at this
      simp at this
      subst this
      exact ⟨j, rfl⟩
theorem checkKey_int' {P : Program} {w : World} {b : Bool} {kt : TypeId} {k k' : IntKind} {a : Int} (n : Nat) (h : P.underlying kt = some (.int k)) : (Instr.checkKey b (n + 1) kt (.int k' a)).run P w = .ok () w := by
  simp only [Instr.checkKey, run_underlying h, Sem.run_bind, Sem.run_pure, Result.andThen_ok]
theorem checkKey_int {P : Program} {w : World} {b : Bool} {kt : TypeId} {k k' : IntKind} {a : Int} (h : P.underlying kt = some (.int k)) : (Instr.checkKey b 10000 kt (.int k' a)).run P w = .ok () w := checkKey_int' 9999 h
/-- A map of own entries. -/
def mapO (k : IntKind) (l : List (Int × Value)) : Obj := .map (ents k 0 l).toArray l.length
theorem wr_obj {w w0 : World} (h : Dr w w0) {g : Nat} (hg : g < w.heap.size) (o : Obj) : Wr w { w0 with heap := w0.heap.setIfInBounds g o } g o :=
  ⟨⟨h.os, h.tape, h.output, by simp [h.heap], fun k hk hn => by
    show (w0.heap.setIfInBounds g o)[k]? = w.heap[k]?
    rw [Array.getElem?_setIfInBounds, if_neg (fun e => hn e.symm), h.heap]⟩, by
    show (w0.heap.setIfInBounds g o)[g]? = some o
    rw [Array.getElem?_setIfInBounds, if_pos rfl, h.heap, if_pos hg]⟩
section
variable {P : Program} {N : Nat} {σ : Sig} {w : World} {d : Option Nat} {ty : TypeId} {pos : String} {af : Array Edge} {gd : Option (Nat × Bool)}
theorem r_neg {x : Operand} {t : TypeId} {a : Int} (hx : ev σ x = some (.int .i64 a)) (h1 : -9223372036854775808 ≤ 0 - a) (h2 : 0 - a ≤ 9223372036854775807) : Rn P N σ w ⟨d, .unOp .neg t x, ty, pos, af, gd⟩ (.int .i64 (0 - a)) := by
  constructor; intro _ ac w0 ha _
  simp [execOp, ha.ev hx, Op.unary, Op.intArith]
  simpa using wrap_in64 h1 h2
theorem e_makeMap {t : TypeId} {k : IntKind} {e : TypeId} {z : Value} [hT : MapT P t k e z] : Ef P N σ w ⟨d, .makeMap t none, ty, pos, af, gd⟩ (fun u w' => ∃ g, u = .map (some g) ∧ Nb w w' g (mapO k [])) := by
  constructor; intro _ a w0 ha h0
  refine ⟨_, _, ?_, w0.heap.size, rfl, nb_alloc h0 _⟩
  simp [execOp, Instr.makeMap, newObj, Sem.run, mapO, ents]
theorem u_insert {x y z : Operand} {t : TypeId} {k : IntKind} {e : TypeId} {zv : Value} [hT : MapT P t k e zv] {g : Nat} {l : List (Int × Value)} {a : Int} {v : Value} (hx : ev σ x = some (.map (some g))) (hy : ev σ y = some (.int k a)) (hz : ev σ z = some v) (hg : w.heap[g]? = some (mapO k l)) (hn : entFind a l = none) :
    Eu P N σ w ⟨d, .insert t x y z, ty, pos, af, gd⟩ (fun w' => Wr w w' g (mapO k (l ++ [(a, v)]))) := by
  constructor; intro _ ac w0 ha h0
  obtain ⟨kt, h1, h2⟩ := hT.und
  refine ⟨_, ?_, wr_obj h0 (blk_lt hg) _⟩
  have hg0 : w0.heap[g]? = some (mapO k l) := by rw [h0.heap]; exact hg
  have e1 : mapO k (l ++ [(a, v)]) = .map ((ents k 0 l).toArray.push { key := .int k a, val := v, born := l.length }) (l.length + 1) := by
    unfold mapO
    rw [ents_append, List.length_append]
    simp [ents]
  rw [e1]
  have hf := find_none (k := k) (n := 0) (i := 0) hn
  simp only [execOp, ha.ev hx, ha.ev hy, ha.ev hz, Instr.mapUpdate, run_underlying h1, Sem.run_bind, Result.andThen_ok, getObj, Sem.run, hg0, mapO, checkKey_int h2, Instr.findKey, run_underlying h2, hf, Sem.run_pure, setObj]
theorem r_lookup {x y : Operand} {t : TypeId} {k : IntKind} {e : TypeId} {zv : Value} [hT : MapT P t k e zv] {g : Nat} {l : List (Int × Value)} {a : Int} (hx : ev σ x = some (.map (some g))) (hy : ev σ y = some (.int k a)) (hg : w.heap[g]? = some (mapO k l)) :
    Rn P N σ w ⟨d, .lookup t x y false, ty, pos, af, gd⟩ ((entFind a l).getD zv) := by
  constructor; intro _ ac w0 ha hS
  obtain ⟨kt, h1, h2⟩ := hT.und
  have hg0 : w0.heap[g]? = some (mapO k l) := (hS g (blk_lt hg)).trans hg
  cases hf : entFind a l with
  | none =>
    have hf' := find_none (k := k) (n := 0) (i := 0) hf
    simp [execOp, ha.ev hx, ha.ev hy, Instr.lookup, run_underlying h1, Sem.run_bind, Result.andThen_ok, getObj, Sem.run, hg0, mapO, checkKey_int h2, Instr.findKey, run_underlying h2, hf', Sem.run_pure, hT.zero]
  | some v =>
    obtain ⟨j, hf'⟩ := find_some (k := k) (n := 0) (i := 0) hf
    simp [execOp, ha.ev hx, ha.ev hy, Instr.lookup, run_underlying h1, Sem.run_bind, Result.andThen_ok, getObj, Sem.run, hg0, mapO, checkKey_int h2, Instr.findKey, run_underlying h2, hf', Sem.run_pure]
end
section
variable {P : Program} {fn : Func} {k : List Item} {σ : Sig} {O B : World} {S K : Nat → Prop} {X M M' : Mm} {R : Pt} {ops : Array Oper} {rest : List Oper} {listed : Array Bool} {l : List (Nat × Nat)} {i kd : Nat}
variable {dd : Option Nat} {op : Op} {oty : TypeId} {opos : String} {oaf : Array Edge} {og : Option (Nat × Bool)}
theorem lo_neg {x : Operand} {t : TypeId} {a : Int} (hx : ev σ x = some (.int .i64 a)) (h1 : -9223372036854775808 ≤ 0 - a) (h2 : 0 - a ≤ 9223372036854775807) (hd : okD dd fn.ntmps = true)
    (h : WLo P fn ops rest k (putS dd (.int .i64 (0 - a)) σ) O S B K M R) : WLo P fn ops ((⟨dd, .unOp .neg t x, oty, opos, oaf, none⟩ : Oper) :: rest) k σ O S B K M R :=
  lo_rn (fun w => r_neg hx h1 h2) hd h
theorem lo_makeMap {t : TypeId} {ki : IntKind} {e : TypeId} {z : Value} [hT : MapT P t ki e z] (hd : okD dd fn.ntmps = true)
    (h : ∀ g, O.heap.size ≤ g → B.heap.size ≤ g → WLo P fn ops rest k (putS dd (.map (some g)) σ) O S B K ((g, mapO ki []) :: M) R) :
    WLo P fn ops ((⟨dd, .makeMap t none, oty, opos, oaf, none⟩ : Oper) :: rest) k σ O S B K M R := by
  unfold WLo at *
  exact fun w hw => o_any e_makeMap (wants_none rfl) hd fun u w' ⟨g, hu, hn⟩ => by
    subst hu
    exact h g (Nat.le_trans hw.org.size hn.ge) (Nat.le_trans hw.kp.size hn.ge) w' (hw.nb hn)
theorem lo_insert {x y z : Operand} {t : TypeId} {ki : IntKind} {e : TypeId} {zv : Value} [hT : MapT P t ki e zv] {g : Nat} {es : List (Int × Value)} {a : Int} {v : Value} (hx : ev σ x = some (.map (some g))) (hy : ev σ y = some (.int ki a)) (hz : ev σ z = some v) (hm : MIn g (mapO ki es) M) (hn : entFind a es = none)
    (hu : MUp g (mapO ki (es ++ [(a, v)])) M M') (hd : okD dd fn.ntmps = true) (h : WLo P fn ops rest k (putS dd undef σ) O S B K M' R) :
    WLo P fn ops ((⟨dd, .insert t x y z, oty, opos, oaf, none⟩ : Oper) :: rest) k σ O S B K M R := by
  unfold WLo at *
  exact fun w hw => o_unit (u_insert hx hy hz (hw.mem g _ hm) hn) (wants_none rfl) hd fun w' hr => h w' (hw.wr hr hu)
theorem lo_lookup {x y : Operand} {t : TypeId} {ki : IntKind} {e : TypeId} {zv : Value} [hT : MapT P t ki e zv] {g : Nat} {es : List (Int × Value)} {a : Int} (hx : ev σ x = some (.map (some g))) (hy : ev σ y = some (.int ki a)) (hm : MIn g (mapO ki es) M) (hd : okD dd fn.ntmps = true)
    (h : WLo P fn ops rest k (putS dd ((entFind a es).getD zv) σ) O S B K M R) : WLo P fn ops ((⟨dd, .lookup t x y false, oty, opos, oaf, none⟩ : Oper) :: rest) k σ O S B K M R :=
  lo_still (fun w hw => r_lookup hx hy (hw.mem g _ hm)) hd h
/-- A part of an own block. -/
theorem lo_loadP {x : Operand} {t : TypeId} {n : Nat} [hT : AggT P t n] {g i : Nat} {cs : List Value} {e : TypeId} {fr : Nat × Nat} {p : Addr} {cs' : List Value} (hx : ev σ x = some (.pointer (some p))) (hp : p = ⟨g, i, none⟩) (hm : MIn g (.cells cs.toArray e fr) M)
    (hc : (cs.drop i).take n = cs') (hl : cs'.length = n)
    (hd : okD dd fn.ntmps = true) (h : WLo P fn ops rest k (putS dd (.agg cs'.toArray) σ) O S B K M R) : WLo P fn ops ((⟨dd, .load t x, oty, opos, oaf, none⟩ : Oper) :: rest) k σ O S B K M R :=
  lo_loadA hx hp hm hc hl hd h
theorem ld_loadP {x : Operand} {t : TypeId} {n : Nat} [hT : AggT P t n] {g j : Nat} {cs : List Value} {e : TypeId} {fr : Nat × Nat} {p : Addr} {cs' : List Value} (hx : ev σ x = some (.pointer (some p))) (hp : p = ⟨g, j, none⟩) (hm : MIn g (.cells cs.toArray e fr) M)
    (hc : (cs.drop j).take n = cs') (hl : cs'.length = n) (hg : wants ops σ ⟨dd, .load t x, oty, opos, oaf, og⟩ true) (hd : okD dd fn.ntmps = true)
    (h : WLd P fn ops (listed.setIfInBounds i true) l k (putS dd (.agg cs'.toArray) σ) O S B K X M R) : WLdo P fn ops listed i 0 (⟨dd, .load t x, oty, opos, oaf, og⟩ : Oper) l k σ O S B K X M R :=
  ld_still (fun w hw => r_loadA hx hl (by subst hp hc; exact blk_cells (hw.mem g _ hm))) hg hd h
theorem lq_loadP {Q : List Nat} {T : Mm} {x : Operand} {t : TypeId} {n : Nat} [hT : AggT P t n] {g j : Nat} {cs : List Value} {e : TypeId} {fr : Nat × Nat} {p : Addr} {cs' : List Value} (hx : ev σ x = some (.pointer (some p))) (hp : p = ⟨g, j, none⟩) (hm : MIn g (.cells cs.toArray e fr) T)
    (hc : (cs.drop j).take n = cs') (hl : cs'.length = n) (hg : wants ops σ ⟨dd, .load t x, oty, opos, oaf, og⟩ true) (hd : okD dd fn.ntmps = true)
    (h : WLq P fn ops (listed.setIfInBounds i true) l k (putS dd (.agg cs'.toArray) σ) O S B K Q T M R) : WLqo P fn ops listed i 0 (⟨dd, .load t x, oty, opos, oaf, og⟩ : Oper) l k σ O S B K Q T M R :=
  lq_still (fun w hw => r_loadA hx hl (by subst hp hc; exact blk_cells (hw.mem g _ hm))) hg hd h
/-- A store of what the block has already. -/
theorem ld_storeWS {x y : Operand} {t : TypeId} {n : Nat} [hT : AggT P t n] {p : Addr} {g : Nat} {cs : List Value} {e : TypeId} (hx : ev σ x = some (.pointer (some p))) (hp : p = ⟨g, 0, none⟩) (hm : MIn g (cb cs e) (X ++ M))
    (hi : Nat.beq cs.length n = true) (hy : ev σ y = some (.agg cs.toArray)) (hv : cs.all Value.oneCell' = true) (hg : wants ops σ ⟨dd, .store t x y, oty, opos, oaf, og⟩ true) (hd : okD dd fn.ntmps = true)
    (h : WLd P fn ops (listed.setIfInBounds i true) l k (putS dd undef σ) O S B K X M R) : WLdo P fn ops listed i 1 (⟨dd, .store t x y, oty, opos, oaf, og⟩ : Oper) l k σ O S B K X M R := by
  unfold WLd at h
  unfold WLdo
  exact fun w w2 h1 h2 h3 h4 h5 => x_unit (eu_storeW hx hp (h2.mem g _ hm) hi hy (Nat.eq_of_beq_eq_true hi) hv) hg hd fun w' hr => by
    have hk : Kn w2 w' := ⟨hr.kp.os, hr.kp.tape, hr.kp.output, hr.kp.size, fun k hk _ => by
      by_cases e : k = g
      · subst e; exact hr.at_.trans (h2.mem _ _ hm).symm
      · exact hr.kp.block k hk e⟩
    exact .inl ⟨h3.trans h4 hk.st, h w w' h1 (h2.kn hk) (h3.trans h4 hk.st) (Nat.le_trans h4 hk.size) h5⟩
end
end Go.Ink
