/-
  Operations that make or turn memory.
-/
import Derived.Test.YtbmjcjlenbgpkaaMem
set_option linter.unusedVariables false
set_option linter.unusedSimpArgs false
namespace Go.Ink
open Go Go.RowKit

/-- Values of operands. -/
def evs (σ : Sig) : List Operand → Option (List Value)
  | [] => some []
  | x :: r => match ev σ x, evs σ r with
    | some v, some l => some (v :: l)
    | _, _ => none
theorem evs_map {D : List Deferred} {N : Nat} {σ : Sig} {a : Act} (ha : Fr D N σ a) : ∀ {l : List Operand} {vs : List Value}, evs σ l = some vs → l.map a.eval = vs
  | [], vs, h => by simpa [evs] using h
  | x :: r, vs, h => by
    simp only [evs] at h
    split at h
    · rename_i v l h1 h2
      cases h
      simp [ha.ev h1, evs_map ha h2]
    · cases h
/-- Values of the operands of a literal. -/
def evps (σ : Sig) : List (Nat × Operand) → Option (List (Nat × Value))
  | [] => some []
  | (i, x) :: r => match ev σ x, evps σ r with
    | some v, some l => some ((i, v) :: l)
    | _, _ => none
theorem evps_map {D : List Deferred} {N : Nat} {σ : Sig} {a : Act} (ha : Fr D N σ a) : ∀ {l : List (Nat × Operand)} {vs : List (Nat × Value)}, evps σ l = some vs → l.map (fun p => (p.1, a.eval p.2)) = vs
  | [], vs, h => by simpa [evps] using h
  | (i, x) :: r, vs, h => by
    simp only [evps] at h
    split at h
    · rename_i v l h1 h2
      cases h
      simp [ha.ev h1, evps_map ha h2]
    · cases h
/-- A function that is entered when it is called. -/
class FnT (P : Program) (f : FuncId) : Prop where
  run : ∀ args w, (callFunc f args).run P w = .ok (.enter f args) w
section
variable {P : Program} {N : Nat} {σ : Sig} {w : World} {dst : Option Nat} {ty : TypeId} {pos : String} {af : Array Edge} {gd : Option (Nat × Bool)}
theorem n_call {f : FuncId} [hF : FnT P f] {args : List Operand} {vs : List Value} {ts : Array TypeId} (hx : evs σ args = some vs) :
    En P N σ ⟨dst, .call { callee := .value (.func f), args := args.toArray, argTypes := ts }, ty, pos, af, gd⟩ f vs.toArray := by
  constructor; intro _ a w0 ha
  simp only [execOp, resolve, invoke, List.map_toArray, evs_map ha hx, Sem.run_bind, Sem.run_pure, Act.eval, Deferred.ofValue, Array.empty_append, Result.andThen_ok, Array.append_empty, hF.run]
theorem n_callV {f : FuncId} [hF : FnT P f] {x : Operand} {args : List Operand} {vs : List Value} {cap : List Value} {ts : Array TypeId} (hf : ev σ x = some (.func (.func f) #[] cap.toArray)) (hx : evs σ args = some vs) :
    En P N σ ⟨dst, .call { callee := .value x, args := args.toArray, argTypes := ts }, ty, pos, af, gd⟩ f (vs ++ cap).toArray := by
  constructor; intro _ a w0 ha
  simp only [execOp, resolve, invoke, List.map_toArray, evs_map ha hx, ha.ev hf, Sem.run_bind, Sem.run_pure, Deferred.ofValue, Array.empty_append, Result.andThen_ok, List.append_toArray, List.nil_append, hF.run]
theorem r_makeFunc {f : Fn} {first cap : List Operand} {us vs : List Value} (h1 : evs σ first = some us) (h2 : evs σ cap = some vs) : Rn P N σ w ⟨dst, .makeFunc f first.toArray cap.toArray, ty, pos, af, gd⟩ (.func f us.toArray vs.toArray) := by
  constructor; intro _ a w0 ha _
  simp only [execOp, List.map_toArray, evs_map ha h1, evs_map ha h2, Instr.makeFunc, Sem.run_bind, Sem.run_pure, Result.andThen_ok]

theorem e_box {x : Operand} {e : TypeId} {v : Value} (hx : ev σ x = some v) : Ef P N σ w ⟨dst, .box e x, ty, pos, af, gd⟩ (fun u w' => ∃ g, u = .pointer (some ⟨g, 0, none⟩) ∧ Nb w w' g (.cells v.cells e)) := by
  constructor; intro _ a w0 ha h0
  refine ⟨_, _, ?_, w0.heap.size, rfl, nb_alloc h0 _⟩
  simp [execOp, ha.ev hx, Instr.box, newVar, newRow]
theorem e_alloc {e : TypeId} {sz bytes : Nat} {z : Value} [hE : ElT P e sz bytes z] : Ef P N σ w ⟨dst, .alloc e, ty, pos, af, gd⟩ (fun u w' => ∃ g, u = .pointer (some ⟨g, 0, none⟩) ∧ Nb w w' g (.cells z.cells e)) := by
  constructor; intro _ a w0 ha h0
  obtain ⟨i, h1, h2, h3, h4⟩ := hE.parts
  refine ⟨_, _, ?_, w0.heap.size, rfl, nb_alloc h0 _⟩
  simp [execOp, Instr.alloc, newVar, newRow, zeroValue, typeInfo, h1, h2]
theorem one_size {v : Value} (h : v.oneCell' = true) : v.cells = #[v] := by cases v <;> first | rfl | (simp [Value.oneCell'] at h)
theorem u_store {x y : Operand} {t : TypeId} [hT : CellT P t] {p : Addr} {v : Value} {g i : Nat} {cs : Array Value} {e : TypeId} (hx : ev σ x = some (.pointer (some p))) (hy : ev σ y = some v) (hv : v.oneCell' = true)
    (hp : p = ⟨g, i, none⟩) (hb : w.heap[g]? = some (.cells cs e (0, 0))) (hi : i < cs.size) :
    Eu P N σ w ⟨dst, .store t x y, ty, pos, af, gd⟩ (fun w' => Wr w w' g (.cells (cs.setIfInBounds i v) e (0, 0))) := by
  constructor; intro _ a w0 ha h0
  subst hp
  have hs := run_storeCells_at P g i e [v] 0 cs w0 (by rw [h0.heap]; exact hb) (by simp; omega) (by intro u hu; simp at hu; subst hu; exact hv)
  simp only [Nat.add_zero, List.length_singleton] at hs
  refine ⟨_, ?_, wr_row h0 hb (cs.setIfInBounds i v)⟩
  have e1 : cs.setIfInBounds i v = (cs.toList.take i ++ [v] ++ cs.toList.drop (i + 1)).toArray := by
    rw [show cs.setIfInBounds i v = cs.set i v hi from by unfold Array.setIfInBounds; rw [dif_pos hi]]
    apply Array.toList_inj.1
    rw [Array.toList_set, List.set_eq_take_append_cons_drop, if_pos (by simpa using hi)]
    simp
  rw [e1]
  simp [execOp, ha.ev hx, ha.ev hy, Instr.storeAt, Instr.sureAddr, storeVar, one_size hv, hT.sz]
  simp at hs
  rw [hs]
  rfl
theorem u_storeA {x y : Operand} {t : TypeId} {n : Nat} [hT : AggT P t n] {p : Addr} {new : List Value} {g i : Nat} {cs : Array Value} {e : TypeId} (hx : ev σ x = some (.pointer (some p))) (hy : ev σ y = some (.agg new.toArray))
    (hl : new.length = n) (hv : ∀ u ∈ new, u.oneCell' = true) (hp : p = ⟨g, i, none⟩) (hb : w.heap[g]? = some (.cells cs e (0, 0))) (hi : i + n ≤ cs.size) :
    Eu P N σ w ⟨dst, .store t x y, ty, pos, af, gd⟩ (fun w' => Wr w w' g (.cells (cs.toList.take i ++ new ++ cs.toList.drop (i + n)).toArray e (0, 0))) := by
  constructor; intro _ a w0 ha h0
  subst hp
  subst hl
  have hs := run_storeCells_at P g i e new 0 cs w0 (by rw [h0.heap]; exact hb) (by simp; omega) hv
  simp only [Nat.add_zero] at hs
  refine ⟨_, ?_, wr_row h0 hb _⟩
  simp [execOp, ha.ev hx, ha.ev hy, Instr.storeAt, Instr.sureAddr, storeVar, Value.cells, hT.sz]
  simp at hs
  rw [hs]
  rfl

/-- A struct or an array is put together out of its parts. -/
class BldT (P : Program) (t : TypeId) (pl : outParam (Array (Nat × Nat))) (z : outParam (Array Value)) : Prop where
  run : ∀ parts, P.built t parts = Instr.fill (pl[·]?) z parts
theorem r_build {t : TypeId} {pl : Array (Nat × Nat)} {z : Array Value} [hB : BldT P t pl z] {ps : List (Nat × Operand)} {qs : List (Nat × Value)} {c : Array Value} (hx : evps σ ps = some qs) (hf : Instr.fill (pl[·]?) z qs = some c) :
    Rn P N σ w ⟨dst, .build t ps.toArray, ty, pos, af, gd⟩ (.agg c) := by
  constructor; intro _ a w0 ha _
  have e : ps.map (fun p => (p.1, a.eval p.2)) = qs := evps_map ha hx
  have := run_build (P := P) w0 t qs.toArray c ((hB.run _).trans hf)
  simp only [execOp, List.map_toArray, e, this, Sem.run_bind, Sem.run_pure, Result.andThen_ok]

/-! ### append -/
theorem run_append_at {P : Program} (w : World) (t ty e : TypeId) (i : TypeInfo) (ht : P.underlying t = some (.slice e)) (hi : P.info? e = some i)
    (g o sLen sCap : Nat) (cur : Array Value) (eb : TypeId) (hg : w.heap[g]? = some (.cells cur eb (0, 0)))
    (a : Addr) (m c : Nat) (news : List Value) (hl : news.length = m * i.size) (hnews : ∀ j u, news[j]? = some u → w.cell? (a.add j) = some u) (h1 : ∀ u ∈ news, u.oneCell' = true)
    (hroom : sLen + m ≤ sCap) (hfit : o + sLen * i.size + news.length ≤ cur.size) :
    (Builtin.append_ #[t, t] ty #[.slice (some ⟨g, o, none⟩) sLen sCap, .slice (some a) m c]).run P w =
      .ok (.slice (some ⟨g, o, none⟩) (sLen + m) sCap) (w.setRow g (cur.toList.take (o + sLen * i.size) ++ news ++ cur.toList.drop (o + sLen * i.size + news.length)).toArray) := by
  have hf := run_firstCells_some (P := P) w i.size m a m c news hl hnews
  have hst := run_storeCells_at P g (o + sLen * i.size) eb news 0 cur w hg (by simpa using hfit) h1
  simp only [Nat.add_zero] at hst
  simp [Builtin.append_, run_underlying ht, Go.sizeOf, typeInfo, hi, Builtin.lenOf, hroom, hf, add_plain, hst]
theorem run_append_none {P : Program} (w : World) (t ty e : TypeId) (i : TypeInfo) (ht : P.underlying t = some (.slice e)) (hi : P.info? e = some i)
    (B : Option Addr) (n c : Nat) (hn : n ≤ c) (A : Option Addr) (k : Nat) : (Builtin.append_ #[t, t] ty #[.slice B n c, .slice A 0 k]).run P w = .ok (.slice B n c) w := by
  cases A <;> cases B <;> simp [Builtin.append_, run_underlying ht, Go.sizeOf, typeInfo, hi, Builtin.lenOf, hn, Builtin.firstCells, loadCells, loadCellsFrom, storeCells]
/-- What append of these elements leaves. -/
structure App {α : Type} (d : Kd α) (G F : Nat → Prop) (w : World) (v : Value) (zs : List α) (v' : Value) (w' : World) : Prop where
  kp : Kp (fun k => v.ownBlock = some k) w w'
  ow : Ow d (fun k => G k ∨ w.heap.size ≤ k) F w' v' zs
  blk : v'.ownBlock = v.ownBlock ∨ ∃ g, v'.ownBlock = some g ∧ w.heap.size ≤ g
theorem els_bound {α : Type} {d : Kd α} {F : Nat → Prop} {w : World} {xs : List α} {cs : List Value} (h : Els d F w xs cs) : Els d (fun k => F k ∧ k < w.heap.size) w xs cs := h.mono fun k hk hl => ⟨hk, hl⟩
/-- A row of cells in a new block is owned. -/
theorem ow_new {α : Type} {d : Kd α} {G F : Nat → Prop} {w w' : World} {xs : List α} {cells rest : List Value} {g cap : Nat} {e : TypeId}
    (h : Els d F w xs cells) (hn : Nb w w' g (.cells (cells ++ rest).toArray e (0, 0))) (hc : xs.length ≤ cap) (hm : cap ≤ maxLen) (ht : Fits d xs.length) (hs : cap * d.sz ≤ (cells ++ rest).length) (hG : G g) :
    Ow d G F w' (.slice (some ⟨g, 0, none⟩) xs.length cap) xs := by
  refine ⟨cells, ((els_bound h).move fun k hk hl => hn.kn.block k hl (fun h => h)).mono ?_, ht, .inr ⟨g, 0, cap, _, e, rfl, hG, hn.at_, hc, hm, by simpa using hs, ?_⟩⟩
  · intro k hk _
    refine ⟨hk.1, ?_⟩
    have := hn.ge
    have := hk.2
    simp [Value.ownBlock]
    omega
  · intro j u hu
    have hj : j < cells.length := by
      rcases Nat.lt_or_ge j cells.length with h | h
      · exact h
      · simp [List.getElem?_eq_none h] at hu
    simp only [Nat.zero_add, List.getElem?_toArray]
    rw [List.getElem?_append_left hj]
    exact hu
theorem e_append_raw {α : Type} {d : Kd α} {x y : Operand} {t e : TypeId} {sz bytes : Nat} {z : Value} [hT : SlT P t e] [hE : ElT P e sz bytes z] (hsz : d.sz = sz) (hby : d.bytes = bytes) (hz : z.cells.size = sz)
    {G F : Nat → Prop} {v : Value} {xs ys : List α} {A : Option Addr} {m c : Nat} {news : List Value} (hx : ev σ x = some v) (hy : ev σ y = some (.slice A m c)) (hO : Ow d G F w v xs)
    (hm : ys.length = m) (hEl : Els d (fun k => F k ∧ v.ownBlock ≠ some k) w ys news) (hA : ys = [] ∨ ∃ ad, A = some ad ∧ ∀ j u, news[j]? = some u → w.cell? (ad.add j) = some u)
    (hlen : (xs.length + m) * bytes ≤ 140737488355328) :
    Ef P N σ w ⟨dst, .call { callee := .builtin .append, args := #[x, y], argTypes := #[t, t] }, ty, pos, af, gd⟩ (App d G F w v (xs ++ ys)) := by
  constructor; intro _ a w0 ha h0
  obtain ⟨i, hi1, hi2, hi3, hi4⟩ := hE.parts
  have hcell : ∀ p u, w.cell? p = some u → w0.cell? p = some u := fun p u hu => by rw [h0.cell]; exact hu
  suffices hs : ∃ v' w', (Builtin.append_ #[t, t] ty #[v, .slice A m c]).run P w0 = .ok v' w' ∧ App d G F w v (xs ++ ys) v' w' by
    obtain ⟨v', w', hr, hApp⟩ := hs
    refine ⟨v', w', ?_, hApp⟩
    simp only [execOp, resolve, invoke, builtin, Sem.run_bind, Sem.run_pure, Result.andThen_ok, List.map_toArray, List.map_cons, List.map_nil, ha.ev hx, ha.ev hy, hr]
  subst hm
  obtain ⟨cells, h1, h2, h3⟩ := hO
  by_cases hys : ys = []
  · subst hys
    obtain ⟨A', c', rfl, hc1, _⟩ := (show Ow d G F w v xs from ⟨cells, h1, h2, h3⟩).form
    refine ⟨_, w0, run_append_none w0 t ty e i hT.und hi1 A' xs.length c' hc1 A c, Kp.of_dr _ h0, ?_, .inl rfl⟩
    have hO' : Ow d G F w (.slice A' xs.length c') xs := ⟨cells, h1, h2, h3⟩
    simp only [List.append_nil]
    exact (hO'.move fun k _ _ => by rw [h0.heap]).mono (fun k hk _ => .inl hk) (fun k hk _ => hk)
  rcases hA with hA | ⟨ad, rfl, hA⟩
  · exact absurd hA hys
  have hpos : 0 < ys.length := List.length_pos_iff.2 hys
  have hl2 := hEl.len
  rw [hsz, ← hi3] at hl2
  have hnews : ∀ j u, news[j]? = some u → w0.cell? (ad.add j) = some u := fun j u hu => hcell _ _ (hA j u hu)
  have hone := hEl.one
  have hEl' : Els d F w (xs ++ ys) (cells ++ news) := (h1.append hEl).mono fun k hk _ => hk.1
  have hfit : Fits d (xs.length + ys.length) := by unfold Fits; rw [hby]; exact hlen
  have hfit' : Fits d (xs ++ ys).length := by rw [List.length_append]; exact hfit
  have hmax : xs.length + ys.length ≤ 9223372036854775807 := by have := hfit.len; omega
  have hby : (xs.length + ys.length) * i.bytes ≤ 140737488355328 := by rw [hi4]; exact hlen
  have hgrow : ∀ (g : Nat) (need old : Nat), need = xs.length + ys.length → ∀ (w1 : World), Nb w w1 g (.cells (cells.toArray ++ news.toArray ++ Builtin.zeroCells z.cells (grownCap w0 need old e - need)) e) →
      App d G F w v (xs ++ ys) (.slice (some ⟨g, 0, none⟩) need (grownCap w0 need old e)) w1 := by
    rintro g need old rfl w1 hn
    have hge := grownCap_ge w0 (xs.length + ys.length) old e
    have hcm := grownCap_le_maxLen w0 (xs.length + ys.length) old e (by simpa [maxLen] using hmax)
    have hcl := (h1.append hEl).len
    refine ⟨hn.kn.kp, ?_, .inr ⟨g, rfl, hn.ge⟩⟩
    have := ow_new (d := d) (G := fun k => G k ∨ w.heap.size ≤ k) (F := F) (w := w) (w' := w1) (xs := xs ++ ys) (cells := cells ++ news) (rest := (Builtin.zeroCells z.cells (grownCap w0 (xs.length + ys.length) old e - (xs.length + ys.length))).toList) (g := g)
      (cap := grownCap w0 (xs.length + ys.length) old e) (e := e) hEl' (by rw [show (cells ++ news ++ (Builtin.zeroCells z.cells (grownCap w0 (xs.length + ys.length) old e - (xs.length + ys.length))).toList).toArray = cells.toArray ++ news.toArray ++ Builtin.zeroCells z.cells (grownCap w0 (xs.length + ys.length) old e - (xs.length + ys.length)) from by simp]; exact hn) (by simpa using hge) hcm hfit'
      (by
        have hzl : (Builtin.zeroCells z.cells (grownCap w0 (xs.length + ys.length) old e - (xs.length + ys.length))).toList.length = (grownCap w0 (xs.length + ys.length) old e - (xs.length + ys.length)) * sz := by rw [Array.length_toList, size_zeroCells, hz]
        rw [List.length_append, hcl, hzl, hsz, List.length_append, ← Nat.add_mul]
        exact Nat.mul_le_mul_right _ (by omega)) (.inr hn.ge)
    simpa using this
  rcases h3 with ⟨rfl, rfl⟩ | ⟨g, o, cap, cur, eb, rfl, hg, hh, h4, h5, h6, h7⟩
  · have hc0 : cells = [] := h1
    subst hc0
    have hr := run_append_nil (P := P) w0 t ty e i z hT.und hi1 hi2 ad ys.length c news hl2 hnews hpos (by simp at hmax; omega) (by simp at hby; omega)
    refine ⟨_, _, hr, ?_⟩
    have hw : w0.drew.alloc (.cells (news.toArray ++ Builtin.zeroCells z.cells (grownCap w0 ys.length 0 e - ys.length)) e) = _ := rfl
    have hn := nb_alloc (w := w) (w0 := w0.drew) (h0.trans ⟨rfl, rfl, rfl, rfl⟩) (.cells (news.toArray ++ Builtin.zeroCells z.cells (grownCap w0 ys.length 0 e - ys.length)) e)
    have := hgrow w0.heap.size ys.length 0 (by simp) _ (by simpa using hn)
    exact this
  · by_cases hroom : xs.length + ys.length ≤ cap
    · have hfit : o + xs.length * i.size + news.length ≤ cur.size := by
        rw [hl2, Nat.add_assoc, ← Nat.add_mul, hi3, ← hsz]
        exact Nat.le_trans (Nat.add_le_add_left (Nat.mul_le_mul_right _ hroom) _) h6
      have hr := run_append_at (P := P) w0 t ty e i hT.und hi1 g o xs.length cap cur eb (by rw [h0.heap]; exact hh) ad ys.length c news hl2 hnews hone hroom hfit
      have hwr := wr_row h0 hh (cur.toList.take (o + xs.length * i.size) ++ news ++ cur.toList.drop (o + xs.length * i.size + news.length)).toArray
      refine ⟨_, _, hr, hwr.kp.mono (fun k _ hk => by simp [Value.ownBlock, hk]), ?_, .inl rfl⟩
      refine ⟨cells ++ news, ((h1.append hEl).move fun k hk hl => hwr.kp.block k hl (fun e => hk.2 (by simp [Value.ownBlock, e]))).mono (fun k hk _ => by simpa [Value.ownBlock] using hk), hfit',
        .inr ⟨g, o, cap, _, eb, by simp, .inl hg, hwr.at_, by simpa using hroom, h5, ?_, ?_⟩⟩
      · have : o + xs.length * i.size ≤ cur.size := by omega
        simp only [List.size_toArray, List.length_append, List.length_take, List.length_drop, Array.length_toList]
        omega
      · intro j u hu
        have hcl := h1.len
        rw [hsz, ← hi3] at hcl
        have hcur : cur.toList.length = cur.size := Array.length_toList
        simp only [List.getElem?_toArray]
        rcases Nat.lt_or_ge j cells.length with hj | hj
        · rw [List.getElem?_append_left hj] at hu
          have := h7 j u hu
          rw [List.append_assoc, List.getElem?_append_left (by rw [List.length_take, hcur]; omega), List.getElem?_take, if_pos (by omega)]
          simpa using this
        · rw [List.getElem?_append_right hj] at hu
          have hjn : j - cells.length < news.length := by
            rcases Nat.lt_or_ge (j - cells.length) news.length with h | h
            · exact h
            · simp [List.getElem?_eq_none h] at hu
          have hlt : (cur.toList.take (o + xs.length * i.size)).length = o + xs.length * i.size := by rw [List.length_take, hcur]; omega
          rw [List.append_assoc, List.getElem?_append_right (by rw [hlt]; omega), hlt, List.getElem?_append_left (by omega)]
          rw [show o + j - (o + xs.length * i.size) = j - cells.length from by omega]
          exact hu
    · have hcl := h1.len
      rw [hsz, ← hi3] at hcl
      have holds : ∀ j u, cells[j]? = some u → w0.cell? ((⟨g, o, none⟩ : Addr).add j) = some u := fun j u hu => by
        rw [h0.cell, add_plain, blk_cell hh]; exact h7 j u hu
      have hr := run_append_grow (P := P) w0 t ty e i z hT.und hi1 hi2 ⟨g, o, none⟩ xs.length cap cells hcl holds ad ys.length c news hl2 hnews (by omega) (by omega) (growslice_fits (by omega) hby)
      refine ⟨_, _, hr, ?_⟩
      have hn := nb_alloc (w := w) (w0 := w0.drew) (h0.trans ⟨rfl, rfl, rfl, rfl⟩) (.cells (cells.toArray ++ news.toArray ++ Builtin.zeroCells z.cells (grownCap w0 (xs.length + ys.length) cap e - (xs.length + ys.length))) e)
      exact hgrow _ _ _ rfl _ hn
end
end Go.Ink
