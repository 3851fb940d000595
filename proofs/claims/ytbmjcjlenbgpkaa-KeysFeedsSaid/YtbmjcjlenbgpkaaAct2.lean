/-
  Slices made and cut; appends of one element and of a slice that is read.
-/
import Derived.Test.YtbmjcjlenbgpkaaAct
set_option linter.unusedVariables false
set_option linter.unusedSimpArgs false
namespace Go.Ink
open Go Go.RowKit
section
variable {P : Program} {N : Nat} {σ : Sig} {w : World} {dst : Option Nat} {ty : TypeId} {pos : String} {af : Array Edge} {gd : Option (Nat × Bool)}

/-! ### Cuts -/
def cutV (A : Option Addr) (l h m sz : Nat) : Value := .slice (if m = l then A else A.map (·.add (l * sz))) (h - l) (m - l)
theorem run_sliceBound_ok (k : IntKind) (i : Int) (y : Nat) (code : BoundsCode) (h0 : 0 ≤ i) (h1 : i ≤ y) : (Instr.sliceBound (.int k i) y code).run P w = .ok i.toNat w := by
  simp [Instr.sliceBound, asIntOf, h0, h1]
/-- x[lo:hi:mx], whatever of it is there. -/
theorem r_slice {x : Operand} {lo hi mx : Option Operand} {t e : TypeId} {sz bytes : Nat} {z : Value} [hT : SlT P t e] [hE : ElT P e sz bytes z] {A : Option Addr} {n c : Nat} (hx : ev σ x = some (.slice A n c))
    (l h m : Nat) (hm : match mx with | none => m = c | some y => ∃ k, ev σ y = some (.int k (m : Int))) (hh : match hi with | none => h = n ∧ mx = none | some y => ∃ k, ev σ y = some (.int k (h : Int)))
    (hl : match lo with | none => l = 0 | some y => ∃ k, ev σ y = some (.int k (l : Int))) (h1 : l ≤ h) (h2 : h ≤ m) (h3 : m ≤ c) :
    Rn P N σ w ⟨dst, .slice t x lo hi mx, ty, pos, af, gd⟩ (cutV A l h m sz) := by
  constructor; intro _ a w0 ha _
  have key : ∀ (lv hv mv : Option Value), (match mv with | none => m = c | some y => ∃ k, y = .int k (m : Int)) → (match hv with | none => h = n ∧ mv = none | some y => ∃ k, y = .int k (h : Int)) →
      (match lv with | none => l = 0 | some y => ∃ k, y = .int k (l : Int)) → (Instr.slice t (.slice A n c) lv hv mv).run P w0 = .ok (cutV A l h m sz) w0 := by
    intro lv hv mv hm' hh' hl'
    have hb : (Instr.sliceBounds true n c lv hv mv).run P w0 = .ok (l, h, m) w0 := by
      cases mv with
      | none =>
        have hm'' : m = c := hm'
        subst hm''
        cases hv with
        | none =>
          have hh'' : h = n := hh'.1
          subst hh''
          cases lv with
          | none => have : l = 0 := hl'; subst this; simp [Instr.sliceBounds]
          | some y => obtain ⟨k, rfl⟩ := hl'; simp [Instr.sliceBounds, run_sliceBound_ok (P := P) (w := w0) k (l : Int) h _ (by omega) (by omega)]
        | some y =>
          obtain ⟨k, rfl⟩ := hh'
          cases lv with
          | none => have : l = 0 := hl'; subst this; simp [Instr.sliceBounds, run_sliceBound_ok (P := P) (w := w0) k (h : Int) m _ (by omega) (by omega)]
          | some y => obtain ⟨k', rfl⟩ := hl'; simp [Instr.sliceBounds, run_sliceBound_ok (P := P) (w := w0) k (h : Int) m _ (by omega) (by omega), run_sliceBound_ok (P := P) (w := w0) k' (l : Int) h _ (by omega) (by omega)]
      | some y =>
        obtain ⟨km, rfl⟩ := hm'
        cases hv with
        | none => exact absurd hh'.2 (by simp)
        | some y =>
          obtain ⟨k, rfl⟩ := hh'
          cases lv with
          | none => have : l = 0 := hl'; subst this; simp [Instr.sliceBounds, run_sliceBound_ok (P := P) (w := w0) km (m : Int) c _ (by omega) (by omega), run_sliceBound_ok (P := P) (w := w0) k (h : Int) m _ (by omega) (by omega)]
          | some y => obtain ⟨k', rfl⟩ := hl'; simp [Instr.sliceBounds, run_sliceBound_ok (P := P) (w := w0) km (m : Int) c _ (by omega) (by omega), run_sliceBound_ok (P := P) (w := w0) k (h : Int) m _ (by omega) (by omega), run_sliceBound_ok (P := P) (w := w0) k' (l : Int) h _ (by omega) (by omega)]
    simp [Instr.slice, run_underlying hT.und, hb, hE.size, cutV]
  have hmap : ∀ (o : Option Operand) (v : Value), (∀ y, o = some y → ev σ y = some v) → o.map a.eval = o.map (fun _ => v) := by
    intro o v h; cases o with | none => rfl | some y => simp [ha.ev (h y rfl)]
  have := key (lo.map a.eval) (hi.map a.eval) (mx.map a.eval)
    (by cases mx with | none => exact hm | some y => obtain ⟨k, hk⟩ := hm; exact ⟨k, ha.ev hk⟩)
    (by cases hi with | none => exact ⟨hh.1, by rw [hh.2]; rfl⟩ | some y => obtain ⟨k, hk⟩ := hh; exact ⟨k, ha.ev hk⟩)
    (by cases lo with | none => exact hl | some y => obtain ⟨k, hk⟩ := hl; exact ⟨k, ha.ev hk⟩)
  simp only [execOp, ha.ev hx, Instr.sliceAt, run_underlying hT.und, Sem.run_bind, Result.andThen_ok, this, Sem.run_pure]
theorem Sl.cutV {α : Type} {d : Kd α} {F : Nat → Prop} {A : Option Addr} {n c : Nat} {xs : List α} (h : Sl d F w (.slice A n c) xs) {l hi m : Nat} (h0 : l ≤ hi) (h1 : hi ≤ n) (h2 : hi ≤ m) (h3 : m ≤ c) :
    Sl d F w (cutV A l hi m d.sz) ((xs.take hi).drop l) := by
  obtain ⟨A', c', cells, e, h4, h5, h6, h7, h8⟩ := h.cut h0 h1
  have hlen : ((xs.take hi).drop l).length = hi - l := by have := h.len_eq; simp; omega
  simp only [Value.slice.injEq] at e
  obtain ⟨e1, e2, e3⟩ := e
  refine ⟨_, _, cells, by unfold Ink.cutV; rw [hlen], by rw [hlen]; omega, by omega, h6, h7, ?_⟩
  rcases h8 with h8 | ⟨ad, hA, hf, hc⟩
  · exact .inl h8
  · by_cases hx : (xs.take hi).drop l = []
    · exact .inl hx
    · have : 0 < ((xs.take hi).drop l).length := List.length_pos_iff.2 hx
      rw [hlen] at this
      refine .inr ⟨ad, ?_, hf, hc⟩
      rw [if_neg (by omega)] at e1
      rw [if_neg (by omega), e1, hA]

/-! ### Slices made -/
theorem e_make {x y : Operand} {t e : TypeId} {sz bytes : Nat} {z : Value} [hT : SlT P t e] [hE : ElT P e sz bytes z] {kl kc : IntKind} {l c : Nat} (hx : ev σ x = some (.int kl (l : Int))) (hy : ev σ y = some (.int kc (c : Int)))
    (h1 : l ≤ c) (h2 : bytes * c ≤ 281474976710656) (h3 : c ≤ maxLen) :
    Ef P N σ w ⟨dst, .makeSlice t x y, ty, pos, af, gd⟩ (fun u w' => ∃ g, u = .slice (some ⟨g, 0, none⟩) l c ∧ Nb w w' g (.cells (madeCells z.cells (c * sz)) e)) := by
  constructor; intro _ a w0 ha h0
  obtain ⟨i, hi1, hi2, hi3, hi4⟩ := hE.parts
  refine ⟨_, _, ?_, w0.heap.size, rfl, nb_alloc h0 _⟩
  have := run_make (P := P) w0 t e i z hT.und hi1 hi2 kl kc (l : Int) (c : Int) (by omega) (by omega) (by
    rw [hi4]
    have : ((bytes * c : Nat) : Int) ≤ 281474976710656 := by omega
    rwa [Int.natCast_mul] at this) (by unfold maxLen at h3; omega)
  simp only [Int.toNat_natCast, hi3] at this
  simp only [execOp, ha.ev hx, ha.ev hy, this, Sem.run_bind, Sem.run_pure, Result.andThen_ok]
theorem madeCells_succ (z : Array Value) (hz : 0 < z.size) (n : Nat) : (madeCells z ((n + 1) * z.size)).toList = (madeCells z (n * z.size)).toList ++ z.toList := by
  refine List.ext_getElem? fun i => ?_
  simp only [madeCells, Array.toList_map, Array.toList_range, List.getElem?_map, List.getElem?_append, List.length_map, List.length_range]
  by_cases h : i < n * z.size
  · rw [if_pos h]
    rw [List.getElem?_range (by rw [Nat.add_mul]; omega), List.getElem?_range h]
  · rw [if_neg h]
    by_cases h2 : i < (n + 1) * z.size
    · rw [List.getElem?_range h2]
      rw [Nat.add_mul, Nat.one_mul] at h2
      simp only [Option.map_some]
      have hm : i % z.size = i - n * z.size := by
        have hc := Nat.mul_comm z.size n
        have : i = (i - n * z.size) + z.size * n := by omega
        rw [this, Nat.add_mul_mod_self_left, Nat.mod_eq_of_lt (by omega)]
        omega
      rw [hm, getElem!_pos z (i - n * z.size) (by omega)]
      simp [show i - n * z.size < z.size from by omega]
    · rw [List.getElem?_eq_none (by simpa using h2), List.getElem?_eq_none]
      · rfl
      · rw [Nat.add_mul] at h2; simp; omega
theorem els_made {α : Type} {d : Kd α} {F : Nat → Prop} {z : Array Value} {zx : α} (hz : d.R F w zx z.toList) (n : Nat) : Els d F w (List.replicate n zx) (madeCells z (n * d.sz)).toList := by
  have hl : z.size = d.sz := by simpa using d.len hz
  have hp := d.pos
  induction n with
  | zero => simp [Els, madeCells]
  | succ n ih =>
    rw [← hl, madeCells_succ z (by omega), List.replicate_succ', hl]
    exact ih.snoc hz
/-- A made slice of n zero elements. -/
theorem ow_made {α : Type} {d : Kd α} {G F : Nat → Prop} {w' : World} {g n c : Nat} {e : TypeId} {z : Value} {zx : α} (hz : d.R F w zx z.cells.toList) (hn : Nb w w' g (.cells (madeCells z.cells (c * d.sz)) e)) (h1 : n ≤ c) (h2 : c ≤ maxLen) (h3 : Fits d n) (hG : G g) :
    Ow d G F w' (.slice (some ⟨g, 0, none⟩) n c) (List.replicate n zx) := by
  have h := els_made (w := w) hz n
  have hs : (madeCells z.cells (c * d.sz)).toList = (madeCells z.cells (n * d.sz)).toList ++ (madeCells z.cells (c * d.sz)).toList.drop (n * d.sz) := by
    have hl : z.cells.size = d.sz := by simpa using d.len hz
    obtain ⟨k, rfl⟩ : ∃ k, c = n + k := ⟨c - n, by omega⟩
    have : (madeCells z.cells (n * d.sz)).toList = (madeCells z.cells ((n + k) * d.sz)).toList.take (n * d.sz) := by
      simp only [madeCells, Array.toList_map, Array.toList_range, ← List.map_take]
      rw [List.take_range, Nat.min_eq_left (by rw [Nat.add_mul]; omega)]
    rw [this, List.take_append_drop]
  have := ow_new (d := d) (G := G) (F := F) (w := w) (w' := w') (xs := List.replicate n zx) (cells := (madeCells z.cells (n * d.sz)).toList) (rest := (madeCells z.cells (c * d.sz)).toList.drop (n * d.sz)) (g := g) (cap := c) (e := e) h
    (by rw [← hs]; simpa using hn) (by simpa using h1) h2 (by simpa using h3) (by rw [← hs]; simp [size_madeCells]) hG
  simpa using this

/-- A literal slice. -/
theorem e_lit {t e : TypeId} {sz bytes : Nat} {z : Value} [hT : SlT P t e] [hE : ElT P e sz bytes z] {len : Nat} {ps : List (Nat × Operand)} {qs : List (Nat × Value)} {cells : Array Value} (hx : evps σ ps = some qs) (hn : len * sz ≤ 16777216)
    (hf : Instr.fill (fun i => some (i * sz, sz)) (madeCells z.cells (len * sz)) qs = some cells) :
    Ef P N σ w ⟨dst, .buildSlice t len ps.toArray, ty, pos, af, gd⟩ (fun u w' => ∃ g, u = .slice (some ⟨g, 0, none⟩) len len ∧ Nb w w' g (.cells cells e)) := by
  constructor; intro _ a w0 ha h0
  obtain ⟨i, hi1, hi2, hi3, hi4⟩ := hE.parts
  have e1 : ps.map (fun p => (p.1, a.eval p.2)) = qs := evps_map ha hx
  refine ⟨_, _, ?_, w0.heap.size, rfl, nb_alloc h0 _⟩
  have hn' : ¬ (len * sz > 2 ^ 24) := by omega
  by_cases h : len * sz = 0
  · have hh : len = 0 ∨ sz = 0 := Nat.mul_eq_zero.1 h
    have hm : madeCells z.cells (len * sz) = #[] := by rw [h]; simp [madeCells]
    rw [hm] at hf
    simp only [execOp, List.map_toArray, e1, Instr.buildSlice, run_underlying hT.und, hE.size, Sem.run_bind, Sem.run_pure, Result.andThen_ok, hn', h, if_true, if_false]
    simp [hf, newRow, Array.range_zero']
  · simp only [execOp, List.map_toArray, e1, Instr.buildSlice, run_underlying hT.und, hE.size, Sem.run_bind, Sem.run_pure, Result.andThen_ok, hn', h, if_false]
    have hf' : Instr.fill (fun i => some (i * sz, sz)) (Array.map (fun x => z.cells[x % z.cells.size]!) (Array.range (len * sz))) qs = some cells := hf
    simp [zeroValue, typeInfo, hi1, hi2, hf', newRow]
theorem e_lit0 {t e : TypeId} {sz bytes : Nat} {z : Value} [hT : SlT P t e] [hE : ElT P e sz bytes z] : Ef P N σ w ⟨dst, .buildSlice t 0 #[], ty, pos, af, gd⟩ (fun u w' => ∃ g, u = .slice (some ⟨g, 0, none⟩) 0 0 ∧ Nb w w' g (.cells #[] e)) :=
  e_lit (ps := []) (qs := []) rfl (by simp) (by simp [Instr.fill, madeCells])
theorem ow_lit0 {α : Type} {d : Kd α} {G F : Nat → Prop} {w' : World} {g : Nat} {e : TypeId} (hn : Nb w w' g (.cells #[] e)) (hG : G g) : Ow d G F w' (.slice (some ⟨g, 0, none⟩) 0 0) [] := by
  have := ow_new (d := d) (G := G) (F := F) (w := w) (w' := w') (xs := []) (cells := []) (rest := []) (g := g) (cap := 0) (e := e) rfl (by simpa using hn) (by simp) (by simp [maxLen]) (Fits.zero d) (by simp) hG
  simpa using this
/-- One element, of one cell or of several. -/
theorem fill_one {z : Array Value} {sz : Nat} {v : Value} (hz : z.size = sz) (hv : v.cells.size = sz) : Instr.fill (fun i => some (i * sz, sz)) (madeCells z (1 * sz)) ([0].zip [v]) = some v.cells := by
  have this : ∀ (l : List Value) (k : Nat) (cs : Array Value), k + l.length ≤ cs.size → ((l.zipIdx k).foldl (fun (cs : Array Value) (x : Value × Nat) => cs.setIfInBounds x.2 x.1) cs).toList = cs.toList.take k ++ l ++ cs.toList.drop (k + l.length) := by
    intro l
    induction l with
    | nil => intro k cs _; simp
    | cons u l ih =>
      intro k cs hk
      simp only [List.length_cons] at hk
      rw [List.zipIdx_cons, List.foldl_cons, ih (k + 1) _ (by simp; omega)]
      rw [show cs.setIfInBounds k u = cs.set k u (by omega) from by unfold Array.setIfInBounds; rw [dif_pos (by omega)]]
      have hcs : cs.toList.length = cs.size := Array.length_toList
      rw [Array.toList_set, List.set_eq_take_append_cons_drop, if_pos (by omega)]
      have hl : (cs.toList.take k ++ [u]).length = k + 1 := by rw [List.length_append, List.length_take, hcs]; simp; omega
      rw [show cs.toList.take k ++ u :: cs.toList.drop (k + 1) = (cs.toList.take k ++ [u]) ++ cs.toList.drop (k + 1) from by simp]
      rw [List.take_left' hl, List.drop_append, hl, List.drop_of_length_le (by rw [hl]; omega), List.drop_drop]
      rw [show k + 1 + (k + 1 + l.length - (k + 1)) = k + (l.length + 1) from by omega]
      simp
  have h2 := this v.cells.toList 0 (madeCells z sz) (by simp [size_madeCells, hv])
  have h3 : (v.cells.toList.zipIdx 0).foldl (fun (cs : Array Value) (x : Value × Nat) => cs.setIfInBounds x.2 x.1) (madeCells z sz) = v.cells := by
    apply Array.toList_inj.1
    refine h2.trans ?_
    have : (madeCells z sz).toList.length = sz := by simp [size_madeCells]
    have hv2 : v.cells.toList.length = sz := by rw [Array.length_toList, hv]
    rw [List.take_zero, List.nil_append, Nat.zero_add, List.drop_of_length_le (by omega), List.append_nil]
  simp only [List.zip_cons_cons, List.zip_nil_right, Instr.fill, hv, Nat.zero_mul, Nat.zero_add, Nat.one_mul, size_madeCells]
  rw [← Array.foldl_toList, Array.toList_zipIdx, h3]
  simp
theorem e_one {x : Operand} {t e : TypeId} {sz bytes : Nat} {z : Value} [hT : SlT P t e] [hE : ElT P e sz bytes z] {v : Value} (hx : ev σ x = some v) (hz : z.cells.size = sz) (hv : v.cells.size = sz) (hs : sz ≤ 16777216) :
    Ef P N σ w ⟨dst, .buildSlice t 1 #[(0, x)], ty, pos, af, gd⟩ (fun u w' => ∃ g, u = .slice (some ⟨g, 0, none⟩) 1 1 ∧ Nb w w' g (.cells v.cells e)) :=
  e_lit (ps := [(0, x)]) (qs := [(0, v)]) (by simp [evps, hx]) (by omega) (fill_one hz hv)

/-! ### append, of what is read -/
theorem ownBlock_none_or {v : Value} {A : Option Addr} {n c : Nat} (h : v = .slice A n c) : v.ownBlock = A.map (·.block) := by
  subst h; cases A <;> rfl
theorem e_append {α : Type} {d : Kd α} {x y : Operand} {t e : TypeId} {sz bytes : Nat} {z : Value} [hT : SlT P t e] [hE : ElT P e sz bytes z] {G F : Nat → Prop} {v u : Value} {xs ys : List α} (hx : ev σ x = some v) (hy : ev σ y = some u)
    (hO : Ow d G F w v xs) (hS : Sl d F w u ys) (hne : ∀ k, F k → v.ownBlock = some k → False) (hlen : (xs.length + ys.length) * bytes ≤ 140737488355328) (hsz : d.sz = sz) (hby : d.bytes = bytes) (hz : z.cells.size = sz) :
    Ef P N σ w ⟨dst, .call { callee := .builtin .append, args := #[x, y], argTypes := #[t, t] }, ty, pos, af, gd⟩ (App d G F w v (xs ++ ys)) := by
  obtain ⟨A, c, news, rfl, h1, h2, h3, h4, h5⟩ := hS
  refine e_append_raw hsz hby hz hx hy hO rfl (h4.mono fun k hk _ => ⟨hk, fun h => hne k hk h⟩) (h5.imp id ?_) hlen
  rintro ⟨ad, rfl, _, hc⟩
  exact ⟨ad, rfl, hc⟩
/-- append of what lies elsewhere. -/
theorem e_append2 {α : Type} {d : Kd α} {x y : Operand} {t e : TypeId} {sz bytes : Nat} {z : Value} [hT : SlT P t e] [hE : ElT P e sz bytes z] {G F F2 : Nat → Prop} {v u : Value} {xs ys : List α} (hx : ev σ x = some v) (hy : ev σ y = some u)
    (hO : Ow d G F w v xs) (hS : Sl d F2 w u ys) (hne : ∀ k, F2 k → v.ownBlock = some k → False) (hlen : (xs.length + ys.length) * bytes ≤ 140737488355328) (hsz : d.sz = sz) (hby : d.bytes = bytes) (hz : z.cells.size = sz) :
    Ef P N σ w ⟨dst, .call { callee := .builtin .append, args := #[x, y], argTypes := #[t, t] }, ty, pos, af, gd⟩ (App d G (fun k => F k ∨ F2 k) w v (xs ++ ys)) := by
  obtain ⟨A, c, news, rfl, h1, h2, h3, h4, h5⟩ := hS
  refine e_append_raw hsz hby hz hx hy (hO.mono (fun k hk _ => hk) fun k hk _ => .inl hk) rfl (h4.mono fun k hk _ => ⟨.inr hk, fun h => hne k hk h⟩) (h5.imp id ?_) hlen
  rintro ⟨ad, rfl, _, hc⟩
  exact ⟨ad, rfl, hc⟩
/-- One element out of a new block. -/
theorem e_append1 {α : Type} {d : Kd α} {x y : Operand} {t e : TypeId} {sz bytes : Nat} {z : Value} [hT : SlT P t e] [hE : ElT P e sz bytes z] {G F : Nat → Prop} {v : Value} {xs : List α} {q : α} {g : Nat} {cs : Array Value} {eb : TypeId} {fr : Nat × Nat} (hx : ev σ x = some v) (hy : ev σ y = some (.slice (some ⟨g, 0, none⟩) 1 1))
    (hO : Ow d G F w v xs) (hb : w.heap[g]? = some (.cells cs eb fr)) (hq : d.R (fun k => F k ∧ v.ownBlock ≠ some k) w q cs.toList) (hlen : (xs.length + 1) * bytes ≤ 140737488355328) (hsz : d.sz = sz) (hby : d.bytes = bytes) (hz : z.cells.size = sz) :
    Ef P N σ w ⟨dst, .call { callee := .builtin .append, args := #[x, y], argTypes := #[t, t] }, ty, pos, af, gd⟩ (App d G F w v (xs ++ [q])) := by
  refine e_append_raw (ys := [q]) (news := cs.toList) hsz hby hz hx hy hO rfl ⟨cs.toList, [], by simp, hq, rfl⟩ (.inr ⟨⟨g, 0, none⟩, rfl, fun j u hu => ?_⟩) hlen
  rw [add_plain, Nat.zero_add, blk_cell hb]
  simpa using hu

/-! ### Elements stored -/
theorem Ow.cellAt {α : Type} {d : Kd α} {G F : Nat → Prop} {ad : Addr} {n c : Nat} {xs : List α} (h : Ow d G F w (.slice (some ad) n c) xs) :
    ∃ g o cap cur e cells, ad = ⟨g, o, none⟩ ∧ n = xs.length ∧ c = cap ∧ G g ∧ w.heap[g]? = some (.cells cur e (0, 0)) ∧ xs.length ≤ cap ∧ cap ≤ maxLen ∧ o + cap * d.sz ≤ cur.size ∧ Els d (fun k => F k ∧ g ≠ k) w xs cells ∧ ∀ j u, cells[j]? = some u → cur[o + j]? = some u := by
  obtain ⟨cells, h1, h2, h3⟩ := h
  rcases h3 with ⟨h3, _⟩ | ⟨g, o, cap, cur, e, h3, hg, hh, h4, h5, h6, h7⟩
  · cases h3
  · simp only [Value.slice.injEq, Option.some.injEq] at h3
    obtain ⟨rfl, rfl, rfl⟩ := h3
    exact ⟨g, o, c, cur, e, cells, rfl, rfl, rfl, hg, hh, h4, h5, h6, h1.mono (fun k hk _ => by simpa [Value.ownBlock] using hk), h7⟩
/-- The cells of an owned row once some of them are others. -/
theorem ow_put {α : Type} {d : Kd α} {G F : Nat → Prop} {w w' : World} {g o n c : Nat} {xs ys : List α} {cur' : Array Value} {e : TypeId} {cells' : List Value} (hw : Wr w w' g (.cells cur' e (0, 0)))
    (hE : Els d (fun k => F k ∧ g ≠ k) w ys cells') (hl : ys.length = xs.length) (hn : n = xs.length) (hG : G g) (h4 : n ≤ c) (h5 : c ≤ maxLen) (h6 : o + c * d.sz ≤ cur'.size) (hf : Fits d n) (h7 : ∀ j u, cells'[j]? = some u → cur'[o + j]? = some u) :
    Ow d G F w' (.slice (some ⟨g, o, none⟩) n c) ys := by
  subst hn
  rw [← hl] at hf h4 ⊢
  exact ⟨cells', (hE.move fun k hk hl' => hw.kp.block k hl' (fun e => hk.2 e.symm)).mono (fun k hk _ => by simpa [Value.ownBlock] using hk), hf, .inr ⟨g, o, c, cur', e, rfl, hG, hw.at_, h4, h5, h6, h7⟩⟩
theorem u_set {α : Type} {d : Kd α} {x y : Operand} {t : TypeId} [hT : CellT P t] {G F : Nat → Prop} {ad : Addr} {n c : Nat} {xs : List α} {q : α} {u : Value} {j : Nat} (hx : ev σ x = some (.pointer (some (ad.add (j * 1))))) (hy : ev σ y = some u)
    (hO : Ow d G F w (.slice (some ad) n c) xs) (hj : j < xs.length) (hq : d.R (fun k => F k ∧ ad.block ≠ k) w q [u]) (hsz : d.sz = 1) :
    Eu P N σ w ⟨dst, .store t x y, ty, pos, af, gd⟩ (fun w' => Kp (fun k => k = ad.block) w w' ∧ Ow d G F w' (.slice (some ad) n c) (xs.set j q)) := by
  have hF : Fits d n := by obtain ⟨_, h2, h3⟩ := hO.sl.len_eq; exact h3
  obtain ⟨g, o, cap, cur, e, cells, rfl, rfl, rfl, hG, hh, h4, h5, h6, hE, h7⟩ := hO.cellAt
  have hlt : o + j < cur.size := by rw [hsz] at h6; omega
  have hs := u_store (P := P) (N := N) (σ := σ) (dst := dst) (ty := ty) (pos := pos) (af := af) (gd := gd) (t := t) (x := x) (y := y) hx hy (d.one hq u (by simp)) (by rw [add_plain, Nat.mul_one]) hh hlt
  constructor; intro _ a w0 ha h0
  obtain ⟨w', hr, hw⟩ := hs.run a w0 ha h0
  refine ⟨w', hr, hw.kp, ?_⟩
  have hl := hE.len
  rw [hsz, Nat.mul_one] at hl
  refine ow_put hw (hE.set hj hq) (by simp) rfl hG h4 h5 (by simpa using h6) hF ?_
  intro i v hi
  rw [hsz, Nat.mul_one] at hi
  have hlt' : (cells.take j).length = j := by rw [List.length_take]; omega
  rw [Array.getElem?_setIfInBounds]
  by_cases hij : i = j
  · subst hij
    rw [List.append_assoc, List.getElem?_append_right (by omega), hlt', Nat.sub_self] at hi
    simp at hi
    subst hi
    simp [hlt]
  · rw [if_neg (by omega)]
    refine h7 i v ?_
    by_cases hlt2 : i < j
    · rw [List.append_assoc, List.getElem?_append_left (by omega), List.getElem?_take, if_pos hlt2] at hi
      exact hi
    · rw [List.getElem?_append_right (by simp [hlt']; omega)] at hi
      simp only [List.length_append, hlt', List.length_singleton, List.getElem?_drop] at hi
      rw [show j + 1 + (i - (j + 1)) = i from by omega] at hi
      exact hi
end
end Go.Ink
