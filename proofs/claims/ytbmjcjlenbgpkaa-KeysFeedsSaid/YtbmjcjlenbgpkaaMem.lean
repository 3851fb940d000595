/-
  Memory: what a call may turn, kinds of elements, slices that are read and slices that are one's own, and the operations on them.
-/
import Derived.Test.YtbmjcjlenbgpkaaOps
import Derived.Laws.CopyOwn
set_option linter.unusedVariables false
set_option linter.unusedSimpArgs false
namespace Go.Ink
open Go Go.RowKit

/-! ### 1. Worlds -/
/-- Of the blocks that stood, none but those of S has turned. -/
structure Kp (S : Nat → Prop) (w w' : World) : Prop where
  os : w'.os = w.os
  tape : w'.tape = w.tape
  output : w'.output = w.output
  size : w.heap.size ≤ w'.heap.size
  block : ∀ k, k < w.heap.size → ¬ S k → w'.heap[k]? = w.heap[k]?
/-- Nothing has turned. -/
abbrev Kn (w w' : World) : Prop := Kp (fun _ => False) w w'
theorem Kp.refl (S : Nat → Prop) (w : World) : Kp S w w := ⟨rfl, rfl, rfl, Nat.le_refl _, fun _ _ _ => rfl⟩
theorem Kp.of_dr {w w' : World} (S : Nat → Prop) (h : Dr w w') : Kp S w w' := ⟨h.os, h.tape, h.output, by rw [h.heap]; exact Nat.le_refl _, fun k _ _ => by rw [h.heap]⟩
theorem Kp.trans {S : Nat → Prop} {a b c : World} (h : Kp S a b) (k : Kp S b c) : Kp S a c :=
  ⟨k.os.trans h.os, k.tape.trans h.tape, k.output.trans h.output, Nat.le_trans h.size k.size, fun i hi hs => (k.block i (Nat.lt_of_lt_of_le hi h.size) hs).trans (h.block i hi hs)⟩
/-- Two steps, the second one of which may turn what the first has made. -/
theorem Kp.then {S S' T : Nat → Prop} {a b c : World} (h : Kp S a b) (k : Kp S' b c) (h1 : ∀ i, S i → T i) (h2 : ∀ i, i < a.heap.size → S' i → T i) : Kp T a c :=
  ⟨k.os.trans h.os, k.tape.trans h.tape, k.output.trans h.output, Nat.le_trans h.size k.size,
    fun i hi hs => (k.block i (Nat.lt_of_lt_of_le hi h.size) (fun h' => hs (h2 i hi h'))).trans (h.block i hi (fun h' => hs (h1 i h')))⟩
theorem Kp.mono {S S' : Nat → Prop} {w w' : World} (h : Kp S w w') (hs : ∀ i, i < w.heap.size → S i → S' i) : Kp S' w w' := ⟨h.os, h.tape, h.output, h.size, fun i hi hn => h.block i hi (fun h' => hn (hs i hi h'))⟩
theorem Kn.kp {S : Nat → Prop} {w w' : World} (h : Kn w w') : Kp S w w' := h.mono fun _ _ => False.elim
theorem Kn.st {w w' : World} (h : Kn w w') : St w w' := fun k hk => h.block k hk (fun h => h)
theorem St.trans {a b c : World} (h : St a b) (hs : a.heap.size ≤ b.heap.size) (k : St b c) : St a c := fun i hi => (k i (Nat.lt_of_lt_of_le hi hs)).trans (h i hi)
theorem Kp.blk {S : Nat → Prop} {w w' : World} (h : Kp S w w') {g : Nat} {o : Obj} (hb : w.heap[g]? = some o) (hs : ¬ S g) : w'.heap[g]? = some o :=
  (h.block g (Array.getElem?_eq_some_iff.1 hb).1 hs).trans hb
theorem blk_lt {w : World} {g : Nat} {o : Obj} (hb : w.heap[g]? = some o) : g < w.heap.size := (Array.getElem?_eq_some_iff.1 hb).1
theorem Kp.cell {S : Nat → Prop} {w w' : World} (h : Kp S w w') {p : Addr} {v : Value} (hc : w.cell? p = some v) (hs : ¬ S p.block) : w'.cell? p = some v :=
  (World.cell?_of_block (h.block p.block (World.block_lt_of_cell? w p hc) hs)).trans hc
theorem Kp.below {B : Nat} {w w' : World} (h : Kp (fun k => B ≤ k) w w') (hB : B ≤ w.heap.size) : Below B w w' := ⟨h.os, h.tape, h.output, h.size, fun k hk => h.block k (by omega) (by simpa using hk)⟩
theorem blk_cell {w : World} {g i : Nat} {cs : Array Value} {t : TypeId} {fr : Nat × Nat} (h : w.heap[g]? = some (.cells cs t fr)) : w.cell? ⟨g, i, none⟩ = cs[i]? := by simp [World.cell?, h]
/-- A new block. -/
structure Nb (w w' : World) (g : Nat) (o : Obj) : Prop where
  kn : Kn w w'
  ge : w.heap.size ≤ g
  at_ : w'.heap[g]? = some o
theorem Nb.lt {w w' : World} {g : Nat} {o : Obj} (h : Nb w w' g o) : g < w'.heap.size := blk_lt h.at_
/-- A block is another one now. -/
structure Wr (w w' : World) (g : Nat) (o : Obj) : Prop where
  kp : Kp (fun k => k = g) w w'
  at_ : w'.heap[g]? = some o
theorem nb_alloc {w w0 : World} (h : Dr w w0) (o : Obj) : Nb w (w0.alloc o) w0.heap.size o :=
  ⟨⟨h.os, h.tape, h.output, by simp [h.heap], fun k hk _ => by rw [Below.heap_alloc _ _ _ (by rw [h.heap]; exact hk), h.heap]⟩, by rw [h.heap]; exact Nat.le_refl _, heap_alloc_new w0 o⟩
theorem wr_row {w w0 : World} (h : Dr w w0) {g : Nat} {old : Array Value} {t : TypeId} {fr : Nat × Nat} (hg : w.heap[g]? = some (.cells old t fr)) (cs : Array Value) : Wr w (w0.setRow g cs) g (.cells cs t fr) :=
  ⟨⟨h.os, h.tape, h.output, by simp [World.setRow, h.heap], fun k hk hn => by rw [setRow_other w0 g k cs hn, h.heap]⟩, setRow_heap w0 g old cs t fr (by rw [h.heap]; exact hg)⟩

/-! ### 2. Kinds of elements -/
structure Kd (α : Type) where
  sz : Nat
  pos : 0 < sz
  bytes : Nat
  bpos : 0 < bytes
  R : (Nat → Prop) → World → α → List Value → Prop
  len : ∀ {F w x cs}, R F w x cs → cs.length = sz
  one : ∀ {F w x cs}, R F w x cs → ∀ u ∈ cs, u.oneCell' = true
  move : ∀ {F w w' x cs}, R F w x cs → (∀ k, F k → k < w.heap.size → w'.heap[k]? = w.heap[k]?) → R F w' x cs
  mono : ∀ {F F' w x cs}, R F w x cs → (∀ k, F k → k < w.heap.size → F' k) → R F' w x cs
section
variable {α : Type} {d : Kd α} {F F' G G' : Nat → Prop} {w w' : World}
/-- Elements one behind the other. -/
def Els (d : Kd α) (F : Nat → Prop) (w : World) : List α → List Value → Prop
  | [], cs => cs = []
  | x :: xs, cs => ∃ c r, cs = c ++ r ∧ d.R F w x c ∧ Els d F w xs r
theorem Els.len : ∀ {xs : List α} {cs : List Value}, Els d F w xs cs → cs.length = xs.length * d.sz
  | [], cs, h => by simp [show cs = [] from h]
  | x :: xs, cs, h => by
    obtain ⟨c, r, rfl, h1, h2⟩ := h
    simp [d.len h1, Els.len h2, Nat.add_mul, Nat.add_comm]
theorem Els.one : ∀ {xs : List α} {cs : List Value}, Els d F w xs cs → ∀ u ∈ cs, u.oneCell' = true
  | [], cs, h, u, hu => by simp [show cs = [] from h] at hu
  | x :: xs, cs, h, u, hu => by
    obtain ⟨c, r, rfl, h1, h2⟩ := h
    rcases List.mem_append.1 hu with hu | hu
    · exact d.one h1 u hu
    · exact Els.one h2 u hu
theorem Els.move : ∀ {xs : List α} {cs : List Value}, Els d F w xs cs → (∀ k, F k → k < w.heap.size → w'.heap[k]? = w.heap[k]?) → Els d F w' xs cs
  | [], _, h, _ => h
  | x :: xs, cs, h, hm => by
    obtain ⟨c, r, rfl, h1, h2⟩ := h
    exact ⟨c, r, rfl, d.move h1 hm, Els.move h2 hm⟩
theorem Els.mono : ∀ {xs : List α} {cs : List Value}, Els d F w xs cs → (∀ k, F k → k < w.heap.size → F' k) → Els d F' w xs cs
  | [], _, h, _ => h
  | x :: xs, cs, h, hm => by
    obtain ⟨c, r, rfl, h1, h2⟩ := h
    exact ⟨c, r, rfl, d.mono h1 hm, Els.mono h2 hm⟩
theorem Els.append : ∀ {xs ys : List α} {cs ds : List Value}, Els d F w xs cs → Els d F w ys ds → Els d F w (xs ++ ys) (cs ++ ds)
  | [], ys, cs, ds, h, k => by simpa [show cs = [] from h] using k
  | x :: xs, ys, cs, ds, h, k => by
    obtain ⟨c, r, rfl, h1, h2⟩ := h
    exact ⟨c, r ++ ds, by simp, h1, Els.append h2 k⟩
theorem Els.at_ : ∀ {xs : List α} {cs : List Value}, Els d F w xs cs → ∀ j x, xs[j]? = some x → ∃ c, d.R F w x c ∧ ∀ i u, c[i]? = some u → cs[j * d.sz + i]? = some u
  | [], _, _, j, x, hx => by simp at hx
  | y :: xs, cs, h, j, x, hx => by
    obtain ⟨c, r, rfl, h1, h2⟩ := h
    cases j with
    | zero =>
      simp only [List.getElem?_cons_zero, Option.some.injEq] at hx
      subst hx
      refine ⟨c, h1, fun i u hu => ?_⟩
      have hi : i < c.length := by
        rcases Nat.lt_or_ge i c.length with h | h
        · exact h
        · simp [List.getElem?_eq_none h] at hu
      simpa [List.getElem?_append_left hi] using hu
    | succ j =>
      obtain ⟨c', h3, h4⟩ := Els.at_ h2 j x (by simpa using hx)
      refine ⟨c', h3, fun i u hu => ?_⟩
      rw [List.getElem?_append_right (by rw [d.len h1, Nat.add_mul]; omega), d.len h1, show (j + 1) * d.sz + i - d.sz = j * d.sz + i from by rw [Nat.add_mul]; omega]
      exact h4 i u hu
theorem Els.cut : ∀ {xs : List α} {cs : List Value}, Els d F w xs cs → ∀ n, Els d F w (xs.take n) (cs.take (n * d.sz)) ∧ Els d F w (xs.drop n) (cs.drop (n * d.sz))
  | [], cs, h, n => by rw [show cs = [] from h]; simp [Els]
  | x :: xs, cs, h, n => by
    cases n with
    | zero => simpa [Els] using h
    | succ n =>
      obtain ⟨c, r, rfl, h1, h2⟩ := h
      obtain ⟨h3, h4⟩ := Els.cut h2 n
      have hc := d.len h1
      have e1 : (c ++ r).take ((n + 1) * d.sz) = c ++ r.take (n * d.sz) := by
        rw [List.take_append, List.take_of_length_le (by rw [hc, Nat.add_mul]; omega), hc, show (n + 1) * d.sz - d.sz = n * d.sz from by rw [Nat.add_mul]; omega]
      have e2 : (c ++ r).drop ((n + 1) * d.sz) = r.drop (n * d.sz) := by
        rw [List.drop_append, List.drop_of_length_le (by rw [hc, Nat.add_mul]; omega), hc, show (n + 1) * d.sz - d.sz = n * d.sz from by rw [Nat.add_mul]; omega]; rfl
      rw [e1, e2]
      exact ⟨⟨c, _, rfl, h1, h3⟩, h4⟩
theorem Els.snoc {xs : List α} {x : α} {cs c : List Value} (h : Els d F w xs cs) (hx : d.R F w x c) : Els d F w (xs ++ [x]) (cs ++ c) := h.append ⟨c, [], by simp, hx, rfl⟩
theorem Els.set {xs : List α} {cs c : List Value} {j : Nat} {x : α} (h : Els d F w xs cs) (hj : j < xs.length) (hx : d.R F w x c) : Els d F w (xs.set j x) (cs.take (j * d.sz) ++ c ++ cs.drop (j * d.sz + d.sz)) := by
  obtain ⟨h1, _⟩ := h.cut j
  obtain ⟨_, h4⟩ := h.cut (j + 1)
  rw [List.set_eq_take_append_cons_drop, if_pos hj]
  rw [List.append_assoc]
  rw [show j * d.sz + d.sz = (j + 1) * d.sz from by rw [Nat.add_mul]; omega]
  exact h1.append ⟨c, _, rfl, hx, h4⟩

/-! ### 3. Slices that are read -/
/-- So many elements a slice may have. -/
def Fits {α : Type} (d : Kd α) (n : Nat) : Prop := n * d.bytes ≤ 140737488355328
theorem Fits.le {α : Type} {d : Kd α} {n m : Nat} (h : Fits d n) (hm : m ≤ n) : Fits d m := Nat.le_trans (Nat.mul_le_mul_right _ hm) h
theorem Fits.len {α : Type} {d : Kd α} {n : Nat} (h : Fits d n) : n ≤ 140737488355328 := Nat.le_trans (Nat.le_mul_of_pos_right _ d.bpos) h
theorem Fits.zero {α : Type} (d : Kd α) : Fits d 0 := by simp [Fits]
def Sl (d : Kd α) (F : Nat → Prop) (w : World) (v : Value) (xs : List α) : Prop :=
  ∃ A c cells, v = .slice A xs.length c ∧ xs.length ≤ c ∧ c ≤ maxLen ∧ Fits d xs.length ∧ Els d F w xs cells ∧
    (xs = [] ∨ ∃ ad : Addr, A = some ad ∧ F ad.block ∧ ∀ j u, cells[j]? = some u → w.cell? (ad.add j) = some u)
theorem Sl.move {v : Value} {xs : List α} (h : Sl d F w v xs) (hm : ∀ k, F k → k < w.heap.size → w'.heap[k]? = w.heap[k]?) : Sl d F w' v xs := by
  obtain ⟨A, c, cells, h1, h2, h3, h4, h5, h6⟩ := h
  refine ⟨A, c, cells, h1, h2, h3, h4, h5.move hm, h6.imp id ?_⟩
  rintro ⟨ad, e, hf, hc⟩
  exact ⟨ad, e, hf, fun j u hu => by
    have := hc j u hu
    have hb := World.block_lt_of_cell? w _ this
    have hbl : (ad.add j).block = ad.block := by unfold Addr.add; split <;> rfl
    exact (World.cell?_of_block (by rw [hbl] at hb ⊢; exact hm _ hf hb)).trans this⟩
theorem Sl.mono {v : Value} {xs : List α} (h : Sl d F w v xs) (hm : ∀ k, F k → k < w.heap.size → F' k) : Sl d F' w v xs := by
  obtain ⟨A, c, cells, h1, h2, h3, h4, h5, h6⟩ := h
  by_cases hx : xs = []
  · exact ⟨A, c, cells, h1, h2, h3, h4, h5.mono hm, .inl hx⟩
  · rcases h6 with h6 | ⟨ad, e, hf, hc⟩
    · exact absurd h6 hx
    · refine ⟨A, c, cells, h1, h2, h3, h4, h5.mono hm, .inr ⟨ad, e, hm _ hf ?_, hc⟩⟩
      have hl : 0 < cells.length := by
        rw [h5.len]
        exact Nat.mul_pos (List.length_pos_iff.2 hx) d.pos
      have hb := World.block_lt_of_cell? w _ (hc 0 cells[0] (List.getElem?_eq_getElem hl))
      rwa [show (ad.add 0).block = ad.block from by unfold Addr.add; split <;> rfl] at hb
theorem add_block (ad : Addr) (n : Nat) : (ad.add n).block = ad.block := by unfold Addr.add; split <;> rfl
theorem add_add (ad : Addr) (m n : Nat) : (ad.add m).add n = ad.add (m + n) := by
  unfold Addr.add
  by_cases h1 : m = 0 <;> by_cases h2 : n = 0 <;> simp [h1, h2, Nat.add_assoc]
theorem add_plain (g o j : Nat) : (⟨g, o, none⟩ : Addr).add j = ⟨g, o + j, none⟩ := by unfold Addr.add; split <;> simp_all
theorem Sl.form {v : Value} {xs : List α} (h : Sl d F w v xs) : ∃ A c, v = .slice A xs.length c ∧ xs.length ≤ c ∧ Fits d xs.length := by
  obtain ⟨A, c, cells, h1, h2, h3, h4, h5, h6⟩ := h
  exact ⟨A, c, h1, h2, h4⟩
/-- An element. -/
theorem Sl.at_ {A : Option Addr} {n c : Nat} {xs : List α} (h : Sl d F w (.slice A n c) xs) {j : Nat} {x : α} (hx : xs[j]? = some x) :
    ∃ ad cs, A = some ad ∧ d.R F w x cs ∧ ∀ i u, cs[i]? = some u → w.cell? (ad.add (j * d.sz + i)) = some u := by
  obtain ⟨A', c', cells, h1, h2, h3, h4, h5, h6⟩ := h
  simp only [Value.slice.injEq] at h1
  obtain ⟨rfl, rfl, rfl⟩ := h1
  rcases h6 with h6 | ⟨ad, e, hf, hc⟩
  · subst h6; simp at hx
  · obtain ⟨cs, h7, h8⟩ := h5.at_ j x hx
    exact ⟨ad, cs, e, h7, fun i u hu => hc _ u (h8 i u hu)⟩
theorem Sl.nil (d : Kd α) (F : Nat → Prop) (w : World) : Sl d F w (.slice none 0 0) [] := ⟨none, 0, [], rfl, by simp, by simp [maxLen], Fits.zero d, rfl, .inl rfl⟩
theorem Sl.len_eq {A : Option Addr} {n c : Nat} {xs : List α} (h : Sl d F w (.slice A n c) xs) : n = xs.length ∧ n ≤ c ∧ Fits d n := by
  obtain ⟨A', c', h1, h2, h3⟩ := h.form
  simp only [Value.slice.injEq] at h1
  obtain ⟨rfl, rfl, rfl⟩ := h1
  exact ⟨rfl, h2, h3⟩
/-- A cut of it. -/
theorem Sl.cut {A : Option Addr} {n c : Nat} {xs : List α} (h : Sl d F w (.slice A n c) xs) {lo hi : Nat} (h0 : lo ≤ hi) (h1 : hi ≤ n) :
    Sl d F w (.slice (if c = lo then A else A.map (·.add (lo * d.sz))) (hi - lo) (c - lo)) ((xs.take hi).drop lo) := by
  obtain ⟨A', c', cells, e, h2, h3, h4, h5, h6⟩ := h
  simp only [Value.slice.injEq] at e
  obtain ⟨rfl, rfl, rfl⟩ := e
  obtain ⟨h7, _⟩ := h5.cut hi
  obtain ⟨_, h8⟩ := h7.cut lo
  have hlen : ((xs.take hi).drop lo).length = hi - lo := by simp; omega
  refine ⟨_, _, _, by rw [hlen], by rw [hlen]; omega, by unfold maxLen at *; omega, by rw [hlen]; exact h4.le (by omega), h8, ?_⟩
  by_cases hx : (xs.take hi).drop lo = []
  · exact .inl hx
  · have : 0 < ((xs.take hi).drop lo).length := List.length_pos_iff.2 hx
    rw [hlen] at this
    rcases h6 with rfl | ⟨ad, rfl, hf, hc⟩
    · simp at hx
    · refine .inr ⟨ad.add (lo * d.sz), by rw [if_neg (by omega)]; rfl, by rw [add_block]; exact hf, fun j u hu => ?_⟩
      rw [add_add]
      rw [List.getElem?_drop] at hu
      refine hc _ u ?_
      rw [List.getElem?_take] at hu
      split at hu
      · exact hu
      · cases hu

/-! ### 4. The kinds -/
def kInt (k : IntKind) (by_ : Nat) (hb : 0 < by_) (lo hi : Int) : Kd Int where
  sz := 1
  pos := by decide
  bytes := by_
  bpos := hb
  R := fun _ _ x cs => cs = [.int k x] ∧ lo ≤ x ∧ x ≤ hi
  len := by rintro F w x cs ⟨rfl, _⟩; rfl
  one := by rintro F w x cs ⟨rfl, _⟩ u hu; simp at hu; subst hu; rfl
  move := fun h _ => h
  mono := fun h _ => h
def kRune : Kd Int := kInt .i32 4 (by decide) (-2147483648) 2147483647
def kI64 : Kd Int := kInt .i64 8 (by decide) (-9223372036854775808) 9223372036854775807
def kBool : Kd Bool where
  sz := 1
  pos := by decide
  bytes := 1
  bpos := by decide
  R := fun _ _ x cs => cs = [.bool x]
  len := by rintro F w x cs rfl; rfl
  one := by rintro F w x cs rfl u hu; simp at hu; subst hu; rfl
  move := fun h _ => h
  mono := fun h _ => h
def kStr : Kd ByteArray where
  sz := 1
  pos := by decide
  bytes := 16
  bpos := by decide
  R := fun _ _ x cs => cs = [.string x] ∧ x.size ≤ 140737488355328
  len := by rintro F w x cs ⟨rfl, _⟩; rfl
  one := by rintro F w x cs ⟨rfl, _⟩ u hu; simp at hu; subst hu; rfl
  move := fun h _ => h
  mono := fun h _ => h
def kSl {α : Type} (d : Kd α) : Kd (List α) where
  sz := 1
  pos := by decide
  bytes := 24
  bpos := by decide
  R := fun F w x cs => ∃ v, cs = [v] ∧ Sl d F w v x
  len := by rintro F w x cs ⟨v, rfl, _⟩; rfl
  one := by
    rintro F w x cs ⟨v, rfl, h⟩ u hu
    obtain ⟨A, c, rfl, _⟩ := h.form
    simp at hu; subst hu; rfl
  move := by rintro F w w' x cs ⟨v, rfl, h⟩ hm; exact ⟨v, rfl, h.move hm⟩
  mono := by rintro F F' w x cs ⟨v, rfl, h⟩ hm; exact ⟨v, rfl, h.mono hm⟩
def kPair {α β : Type} (d : Kd α) (e : Kd β) : Kd (α × β) where
  sz := d.sz + e.sz
  pos := by have := d.pos; omega
  bytes := d.bytes + e.bytes
  bpos := by have := d.bpos; omega
  R := fun F w x cs => ∃ c1 c2, cs = c1 ++ c2 ∧ d.R F w x.1 c1 ∧ e.R F w x.2 c2
  len := by rintro F w x cs ⟨c1, c2, rfl, h1, h2⟩; simp [d.len h1, e.len h2]
  one := by
    rintro F w x cs ⟨c1, c2, rfl, h1, h2⟩ u hu
    rcases List.mem_append.1 hu with hu | hu
    · exact d.one h1 u hu
    · exact e.one h2 u hu
  move := by rintro F w w' x cs ⟨c1, c2, rfl, h1, h2⟩ hm; exact ⟨c1, c2, rfl, d.move h1 hm, e.move h2 hm⟩
  mono := by rintro F F' w x cs ⟨c1, c2, rfl, h1, h2⟩ hm; exact ⟨c1, c2, rfl, d.mono h1 hm, e.mono h2 hm⟩
/-- As another type, of so many bytes. -/
def kIso {α β : Type} (d : Kd α) (f : β → α) (by_ : Nat) (hb : 0 < by_) : Kd β where
  sz := d.sz
  pos := d.pos
  bytes := by_
  bpos := hb
  R := fun F w x cs => d.R F w (f x) cs
  len := d.len
  one := d.one
  move := d.move
  mono := d.mono
abbrev kRow : Kd (List Int) := kSl kRune
abbrev kLines : Kd (List (List Int)) := kSl kRow

/-! ### 5. Slices of one's own: their places in memory are nobody else's -/
/-- G: where its own places lie; F: where what its elements lead to lies. -/
def Ow (d : Kd α) (G F : Nat → Prop) (w : World) (v : Value) (xs : List α) : Prop :=
  ∃ cells, Els d (fun k => F k ∧ v.ownBlock ≠ some k) w xs cells ∧ Fits d xs.length ∧
    ((v = .slice none 0 0 ∧ xs = []) ∨
     ∃ g o cap cur e, v = .slice (some ⟨g, o, none⟩) xs.length cap ∧ G g ∧ w.heap[g]? = some (.cells cur e (0, 0)) ∧ xs.length ≤ cap ∧ cap ≤ maxLen ∧ o + cap * d.sz ≤ cur.size ∧ ∀ j u, cells[j]? = some u → cur[o + j]? = some u)
theorem Ow.nil (d : Kd α) (G F : Nat → Prop) (w : World) : Ow d G F w (.slice none 0 0) [] := ⟨[], rfl, Fits.zero d, .inl ⟨rfl, rfl⟩⟩
theorem Ow.sl {v : Value} {xs : List α} (h : Ow d G F w v xs) : Sl d (fun k => G k ∨ F k) w v xs := by
  obtain ⟨cells, h1, h2, h3⟩ := h
  rcases h3 with ⟨rfl, rfl⟩ | ⟨g, o, cap, cur, e, rfl, hg, hh, h4, h5, h6, h7⟩
  · exact Sl.nil d _ w
  · exact ⟨_, cap, cells, rfl, h4, h5, h2, h1.mono (fun k hk _ => .inr hk.1), .inr ⟨_, rfl, .inl hg, fun j u hu => by rw [add_plain, blk_cell hh]; exact h7 j u hu⟩⟩
theorem Ow.slF {v : Value} {xs : List α} (h : Ow d G F w v xs) (hG : ∀ k, G k → F' k) (hF : ∀ k, F k → F' k) : Sl d F' w v xs := h.sl.mono fun k hk _ => hk.elim (hG k) (hF k)
theorem Ow.block {v : Value} {xs : List α} (h : Ow d G F w v xs) : ∀ k, v.ownBlock = some k → G k ∧ k < w.heap.size := by
  obtain ⟨cells, h1, h2, h3⟩ := h
  rcases h3 with ⟨rfl, rfl⟩ | ⟨g, o, cap, cur, e, rfl, hg, hh, h4, h5, h6, h7⟩
  · intro k hk; simp [Value.ownBlock] at hk
  · intro k hk
    obtain rfl : g = k := by simpa [Value.ownBlock] using hk
    exact ⟨hg, blk_lt hh⟩
theorem Ow.move {v : Value} {xs : List α} (h : Ow d G F w v xs) (hm : ∀ k, G k ∨ F k → k < w.heap.size → w'.heap[k]? = w.heap[k]?) : Ow d G F w' v xs := by
  obtain ⟨cells, h1, h2, h3⟩ := h
  refine ⟨cells, h1.move (fun k hk => hm k (.inr hk.1)), h2, h3.imp id ?_⟩
  rintro ⟨g, o, cap, cur, e, rfl, hg, hh, h4, h5, h6, h7⟩
  exact ⟨g, o, cap, cur, e, rfl, hg, (hm g (.inl hg) (blk_lt hh)).trans hh, h4, h5, h6, h7⟩
theorem Ow.mono {v : Value} {xs : List α} (h : Ow d G F w v xs) (hG : ∀ k, G k → k < w.heap.size → G' k) (hF : ∀ k, F k → k < w.heap.size → F' k) : Ow d G' F' w v xs := by
  obtain ⟨cells, h1, h2, h3⟩ := h
  refine ⟨cells, h1.mono (fun k hk hl => ⟨hF k hk.1 hl, hk.2⟩), h2, h3.imp id ?_⟩
  rintro ⟨g, o, cap, cur, e, rfl, hg, hh, h4⟩
  exact ⟨g, o, cap, cur, e, rfl, hG g hg (blk_lt hh), hh, h4⟩
theorem Ow.form {v : Value} {xs : List α} (h : Ow d G F w v xs) : ∃ A c, v = .slice A xs.length c ∧ xs.length ≤ c ∧ Fits d xs.length := h.sl.form
/-- What an element says hangs neither on memory nor on where it lies. -/
class ScK {α : Type} (d : Kd α) : Prop where
  sc : ∀ {F F' w w' x cs}, d.R F w x cs → d.R F' w' x cs
instance (k : IntKind) (b : Nat) (hb : 0 < b) (lo hi : Int) : ScK (kInt k b hb lo hi) := ⟨fun h => h⟩
instance : ScK kRune := ⟨fun h => h⟩
instance : ScK kI64 := ⟨fun h => h⟩
instance : ScK kBool := ⟨fun h => h⟩
instance : ScK kStr := ⟨fun h => h⟩
instance {α β : Type} (d : Kd α) (e : Kd β) [hd : ScK d] [he : ScK e] : ScK (kPair d e) := ⟨by rintro F F' w w' x cs ⟨c1, c2, rfl, h1, h2⟩; exact ⟨c1, c2, rfl, hd.sc h1, he.sc h2⟩⟩
instance {α β : Type} (d : Kd α) (f : β → α) (b : Nat) (hb : 0 < b) [hd : ScK d] : ScK (kIso d f b hb) := ⟨fun h => hd.sc (d := d) h⟩
theorem Els.sc [hd : ScK d] : ∀ {xs : List α} {cs : List Value}, Els d F w xs cs → Els d F' w' xs cs
  | [], _, h => h
  | x :: xs, cs, h => by
    obtain ⟨c, r, rfl, h1, h2⟩ := h
    exact ⟨c, r, rfl, hd.sc h1, Els.sc h2⟩
theorem Ow.sc [hd : ScK d] {v : Value} {xs : List α} (h : Ow d G F w v xs) : Ow d G F' w v xs := by
  obtain ⟨cells, h1, h2, h3⟩ := h
  exact ⟨cells, h1.sc, h2, h3⟩
/-- An owned row of scalars is there as long as its own block is. -/
theorem Ow.keep [hd : ScK d] {v : Value} {xs : List α} (h : Ow d G F w v xs) (hm : ∀ k, v.ownBlock = some k → w'.heap[k]? = w.heap[k]?) : Ow d G F' w' v xs := by
  obtain ⟨cells, h1, h2, h3⟩ := h
  refine ⟨cells, h1.sc, h2, h3.imp id ?_⟩
  rintro ⟨g, o, cap, cur, e, rfl, hg, hh, r⟩
  exact ⟨g, o, cap, cur, e, rfl, hg, (hm g rfl).trans hh, r⟩
theorem Sl.old {v : Value} {xs : List α} (h : Sl d F w v xs) : Sl d (fun k => k < w.heap.size) w v xs := h.mono fun k _ hl => hl
theorem Sl.any {v : Value} {xs : List α} (h : Sl d F w v xs) : Sl d (fun _ => True) w v xs := h.mono fun k _ hl => trivial
theorem Sl.nilA {n c : Nat} {xs : List α} (h : Sl d F w (.slice none n c) xs) : xs = [] := by
  obtain ⟨A, c', cells, h1, h2, h3, h4, h5, h6⟩ := h
  rcases h6 with h6 | ⟨ad, hA, _⟩
  · exact h6
  · simp only [Value.slice.injEq] at h1
    rw [hA] at h1
    cases h1.1
theorem Kp.sl {S : Nat → Prop} {v : Value} {xs : List α} (hk : Kp S w w') (h : Sl d F w v xs) (hs : ∀ k, F k → ¬ S k) : Sl d F w' v xs := h.move fun k hf hl => hk.block k hl (hs k hf)
theorem Kn.sl {v : Value} {xs : List α} (hk : Kn w w') (h : Sl d F w v xs) : Sl d F w' v xs := Kp.sl hk h fun _ _ h => h
theorem Kp.ow {S : Nat → Prop} {v : Value} {xs : List α} (hk : Kp S w w') (h : Ow d G F w v xs) (hg : ∀ k, G k → ¬ S k) (hf : ∀ k, F k → ¬ S k) : Ow d G F w' v xs := h.move fun k hf' hl => hk.block k hl (hf'.elim (hg k) (hf k))
theorem Kn.ow {v : Value} {xs : List α} (hk : Kn w w') (h : Ow d G F w v xs) : Ow d G F w' v xs := Kp.ow hk h (fun _ _ h => h) fun _ _ h => h
end
end Go.Ink
