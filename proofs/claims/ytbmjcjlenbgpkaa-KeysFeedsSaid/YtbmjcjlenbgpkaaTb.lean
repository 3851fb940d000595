/-
  Tables whose cells are told as they are.
  Tables of own rows: each row in a block of its own.
  Rows that are appended to tables of own rows; calls that turn an own block.
-/
import Derived.Test.YtbmjcjlenbgpkaaLn
import Derived.Test.YtbmjcjlenbgpkaaRow
set_option linter.unusedVariables false
set_option linter.unusedSimpArgs false
namespace Go.Ink
open Go Go.RowKit

/-- Cells of a slice of slices, as they are. -/
def kRaw : Kd Value where
  sz := 1
  pos := by decide
  bytes := 24
  bpos := by decide
  R := fun _ _ x cs => cs = [x] ∧ x.oneCell' = true
  len := by rintro F w x cs ⟨rfl, _⟩; rfl
  one := by rintro F w x cs ⟨rfl, h⟩ u hu; simp at hu; subst hu; exact h
  move := fun h _ => h
  mono := fun h _ => h
instance : ScK kRaw := ⟨fun h => h⟩
section
variable {F G : Nat → Prop} {w : World}
theorem els_raw : ∀ {xs cs : List Value}, Els kRaw F w xs cs → cs = xs
  | [], _, h => h
  | x :: xs, cs, h => by
    obtain ⟨c, r, rfl, ⟨rfl, _⟩, h2⟩ := h
    rw [els_raw h2]; rfl
theorem raw_els : ∀ {xs : List Value}, (∀ x ∈ xs, x.oneCell' = true) → Els kRaw F w xs xs
  | [], _ => rfl
  | x :: xs, h => ⟨[x], xs, rfl, ⟨rfl, h x (by simp)⟩, raw_els fun y hy => h y (by simp [hy])⟩
/-- A cell of such a table. -/
theorem Ow.rawCell {ad : Addr} {n c j : Nat} {vs : List Value} {u : Value} (h : Ow kRaw G F w (.slice (some ad) n c) vs) (hu : vs[j]? = some u) : w.cell? (ad.add (j * 1)) = some u := by
  obtain ⟨g, o, cap, cur, e, cells, rfl, rfl, rfl, hg, hh, h4, h5, h6, hE, h7⟩ := h.cellAt
  rw [els_raw hE] at h7
  rw [add_plain, blk_cell hh, Nat.mul_one]
  exact h7 j u hu
/-- A table's rows, its cells told. -/
theorem raw_slE {v : Value} {xs : List (List Int)} {cs : List Value} (h : Ow kRaw G (fun _ => False) w v cs) (hE : Els kRow F w xs cs) : SlE kRow F w v xs := by
  have hl := hE.len
  rw [show kRow.sz = 1 from rfl, Nat.mul_one] at hl
  obtain ⟨A, c, cells, rfl, h1, h2, h3, h4, h5⟩ := h.sl
  rw [els_raw h4] at h5
  refine ⟨A, c, cs, by rw [hl], hE, ?_⟩
  rcases h5 with rfl | ⟨ad, e, _, hc⟩
  · left
    exact List.length_eq_zero_iff.1 (by simpa using hl.symm)
  · exact .inr ⟨ad, e, hc⟩
end
end Go.Ink

set_option linter.unusedVariables false
set_option linter.unusedSimpArgs false
namespace Go.Ink
open Go Go.RowKit

/-- A table of own rows, at v, its cells us; only the rows of L are told. G: where all this lies. -/
structure Tab (G L : Nat → Prop) (w : World) (v : Value) (us : List Value) (rows : List (List Int)) : Prop where
  t : Ow kRaw G (fun _ => False) w v us
  len : us.length = rows.length
  row : ∀ j u x, L j → us[j]? = some u → rows[j]? = some x → Ow kRune (fun k => G k ∧ v.ownBlock ≠ some k) (fun _ => False) w u x
  apart : ∀ i j u u' k, L i → L j → us[i]? = some u → us[j]? = some u' → u.ownBlock = some k → u'.ownBlock = some k → i = j
section
variable {G G' L L' : Nat → Prop} {w w' : World} {v u : Value} {us : List Value} {rows : List (List Int)} {j : Nat} {x : List Int}
theorem Tab.nil (G L : Nat → Prop) (w : World) : Tab G L w (.slice none 0 0) [] [] := ⟨Ow.nil _ _ _ _, rfl, fun j u x _ h => by simp at h, fun i j u u' k _ _ h => by simp at h⟩
theorem Tab.move (h : Tab G L w v us rows) (hm : ∀ k, G k → k < w.heap.size → w'.heap[k]? = w.heap[k]?) : Tab G L w' v us rows :=
  ⟨h.t.move fun k hk hl => hk.elim (fun hk => hm k hk hl) fun h => h.elim, h.len, fun j u x hj hu hx => (h.row j u x hj hu hx).move fun k hk hl => hk.elim (fun hk => hm k hk.1 hl) fun h => h.elim, h.apart⟩
theorem Tab.kp {S : Nat → Prop} (h : Tab G L w v us rows) (hk : Kp S w w') (hs : ∀ k, G k → ¬ S k) : Tab G L w' v us rows := h.move fun k hg hl => hk.block k hl (hs k hg)
theorem Tab.kn (h : Tab G L w v us rows) (hk : Kn w w') : Tab G L w' v us rows := h.kp hk fun _ _ h => h
theorem Tab.mono (h : Tab G L w v us rows) (hG : ∀ k, G k → k < w.heap.size → G' k) : Tab G' L w v us rows :=
  ⟨h.t.mono hG fun _ h _ => h, h.len, fun j u x hj hu hx => (h.row j u x hj hu hx).mono (fun k hk hl => ⟨hG k hk.1 hl, hk.2⟩) fun _ h _ => h, h.apart⟩
theorem Tab.less (h : Tab G L w v us rows) (hL : ∀ j, L' j → L j) : Tab G L' w v us rows :=
  ⟨h.t, h.len, fun j u x hj => h.row j u x (hL j hj), fun i j u u' k hi hj => h.apart i j u u' k (hL i hi) (hL j hj)⟩
/-- Only blocks that are there. -/
theorem Tab.bound (h : Tab G L w v us rows) : Tab (fun k => G k ∧ k < w.heap.size) L w v us rows := h.mono fun k hk hl => ⟨hk, hl⟩
theorem Tab.at_ (h : Tab G L w v us rows) (hj : L j) (hl : j < rows.length) : ∃ u, us[j]? = some u ∧ Ow kRune (fun k => G k ∧ v.ownBlock ≠ some k) (fun _ => False) w u (rows.getD j []) := by
  have hu : j < us.length := by rw [h.len]; exact hl
  exact ⟨us[j], List.getElem?_eq_getElem hu, h.row j _ _ hj (List.getElem?_eq_getElem hu) (getD_of hl)⟩
theorem Tab.blk (h : Tab G L w v us rows) {i k : Nat} {u : Value} (hi : L i) (hu : us[i]? = some u) (hk : u.ownBlock = some k) : G k ∧ k < w.heap.size ∧ v.ownBlock ≠ some k := by
  have hl : i < rows.length := by rw [← h.len]; exact (List.getElem?_eq_some_iff.1 hu).1
  have := (h.row i u _ hi hu (List.getElem?_eq_getElem hl)).block k hk
  exact ⟨this.1.1, this.2, this.1.2⟩
/-- The cell of row j. -/
theorem Tab.cell {ad : Addr} {n c : Nat} (h : Tab G L w (.slice (some ad) n c) us rows) (hu : us[j]? = some u) : w.cell? (ad.add (j * 1)) = some u := h.t.rawCell hu
/-- One row is taken out. -/
theorem Tab.take (h : Tab G L w v us rows) (hj : L j) (hu : us[j]? = some u) : Tab (fun k => G k ∧ u.ownBlock ≠ some k) (fun i => L i ∧ i ≠ j) w v us rows := by
  have hj' : j < rows.length := by rw [← h.len]; exact (List.getElem?_eq_some_iff.1 hu).1
  have hO := h.row j u _ hj hu (List.getElem?_eq_getElem hj')
  have hb := hO.block
  refine ⟨?_, h.len, fun i u' x hi hu' hx => ?_, fun i j u u' k hi hj => h.apart i j u u' k hi.1 hj.1⟩
  · have hv := h.t.block
    obtain ⟨cells, h1, h2, h3⟩ := h.t
    refine ⟨cells, h1, h2, h3.imp id ?_⟩
    rintro ⟨g, o, cap, cur, e, rfl, hg, h4⟩
    exact ⟨g, o, cap, cur, e, rfl, ⟨hg, fun e => (hb g e).1.2 rfl⟩, h4⟩
  · have hO' := h.row i u' x hi.1 hu' hx
    have hb' := hO'.block
    obtain ⟨cells, h1, h2, h3⟩ := hO'
    refine ⟨cells, h1, h2, h3.imp id ?_⟩
    rintro ⟨g, o, cap, cur, e, rfl, hg, h4⟩
    exact ⟨g, o, cap, cur, e, rfl, ⟨⟨hg.1, fun e => hi.2 (h.apart i j _ _ g hi.1 hj hu' hu rfl e)⟩, hg.2⟩, h4⟩
/-- The rows, as lines that are read. -/
theorem Tab.els (h : Tab G L w v us rows) : ∀ (l : List (List Int)) (cs : List Value) (i : Nat), cs.length = l.length → (∀ j, j < l.length → L (i + j)) → (∀ j, cs[j]? = us[i + j]?) → (∀ j, l[j]? = rows[i + j]?) → cs.length + i ≤ us.length → Els kRow (fun k => G k ∧ v.ownBlock ≠ some k) w l cs
  | [], cs, i, e, _, _, _, _ => List.length_eq_zero_iff.1 e
  | x :: l, [], i, e, _, _, _, _ => by simp at e
  | x :: l, u :: cs, i, e, hL, hc, hl, hle => by
    refine ⟨[u], cs, rfl, ⟨u, rfl, (h.row i u x (by simpa using hL 0 (by simp)) (by simpa using (hc 0).symm) (by simpa using (hl 0).symm)).slF (fun _ h => h) fun _ h => h.elim⟩, Tab.els h l cs (i + 1) (by simpa using e) (fun j hj => by have := hL (j + 1) (by simpa using hj); rwa [show i + 1 + j = i + (j + 1) by omega]) (fun j => by have := hc (j + 1); rw [show i + 1 + j = i + (j + 1) by omega, ← this]; simp) (fun j => by have := hl (j + 1); rw [show i + 1 + j = i + (j + 1) by omega, ← this]; simp) (by simp at hle; omega)⟩
theorem Tab.elsAll (h : Tab G L w v us rows) (hL : ∀ j, j < rows.length → L j) : Els kRow (fun k => G k ∧ v.ownBlock ≠ some k) w rows us :=
  h.els rows us 0 h.len (fun j hj => by rw [Nat.zero_add]; exact hL j hj) (fun j => by rw [Nat.zero_add]) (fun j => by rw [Nat.zero_add]) (by omega)
theorem Tab.slE (h : Tab G L w v us rows) (hL : ∀ j, j < rows.length → L j) : SlE kRow (fun k => G k ∧ v.ownBlock ≠ some k) w v rows := raw_slE h.t (h.elsAll hL)
theorem Tab.ow (h : Tab G L w v us rows) (hL : ∀ j, j < rows.length → L j) : Ow kRow G G w v rows := by
  have hE := h.elsAll hL
  obtain ⟨cells, h1, h2, h3⟩ := h.t
  have e := els_raw h1
  subst e
  have h2' : Fits kRow rows.length := by unfold Fits at *; rw [← h.len]; exact h2
  have hl := h.len
  refine ⟨cells, hE, h2', h3.imp (fun hb => ⟨hb.1, ?_⟩) ?_⟩
  · rw [hb.2] at hl; exact List.length_eq_zero_iff.1 hl.symm
  · rw [hl]
    exact id
theorem Tab.sl (h : Tab G L w v us rows) (hL : ∀ j, j < rows.length → L j) : Sl kRow G w v rows := (h.ow hL).slF (fun _ h => h) fun _ h => h
theorem Tab.one (h : Tab G L w v us rows) : ∀ u ∈ us, u.oneCell' = true := by
  obtain ⟨cells, h1, h2, h3⟩ := h.t
  have e := els_raw h1
  subst e
  exact h1.one
theorem Tab.form (h : Tab G L w v us rows) : ∃ A c, v = .slice A rows.length c ∧ rows.length ≤ c ∧ rows.length * 24 ≤ 140737488355328 := by
  obtain ⟨A, c, e, h1, h2⟩ := h.t.form
  rw [h.len] at e h1 h2
  exact ⟨A, c, e, h1, h2⟩
theorem Tab.ad {A : Option Addr} {n c : Nat} (h : Tab G L w (.slice A n c) us rows) (h0 : 0 < rows.length) : ∃ ad, A = some ad := by
  obtain ⟨cells, h1, h2, h3⟩ := h.t
  rcases h3 with ⟨_, rfl⟩ | ⟨g, o, cap, cur, e, h3, _⟩
  · have := h.len; simp at this; omega
  · cases h3; exact ⟨_, rfl⟩
theorem Ow.nE {G F : Nat → Prop} {w : World} {v : Value} {xs : List Int} (h : Ow kRune G F w v xs) : Ow kRune (fun k => G k ∧ v.ownBlock = some k) F w v xs := by
  obtain ⟨cells, h1, h2, h3⟩ := h
  refine ⟨cells, h1, h2, h3.imp id ?_⟩
  rintro ⟨g, o, cap, cur, e, rfl, hg, r⟩
  exact ⟨g, o, cap, cur, e, rfl, ⟨hg, rfl⟩, r⟩
/-- Row j's cell is u' now. -/
theorem Tab.put {u' : Value} {x' : List Int} (h : Tab G L w v us rows) (ht : Ow kRaw G' (fun _ => False) w v (us.set j u')) (hG : ∀ k, G k → k < w.heap.size → G' k) (hj : ¬ L j) (hx : Ow kRune (fun k => G' k ∧ v.ownBlock ≠ some k) (fun _ => False) w u' x')
    (ha : ∀ i u2 k, L i → us[i]? = some u2 → u2.ownBlock = some k → u'.ownBlock = some k → False) : Tab G' (fun i => L i ∨ i = j) w v (us.set j u') (rows.set j x') := by
  have hset : ∀ {α : Type} (l : List α) (a : α) (i : Nat) (b : α), (l.set j a)[i]? = some b → i = j ∧ b = a ∨ i ≠ j ∧ l[i]? = some b := fun l a i b hb => by
    rw [List.getElem?_set] at hb
    by_cases e : j = i
    · rw [if_pos e] at hb
      split at hb
      · cases hb; exact .inl ⟨e.symm, rfl⟩
      · cases hb
    · rw [if_neg e] at hb; exact .inr ⟨fun h => e h.symm, hb⟩
  refine ⟨ht, by rw [List.length_set, List.length_set, h.len], fun i u x hi hu hx' => ?_, fun i i' u u2 k hi hi' hu hu2 hk hk2 => ?_⟩
  · rcases hset _ _ _ _ hu with ⟨rfl, rfl⟩ | ⟨hne, hu⟩
    · rcases hset _ _ _ _ hx' with ⟨_, rfl⟩ | ⟨h, _⟩
      · exact hx
      · exact absurd rfl h
    · rcases hset _ _ _ _ hx' with ⟨h, _⟩ | ⟨_, hx'⟩
      · exact absurd h hne
      · exact (h.row i u x (hi.resolve_right hne) hu hx').mono (fun k hk hl => ⟨hG k hk.1 hl, hk.2⟩) fun _ h _ => h
  · rcases hset _ _ _ _ hu with ⟨e1, e2⟩ | ⟨hne, hu1⟩
    · rcases hset _ _ _ _ hu2 with ⟨e, _⟩ | ⟨hne2, hu3⟩
      · rw [e1, e]
      · rw [e2] at hk; exact (ha i' u2 k (hi'.resolve_right hne2) hu3 hk2 hk).elim
    · rcases hset _ _ _ _ hu2 with ⟨e1, e2⟩ | ⟨hne2, hu3⟩
      · rw [e2] at hk2; exact (ha i u k (hi.resolve_right hne) hu1 hk hk2).elim
      · exact h.apart i i' u u2 k (hi.resolve_right hne) (hi'.resolve_right hne2) hu1 hu3 hk hk2
/-- One more row. -/
theorem Tab.push {v' u' : Value} {x' : List Int} (h : Tab G L w v us rows) (hm : ∀ k, G k → v.ownBlock ≠ some k → k < w.heap.size → w'.heap[k]? = w.heap[k]?) (ht : Ow kRaw G' (fun _ => False) w' v' (us ++ [u'])) (hG : ∀ k, G k → k < w.heap.size → v.ownBlock ≠ some k → G' k ∧ v'.ownBlock ≠ some k) (hL : ¬ L rows.length) (hx : Ow kRune (fun k => G' k ∧ v'.ownBlock ≠ some k) (fun _ => False) w' u' x')
    (ha : ∀ i u2 k, L i → us[i]? = some u2 → u2.ownBlock = some k → u'.ownBlock = some k → False) : Tab G' (fun i => L i ∨ i = rows.length) w' v' (us ++ [u']) (rows ++ [x']) := by
  have hset : ∀ {α : Type} (l : List α) (a : α) (i : Nat) (b : α), (l ++ [a])[i]? = some b → i = l.length ∧ b = a ∨ i ≠ l.length ∧ l[i]? = some b := fun l a i b hb => by
    by_cases e : i < l.length
    · rw [List.getElem?_append_left e] at hb; exact .inr ⟨by omega, hb⟩
    · rw [List.getElem?_append_right (by omega)] at hb
      have : i - l.length = 0 := by have := (List.getElem?_eq_some_iff.1 hb).1; simp at this; omega
      rw [this] at hb
      simp at hb
      exact .inl ⟨by omega, hb.symm⟩
  have hlen := h.len
  refine ⟨ht, by rw [List.length_append, List.length_append, h.len]; rfl, fun i u x hi hu hx' => ?_, fun i i' u u2 k hi hi' hu hu2 hk hk2 => ?_⟩
  · rcases hset _ _ _ _ hu with ⟨e1, e2⟩ | ⟨hne, hu1⟩
    · rcases hset _ _ _ _ hx' with ⟨_, e3⟩ | ⟨h, _⟩
      · rw [e2, e3]; exact hx
      · omega
    · rcases hset _ _ _ _ hx' with ⟨h, _⟩ | ⟨_, hx1⟩
      · omega
      · exact ((h.row i u x (hi.resolve_right (by omega)) hu1 hx1).mono (G' := fun k => (G k ∧ v.ownBlock ≠ some k) ∧ k < w.heap.size) (F' := fun _ => False) (fun k hk hl => ⟨hk, hl⟩) fun _ h _ => h).move (fun k hk hl => hk.elim (fun hk => hm k hk.1.1 hk.1.2 hl) fun h => h.elim) |>.mono (fun k hk _ => hG k hk.1.1 hk.2 hk.1.2) fun _ h _ => h
  · rcases hset _ _ _ _ hu with ⟨e1, e2⟩ | ⟨hne, hu1⟩
    · rcases hset _ _ _ _ hu2 with ⟨e, _⟩ | ⟨hne2, hu3⟩
      · rw [e1, e]
      · rw [e2] at hk; exact (ha i' u2 k (hi'.resolve_right (by omega)) hu3 hk2 hk).elim
    · rcases hset _ _ _ _ hu2 with ⟨e1, e2⟩ | ⟨hne2, hu3⟩
      · rw [e2] at hk2; exact (ha i u k (hi.resolve_right (by omega)) hu1 hk hk2).elim
      · exact h.apart i i' u u2 k (hi.resolve_right (by omega)) (hi'.resolve_right (by omega)) hu1 hu3 hk hk2
/-- Row j, which was taken out, is back, and another one. -/
theorem Tab.back {x' : List Int} (h : Tab G L w v us rows) (hu : us[j]? = some u) (hG : ∀ k, G k → k < w.heap.size → G' k) (hj : ¬ L j) (hx : Ow kRune (fun k => G' k ∧ v.ownBlock ≠ some k) (fun _ => False) w u x')
    (ha : ∀ i u2 k, L i → us[i]? = some u2 → u2.ownBlock = some k → u.ownBlock = some k → False) : Tab G' (fun i => L i ∨ i = j) w v us (rows.set j x') := by
  have e : us.set j u = us := by
    apply List.ext_getElem?
    intro i
    rw [List.getElem?_set]
    split
    · next e => subst e; split
                · exact hu.symm
                · next h2 => rw [List.getElem?_eq_none (by omega)]
    · rfl
  have := h.put (u' := u) (x' := x') (G' := G') (j := j) (by rw [e]; exact h.t.mono hG fun _ h _ => h) hG hj hx ha
  rwa [e] at this
/-- The table's own block turns, its cells told anew. -/
theorem Tab.re (h : Tab G L w v us rows) (ht : Ow kRaw G (fun _ => False) w' v us) (hk : ∀ k, G k → v.ownBlock ≠ some k → k < w.heap.size → w'.heap[k]? = w.heap[k]?) : Tab G L w' v us rows :=
  ⟨ht, h.len, fun j u x hj hu hx => (h.row j u x hj hu hx).move fun k hk' hl => hk'.elim (fun h2 => hk k h2.1 h2.2 hl) fun h => h.elim, h.apart⟩
end
section
variable {O B w : World} {S K L : Nat → Prop} {M : Mm} {v : Value} {us : List Value} {rows : List (List Int)}
/-- A table of the base, in a world behind it. -/
theorem Tab.now (h : Tab (fre O K) L B v us rows) (hw : Lw O S B K M w) : Tab (fre O (MK M)) L w v us rows :=
  (h.mono (G' := fun k => fre O K k ∧ fre O (MK M) k) fun k hk hl => ⟨hk, hk.1, hw.apart hk.2 hl⟩).move (fun k hk hl => hw.kp.block k hl hk.1.2) |>.mono fun k hk _ => hk.2
end
section
variable {P : Program} {fn : Func} {k : List Item} {σ : Sig} {O B : World} {S K L : Nat → Prop} {X M Y : Mm} {R : Pt} {ops : Array Oper} {listed : Array Bool} {l : List (Nat × Nat)} {i : Nat} {rest : List Oper}
variable {dd : Option Nat} {op : Op} {oty : TypeId} {opos : String} {oaf : Array Edge} {og : Option (Nat × Bool)}
theorem Tab.storedW {ad : Addr} {n c j : Nat} {us : List Value} {rows : List (List Int)} {u : Value} {x : List Int} {w w' : World} {G : Nat → Prop} (hTw : Tab G L w (.slice (some ad) n c) us rows) (kp : Kp (fun k => k = ad.block) w w') (hn : Ow kRaw G (fun _ => False) w' (.slice (some ad) n c) (us.set j u)) (hj : j < rows.length)
    (hx0 : Ow kRune (fun k => G k ∧ ad.block ≠ k) (fun _ => False) w u x) (hL : ¬ L j) (ha : ∀ i u2 k, L i → us[i]? = some u2 → u2.ownBlock = some k → u.ownBlock = some k → False) : Tab G (fun i => L i ∨ i = j) w' (.slice (some ad) n c) (us.set j u) (rows.set j x) := by
  have hx' := Kp.ow kp hx0 (fun k hk e => hk.2 e.symm) fun _ h => h.elim
  have hT' : Tab G L w' (.slice (some ad) n c) (us.set j u) (rows.set j x) := by
    refine ⟨hn, by rw [List.length_set, List.length_set, hTw.len], fun i u' x' hi hu hx2 => ?_, fun i i' u1 u2 k hi hi' hu hu2 hk hk2 => ?_⟩
    · have hne : j ≠ i := fun e => hL (e ▸ hi)
      rw [List.getElem?_set_ne hne] at hu hx2
      exact Kp.ow kp (hTw.row i u' x' hi hu hx2) (fun k hk e => hk.2 (by rw [e]; rfl)) fun _ h => h.elim
    · have hne : j ≠ i := fun e => hL (e ▸ hi)
      have hne' : j ≠ i' := fun e => hL (e ▸ hi')
      rw [List.getElem?_set_ne hne] at hu
      rw [List.getElem?_set_ne hne'] at hu2
      exact hTw.apart i i' u1 u2 k hi hi' hu hu2 hk hk2
  have hlu : j < us.length := by rw [hTw.len]; exact hj
  have := hT'.back (j := j) (u := u) (x' := x) (G' := G) (by rw [List.getElem?_set_self hlu]) (fun k h _ => h) hL (hx'.mono (fun k hk _ => ⟨hk.1, fun e => hk.2 (by cases e; rfl)⟩) fun _ h _ => h) (fun i u2 k hi hu hk hk2 => by
    have hne : j ≠ i := fun e => hL (e ▸ hi)
    rw [List.getElem?_set_ne hne] at hu
    exact ha i u2 k hi hu hk hk2)
  rwa [List.set_set] at this
theorem Tab.stored {ad : Addr} {n c j : Nat} {us : List Value} {rows : List (List Int)} {u : Value} {x : List Int} {w w' : World} (hT : Tab (fre O K) L B (.slice (some ad) n c) us rows) (hw : Lw O S B K M w) (kp : Kp (fun k => k = ad.block) w w') (hn : Og kRaw O w' (MK M) (fun _ => False) (.slice (some ad) n c) (us.set j u)) (hj : j < rows.length)
    (hx : Ow kRune (fun k => fre O K k ∧ ad.block ≠ k) (fun _ => False) B u x) (hL : ¬ L j) (ha : ∀ i u2 k, L i → us[i]? = some u2 → u2.ownBlock = some k → u.ownBlock = some k → False) : Tab (fre O (MK M)) (fun i => L i ∨ i = j) w' (.slice (some ad) n c) (us.set j u) (rows.set j x) := by
  have hx0 : Ow kRune (fun k => fre O (MK M) k ∧ ad.block ≠ k) (fun _ => False) w u x := by
    have h1 := hx.mono (G' := fun k => (fre O K k ∧ fre O (MK M) k) ∧ ad.block ≠ k) (F' := fun _ => False) (fun k hk hl => ⟨⟨hk.1, hk.1.1, hw.apart hk.1.2 hl⟩, hk.2⟩) fun _ h _ => h
    exact (Kp.ow hw.kp h1 (fun k hk => hk.1.1.2) fun _ h => h.elim).mono (fun k hk _ => ⟨hk.1.2, hk.2⟩) fun _ h _ => h
  exact (hT.now hw).storedW kp hn hj hx0 hL ha
/-- A row is stored in a table. -/
theorem lo_tabSet {x y : Operand} {t : TypeId} [hT : CellT P t] {ad : Addr} {n c j : Nat} {us : List Value} {rows : List (List Int)} {u : Value} {r : List Int} (hx : ev σ x = some (.pointer (some (ad.add (j * 1))))) (hy : ev σ y = some u)
    (hO : Tab (fre O K) L B (.slice (some ad) n c) us rows) (hj : j < rows.length) (hr : Ow kRune (fun k => fre O K k ∧ ad.block ≠ k) (fun _ => False) B u r) (hL : ¬ L j) (ha : ∀ i u2 k, L i → us[i]? = some u2 → u2.ownBlock = some k → u.ownBlock = some k → False) (hd : okD dd fn.ntmps = true)
    (h : ∀ w w', Lw O S B K M w → Kp S O w' → Kp (fun k => k = ad.block) w w' → Tab (fre O (MK M)) (fun i => L i ∨ i = j) w' (.slice (some ad) n c) (us.set j u) (rows.set j r) → WLo P fn ops rest k (putS dd undef σ) O S w' (MK M) M R) :
    WLo P fn ops ((⟨dd, .store t x y, oty, opos, oaf, none⟩ : Oper) :: rest) k σ O S B K M R :=
  lo_setM (d := kRaw) (j := j) (q := u) hx hy hO.t (fun _ h => h.elim) (by rw [hO.len]; exact hj) (fun w' hw => ⟨rfl, by obtain ⟨_, _, rfl, _⟩ := hr.form; rfl⟩) rfl hd fun w w' hw ko kp hn => h w w' hw ko kp (hO.stored hw kp hn hj hr hL ha)
theorem ld_tabSet {x y : Operand} {t : TypeId} [hT : CellT P t] {ad : Addr} {n c j : Nat} {us : List Value} {rows : List (List Int)} {u : Value} {r : List Int} (hY : MCat X M Y) (hwa : waitsAll ops i = true) (hx : ev σ x = some (.pointer (some (ad.add (j * 1))))) (hy : ev σ y = some u)
    (hO : Tab (fre O K) L B (.slice (some ad) n c) us rows) (hj : j < rows.length) (hr : Ow kRune (fun k => fre O K k ∧ ad.block ≠ k) (fun _ => False) B u r) (hL : ¬ L j) (ha : ∀ i u2 k, L i → us[i]? = some u2 → u2.ownBlock = some k → u.ownBlock = some k → False) (hg : wants ops σ ⟨dd, .store t x y, oty, opos, oaf, og⟩ true) (hd : okD dd fn.ntmps = true)
    (h : ∀ w w', Lw O S B K Y w → Kp S O w' → Kp (fun k => k = ad.block) w w' → Tab (fre O (MK Y)) (fun i => L i ∨ i = j) w' (.slice (some ad) n c) (us.set j u) (rows.set j r) → WLd P fn ops (listed.setIfInBounds i true) l k (putS dd undef σ) O S w' (MK Y) [] Y R) :
    WLdo P fn ops listed i 1 (⟨dd, .store t x y, oty, opos, oaf, og⟩ : Oper) l k σ O S B K X M R :=
  ld_setM (d := kRaw) (j := j) (q := u) hY hwa hx hy hO.t (fun _ h => h.elim) (by rw [hO.len]; exact hj) (fun w' hw => ⟨rfl, by obtain ⟨_, _, rfl, _⟩ := hr.form; rfl⟩) rfl hg hd fun w w' hw ko kp hn => h w w' hw ko kp (hO.stored hw kp hn hj hr hL ha)
/-- A row that is new since the region began is stored in a table; of the own blocks only Y' are told of then. -/
theorem ld_tabSetD {Y' : Mm} {x y : Operand} {t : TypeId} [hT : CellT P t] {ad : Addr} {n c j : Nat} {us : List Value} {rows : List (List Int)} {u : Value} {r : List Int} (hY : MCat X M Y) (hs : MSub Y' Y) (hwa : waitsAll ops i = true) (hx : ev σ x = some (.pointer (some (ad.add (j * 1))))) (hy : ev σ y = some u)
    (hO : Tab (fre O K) L B (.slice (some ad) n c) us rows) (hj : j < rows.length) (hr : ∀ w, Lw O S B K Y w → Ow kRune (fun k => u.ownBlock = some k) (fun _ => False) w u r) (hu : ∀ k, u.ownBlock = some k → O.heap.size ≤ k ∧ ¬ MK Y' k ∧ ad.block ≠ k) (hL : ¬ L j) (ha : ∀ i u2 k, L i → us[i]? = some u2 → u2.ownBlock = some k → u.ownBlock = some k → False) (hone : u.oneCell' = true) (hg : wants ops σ ⟨dd, .store t x y, oty, opos, oaf, og⟩ true) (hd : okD dd fn.ntmps = true)
    (h : ∀ w w', Lw O S B K Y w → Kp S O w' → Kp (fun k => k = ad.block) w w' → Tab (fre O (MK Y')) (fun i => L i ∨ i = j) w' (.slice (some ad) n c) (us.set j u) (rows.set j r) → WLd P fn ops (listed.setIfInBounds i true) l k (putS dd undef σ) O S w' (MK Y') [] Y' R) :
    WLdo P fn ops listed i 1 (⟨dd, .store t x y, oty, opos, oaf, og⟩ : Oper) l k σ O S B K X M R := by
  unfold WLdo
  refine fun w w2 h1 h2 h3 h4 h5 => ?_
  rw [hY.eq] at h2
  refine x_unit (u_set (d := kRaw) (j := j) (q := u) hx hy (Og.now hO.t (fun _ h => h.elim) h2) (by rw [hO.len]; exact hj) ⟨rfl, hone⟩ rfl) hg hd fun w' ⟨k1, k2⟩ => .inr ⟨hwa, ?_⟩
  have hb := hO.t.block ad.block rfl
  have hl := h2.ownW hb.1 hb.2 k1
  have hsub : ∀ k, MK Y' k → MK Y k := fun k ⟨o, hm⟩ => ⟨o, hs.mem hm⟩
  have hTw := (hO.now h2).mono (G' := fre O (MK Y')) fun k hk _ => ⟨hk.1, fun hm => hk.2 (hsub k hm)⟩
  have hn : Ow kRaw (fre O (MK Y')) (fun _ => False) w' (.slice (some ad) n c) (us.set j u) := (Og.set hO.t h2 k2).mono (fun k hk _ => ⟨hk.1, fun hm => hk.2 (hsub k hm)⟩) fun _ h _ => h
  have hl' : Lw O S w' (MK Y') Y' w' := ⟨hl.org, Kp.refl _ _, fun g o hm => hl.mem g o (hs.mem hm), hs.sub.map _ |>.nodup hl.nd, fun k hm => ⟨(hl.ge k (hsub k hm)).1, .inr hm⟩⟩
  have := hTw.storedW k1 hn hj ((hr w2 h2).mono (fun k hk _ => ⟨⟨(hu k hk).1, (hu k hk).2.1⟩, (hu k hk).2.2⟩) fun _ h _ => h) hL ha
  exact ld_goM hl' (h w2 w' h2 hl.org k1 this)
end
end Go.Ink

set_option linter.unusedVariables false
set_option linter.unusedSimpArgs false
namespace Go.Ink
open Go Go.RowKit
theorem Tab.all {G L : Nat → Prop} {w : World} {v : Value} {us : List Value} {rows : List (List Int)} (h : Tab G L w v us rows) (hL : ∀ j, j < rows.length → L j) : Tab G (fun _ => True) w v us rows :=
  have hl : ∀ {j : Nat} {u : Value}, us[j]? = some u → L j := fun hu => hL _ (by rw [← h.len]; exact (List.getElem?_eq_some_iff.1 hu).1)
  ⟨h.t, h.len, fun j u x _ hu hx => h.row j u x (hl hu) hu hx, fun i j u u' k _ _ hu hu' => h.apart i j u u' k (hl hu) (hl hu') hu hu'⟩
section
variable {P : Program} {fn : Func} {k : List Item} {σ : Sig} {O B : World} {S K L : Nat → Prop} {X M M' Y : Mm} {R : Pt} {ops : Array Oper} {rest : List Oper} {listed : Array Bool} {l : List (Nat × Nat)} {i kd : Nat}
variable {dd : Option Nat} {op : Op} {oty : TypeId} {opos : String} {oaf : Array Edge} {og : Option (Nat × Bool)}
theorem Lw.turn {w w' : World} {T : Nat → Prop} (hw : Lw O S B K M w) (hT : ∀ k, T k → fre O K k ∧ k < B.heap.size) (hk : Kp T w w') : Lw O S w' (MK M) M w' :=
  ⟨Kp.then hw.org hk (fun _ h => h) (fun k hl hk => by have := (hT k hk).1.1; omega), Kp.refl _ _, fun k u hm => hk.blk (hw.mem k u hm) (fun e => hw.apart (hT k e).1.2 (hT k e).2 ⟨u, hm⟩), hw.nd, fun k hm => ⟨(hw.ge k hm).1, .inr hm⟩⟩
/-- A call that turns blocks of the base that are the function's own: the base goes on. -/
theorem lo_callW {f : FuncId} {args : Array Value} {T : Nat → Prop} {Φ : World → Value → World → Prop} (hrun : En P fn.ntmps σ ⟨dd, op, oty, opos, oaf, none⟩ f args) (hd : okD dd fn.ntmps = true) (hT : ∀ k, T k → fre O K k ∧ k < B.heap.size) (hc : ∀ w, Lw O S B K M w → CallsR P f args w fun u w' => Kp T w w' ∧ Φ w u w')
    (h : ∀ w u w', Lw O S B K M w → Kp T w w' → Kp S O w' → Kp (fun k => K k ∨ T k) B w' → Φ w u w' → WLo P fn ops rest k (putS dd u σ) O S w' (MK M) M R) : WLo P fn ops ((⟨dd, op, oty, opos, oaf, none⟩ : Oper) :: rest) k σ O S B K M R := by
  unfold WLo at *
  exact fun w hw => o_enter hrun (wants_none rfl) hd ((hc w hw).mono fun u w' ⟨k1, k2⟩ => h w u w' hw k1 (hw.turn hT k1).org (Kp.then (hw.kp.mono fun _ _ h => .inl h) k1 (fun _ h => h) fun _ _ h => .inr h) k2 w' (hw.turn hT k1))
theorem ld_callW {f : FuncId} {args : Array Value} {T : Nat → Prop} {Φ : World → Value → World → Prop} (hY : MCat X M Y) (hwa : waitsAll ops i = true) (hrun : En P fn.ntmps σ ⟨dd, op, oty, opos, oaf, og⟩ f args) (hg : wants ops σ ⟨dd, op, oty, opos, oaf, og⟩ true) (hd : okD dd fn.ntmps = true) (hT : ∀ k, T k → fre O K k ∧ k < B.heap.size) (hc : ∀ w, Lw O S B K Y w → CallsR P f args w fun u w' => Kp T w w' ∧ Φ w u w')
    (h : ∀ w u w', Lw O S B K Y w → Kp T w w' → Kp S O w' → Kp (fun k => K k ∨ T k) B w' → Φ w u w' → WLd P fn ops (listed.setIfInBounds i true) l k (putS dd u σ) O S w' (MK Y) [] Y R) : WLdo P fn ops listed i 1 (⟨dd, op, oty, opos, oaf, og⟩ : Oper) l k σ O S B K X M R := by
  unfold WLdo
  refine fun w w2 h1 h2 h3 h4 h5 => ?_
  rw [hY.eq] at h2
  exact x_enter hrun hg hd ((hc w2 h2).mono fun u w' ⟨k1, k2⟩ => .inr ⟨hwa, ld_goM (h2.turn hT k1) (h w2 u w' h2 k1 (h2.turn hT k1).org (Kp.then (h2.kp.mono fun _ _ h => .inl h) k1 (fun _ h => h) fun _ _ h => .inr h) k2)⟩)
/-- append of the one element of a literal. -/
theorem lo_append1 {α : Type} {d : Kd α} {x y : Operand} {t e : TypeId} {sz bytes : Nat} {z : Value} [hT : SlT P t e] [hE : ElT P e sz bytes z] {F : Nat → Prop} {v : Value} {xs : List α} {q : α} {g : Nat} {cs : List Value} {eb : TypeId} (hx : ev σ x = some v) (hy : ev σ y = some (.slice (some ⟨g, 0, none⟩) 1 1))
    (hO : Og d O B K F v xs) (hF : ∀ k, F k → ¬ K k) (hm : MIn g (cb cs eb) M) (hq : ∀ w, Lw O S B K M w → d.R (fun k => F k ∧ v.ownBlock ≠ some k) w q cs) (hlen : (xs.length + 1) * bytes ≤ 140737488355328) (hsz : d.sz = sz) (hby : d.bytes = bytes) (hz : z.cells.size = sz) (hd : okD dd fn.ntmps = true)
    (h : ∀ w A n w', Lw O S B K M w → Kp S O w' → Kp (fun k => K k ∨ v.ownBlock = some k) B w' → (∀ k, (Value.slice A (xs ++ [q]).length n).ownBlock = some k → v.ownBlock = some k ∨ B.heap.size ≤ k) → Og d O w' (MK M) F (.slice A (xs ++ [q]).length n) (xs ++ [q]) → WLo P fn ops rest k (putS dd (.slice A (xs ++ [q]).length n) σ) O S w' (MK M) M R) :
    WLo P fn ops ((⟨dd, .call { callee := .builtin .append, args := #[x, y], argTypes := #[t, t] }, oty, opos, oaf, none⟩ : Oper) :: rest) k σ O S B K M R := by
  unfold WLo at *
  refine fun w hw => o_any (e_append1 hx hy (hO.now hF hw) (hw.mem g _ hm) (hq w hw) hlen hsz hby hz) (wants_none rfl) hd fun v' w' hA => ?_
  have h4 := hO.app hw hA
  obtain ⟨A, n, rfl, _⟩ := h4.form
  exact h w A n w' hw (hw.app hO hA).org (App.keep hw hA) (App.old hw hA) h4 w' (hw.app hO hA)
/-- A row is appended to a table. -/
theorem lo_tabPush {x y : Operand} {t e : TypeId} {z : Value} [hT : SlT P t e] [hE : ElT P e 1 24 z] {v : Value} {us : List Value} {rows : List (List Int)} {u : Value} {r : List Int} {g : Nat} {eb : TypeId} (hx : ev σ x = some v) (hy : ev σ y = some (.slice (some ⟨g, 0, none⟩) 1 1))
    (hO : Tab (fre O K) L B v us rows) (hm : MIn g (cb [u] eb) M) (hr : Ow kRune (fun k => fre O K k ∧ v.ownBlock ≠ some k) (fun _ => False) B u r) (hL : ¬ L rows.length) (ha : ∀ i u2 k, L i → us[i]? = some u2 → u2.ownBlock = some k → u.ownBlock = some k → False) (hlen : (rows.length + 1) * 24 ≤ 140737488355328) (hz : z.cells.size = 1) (hd : okD dd fn.ntmps = true)
    (h : ∀ w A n w', Lw O S B K M w → Kp S O w' → Kp (fun k => K k ∨ v.ownBlock = some k) B w' → Tab (fre O (MK M)) (fun i => L i ∨ i = rows.length) w' (.slice A (rows ++ [r]).length n) (us ++ [u]) (rows ++ [r]) → WLo P fn ops rest k (putS dd (.slice A (rows ++ [r]).length n) σ) O S w' (MK M) M R) :
    WLo P fn ops ((⟨dd, .call { callee := .builtin .append, args := #[x, y], argTypes := #[t, t] }, oty, opos, oaf, none⟩ : Oper) :: rest) k σ O S B K M R := by
  have hul : us.length = rows.length := hO.len
  refine lo_append1 (d := kRaw) (q := u) hx hy hO.t (fun _ h => h.elim) hm (fun w' hw => ⟨rfl, by obtain ⟨_, _, rfl, _⟩ := hr.form; rfl⟩) (by rw [hul]; exact hlen) rfl rfl hz hd fun w A n w' hw ko kp hown hog => ?_
  have e : (us ++ [u]).length = (rows ++ [r]).length := by rw [List.length_append, List.length_append, hul]; rfl
  rw [e] at hog hown ⊢
  refine h w A n w' hw ko kp ?_
  have hvne : ∀ k, fre O K k → k < B.heap.size → v.ownBlock ≠ some k → fre O (MK M) k ∧ (Value.slice A (rows ++ [r]).length n).ownBlock ≠ some k := fun k hk hl hv => ⟨⟨hk.1, hw.apart hk.2 hl⟩, fun e => (hown k e).elim hv fun h => by omega⟩
  refine hO.push (fun k hk hv hl => kp.block k hl fun h => h.elim hk.2 hv) hog hvne hL ?_ ha
  have h1 := hr.mono (G' := fun k => (fre O K k ∧ v.ownBlock ≠ some k) ∧ k < B.heap.size) (F' := fun _ => False) (fun k hk hl => ⟨hk, hl⟩) fun _ h _ => h
  exact (Kp.ow kp h1 (fun k hk h => h.elim hk.1.1.2 hk.1.2) fun _ h => h.elim).mono (fun k hk _ => hvne k hk.1.1 hk.2 hk.1.2) fun _ h _ => h
end
end Go.Ink
