/-
  Push.
-/
import Derived.Test.YtbmjcjlenbgpkaaB5
set_option linter.unusedVariables false
set_option linter.unusedSimpArgs false
namespace Go.Ink
open Go Go.Proofs Go.RowKit

theorem r_indexJ {P : Program} {N : Nat} {σ : Sig} {w : World} {d : Option Nat} {ty : TypeId} {pos : String} {af : Array Edge} {gd : Option (Nat × Bool)} {x y : Operand} {t e : TypeId} {sz bytes : Nat} {z : Value} [hT : SlT P t e] [hE : ElT P e sz bytes z] {A : Option Addr} {ad : Addr} {n c j : Nat} {iv : Int} {ik : IntKind} (hx : ev σ x = some (.slice A n c)) (hy : ev σ y = some (.int ik iv)) (hj : iv = (j : Int)) (hn : j < n) (hA : A = some ad) : Rn P N σ w ⟨d, .indexAddr t x y, ty, pos, af, gd⟩ (.pointer (some (ad.add (j * sz)))) := by
  subst hj hA; exact r_index hx hy rfl (by omega) (by omega)
theorem ow_suf {G F : Nat → Prop} {w : World} {A : Option Addr} {c l : Nat} {xs : List Int} (h : Ow kRune G F w (.slice A xs.length c) xs) (hl : l ≤ xs.length) : Ow kRune G F w (cutV A l xs.length c 1) (xs.drop l) := by
  obtain ⟨cells, hE, hf, hor⟩ := h
  have hf2 : Fits kRune (xs.drop l).length := by unfold Fits at *; rw [List.length_drop]; have : xs.length * 4 ≤ 140737488355328 := hf; show (xs.length - l) * 4 ≤ 140737488355328; omega
  rcases hor with ⟨e, rfl⟩ | ⟨g, o, cap, cur, e, hv, hg, hb, h1, h2, h3, h4⟩
  · simp only [Value.slice.injEq] at e
    obtain ⟨rfl, _, rfl⟩ := e
    have hl0 : l = 0 := by simpa using hl
    subst hl0
    exact Ow.nil _ _ _ _
  · simp only [Value.slice.injEq] at hv
    obtain ⟨rfl, _, rfl⟩ := hv
    have hsz : o + c ≤ cur.size := by have : o + c * 1 ≤ cur.size := h3; omega
    have hE2 := (hE.cut l).2
    rw [show kRune.sz = 1 from rfl, Nat.mul_one] at hE2
    unfold cutV
    by_cases hcl : c = l
    · have hx0 : xs.drop l = [] := List.drop_of_length_le (by omega)
      rw [hx0] at hE2 hf2 ⊢
      rw [if_pos hcl, show xs.length - l = ([] : List Int).length by simp; omega, show c - l = 0 by omega]
      have hc0 : cells.drop l = [] := hE2
      exact ⟨[], rfl, hf2, .inr ⟨g, o, 0, cur, e, rfl, hg, hb, Nat.le_refl _, Nat.zero_le _, by omega, fun j u hu => by simp at hu⟩⟩
    · rw [if_neg hcl, show xs.length - l = (xs.drop l).length by rw [List.length_drop], show Option.map (fun x => Addr.add x (l * 1)) (some (⟨g, o, none⟩ : Addr)) = some ⟨g, o + l * 1, none⟩ from congrArg some (add_plain _ _ _)]
      refine ⟨cells.drop l, hE2, hf2, .inr ⟨g, o + l * 1, c - l, cur, e, rfl, hg, hb, by rw [List.length_drop]; omega, by omega, by show o + l * 1 + (c - l) * 1 ≤ cur.size; omega, fun j u hu => ?_⟩⟩
      rw [List.getElem?_drop] at hu
      rw [Nat.mul_one, Nat.add_assoc]
      exact h4 _ u hu
theorem ow_own {α : Type} {d : Kd α} {G F : Nat → Prop} {w : World} {au : Addr} {n c : Nat} {xs : List α} (h : Ow d G F w (.slice (some au) n c) xs) : Ow d (fun k => k = au.block) F w (.slice (some au) n c) xs := by
  obtain ⟨cells, h1, h2, h3⟩ := h
  refine ⟨cells, h1, h2, h3.imp id ?_⟩
  rintro ⟨g, o, cap, cur, e, hv, hg, h4⟩
  exact ⟨g, o, cap, cur, e, hv, by cases hv; rfl, h4⟩
theorem own_shift' {A : Option Addr} {n c g l sz : Nat} (e : (cutV A l n c sz).ownBlock = some g) : (Value.slice A n c).ownBlock = some g := by
  unfold cutV at e
  cases A with
  | none => split at e <;> exact e
  | some ad =>
    split at e
    · exact e
    · have e2 : (ad.add (l * sz)).block = g := Option.some.inj e
      rw [add_block] at e2
      show some ad.block = some g
      rw [e2]
theorem ow_at {α : Type} {d : Kd α} {G G' F : Nat → Prop} {w : World} {v : Value} {xs : List α} (h : Ow d G F w v xs) (hg : ∀ k, v.ownBlock = some k → G' k) : Ow d G' F w v xs := by
  obtain ⟨cells, h1, h2, h3⟩ := h
  refine ⟨cells, h1, h2, h3.imp id ?_⟩
  rintro ⟨g, o, cap, cur, e, rfl, hg', h4⟩
  exact ⟨g, o, cap, cur, e, rfl, hg g rfl, h4⟩
/-- What Push goes through: what is told, what waits. -/
def pushF (ms : List Mg) : Nat → List Int → Nat → List Int → Option (List Int × Int × List Int)
  | 0, _, _, _ => none
  | _ + 1, [], _, out => some (out, 0, [])
  | f + 1, c :: t, n, out =>
    if ms.any (openM (c :: t)) then some (out, 0, c :: t) else
    match ms.findIdx? (fun m => begM (c :: t) m.1) with
    | none => pushF ms f t n (out ++ [c])
    | some i => if 20 < n + 1 then some (out, 35, []) else pushF ms f ((ms.getD i ([], [])).2 ++ (c :: t).drop (ms.getD i ([], [])).1.length) (n + 1) out
def PushQ (D : Nat → Prop) (g : Nat) (w : World) (ms : List Mg) (x : List Int × Int × List Int) (u : Value) (w' : World) : Prop := Kp D w w' ∧ ∃ v D', u = .tuple #[v, .int .i64 x.2.1] ∧ IsBd D' g w' ms x.2.2 ∧ (∀ k, D' k → D k ∨ w.heap.size ≤ k) ∧ Ow kRune (fun k => w.heap.size ≤ k ∧ ¬ D' k) (fun _ => False) w' v x.1
theorem lw_two {O w : World} {S : Nat → Prop} {g h : Nat} {cs ds : List Value} {e e' : TypeId} (ko : Kp S O w) (hb : w.heap[g]? = some (cb cs e)) (hb' : w.heap[h]? = some (cb ds e')) (hne : g ≠ h) (hS : O.heap.size ≤ g ∨ S g) (hS' : O.heap.size ≤ h ∨ S h) : Lw O S w (MK [(g, cb cs e), (h, cb ds e')]) [(g, cb cs e), (h, cb ds e')] w := by
  refine ⟨ko, Kp.refl _ _, fun q o hm => ?_, by simpa using hne, fun k hk => ⟨?_, .inr hk⟩⟩
  · cases hm with
    | hd => exact hb
    | tl h => cases h with
      | hd => exact hb'
      | tl h => cases h
  · obtain ⟨o, hm⟩ := hk
    cases hm with
    | hd => exact hS
    | tl h => cases h with
      | hd => exact hS'
      | tl h => cases h
theorem mk_two {g h k : Nat} {o o' : Obj} (hm : MK [(g, o), (h, o')] k) : k = g ∨ k = h := by
  obtain ⟨o, hm⟩ := hm
  cases hm with
  | hd => exact .inl rfl
  | tl h => cases h with
    | hd => exact .inr rfl
    | tl h => cases h
/-- What Push holds between its rounds. -/
structure PuI (D Gm Fm Gw : Nat → Prop) (g g6 : Nat) (w b : World) (vm vw vo : Value) (ms : List Mg) (x out : List Int) : Prop where
  m : Ow kMg Gm Fm b vm ms
  x : Ow kRune (fun k => Gw k ∨ (w.heap.size ≤ k ∧ k ≠ g6)) (fun _ => False) b vw x
  o : Ow kRune (fun k => w.heap.size ≤ k ∧ k ≠ g6) (fun _ => False) b vo out
  ne : ∀ k, vw.ownBlock = some k → vo.ownBlock ≠ some k
/-- What stays. -/
structure PuF (D Gm Fm Gw : Nat → Prop) (g g6 : Nat) (w : World) : Prop where
  dg : D g
  gw : g < w.heap.size
  g6 : w.heap.size ≤ g6
  gm : ∀ k, Gm k → D k ∧ k ≠ g ∧ ¬ Gw k ∧ k < w.heap.size
  fm : ∀ k, Fm k → D k ∧ k ≠ g ∧ ¬ Gw k ∧ k < w.heap.size
  gx : ∀ k, Gw k → D k ∧ k ≠ g ∧ k < w.heap.size
section
variable {D Gm Fm Gw : Nat → Prop} {g g6 : Nat} {w b b' : World} {vm vw vo : Value} {ms : List Mg} {x out : List Int}
theorem PuI.kp {S : Nat → Prop} (hF : PuF D Gm Fm Gw g g6 w) (h : PuI D Gm Fm Gw g g6 w b vm vw vo ms x out) (hk : Kp S b b') (hs : ∀ k, S k → k = g ∨ k = g6) : PuI D Gm Fm Gw g g6 w b' vm vw vo ms x out := by
  have n6 : ∀ k, k < w.heap.size → k ≠ g → ¬ S k := fun k h1 h2 h3 => (hs k h3).elim h2 fun e => by have := hF.g6; omega
  have n7 : ∀ k, w.heap.size ≤ k ∧ k ≠ g6 → ¬ S k := fun k h1 h3 => (hs k h3).elim (fun e => by have := hF.gw; omega) h1.2
  exact ⟨Kp.ow hk h.m (fun k hk => n6 k (hF.gm k hk).2.2.2 (hF.gm k hk).2.1) fun k hk => n6 k (hF.fm k hk).2.2.2 (hF.fm k hk).2.1, Kp.ow hk h.x (fun k hk => hk.elim (fun h => n6 k (hF.gx k h).2.2 (hF.gx k h).2.1) (n7 k)) fun _ h => h.elim, Kp.ow hk h.o n7 fun _ h => h.elim, h.ne⟩
theorem PuI.kpB {S : Nat → Prop} (hF : PuF D Gm Fm Gw g g6 w) (h : PuI D Gm Fm Gw g g6 w b vm vw vo ms x out) (hk : Kp S b b') (h1 : ∀ k, k < w.heap.size → S k → k = g) (h2 : ∀ k, vw.ownBlock = some k → ¬ S k) (h3 : ∀ k, vo.ownBlock = some k → ¬ S k) : PuI D Gm Fm Gw g g6 w b' vm vw vo ms x out :=
  ⟨Kp.ow hk h.m (fun k hk hs => (hF.gm k hk).2.1 (h1 k (hF.gm k hk).2.2.2 hs)) fun k hk hs => (hF.fm k hk).2.1 (h1 k (hF.fm k hk).2.2.2 hs), h.x.keep fun k hv => hk.block k (h.x.block k hv).2 (h2 k hv), h.o.keep fun k hv => hk.block k (h.o.block k hv).2 (h3 k hv), h.ne⟩
theorem PuI.kn (hF : PuF D Gm Fm Gw g g6 w) (h : PuI D Gm Fm Gw g g6 w b vm vw vo ms x out) (hk : Kn b b') : PuI D Gm Fm Gw g g6 w b' vm vw vo ms x out := h.kp hF hk fun _ h => h.elim
/-- At the end: what waits is x. -/
theorem PuI.fin (hF : PuF D Gm Fm Gw g g6 w) (h : PuI D Gm Fm Gw g g6 w b vm vw vo ms x out) (ko : Kp D w b) (hb : b.heap[g]? = some (cb [vm, vw] 60)) {e : Int} : PushQ D g w ms (out, e, x) (.tuple #[vo, .int .i64 e]) b := by
  refine ⟨ko, vo, fun k => (D k ∧ k < w.heap.size) ∨ vw.ownBlock = some k, rfl, ⟨.inl ⟨hF.dg, hF.gw⟩, vm, vw, Gm, Fm, fun k => vw.ownBlock = some k, hb, h.m, ?_, ?_, ?_, ?_⟩, ?_, ?_⟩
  · exact h.x.nE.mono (fun k hk _ => hk.2) fun _ h _ => h
  · exact fun k hk => ⟨.inl ⟨(hF.gm k hk).1, (hF.gm k hk).2.2.2⟩, (hF.gm k hk).2.1, fun e => (h.x.block k e).1.elim (hF.gm k hk).2.2.1 fun h' => by have := (hF.gm k hk).2.2.2; omega⟩
  · exact fun k hk => ⟨.inl ⟨(hF.fm k hk).1, (hF.fm k hk).2.2.2⟩, (hF.fm k hk).2.1, fun e => (h.x.block k e).1.elim (hF.fm k hk).2.2.1 fun h' => by have := (hF.fm k hk).2.2.2; omega⟩
  · exact fun k hk => ⟨.inr hk, (h.x.block k hk).1.elim (fun h' => (hF.gx k h').2.1) fun h' => by have := hF.gw; omega⟩
  · exact fun k hk => hk.elim (fun h' => .inl h'.1) fun e => (h.x.block k e).1.elim (fun h' => .inl (hF.gx k h').1) fun h' => .inr h'.1
  · exact h.o.nE.mono (fun k hk _ => ⟨hk.1.1, fun e => e.elim (fun h' => by have := hk.1.1; omega) fun e => h.ne k e hk.2⟩) fun _ h _ => h
theorem PuI.nilX (h : PuI D Gm Fm Gw g g6 w b vm vw vo ms x out) : PuI D Gm Fm Gw g g6 w b vm (.slice none 0 0) vo ms [] out := ⟨h.m, Ow.nil _ _ _ _, h.o, fun k hk => by cases hk⟩
end
end Go.Ink
