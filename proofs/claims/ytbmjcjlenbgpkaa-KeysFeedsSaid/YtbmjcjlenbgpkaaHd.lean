/-
  What is held and only read: told of the base, none of it may turn.
-/
import Derived.Test.YtbmjcjlenbgpkaaLn
set_option linter.unusedVariables false
set_option linter.unusedSimpArgs false
namespace Go.Ink
open Go Go.RowKit
/-- xs, at v, in the base; nothing of it may turn. -/
def Hd {α : Type} (d : Kd α) (B : World) (K : Nat → Prop) (v : Value) (xs : List α) : Prop := ∃ F : Nat → Prop, Sl d F B v xs ∧ ∀ k, F k → ¬ K k ∧ k < B.heap.size
section
variable {α : Type} {d : Kd α} {O B w w' : World} {S K K' F G : Nat → Prop} {M M3 : Mm} {v : Value} {xs : List α}
theorem Hd.now (h : Hd d B K v xs) (hw : Lw O S B K M w) : Sl d (fun _ => True) w v xs := by
  obtain ⟨F, h1, h2⟩ := h
  exact (Kp.sl hw.kp h1 fun k hk => (h2 k hk).1).any
theorem Hd.base (h : Hd d B K v xs) : Sl d (fun _ => True) B v xs := by
  obtain ⟨F, h1, h2⟩ := h
  exact h1.any
/-- Behind a call. -/
theorem Hd.next (h : Hd d B K v xs) (hw : Lw O S B K M w) (kn : Kn w w') : Hd d w' (MK M) v xs := by
  obtain ⟨F, h1, h2⟩ := h
  refine ⟨F, Kn.sl kn (Kp.sl hw.kp h1 fun k hk => (h2 k hk).1), fun k hk => ⟨hw.apart (h2 k hk).1 (h2 k hk).2, ?_⟩⟩
  have := (h2 k hk).2
  have := hw.kp.size
  have := kn.size
  omega
/-- Behind one that turns T. -/
theorem Hd.nextT {T : Nat → Prop} (h : Hd d B K v xs) (hw : Lw O S B K M w) (kn : Kp T w w') (hT : ∀ F, Sl d F B v xs → (∀ k, F k → ¬ K k ∧ k < B.heap.size) → ∀ k, F k → ¬ T k) : Hd d w' (MK M) v xs := by
  obtain ⟨F, h1, h2⟩ := h
  refine ⟨F, Kp.sl kn (Kp.sl hw.kp h1 fun k hk => (h2 k hk).1) (hT F h1 h2), fun k hk => ⟨hw.apart (h2 k hk).1 (h2 k hk).2, ?_⟩⟩
  have := (h2 k hk).2
  have := hw.kp.size
  have := kn.size
  omega
theorem Hd.less (h : Hd d B K v xs) (hK : ∀ k, K' k → K k) : Hd d B K' v xs := by
  obtain ⟨F, h1, h2⟩ := h
  exact ⟨F, h1, fun k hk => ⟨fun h => (h2 k hk).1 (hK k h), (h2 k hk).2⟩⟩
/-- The world that is there is the base now. -/
theorem Hd.re (h : Hd d B K v xs) (hw : Lw O S B K M w) (hs : MSub M3 M) : Hd d w (MK M3) v xs := by
  obtain ⟨F, h1, h2⟩ := h
  refine ⟨F, Kp.sl hw.kp h1 fun k hk => (h2 k hk).1, fun k hk => ⟨fun ⟨o, hm⟩ => hw.apart (h2 k hk).1 (h2 k hk).2 ⟨o, hs.mem hm⟩, ?_⟩⟩
  have := (h2 k hk).2
  have := hw.kp.size
  omega
/-- What a call has made. -/
theorem Hd.of (h : Ow d (noB w) F w' v xs) (hw : Lw O S B K M w) (hF : ∀ k, F k → noB w k := by first | exact fun _ h => h | exact fun _ h => h.elim) : Hd d w' (MK M) v xs := by
  refine ⟨fun k => noB w k ∧ k < w'.heap.size, h.sl.mono fun k hk hl => ⟨hk.elim id (hF k), hl⟩, fun k hk => ⟨fun hm => ?_, hk.2⟩⟩
  have := hw.lt hm
  have := hk.1
  unfold noB at this
  omega
/-- What was there ahead of the function. -/
theorem Hd.org (h : Sl d F O v xs) (hK : ∀ k, K k → O.heap.size ≤ k) : Hd d O K v xs :=
  ⟨fun k => k < O.heap.size, h.old, fun k hk => ⟨fun hm => by have := hK k hm; omega, hk⟩⟩
theorem Hd.here (h : Sl d F w v xs) (hw : Lw O S B K M w) (hs : MSub M3 M) (hF : ∀ k, F k → ¬ MK M3 k) : Hd d w (MK M3) v xs :=
  ⟨fun k => F k ∧ k < w.heap.size, h.mono fun k hk hl => ⟨hk, hl⟩, fun k hk => ⟨hF k hk.1, hk.2⟩⟩
theorem Hd.hereNil (h : Sl d F w v xs) : Hd d w (MK []) v xs := ⟨fun k => k < w.heap.size, h.old, fun k hk => ⟨mk_nil, hk⟩⟩
theorem Hd.form (h : Hd d B K v xs) : ∃ A c, v = .slice A xs.length c ∧ xs.length ≤ c ∧ Fits d xs.length := by obtain ⟨F, h1, _⟩ := h; exact h1.form
theorem Hd.nil (d : Kd α) (B : World) (K : Nat → Prop) : Hd d B K (.slice none 0 0) [] := ⟨fun _ => False, Sl.nil _ _ _, fun _ h => h.elim⟩
end
/-- A literal row. -/
theorem sl_row {F : Nat → Prop} {w : World} {g : Nat} {e : TypeId} {fr : Nat × Nat} {xs : List Int} (hb : w.heap[g]? = some (.cells (xs.map (Value.int .i32 ·)).toArray e fr)) (hF : F g) (hx : ∀ x ∈ xs, -2147483648 ≤ x ∧ x ≤ 2147483647) (hl : xs.length ≤ 1048576) : Sl kRune F w (.slice (some ⟨g, 0, none⟩) xs.length xs.length) xs := by
  refine sl_blk (d := kRune) hb ?_ hF (by show xs.length * 4 ≤ 140737488355328; omega)
  clear hb hl
  induction xs with
  | nil => exact rfl
  | cons x xs ih => exact ⟨_, _, rfl, ⟨rfl, hx x (by simp)⟩, ih fun y hy => hx y (by simp [hy])⟩
theorem sl_lines1 {F : Nat → Prop} {w : World} {g : Nat} {e : TypeId} {fr : Nat × Nat} {x : List Int} {u : Value} (hb : w.heap[g]? = some (.cells #[u] e fr)) (hF : F g) (hx : Sl kRune F w u x) : Sl kRow F w (.slice (some ⟨g, 0, none⟩) 1 1) [x] :=
  sl_blk (d := kRow) (xs := [x]) hb ⟨[u], [], rfl, ⟨u, rfl, hx⟩, rfl⟩ hF (by show 1 * 24 ≤ 140737488355328; decide)
theorem sl_lines2 {F : Nat → Prop} {w : World} {g : Nat} {e : TypeId} {fr : Nat × Nat} {x y : List Int} {u u' : Value} (hb : w.heap[g]? = some (.cells #[u, u'] e fr)) (hF : F g) (hx : Sl kRune F w u x) (hy : Sl kRune F w u' y) : Sl kRow F w (.slice (some ⟨g, 0, none⟩) 2 2) [x, y] :=
  sl_blk (d := kRow) (xs := [x, y]) hb ⟨[u], [u'], rfl, ⟨u, rfl, hx⟩, [u'], [], rfl, ⟨u', rfl, hy⟩, rfl⟩ hF (by show 2 * 24 ≤ 140737488355328; decide)
end Go.Ink
