/-
  Slices of one's own that grow: the base goes on.
-/
import Derived.Test.YtepjngapfmfkeaaLm
import Derived.Test.YtepjngapfmfkeaaAct2
set_option linter.unusedVariables false
set_option linter.unusedSimpArgs false
namespace Go.Ink
open Go Go.RowKit

/-- A block since O that is none of K's. -/
abbrev fre (O : World) (K : Nat → Prop) : Nat → Prop := fun k => O.heap.size ≤ k ∧ ¬ K k
/-- An own slice in the base. -/
abbrev Og {α : Type} (d : Kd α) (O B : World) (K F : Nat → Prop) (v : Value) (xs : List α) : Prop := Ow d (fre O K) F B v xs
section
variable {α : Type} {d : Kd α} {O B w w' : World} {S K F F2 : Nat → Prop} {M : Mm} {v v' : Value} {xs zs : List α}
theorem Og.now (h : Og d O B K F v xs) (hF : ∀ k, F k → ¬ K k) (hw : Lw O S B K M w) : Ow d (fre O K) F w v xs := Kp.ow hw.kp h (fun _ h => h.2) hF
theorem Lw.apart (hw : Lw O S B K M w) {k : Nat} (hk : ¬ K k) (hb : k < B.heap.size) : ¬ MK M k := fun h => ((hw.ge k h).2).elim (fun h => by omega) hk
/-- Behind an append. -/
theorem Og.app (h : Og d O B K F v xs) (hw : Lw O S B K M w) (hA : App d (fre O K) F2 w v zs v' w') : Og d O w' (MK M) F2 v' zs := by
  have hs := hw.org.size
  have hb := h.block
  have key : ∀ k, v'.ownBlock = some k → fre O (MK M) k := fun k hk => by
    rcases hA.blk with e | ⟨g, e, hg⟩
    · rw [e] at hk
      obtain ⟨⟨h1, h2⟩, h3⟩ := hb k hk
      exact ⟨h1, hw.apart h2 h3⟩
    · rw [e] at hk
      cases hk
      exact ⟨by omega, fun hm => by have := hw.lt hm; omega⟩
  obtain ⟨cells, h1, h2, h3⟩ := hA.ow
  refine ⟨cells, h1, h2, h3.imp id ?_⟩
  rintro ⟨g, o, cap, cur, e, rfl, hg, h4⟩
  exact ⟨g, o, cap, cur, e, rfl, key g rfl, h4⟩
theorem Lw.app (hw : Lw O S B K M w) (h : Og d O B K F v xs) (hA : App d (fre O K) F2 w v zs v' w') : Lw O S w' (MK M) M w' := by
  have hb := h.block
  exact ⟨Kp.then hw.org hA.kp (fun _ h => h) (fun k hl hk => by have := (hb k hk).1.1; omega), Kp.refl _ _, fun k u hm => hA.kp.blk (hw.mem k u hm) (fun hk => hw.apart (hb k hk).1.2 (hb k hk).2 ⟨u, hm⟩), hw.nd, fun k hm => ⟨(hw.ge k hm).1, .inr hm⟩⟩
theorem App.old {G : Nat → Prop} (hw : Lw O S B K M w) (hA : App d G F2 w v zs v' w') : ∀ k, v'.ownBlock = some k → v.ownBlock = some k ∨ B.heap.size ≤ k := fun k hk => by
  have := hw.kp.size
  rcases hA.blk with e | ⟨g, e, hg⟩
  · rw [e] at hk; exact .inl hk
  · rw [e] at hk; cases hk; exact .inr (by omega)
/-- What is told of the base is so behind it, of all but the own block. -/
theorem App.keep {G : Nat → Prop} (hw : Lw O S B K M w) (hA : App d G F2 w v zs v' w') : Kp (fun k => K k ∨ v.ownBlock = some k) B w' :=
  Kp.then (hw.kp.mono fun _ _ h => .inl h) hA.kp (fun _ h => h) fun k _ hk => .inr hk
end
section
variable {P : Program} {fn : Func} {k : List Item} {σ : Sig} {O B : World} {S K : Nat → Prop} {X M M' : Mm} {R : Pt} {ops : Array Oper} {rest : List Oper} {listed : Array Bool} {l : List (Nat × Nat)} {i kd : Nat}
variable {dd : Option Nat} {op : Op} {oty : TypeId} {opos : String} {oaf : Array Edge} {og : Option (Nat × Bool)}
/-- append, of elements that lie elsewhere. -/
theorem lo_append {α : Type} {d : Kd α} {x y : Operand} {t e : TypeId} {sz bytes : Nat} {z : Value} [hT : SlT P t e] [hE : ElT P e sz bytes z] {F F2 : Nat → Prop} {v u : Value} {xs ys : List α} (hx : ev σ x = some v) (hy : ev σ y = some u)
    (hO : Og d O B K F v xs) (hF : ∀ k, F k → ¬ K k) (hS : ∀ w, Lw O S B K M w → Sl d F2 w u ys) (hne : ∀ k, F2 k → v.ownBlock = some k → False) (hlen : (xs.length + ys.length) * bytes ≤ 140737488355328) (hsz : d.sz = sz) (hby : d.bytes = bytes) (hz : z.cells.size = sz) (hd : okD dd fn.ntmps = true)
    (h : ∀ w v' w', Lw O S B K M w → Kp S O w' → Kp (fun k => K k ∨ v.ownBlock = some k) B w' → (∀ k, v'.ownBlock = some k → v.ownBlock = some k ∨ B.heap.size ≤ k) → Og d O w' (MK M) (fun k => F k ∨ F2 k) v' (xs ++ ys) → WLo P fn ops rest k (putS dd v' σ) O S w' (MK M) M R) :
    WLo P fn ops ((⟨dd, .call { callee := .builtin .append, args := #[x, y], argTypes := #[t, t] }, oty, opos, oaf, none⟩ : Oper) :: rest) k σ O S B K M R := by
  unfold WLo at *
  exact fun w hw => o_any (e_append2 hx hy (hO.now hF hw) (hS w hw) hne hlen hsz hby hz) (wants_none rfl) hd fun v' w' hA => h w v' w' hw (hw.app hO hA).org (App.keep hw hA) (App.old hw hA) (hO.app hw hA) w' (hw.app hO hA)
/-- Of elements that hang on no memory. -/
theorem lo_appendS {α : Type} {d : Kd α} [ScK d] {x y : Operand} {t e : TypeId} {sz bytes : Nat} {z : Value} [hT : SlT P t e] [hE : ElT P e sz bytes z] {F2 : Nat → Prop} {v u : Value} {xs ys : List α} (hx : ev σ x = some v) (hy : ev σ y = some u)
    (hO : Og d O B K (fun _ => False) v xs) (hS : ∀ w, Lw O S B K M w → Sl d F2 w u ys) (hne : ∀ k, F2 k → v.ownBlock = some k → False) (hlen : (xs.length + ys.length) * bytes ≤ 140737488355328) (hsz : d.sz = sz) (hby : d.bytes = bytes) (hz : z.cells.size = sz) (hd : okD dd fn.ntmps = true)
    (h : ∀ w A n w', Lw O S B K M w → Kp S O w' → Kp (fun k => K k ∨ v.ownBlock = some k) B w' → (∀ k, (Value.slice A (xs ++ ys).length n).ownBlock = some k → v.ownBlock = some k ∨ B.heap.size ≤ k) → Og d O w' (MK M) (fun _ => False) (.slice A (xs ++ ys).length n) (xs ++ ys) → WLo P fn ops rest k (putS dd (.slice A (xs ++ ys).length n) σ) O S w' (MK M) M R) :
    WLo P fn ops ((⟨dd, .call { callee := .builtin .append, args := #[x, y], argTypes := #[t, t] }, oty, opos, oaf, none⟩ : Oper) :: rest) k σ O S B K M R :=
  lo_append hx hy hO (fun _ h => h.elim) hS hne hlen hsz hby hz hd fun w v' w' h1 h2 h3 h5 h4 => by
    obtain ⟨A, n, rfl, _⟩ := h4.form
    exact h w A n w' h1 h2 h3 h5 h4.sc
end
end Go.Ink
