/-
  Appends in drawn regions to memory that is new since the region began.
-/
import Derived.Test.YtepjngapfmfkeaaLn
set_option linter.unusedVariables false
set_option linter.unusedSimpArgs false
namespace Go.Ink
open Go Go.RowKit
/-- The blocks of X, as they are in w. -/
def updM (w : World) (X : Mm) : Mm := X.map fun p => (p.1, (w.heap[p.1]?).getD p.2)
theorem updM_keys (w : World) (X : Mm) : (updM w X).map (·.1) = X.map (·.1) := by
  unfold updM; rw [List.map_map]; rfl
theorem updM_mk {w : World} {X : Mm} {k : Nat} : MK (updM w X) k ↔ MK X k := by rw [MK_iff, MK_iff, updM_keys]
theorem updM_mem {w : World} {X : Mm} {k : Nat} {o : Obj} (h : MIn k o (updM w X)) (hk : k < w.heap.size) : w.heap[k]? = some o := by
  have h1 := h.mem
  unfold updM at h1
  obtain ⟨⟨g, o0⟩, _, he⟩ := List.mem_map.1 h1
  obtain ⟨rfl, rfl⟩ := Prod.mk.inj he
  rw [Array.getElem?_eq_getElem hk]
  rfl
theorem mk_app {A B : Mm} {k : Nat} : MK (A ++ B) k ↔ MK A k ∨ MK B k := by rw [MK_iff, MK_iff, MK_iff, List.map_append, List.mem_append]
theorem mcat_self {M : Mm} : ∀ {X : Mm}, MCat X M (X ++ M)
  | [] => .nil
  | _ :: _ => .cons mcat_self
section
variable {P : Program} {fn : Func} {k : List Item} {σ : Sig} {O B : World} {S K : Nat → Prop} {X M : Mm} {R : Pt} {ops : Array Oper} {listed : Array Bool} {l : List (Nat × Nat)} {i : Nat}
variable {dd : Option Nat} {op : Op} {oty : TypeId} {opos : String} {oaf : Array Edge} {og : Option (Nat × Bool)}
theorem ld_appendN {α : Type} {d : Kd α} [ScK d] {x y : Operand} {t e : TypeId} {sz bytes : Nat} {z : Value} [hT : SlT P t e] [hE : ElT P e sz bytes z] {F2 : Nat → Prop} {v u : Value} {xs ys : List α} (hx : ev σ x = some v) (hy : ev σ y = some u)
    (hO : ∀ w, Lw O S B K (X ++ M) w → Ow d (MK X) (fun _ => False) w v xs) (hS : ∀ w, Lw O S B K (X ++ M) w → Sl d F2 w u ys) (hne : ∀ k, F2 k → v.ownBlock = some k → False) (hlen : (xs.length + ys.length) * bytes ≤ 140737488355328) (hsz : d.sz = sz) (hby : d.bytes = bytes) (hz : z.cells.size = sz) (hg : wants ops σ ⟨dd, .call { callee := .builtin .append, args := #[x, y], argTypes := #[t, t] }, oty, opos, oaf, og⟩ true) (hd : okD dd fn.ntmps = true)
    (h : ∀ A n X', (∀ k, MK X' k → MK X k ∨ O.heap.size ≤ k ∧ B.heap.size ≤ k) → (∀ k, (Value.slice A (xs ++ ys).length n).ownBlock = some k → MK X' k) → (∀ w' : World, (∀ g o, MIn g o X' → w'.heap[g]? = some o) → Ow d (MK X') (fun _ => False) w' (.slice A (xs ++ ys).length n) (xs ++ ys)) → WLd P fn ops (listed.setIfInBounds i true) l k (putS dd (.slice A (xs ++ ys).length n) σ) O S B K X' M R) :
    WLdo P fn ops listed i 1 (⟨dd, .call { callee := .builtin .append, args := #[x, y], argTypes := #[t, t] }, oty, opos, oaf, og⟩ : Oper) l k σ O S B K X M R := by
  unfold WLdo
  refine fun w w2 h1 h2 h3 h4 h5 => ?_
  have hO2 := hO w2 h2
  have hob := hO2.block
  refine x_any (e_append2 hx hy hO2 (hS w2 h2) hne hlen hsz hby hz) hg hd fun v' w' hA => .inl ?_
  have hs2 := hA.kp.size
  have hsO := h2.org.size
  have hsB := h2.kp.size
  obtain ⟨A, n, rfl, _⟩ := hA.ow.form
  have hlt : ∀ k, MK X k → k < w2.heap.size := fun k hk => h2.lt (mk_app.2 (.inl hk))
  obtain ⟨N, hN, hcov⟩ := news_of (w := w2) (w' := { w2 with heap := w2.heap ++ w'.heap.extract w2.heap.size w'.heap.size }) ⟨rfl, rfl, rfl, by simp, fun k hk _ => by simp [Array.getElem?_append_left hk]⟩
  have hext : ∀ k, w2.heap.size ≤ k → k < w'.heap.size → (w2.heap ++ w'.heap.extract w2.heap.size w'.heap.size)[k]? = w'.heap[k]? := fun k h1 h2 => by
    rw [Array.getElem?_append_right h1, Array.getElem?_extract, if_pos (by omega)]
    congr 1; omega
  have hsz' : (w2.heap ++ w'.heap.extract w2.heap.size w'.heap.size).size = w'.heap.size := by simp; omega
  have hNmem : ∀ g o, MIn g o N → w'.heap[g]? = some o := fun g o hm => by
    have h8 := hN.mem g o hm
    have h9 := hN.ge g ⟨o, hm⟩
    have h10 := blk_lt h8
    simp only at h8 h10
    rw [hsz'] at h10
    rw [hext g h9 h10] at h8
    exact h8
  have hSt : St w w' := fun k hk => by
    rw [hA.kp.block k (by omega) (fun e => by have := h5 k (hob k e).1; omega)]
    exact h3 k hk
  have hX' : Lw O S B K ((N ++ updM w' X) ++ M) w' := by
    refine ⟨Kp.then h2.org hA.kp (fun _ h => h) fun k hk e => ?_, Kp.then h2.kp hA.kp (fun _ h => h) fun k hk e => ?_, fun g o hm => ?_, ?_, fun k hk => ?_⟩
    · rcases (h2.ge k (mk_app.2 (.inl (hob k e).1))).1 with h | h
      · omega
      · exact h
    · rcases (h2.ge k (mk_app.2 (.inl (hob k e).1))).2 with h | h
      · omega
      · exact h
    · rcases List.mem_append.1 hm.mem with hm' | hm'
      · rcases List.mem_append.1 hm' with hm' | hm'
        · exact hNmem g o (MIn.of_mem hm')
        · exact updM_mem (MIn.of_mem hm') (by have := hlt g (updM_mk.1 ⟨o, MIn.of_mem hm'⟩); omega)
      · refine hA.kp.blk (h2.mem g o (min_app (MIn.of_mem hm'))) fun e => ?_
        have hnd := h2.nd
        rw [List.map_append, List.nodup_append] at hnd
        exact hnd.2.2 g (MK_iff.1 (hob g e).1) g (MK_iff.1 ⟨o, MIn.of_mem hm'⟩) rfl
    · have hnd := h2.nd
      rw [List.append_assoc, List.map_append, List.map_append, updM_keys, ← List.map_append, List.nodup_append]
      refine ⟨hN.nd, hnd, fun a ha b hb e => ?_⟩
      subst e
      have h8 := hN.ge a (MK_iff.2 ha)
      have h9 := h2.lt (MK_iff.2 hb)
      omega
    · rcases mk_app.1 hk with hk | hk
      · rcases mk_app.1 hk with hk | hk
        · have h8 := hN.ge k hk; exact ⟨.inl (by omega), .inl (by omega)⟩
        · exact h2.ge k (mk_app.2 (.inl (updM_mk.1 hk)))
      · exact h2.ge k (mk_app.2 (.inr hk))
  have hfin := h A n (N ++ updM w' X) (fun k hk => (mk_app.1 hk).elim (fun hk => .inr (by have := hN.ge k hk; omega)) fun hk => .inl (updM_mk.1 hk)) (fun k hk => by
    have h8 := hA.ow.block k hk
    rcases h8.1 with h9 | h9
    · exact mk_app.2 (.inr (updM_mk.2 h9))
    · obtain ⟨o, hm, _⟩ := hcov k h9 (by simp only; rw [hsz']; exact h8.2)
      exact mk_app.2 (.inl ⟨o, hm⟩)) fun w'' hw'' => by
    refine ((hA.ow.sc (F' := fun _ => False)).mono (G' := fun k => MK (N ++ updM w' X) k ∧ k < w'.heap.size) (F' := fun _ => False) (fun k hk hl => ⟨?_, hl⟩) fun _ h _ => h).move (fun k hk hl => ?_) |>.mono (fun k hk _ => hk.1) fun _ h _ => h
    · rcases hk with hk | hk
      · exact mk_app.2 (.inr (updM_mk.2 hk))
      · obtain ⟨o, hm, _⟩ := hcov k hk (by simp only; rw [hsz']; exact hl)
        exact mk_app.2 (.inl ⟨o, hm⟩)
    · rcases hk with ⟨⟨o, hm⟩, _⟩ | hk
      · rw [hw'' k o hm, hX'.mem k o (min_l hm)]
      · exact hk.elim
  unfold WLd at hfin
  refine ⟨hSt, hfin w w' h1 hX' hSt (by omega) fun g hg => ?_⟩
  rcases mk_app.1 hg with hg | hg
  · have := hN.ge g hg; omega
  · exact h5 g (updM_mk.1 hg)
/-- A call in a drawn region that hands back memory of its own: N. -/
theorem ld_callO {f : FuncId} {args : Array Value} {α : Type} {d : Kd α} {F : Nat → Prop} {xs : List α} (hrun : En P fn.ntmps σ ⟨dd, op, oty, opos, oaf, og⟩ f args) (hg : wants ops σ ⟨dd, op, oty, opos, oaf, og⟩ true) (hd : okD dd fn.ntmps = true) (hc : ∀ w, Lw O S B K (X ++ M) w → CallsR P f args w fun u w' => Kn w w' ∧ Ow d (noB w) (fun k => noB w k ∧ F k) w' u xs)
    (h : ∀ A n N, (∀ k, MK N k → O.heap.size ≤ k ∧ B.heap.size ≤ k) → (∀ w' : World, (∀ g o, MIn g o N → w'.heap[g]? = some o) → Ow d (MK N) (MK N) w' (.slice A xs.length n) xs) → WLd P fn ops (listed.setIfInBounds i true) l k (putS dd (.slice A xs.length n) σ) O S B K (N ++ X) M R) : WLdo P fn ops listed i 1 (⟨dd, op, oty, opos, oaf, og⟩ : Oper) l k σ O S B K X M R := by
  refine ld_callX (Φ := fun u N => ∃ w w', Lw O S B K (X ++ M) w ∧ News w w' N ∧ Ow d (noB w) (fun k => noB w k ∧ F k) w' u xs ∧ Cover w w' N) hrun hg hd (fun w hw => (hc w hw).mono fun u w' ⟨h1, h2⟩ => by
    obtain ⟨N, h3, h4⟩ := news_of h1
    exact ⟨N, h3, w, w', hw, h3, h2, h4⟩) fun u N ⟨w, w', h1, h2, h3, h4⟩ => ?_
  obtain ⟨A, n, rfl, _⟩ := h3.form
  refine h A n N (fun k hk => by have := h2.ge k hk; have := h1.org.size; have := h1.kp.size; omega) fun w'' hw'' => ?_
  refine (h3.mono (G' := fun k => noB w k ∧ k < w'.heap.size) (F' := fun k => noB w k ∧ k < w'.heap.size) (fun k hk hl => ⟨hk, hl⟩) fun k hk hl => ⟨hk.1, hl⟩).move (fun k hk hl => ?_) |>.mono (fun k hk _ => ?_) fun k hk _ => ?_
  · have hk' : noB w k ∧ k < w'.heap.size := hk.elim id id
    obtain ⟨o, hm, ho⟩ := h4 k hk'.1 hk'.2
    rw [hw'' k o hm, ho]
  · obtain ⟨o, hm, ho⟩ := h4 k hk.1 hk.2
    exact ⟨o, hm⟩
  · obtain ⟨o, hm, ho⟩ := h4 k hk.1 hk.2
    exact ⟨o, hm⟩
end
end Go.Ink
