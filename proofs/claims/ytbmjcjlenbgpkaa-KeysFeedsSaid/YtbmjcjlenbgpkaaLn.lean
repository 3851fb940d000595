/-
  Lines that are laid out by literals: calls behind which the base is told, and what may turn.
  Slices of one's own that grow: the base goes on.
  Calls in drawn regions that hand back what lies in memory of their own: N, all that is new.
-/
import Derived.Test.YtbmjcjlenbgpkaaLit
import Derived.Test.YtbmjcjlenbgpkaaBr
import Derived.Test.YtbmjcjlenbgpkaaApp
import Derived.Test.YtbmjcjlenbgpkaaRow
import Derived.Test.YtbmjcjlenbgpkaaLst
import Derived.Test.YtbmjcjlenbgpkaaAct2
set_option linter.unusedVariables false
set_option linter.unusedSimpArgs false
namespace Go.Ink
open Go Go.RowKit

section
variable {P : Program} {fn : Func} {k : List Item} {σ : Sig} {O B : World} {S K : Nat → Prop} {X M M' : Mm} {R : Pt} {ops : Array Oper} {rest : List Oper} {listed : Array Bool} {l : List (Nat × Nat)} {i kd : Nat}
variable {dd : Option Nat} {op : Op} {oty : TypeId} {opos : String} {oaf : Array Edge} {og : Option (Nat × Bool)}
/-- One that hands back what is told by Φ, in a world that is the new base; M may turn. -/
theorem lo_callM {f : FuncId} {args : Array Value} {Φ : World → Value → World → Prop} (hrun : En P fn.ntmps σ ⟨dd, op, oty, opos, oaf, none⟩ f args) (hd : okD dd fn.ntmps = true) (hc : ∀ w, Lw O S B K M w → CallsR P f args w fun u w' => Kn w w' ∧ Φ w u w')
    (h : ∀ w u w', Lw O S B K M w → Kn w w' → Kp S O w' → Φ w u w' → WLo P fn ops rest k (putS dd u σ) O S w' (MK M) M R) : WLo P fn ops ((⟨dd, op, oty, opos, oaf, none⟩ : Oper) :: rest) k σ O S B K M R := by
  unfold WLo at *
  exact fun w hw => o_enter hrun (wants_none rfl) hd ((hc w hw).mono fun u w' ⟨h1, h2⟩ => h w u w' hw h1 (hw.kn h1).org h2 w' (hw.kn h1).base)
end
theorem one_rowL {O B : World} {S K : Nat → Prop} {M : Mm} {w0 w : World} {A : Option Addr} {c g : Nat} {xs : List Int} {e : TypeId} (hw : Lw O S B K M w) (h : Ow kRune (noB w0) (fun _ => False) B (.slice A xs.length c) xs) (hK : ∀ k, K k → k < w0.heap.size) (hg : w0.heap.size ≤ g) (hm : MIn g (cb [.slice A xs.length c] e) M) : Sl kRow (noB w0) w (.slice (some ⟨g, 0, none⟩) 1 1) [xs] :=
  sl_blk (d := kRow) (xs := [xs]) (cells := [.slice A xs.length c]) (hw.mem g _ hm) ⟨_, [], rfl, ⟨_, rfl, (Kp.sl hw.kp h.sl (fun k hk hK' => by
    have := hK k hK'
    rcases hk with hk | hk
    · unfold noB at hk; omega
    · exact hk)).mono fun k hk _ => hk.elim id False.elim⟩, rfl⟩ hg (show 1 * 24 ≤ 140737488355328 by decide)
theorem two_rowL {O B : World} {S K : Nat → Prop} {M : Mm} {w0 w : World} {A A' : Option Addr} {c c' g : Nat} {xs ys : List Int} {e : TypeId} (hw : Lw O S B K M w) (h : Sl kRune (noB w0) B (.slice A xs.length c) xs) (h' : Sl kRune (noB w0) B (.slice A' ys.length c') ys) (hK : ∀ k, K k → k < w0.heap.size) (hg : w0.heap.size ≤ g) (hm : MIn g (cb [.slice A xs.length c, .slice A' ys.length c'] e) M) : Sl kRow (noB w0) w (.slice (some ⟨g, 0, none⟩) 2 2) [xs, ys] :=
  have hn : ∀ k, noB w0 k → ¬ K k := fun k hk hK' => by have := hK k hK'; unfold noB at hk; omega
  sl_blk (d := kRow) (xs := [xs, ys]) (cells := [.slice A xs.length c, .slice A' ys.length c']) (hw.mem g _ hm) ⟨_, [.slice A' ys.length c'], rfl, ⟨_, rfl, Kp.sl hw.kp h hn⟩, _, [], rfl, ⟨_, rfl, Kp.sl hw.kp h' hn⟩, rfl⟩ hg (show 2 * 24 ≤ 140737488355328 by decide)
theorem hk4 {O b w0 w' : World} {S : Nat → Prop} {M M' : Mm} {l : List (List Int)} {v : Value} (hM : ∀ k, MK M' k → k < w0.heap.size) (h : Sl kRow (noB w0) b v l) (hw : Lw O S b (MK M') M w') : Sl kRow (noB w0) w' v l :=
  Kp.sl hw.kp h fun k hk h => by have := hM k h; unfold noB at hk; omega
theorem mk_nil {k : Nat} : ¬ MK [] k := fun ⟨_, h⟩ => by cases h
end Go.Ink

set_option linter.unusedVariables false
set_option linter.unusedSimpArgs false
namespace Go.Ink
open Go Go.RowKit

/-- A block since O that is none of K's. -/
abbrev fre (O : World) (K : Nat → Prop) : Nat → Prop := fun k => O.heap.size ≤ k ∧ ¬ K k
/-- An own slice in the base. -/
abbrev Og {α : Type} (d : Kd α) (O B : World) (K F : Nat → Prop) (v : Value) (xs : List α) : Prop := Ow d (fre O K) F B v xs
section
variable {α : Type} {d : Kd α} {O B w w' : World} {S K F F2 : Nat → Prop} {M : Mm} {v v' : Value} {xs zs : List α}
theorem Og.now (h : Og d O B K F v xs) (hF : ∀ k, F k → ¬ K k) (hw : Lw O S B K M w) : Ow d (fre O K) F w v xs := Kp.ow hw.kp h (fun _ h => h.2) hF
theorem Lw.apart (hw : Lw O S B K M w) {k : Nat} (hk : ¬ K k) (hb : k < B.heap.size) : ¬ MK M k := fun h => ((hw.ge k h).2).elim (fun h => by omega) hk
/-- Behind an append. -/
theorem Og.app (h : Og d O B K F v xs) (hw : Lw O S B K M w) (hA : App d (fre O K) F2 w v zs v' w') : Og d O w' (MK M) F2 v' zs := by
  have hs := hw.org.size
  have hb := h.block
  have key : ∀ k, v'.ownBlock = some k → fre O (MK M) k := fun k hk => by
    rcases hA.blk with e | ⟨g, e, hg⟩
    · rw [e] at hk
      obtain ⟨⟨h1, h2⟩, h3⟩ := hb k hk
      exact ⟨h1, hw.apart h2 h3⟩
    · rw [e] at hk
      cases hk
      exact ⟨by omega, fun hm => by have := hw.lt hm; omega⟩
  obtain ⟨cells, h1, h2, h3⟩ := hA.ow
  refine ⟨cells, h1, h2, h3.imp id ?_⟩
  rintro ⟨g, o, cap, cur, e, rfl, hg, h4⟩
  exact ⟨g, o, cap, cur, e, rfl, key g rfl, h4⟩
theorem Lw.app (hw : Lw O S B K M w) (h : Og d O B K F v xs) (hA : App d (fre O K) F2 w v zs v' w') : Lw O S w' (MK M) M w' := by
  have hb := h.block
  exact ⟨Kp.then hw.org hA.kp (fun _ h => h) (fun k hl hk => by have := (hb k hk).1.1; omega), Kp.refl _ _, fun k u hm => hA.kp.blk (hw.mem k u hm) (fun hk => hw.apart (hb k hk).1.2 (hb k hk).2 ⟨u, hm⟩), hw.nd, fun k hm => ⟨(hw.ge k hm).1, .inr hm⟩⟩
theorem App.old {G : Nat → Prop} (hw : Lw O S B K M w) (hA : App d G F2 w v zs v' w') : ∀ k, v'.ownBlock = some k → v.ownBlock = some k ∨ B.heap.size ≤ k := fun k hk => by
  have := hw.kp.size
  rcases hA.blk with e | ⟨g, e, hg⟩
  · rw [e] at hk; exact .inl hk
  · rw [e] at hk; cases hk; exact .inr (by omega)
/-- What is told of the base is so behind it, of all but the own block. -/
theorem App.keep {G : Nat → Prop} (hw : Lw O S B K M w) (hA : App d G F2 w v zs v' w') : Kp (fun k => K k ∨ v.ownBlock = some k) B w' :=
  Kp.then (hw.kp.mono fun _ _ h => .inl h) hA.kp (fun _ h => h) fun k _ hk => .inr hk
end
section
variable {P : Program} {fn : Func} {k : List Item} {σ : Sig} {O B : World} {S K : Nat → Prop} {X M M' : Mm} {R : Pt} {ops : Array Oper} {rest : List Oper} {listed : Array Bool} {l : List (Nat × Nat)} {i kd : Nat}
variable {dd : Option Nat} {op : Op} {oty : TypeId} {opos : String} {oaf : Array Edge} {og : Option (Nat × Bool)}
/-- append, of elements that lie elsewhere. -/
theorem lo_append {α : Type} {d : Kd α} {x y : Operand} {t e : TypeId} {sz bytes : Nat} {z : Value} [hT : SlT P t e] [hE : ElT P e sz bytes z] {F F2 : Nat → Prop} {v u : Value} {xs ys : List α} (hx : ev σ x = some v) (hy : ev σ y = some u)
    (hO : Og d O B K F v xs) (hF : ∀ k, F k → ¬ K k) (hS : ∀ w, Lw O S B K M w → Sl d F2 w u ys) (hne : ∀ k, F2 k → v.ownBlock = some k → False) (hlen : (xs.length + ys.length) * bytes ≤ 140737488355328) (hsz : d.sz = sz) (hby : d.bytes = bytes) (hz : z.cells.size = sz) (hd : okD dd fn.ntmps = true)
    (h : ∀ w v' w', Lw O S B K M w → Kp S O w' → Kp (fun k => K k ∨ v.ownBlock = some k) B w' → (∀ k, v'.ownBlock = some k → v.ownBlock = some k ∨ B.heap.size ≤ k) → Og d O w' (MK M) (fun k => F k ∨ F2 k) v' (xs ++ ys) → WLo P fn ops rest k (putS dd v' σ) O S w' (MK M) M R) :
    WLo P fn ops ((⟨dd, .call { callee := .builtin .append, args := #[x, y], argTypes := #[t, t] }, oty, opos, oaf, none⟩ : Oper) :: rest) k σ O S B K M R := by
  unfold WLo at *
  exact fun w hw => o_any (e_append2 hx hy (hO.now hF hw) (hS w hw) hne hlen hsz hby hz) (wants_none rfl) hd fun v' w' hA => h w v' w' hw (hw.app hO hA).org (App.keep hw hA) (App.old hw hA) (hO.app hw hA) w' (hw.app hO hA)
/-- Of elements that hang on no memory. -/
theorem lo_appendS {α : Type} {d : Kd α} [ScK d] {x y : Operand} {t e : TypeId} {sz bytes : Nat} {z : Value} [hT : SlT P t e] [hE : ElT P e sz bytes z] {F2 : Nat → Prop} {v u : Value} {xs ys : List α} (hx : ev σ x = some v) (hy : ev σ y = some u)
    (hO : Og d O B K (fun _ => False) v xs) (hS : ∀ w, Lw O S B K M w → Sl d F2 w u ys) (hne : ∀ k, F2 k → v.ownBlock = some k → False) (hlen : (xs.length + ys.length) * bytes ≤ 140737488355328) (hsz : d.sz = sz) (hby : d.bytes = bytes) (hz : z.cells.size = sz) (hd : okD dd fn.ntmps = true)
    (h : ∀ w A n w', Lw O S B K M w → Kp S O w' → Kp (fun k => K k ∨ v.ownBlock = some k) B w' → (∀ k, (Value.slice A (xs ++ ys).length n).ownBlock = some k → v.ownBlock = some k ∨ B.heap.size ≤ k) → Og d O w' (MK M) (fun _ => False) (.slice A (xs ++ ys).length n) (xs ++ ys) → WLo P fn ops rest k (putS dd (.slice A (xs ++ ys).length n) σ) O S w' (MK M) M R) :
    WLo P fn ops ((⟨dd, .call { callee := .builtin .append, args := #[x, y], argTypes := #[t, t] }, oty, opos, oaf, none⟩ : Oper) :: rest) k σ O S B K M R :=
  lo_append hx hy hO (fun _ h => h.elim) hS hne hlen hsz hby hz hd fun w v' w' h1 h2 h3 h5 h4 => by
    obtain ⟨A, n, rfl, _⟩ := h4.form
    exact h w A n w' h1 h2 h3 h5 h4.sc
end
end Go.Ink

set_option linter.unusedVariables false
set_option linter.unusedSimpArgs false
namespace Go.Ink
open Go Go.RowKit

/-- N has all blocks of w' that w has not. -/
def Cover (w w' : World) (N : Mm) : Prop := ∀ k, w.heap.size ≤ k → k < w'.heap.size → ∃ o, MIn k o N ∧ w'.heap[k]? = some o
theorem news_of {w w' : World} (h : Kn w w') : ∃ N, News w w' N ∧ Cover w w' N := by
  have hf : ∀ k, k < w'.heap.size → ∃ o, w'.heap[k]? = some o := fun k hk => ⟨_, Array.getElem?_eq_getElem hk⟩
  have key : ∀ n, w.heap.size + n ≤ w'.heap.size → ∃ N : Mm, (∀ g o, MIn g o N → w'.heap[g]? = some o) ∧ (∀ k, MK N k ↔ w.heap.size ≤ k ∧ k < w.heap.size + n) ∧ (N.map (·.1)).Nodup := by
    intro n
    induction n with
    | zero => exact fun _ => ⟨[], (fun g o h => by cases h), (fun k => ⟨fun ⟨_, h⟩ => (by cases h), fun h => absurd h (by omega)⟩), List.nodup_nil⟩
    | succ n ih =>
      intro hn
      obtain ⟨N, h1, h2, h3⟩ := ih (by omega)
      obtain ⟨o, ho⟩ := hf (w.heap.size + n) (by omega)
      refine ⟨(w.heap.size + n, o) :: N, ?_, ?_, ?_⟩
      · intro g o' hm
        cases hm with
        | hd => exact ho
        | tl hm => exact h1 g o' hm
      · intro k
        constructor
        · rintro ⟨o', hm⟩
          cases hm with
          | hd => omega
          | tl hm => have := (h2 k).1 ⟨o', hm⟩; omega
        · intro hk
          by_cases e : k = w.heap.size + n
          · subst e; exact ⟨o, .hd⟩
          · obtain ⟨o', hm⟩ := (h2 k).2 (by omega)
            exact ⟨o', .tl hm⟩
      · rw [List.map_cons, List.nodup_cons]
        refine ⟨fun hm => ?_, h3⟩
        have := (h2 (w.heap.size + n)).1 (MK_iff.2 hm)
        omega
  have hs := h.size
  obtain ⟨N, h1, h2, h3⟩ := key (w'.heap.size - w.heap.size) (by omega)
  refine ⟨N, ⟨h, h1, fun k hk => ((h2 k).1 hk).1, h3⟩, fun k hk hl => ?_⟩
  obtain ⟨o, hm⟩ := (h2 k).2 ⟨hk, by omega⟩
  exact ⟨o, hm, h1 k o hm⟩
theorem min_app {g : Nat} {o : Obj} {M : Mm} : ∀ {N : Mm}, MIn g o M → MIn g o (N ++ M)
  | [], h => h
  | _ :: N, h => .tl (min_app (N := N) h)
theorem min_l {g : Nat} {o : Obj} {N M : Mm} (h : MIn g o N) : MIn g o (N ++ M) := .of_mem (List.mem_append.2 (.inl h.mem))
theorem mup_app {g : Nat} {o : Obj} {M M' : Mm} : ∀ {N : Mm}, MUp g o M M' → MUp g o (N ++ M) (N ++ M')
  | [], h => h
  | _ :: N, h => .tl (mup_app (N := N) h)
theorem mcat_app {X M Y : Mm} : ∀ {N : Mm}, MCat X M Y → MCat (N ++ X) M (N ++ Y)
  | [], h => h
  | _ :: N, h => .cons (mcat_app (N := N) h)
theorem msub_app {M : Mm} : ∀ {N : Mm}, MSub M (N ++ M)
  | [] => .refl
  | _ :: N => .drop (msub_app (N := N))
theorem Lw.ltI {O B w : World} {S K : Nat → Prop} {M M' : Mm} (hw : Lw O S B K M w) (he : M'.map (·.1) = M.map (·.1)) {k : Nat} (h : MK M' k) : k < w.heap.size := hw.lt (MK_iff.2 (he ▸ MK_iff.1 h))
/-- What a call handed back, while the blocks that are older than it turn. -/
theorem Lw.owN {α : Type} {d : Kd α} {O B w w1 : World} {S K F : Nat → Prop} {M : Mm} {v : Value} {xs : List α} (hw : Lw O S B K M w) (h : Ow d (noB w1) F B v xs) (hm : ∀ k, K k → k < w1.heap.size) (hF : ∀ k, F k → noB w1 k := by first | exact fun _ h => h | exact fun _ h => h.elim | exact fun _ h => h.elim id False.elim) : Ow d (noB w1) F w v xs :=
  Kp.ow hw.kp h (fun k hk hK => by have := hm k hK; unfold noB at hk; omega) fun k hk hK => by have := hm k hK; have := hF k hk; unfold noB at this; omega
section
variable {P : Program} {fn : Func} {k : List Item} {σ : Sig} {O B : World} {S K : Nat → Prop} {X M M' : Mm} {R : Pt} {ops : Array Oper} {rest : List Oper} {listed : Array Bool} {l : List (Nat × Nat)} {i kd : Nat}
variable {dd : Option Nat} {op : Op} {oty : TypeId} {opos : String} {oaf : Array Edge} {og : Option (Nat × Bool)}
theorem ld_callN {f : FuncId} {args : Array Value} {Φ : World → Value → World → Prop} (hrun : En P fn.ntmps σ ⟨dd, op, oty, opos, oaf, og⟩ f args) (hg : wants ops σ ⟨dd, op, oty, opos, oaf, og⟩ true) (hd : okD dd fn.ntmps = true) (hc : ∀ w, Lw O S B K (X ++ M) w → CallsR P f args w fun u w' => Kn w w' ∧ Φ w u w')
    (h : ∀ w u w' N, Lw O S B K (X ++ M) w → Kn w w' → Φ w u w' → Cover w w' N → WLd P fn ops (listed.setIfInBounds i true) l k (putS dd u σ) O S B K (N ++ X) M R) : WLdo P fn ops listed i 1 (⟨dd, op, oty, opos, oaf, og⟩ : Oper) l k σ O S B K X M R :=
  ld_callX (Φ := fun u N => ∃ w w', Lw O S B K (X ++ M) w ∧ Kn w w' ∧ Φ w u w' ∧ Cover w w' N) hrun hg hd (fun w hw => (hc w hw).mono fun u w' ⟨h1, h2⟩ => by
    obtain ⟨N, h3, h4⟩ := news_of h1
    exact ⟨N, h3, w, w', hw, h1, h2, h4⟩) fun u N ⟨w, w', h1, h2, h3, h4⟩ => h w u w' N h1 h2 h3 h4
theorem ld_pre {x y : Operand} {t e : TypeId} {sz bytes : Nat} {z : Value} [hT : SlT P t e] [hE : ElT P e sz bytes z] {A : Option Addr} {n c j : Nat} {iv : Int} {ik : IntKind} (hx : ev σ x = some (.slice A n c)) (hy : ev σ y = some (.int ik iv)) (hj : iv = (j : Int)) (hn : j ≤ c)
    (hg : wants ops σ ⟨dd, .slice t x none (some y) none, oty, opos, oaf, og⟩ true) (hd : okD dd fn.ntmps = true) (h : WLd P fn ops (listed.setIfInBounds i true) l k (putS dd (.slice A j c) σ) O S B K X M R) : WLdo P fn ops listed i 0 (⟨dd, .slice t x none (some y) none, oty, opos, oaf, og⟩ : Oper) l k σ O S B K X M R :=
  ld_still (fun w _ => by rw [← cutV_pre A j c sz]; subst hj; exact r_slice hx 0 j c rfl ⟨_, hy⟩ rfl (Nat.zero_le _) hn (Nat.le_refl _)) hg hd h
theorem ld_suf {x y : Operand} {t e : TypeId} {sz bytes : Nat} {z : Value} [hT : SlT P t e] [hE : ElT P e sz bytes z] {A : Option Addr} {n c j : Nat} {iv : Int} {ik : IntKind} (hx : ev σ x = some (.slice A n c)) (hy : ev σ y = some (.int ik iv)) (hj : iv = (j : Int)) (hn : j ≤ n) (hc : n ≤ c)
    (hg : wants ops σ ⟨dd, .slice t x (some y) none none, oty, opos, oaf, og⟩ true) (hd : okD dd fn.ntmps = true) (h : WLd P fn ops (listed.setIfInBounds i true) l k (putS dd (cutV A j n c sz) σ) O S B K X M R) : WLdo P fn ops listed i 0 (⟨dd, .slice t x (some y) none none, oty, opos, oaf, og⟩ : Oper) l k σ O S B K X M R :=
  ld_still (fun w _ => by subst hj; exact r_slice hx j n c rfl ⟨rfl, rfl⟩ ⟨_, hy⟩ hn hc (Nat.le_refl _)) hg hd h
/-- An operation that makes memory: the base goes on. -/
theorem lo_anyM {Φ : World → Value → World → Prop} (hrun : ∀ w, Lw O S B K M w → Ef P fn.ntmps σ w ⟨dd, op, oty, opos, oaf, none⟩ (Φ w)) (hkn : ∀ w u w', Φ w u w' → Kn w w') (hd : okD dd fn.ntmps = true)
    (h : ∀ w u w', Lw O S B K M w → Φ w u w' → Kp S O w' → WLo P fn ops rest k (putS dd u σ) O S w' (MK M) M R) : WLo P fn ops ((⟨dd, op, oty, opos, oaf, none⟩ : Oper) :: rest) k σ O S B K M R := by
  unfold WLo at *
  exact fun w hw => o_any (hrun w hw) (wants_none rfl) hd fun u w' hf => h w u w' hw hf (hw.kn (hkn w u w' hf)).org w' (hw.kn (hkn w u w' hf)).base
/-- make, of n elements. -/
theorem lo_makeM {α : Type} {d : Kd α} {x y : Operand} {t e : TypeId} {sz bytes : Nat} {z : Value} [hT : SlT P t e] [hE : ElT P e sz bytes z] {kl kc : IntKind} {n : Nat} {iv jv : Int} (zx : α) (hx : ev σ x = some (.int kl iv)) (hy : ev σ y = some (.int kc jv)) (hi : iv = (n : Int)) (hj : jv = (n : Int)) (hn : n * bytes ≤ 140737488355328) (hz : ∀ w : World, d.R (fun _ => False) w zx z.cells.toList) (hsz : d.sz = sz) (hby : d.bytes = bytes) (hd : okD dd fn.ntmps = true)
    (h : ∀ w g w', Lw O S B K M w → Kn w w' → Kp S O w' → Ow d (noB w) (fun _ => False) w' (.slice (some ⟨g, 0, none⟩) n n) (List.replicate n zx) → WLo P fn ops rest k (putS dd (.slice (some ⟨g, 0, none⟩) n n) σ) O S w' (MK M) M R) : WLo P fn ops ((⟨dd, .makeSlice t x y, oty, opos, oaf, none⟩ : Oper) :: rest) k σ O S B K M R := by
  subst hi hj hsz hby
  have hf : Fits d n := hn
  have h1 := hf.len
  refine lo_anyM (Φ := fun w u w' => Kn w w' ∧ ∃ g, u = .slice (some ⟨g, 0, none⟩) n n ∧ Ow d (noB w) (fun _ => False) w' u (List.replicate n zx)) (fun w hw => ⟨fun a w0 ha h0 => ?_⟩) (fun w u w' h => h.1) hd ?_
  · obtain ⟨u, w', h2, g, h3, h4⟩ := (e_make (hT := hT) (hE := hE) hx hy (Nat.le_refl _) (by rw [Nat.mul_comm]; omega) (by unfold maxLen; omega)).run a w0 ha h0
    exact ⟨u, w', h2, h4.kn, g, h3, h3 ▸ ow_made (hz w) h4 (Nat.le_refl _) (by unfold maxLen; omega) hf h4.ge⟩
  · rintro w u w' hw ⟨h2, g, rfl, h3⟩ hk
    exact h w g w' hw h2 hk h3
/-- The world that is there is the base now; of the own blocks only some are told of. -/
theorem l_baseM {M3 : Mm} (hs : MSub M3 M) (h : ∀ w3, Lw O S B K M w3 → WLG P fn k σ O S w3 (MK M3) M3 R) : WLG P fn k σ O S B K M R := by
  unfold WLG at *
  exact fun w3 hw => h w3 hw w3 (hw.sub hs).base
/-- Behind the region: what was new lies in the base now. -/
theorem l_cover {w w' : World} {N : Mm} (hN : Cover w w' N) (h : ∀ w3, (∀ k, w.heap.size ≤ k → k < w'.heap.size → w3.heap[k]? = w'.heap[k]?) → Kp S O w3 → Lw O S B K M w3 → WLG P fn k σ O S w3 (MK M) M R) : WLG P fn k σ O S B K (N ++ M) R := by
  unfold WLG at *
  refine fun w3 hw => h w3 (fun k h1 h2 => ?_) hw.org (hw.sub msub_app) w3 (hw.sub msub_app).base
  obtain ⟨o, hm, ho⟩ := hN k h1 h2
  rw [ho]
  exact hw.mem k o (min_l hm)
end
/-! ### append, where only the elements are told of -/
/-- A slice that is read; F: where what its elements lead to lies. -/
def SlE {α : Type} (d : Kd α) (F : Nat → Prop) (w : World) (v : Value) (xs : List α) : Prop :=
  ∃ A c cells, v = .slice A xs.length c ∧ Els d F w xs cells ∧ (xs = [] ∨ ∃ ad : Addr, A = some ad ∧ ∀ j u, cells[j]? = some u → w.cell? (ad.add j) = some u)
section
variable {α : Type} {d : Kd α} {F F2 G : Nat → Prop} {w w' : World} {v : Value} {xs : List α}
theorem Sl.e (h : Sl d F w v xs) : SlE d F w v xs := by
  obtain ⟨A, c, cells, rfl, h1, h2, h3, h4, h5⟩ := h
  exact ⟨A, c, cells, rfl, h4, h5.imp id fun ⟨ad, e, _, hc⟩ => ⟨ad, e, hc⟩⟩
theorem SlE.kn (hk : Kn w w') (h : SlE d F w v xs) : SlE d F w' v xs := by
  obtain ⟨A, c, cells, rfl, h4, h5⟩ := h
  exact ⟨A, c, cells, rfl, h4.move fun k _ hl => hk.block k hl id, h5.imp id fun ⟨ad, e, hc⟩ => ⟨ad, e, fun j u hu => hk.cell (hc j u hu) id⟩⟩
theorem SlE.mono (h : SlE d F w v xs) (hF : ∀ k, F k → k < w.heap.size → F2 k) : SlE d F2 w v xs := by
  obtain ⟨A, c, cells, rfl, h4, h5⟩ := h
  exact ⟨A, c, cells, rfl, h4.mono hF, h5⟩
theorem SlE.kp {K : Nat → Prop} (hk : Kp K w w') (h : SlE d F w v xs) (hb : ∀ k, v.ownBlock = some k → ¬ K k) (hF : ∀ k, F k → ¬ K k) : SlE d F w' v xs := by
  obtain ⟨A, c, cells, rfl, h4, h5⟩ := h
  exact ⟨A, c, cells, rfl, h4.move fun k hk' hl => hk.block k hl (hF k hk'), h5.imp id fun ⟨ad, e, hc⟩ => ⟨ad, e, fun j u hu => hk.cell (hc j u hu) (by rw [add_block]; exact hb _ (by rw [e]; rfl))⟩⟩
theorem slE_blk {cells : List Value} {g : Nat} {e : TypeId} {fr : Nat × Nat} (hb : w.heap[g]? = some (.cells cells.toArray e fr)) (hE : Els d F w xs cells) : SlE d F w (.slice (some ⟨g, 0, none⟩) xs.length xs.length) xs :=
  ⟨_, _, cells, rfl, hE, .inr ⟨_, rfl, fun j u hu => by rw [add_plain, blk_cell hb]; simpa using hu⟩⟩
end
section
variable {P : Program} {fn : Func} {k : List Item} {σ : Sig} {O B : World} {S K : Nat → Prop} {M : Mm} {R : Pt} {ops : Array Oper} {rest : List Oper} {dd : Option Nat} {oty : TypeId} {opos : String} {oaf : Array Edge}
theorem lo_appendE {α : Type} {d : Kd α} {x y : Operand} {t e : TypeId} {sz bytes : Nat} {z : Value} [hT : SlT P t e] [hE : ElT P e sz bytes z] {F F2 : Nat → Prop} {v u : Value} {xs ys : List α} (hx : ev σ x = some v) (hy : ev σ y = some u)
    (hO : Og d O B K F v xs) (hF : ∀ k, F k → ¬ K k) (hS : ∀ w, Lw O S B K M w → SlE d F2 w u ys) (hne : ∀ k, F2 k → v.ownBlock = some k → False) (hlen : (xs.length + ys.length) * bytes ≤ 140737488355328) (hsz : d.sz = sz) (hby : d.bytes = bytes) (hz : z.cells.size = sz) (hd : okD dd fn.ntmps = true)
    (h : ∀ w A n w', Lw O S B K M w → Kp S O w' → Kp (fun k => K k ∨ v.ownBlock = some k) B w' → (∀ k, (Value.slice A (xs ++ ys).length n).ownBlock = some k → v.ownBlock = some k ∨ B.heap.size ≤ k) → Og d O w' (MK M) (fun k => F k ∨ F2 k) (.slice A (xs ++ ys).length n) (xs ++ ys) → WLo P fn ops rest k (putS dd (.slice A (xs ++ ys).length n) σ) O S w' (MK M) M R) :
    WLo P fn ops ((⟨dd, .call { callee := .builtin .append, args := #[x, y], argTypes := #[t, t] }, oty, opos, oaf, none⟩ : Oper) :: rest) k σ O S B K M R := by
  unfold WLo at *
  refine fun w hw => o_any (Φ := App d (fre O K) (fun k => F k ∨ F2 k) w v (xs ++ ys)) ?_ (wants_none rfl) hd fun v' w' hA => ?_
  · obtain ⟨A, c, cells, rfl, h4, h5⟩ := hS w hw
    exact e_append_raw hsz hby hz hx hy ((hO.now hF hw).mono (fun k hk _ => hk) fun k hk _ => .inl hk) rfl (h4.mono fun k hk _ => ⟨.inr hk, fun h => hne k hk h⟩) h5 hlen
  · have h4 := hO.app hw hA
    obtain ⟨A, n, rfl, _⟩ := h4.form
    exact h w A n w' hw (hw.app hO hA).org (App.keep hw hA) (App.old hw hA) h4 w' (hw.app hO hA)
end
/-! ### Loud operations in drawn regions whose place is the same in all orders: the base goes on -/
section
variable {P : Program} {fn : Func} {k : List Item} {σ : Sig} {O B : World} {S K : Nat → Prop} {X M Y : Mm} {R : Pt} {ops : Array Oper} {listed : Array Bool} {l : List (Nat × Nat)} {i : Nat}
variable {dd : Option Nat} {op : Op} {oty : TypeId} {opos : String} {oaf : Array Edge} {og : Option (Nat × Bool)}
theorem ld_goM {w' : World} (hw : Lw O S w' (MK Y) Y w') (h : WLd P fn ops listed l k σ O S w' (MK Y) [] Y R) : WD P fn ops listed l k σ w' w' R := by
  unfold WLd at h
  exact h w' w' hw hw (St.refl _) (Nat.le_refl _) fun g ⟨o, hg⟩ => by cases hg
theorem ld_callM {f : FuncId} {args : Array Value} {Φ : World → Value → World → Prop} (hY : MCat X M Y) (hwa : waitsAll ops i = true) (hrun : En P fn.ntmps σ ⟨dd, op, oty, opos, oaf, og⟩ f args) (hg : wants ops σ ⟨dd, op, oty, opos, oaf, og⟩ true) (hd : okD dd fn.ntmps = true) (hc : ∀ w, Lw O S B K Y w → CallsR P f args w fun u w' => Kn w w' ∧ Φ w u w')
    (h : ∀ w u w', Lw O S B K Y w → Kn w w' → Kp S O w' → Φ w u w' → WLd P fn ops (listed.setIfInBounds i true) l k (putS dd u σ) O S w' (MK Y) [] Y R) : WLdo P fn ops listed i 1 (⟨dd, op, oty, opos, oaf, og⟩ : Oper) l k σ O S B K X M R := by
  unfold WLdo
  refine fun w w2 h1 h2 h3 h4 h5 => ?_
  rw [hY.eq] at h2
  exact x_enter hrun hg hd ((hc w2 h2).mono fun u w' ⟨k1, k2⟩ => .inr ⟨hwa, ld_goM (h2.kn k1).base (h w2 u w' h2 k1 (h2.kn k1).org k2)⟩)
/-- append to an own slice of the base, in a drawn region. -/
theorem ld_appendE {α : Type} {d : Kd α} {x y : Operand} {t e : TypeId} {sz bytes : Nat} {z : Value} [hT : SlT P t e] [hE : ElT P e sz bytes z] {F F2 : Nat → Prop} {v u : Value} {xs ys : List α} (hY : MCat X M Y) (hwa : waitsAll ops i = true) (hx : ev σ x = some v) (hy : ev σ y = some u)
    (hO : Og d O B K F v xs) (hF : ∀ k, F k → ¬ K k) (hS : ∀ w, Lw O S B K Y w → SlE d F2 w u ys) (hne : ∀ k, F2 k → v.ownBlock = some k → False) (hlen : (xs.length + ys.length) * bytes ≤ 140737488355328) (hsz : d.sz = sz) (hby : d.bytes = bytes) (hz : z.cells.size = sz) (hg : wants ops σ ⟨dd, .call { callee := .builtin .append, args := #[x, y], argTypes := #[t, t] }, oty, opos, oaf, og⟩ true) (hd : okD dd fn.ntmps = true)
    (h : ∀ w A n w', Lw O S B K Y w → Kp S O w' → Kp (fun k => K k ∨ v.ownBlock = some k) B w' → (∀ k, (Value.slice A (xs ++ ys).length n).ownBlock = some k → v.ownBlock = some k ∨ w.heap.size ≤ k) → Og d O w' (MK Y) (fun k => F k ∨ F2 k) (.slice A (xs ++ ys).length n) (xs ++ ys) → WLd P fn ops (listed.setIfInBounds i true) l k (putS dd (.slice A (xs ++ ys).length n) σ) O S w' (MK Y) [] Y R) :
    WLdo P fn ops listed i 1 (⟨dd, .call { callee := .builtin .append, args := #[x, y], argTypes := #[t, t] }, oty, opos, oaf, og⟩ : Oper) l k σ O S B K X M R := by
  unfold WLdo
  refine fun w w2 h1 h2 h3 h4 h5 => ?_
  rw [hY.eq] at h2
  refine x_any (Φ := App d (fre O K) (fun k => F k ∨ F2 k) w2 v (xs ++ ys)) ?_ hg hd fun v' w' hA => .inr ⟨hwa, ?_⟩
  · obtain ⟨A, c, cells, rfl, h4, h5⟩ := hS w2 h2
    exact e_append_raw hsz hby hz hx hy ((hO.now hF h2).mono (fun k hk _ => hk) fun k hk _ => .inl hk) rfl (h4.mono fun k hk _ => ⟨.inr hk, fun h => hne k hk h⟩) h5 hlen
  · have h4 := hO.app h2 hA
    obtain ⟨A, n, rfl, _⟩ := h4.form
    refine ld_goM (h2.app hO hA) (h w2 A n w' h2 (h2.app hO hA).org (App.keep h2 hA) (fun k hk => ?_) h4)
    rcases hA.blk with e | ⟨g, e, hg⟩
    · rw [e] at hk; exact .inl hk
    · rw [e] at hk; cases hk; exact .inr hg
theorem Lw.ownW {w w' : World} {g : Nat} (hw : Lw O S B K Y w) (hg : fre O K g) (hb : g < B.heap.size) (hk : Kp (fun k => k = g) w w') : Lw O S w' (MK Y) Y w' :=
  ⟨Kp.then hw.org hk (fun _ h => h) (fun k hl hk => by have := hg.1; omega), Kp.refl _ _, fun k u hm => hk.blk (hw.mem k u hm) (fun e => hw.apart hg.2 hb ⟨u, e ▸ hm⟩), hw.nd, fun k hm => ⟨(hw.ge k hm).1, .inr hm⟩⟩
theorem Og.set {α : Type} {d : Kd α} {F : Nat → Prop} {v : Value} {xs ys : List α} {w w' : World} (hO : Og d O B K F v xs) (hw : Lw O S B K Y w) (h : Ow d (fre O K) F w' v ys) : Og d O w' (MK Y) F v ys := by
  have hb := hO.block
  obtain ⟨cells, h1, h2, h3⟩ := h
  refine ⟨cells, h1, h2, h3.imp id ?_⟩
  rintro ⟨g, o, cap, cur, e, rfl, hg, h4⟩
  exact ⟨g, o, cap, cur, e, rfl, ⟨hg.1, hw.apart hg.2 (hb g rfl).2⟩, h4⟩
/-- An element of an own slice of the base is stored, in a drawn region. -/
theorem ld_setM {α : Type} {d : Kd α} {x y : Operand} {t : TypeId} [hT : CellT P t] {F : Nat → Prop} {ad : Addr} {n c j : Nat} {xs : List α} {q : α} {u : Value} (hY : MCat X M Y) (hwa : waitsAll ops i = true) (hx : ev σ x = some (.pointer (some (ad.add (j * 1))))) (hy : ev σ y = some u)
    (hO : Og d O B K F (.slice (some ad) n c) xs) (hF : ∀ k, F k → ¬ K k) (hj : j < xs.length) (hq : ∀ w, Lw O S B K Y w → d.R (fun k => F k ∧ ad.block ≠ k) w q [u]) (hsz : d.sz = 1) (hg : wants ops σ ⟨dd, .store t x y, oty, opos, oaf, og⟩ true) (hd : okD dd fn.ntmps = true)
    (h : ∀ w w', Lw O S B K Y w → Kp S O w' → Kp (fun k => k = ad.block) w w' → Og d O w' (MK Y) F (.slice (some ad) n c) (xs.set j q) → WLd P fn ops (listed.setIfInBounds i true) l k (putS dd undef σ) O S w' (MK Y) [] Y R) :
    WLdo P fn ops listed i 1 (⟨dd, .store t x y, oty, opos, oaf, og⟩ : Oper) l k σ O S B K X M R := by
  unfold WLdo
  refine fun w w2 h1 h2 h3 h4 h5 => ?_
  rw [hY.eq] at h2
  refine x_unit (u_set hx hy (hO.now hF h2) hj (hq w2 h2) hsz) hg hd fun w' ⟨k1, k2⟩ => .inr ⟨hwa, ?_⟩
  have hb := hO.block ad.block rfl
  have hl := h2.ownW hb.1 hb.2 k1
  exact ld_goM hl (h w2 w' h2 hl.org k1 (hO.set h2 k2))
/-- And in one that does not draw. -/
theorem lo_setM {rest : List Oper} {α : Type} {d : Kd α} {x y : Operand} {t : TypeId} [hT : CellT P t] {F : Nat → Prop} {ad : Addr} {n c j : Nat} {xs : List α} {q : α} {u : Value} (hx : ev σ x = some (.pointer (some (ad.add (j * 1))))) (hy : ev σ y = some u)
    (hO : Og d O B K F (.slice (some ad) n c) xs) (hF : ∀ k, F k → ¬ K k) (hj : j < xs.length) (hq : ∀ w, Lw O S B K M w → d.R (fun k => F k ∧ ad.block ≠ k) w q [u]) (hsz : d.sz = 1) (hd : okD dd fn.ntmps = true)
    (h : ∀ w w', Lw O S B K M w → Kp S O w' → Kp (fun k => k = ad.block) w w' → Og d O w' (MK M) F (.slice (some ad) n c) (xs.set j q) → WLo P fn ops rest k (putS dd undef σ) O S w' (MK M) M R) :
    WLo P fn ops ((⟨dd, .store t x y, oty, opos, oaf, none⟩ : Oper) :: rest) k σ O S B K M R := by
  unfold WLo at *
  refine fun w hw => o_unit (u_set hx hy (hO.now hF hw) hj (hq w hw) hsz) (wants_none rfl) hd fun w' ⟨k1, k2⟩ => ?_
  have hb := hO.block ad.block rfl
  have hl := hw.ownW hb.1 hb.2 k1
  exact h w w' hw hl.org k1 (hO.set hw k2) w' hl
end
end Go.Ink
