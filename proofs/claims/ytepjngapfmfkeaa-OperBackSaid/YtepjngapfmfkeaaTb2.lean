/-
  Rows that are appended to tables of own rows; calls that turn an own block.
-/
import Derived.Test.YtepjngapfmfkeaaTb
set_option linter.unusedVariables false
set_option linter.unusedSimpArgs false
namespace Go.Ink
open Go Go.RowKit
theorem Tab.all {G L : Nat → Prop} {w : World} {v : Value} {us : List Value} {rows : List (List Int)} (h : Tab G L w v us rows) (hL : ∀ j, j < rows.length → L j) : Tab G (fun _ => True) w v us rows :=
  have hl : ∀ {j : Nat} {u : Value}, us[j]? = some u → L j := fun hu => hL _ (by rw [← h.len]; exact (List.getElem?_eq_some_iff.1 hu).1)
  ⟨h.t, h.len, fun j u x _ hu hx => h.row j u x (hl hu) hu hx, fun i j u u' k _ _ hu hu' => h.apart i j u u' k (hl hu) (hl hu') hu hu'⟩
section
variable {P : Program} {fn : Func} {k : List Item} {σ : Sig} {O B : World} {S K L : Nat → Prop} {X M M' Y : Mm} {R : Pt} {ops : Array Oper} {rest : List Oper} {listed : Array Bool} {l : List (Nat × Nat)} {i kd : Nat}
variable {dd : Option Nat} {op : Op} {oty : TypeId} {opos : String} {oaf : Array Edge} {og : Option (Nat × Bool)}
theorem Lw.turn {w w' : World} {T : Nat → Prop} (hw : Lw O S B K M w) (hT : ∀ k, T k → fre O K k ∧ k < B.heap.size) (hk : Kp T w w') : Lw O S w' (MK M) M w' :=
  ⟨Kp.then hw.org hk (fun _ h => h) (fun k hl hk => by have := (hT k hk).1.1; omega), Kp.refl _ _, fun k u hm => hk.blk (hw.mem k u hm) (fun e => hw.apart (hT k e).1.2 (hT k e).2 ⟨u, hm⟩), hw.nd, fun k hm => ⟨(hw.ge k hm).1, .inr hm⟩⟩
/-- A call that turns blocks of the base that are the function's own: the base goes on. -/
theorem lo_callW {f : FuncId} {args : Array Value} {T : Nat → Prop} {Φ : World → Value → World → Prop} (hrun : En P fn.ntmps σ ⟨dd, op, oty, opos, oaf, none⟩ f args) (hd : okD dd fn.ntmps = true) (hT : ∀ k, T k → fre O K k ∧ k < B.heap.size) (hc : ∀ w, Lw O S B K M w → CallsR P f args w fun u w' => Kp T w w' ∧ Φ w u w')
    (h : ∀ w u w', Lw O S B K M w → Kp T w w' → Kp S O w' → Kp (fun k => K k ∨ T k) B w' → Φ w u w' → WLo P fn ops rest k (putS dd u σ) O S w' (MK M) M R) : WLo P fn ops ((⟨dd, op, oty, opos, oaf, none⟩ : Oper) :: rest) k σ O S B K M R := by
  unfold WLo at *
  exact fun w hw => o_enter hrun (wants_none rfl) hd ((hc w hw).mono fun u w' ⟨k1, k2⟩ => h w u w' hw k1 (hw.turn hT k1).org (Kp.then (hw.kp.mono fun _ _ h => .inl h) k1 (fun _ h => h) fun _ _ h => .inr h) k2 w' (hw.turn hT k1))
theorem ld_callW {f : FuncId} {args : Array Value} {T : Nat → Prop} {Φ : World → Value → World → Prop} (hY : MCat X M Y) (hwa : waitsAll ops i = true) (hrun : En P fn.ntmps σ ⟨dd, op, oty, opos, oaf, og⟩ f args) (hg : wants ops σ ⟨dd, op, oty, opos, oaf, og⟩ true) (hd : okD dd fn.ntmps = true) (hT : ∀ k, T k → fre O K k ∧ k < B.heap.size) (hc : ∀ w, Lw O S B K Y w → CallsR P f args w fun u w' => Kp T w w' ∧ Φ w u w')
    (h : ∀ w u w', Lw O S B K Y w → Kp T w w' → Kp S O w' → Kp (fun k => K k ∨ T k) B w' → Φ w u w' → WLd P fn ops (listed.setIfInBounds i true) l k (putS dd u σ) O S w' (MK Y) [] Y R) : WLdo P fn ops listed i 1 (⟨dd, op, oty, opos, oaf, og⟩ : Oper) l k σ O S B K X M R := by
  unfold WLdo
  refine fun w w2 h1 h2 h3 h4 h5 => ?_
  rw [hY.eq] at h2
  exact x_enter hrun hg hd ((hc w2 h2).mono fun u w' ⟨k1, k2⟩ => .inr ⟨hwa, ld_goM (h2.turn hT k1) (h w2 u w' h2 k1 (h2.turn hT k1).org (Kp.then (h2.kp.mono fun _ _ h => .inl h) k1 (fun _ h => h) fun _ _ h => .inr h) k2)⟩)
/-- append of the one element of a literal. -/
theorem lo_append1 {α : Type} {d : Kd α} {x y : Operand} {t e : TypeId} {sz bytes : Nat} {z : Value} [hT : SlT P t e] [hE : ElT P e sz bytes z] {F : Nat → Prop} {v : Value} {xs : List α} {q : α} {g : Nat} {cs : List Value} {eb : TypeId} (hx : ev σ x = some v) (hy : ev σ y = some (.slice (some ⟨g, 0, none⟩) 1 1))
    (hO : Og d O B K F v xs) (hF : ∀ k, F k → ¬ K k) (hm : MIn g (cb cs eb) M) (hq : ∀ w, Lw O S B K M w → d.R (fun k => F k ∧ v.ownBlock ≠ some k) w q cs) (hlen : (xs.length + 1) * bytes ≤ 140737488355328) (hsz : d.sz = sz) (hby : d.bytes = bytes) (hz : z.cells.size = sz) (hd : okD dd fn.ntmps = true)
    (h : ∀ w A n w', Lw O S B K M w → Kp S O w' → Kp (fun k => K k ∨ v.ownBlock = some k) B w' → (∀ k, (Value.slice A (xs ++ [q]).length n).ownBlock = some k → v.ownBlock = some k ∨ B.heap.size ≤ k) → Og d O w' (MK M) F (.slice A (xs ++ [q]).length n) (xs ++ [q]) → WLo P fn ops rest k (putS dd (.slice A (xs ++ [q]).length n) σ) O S w' (MK M) M R) :
    WLo P fn ops ((⟨dd, .call { callee := .builtin .append, args := #[x, y], argTypes := #[t, t] }, oty, opos, oaf, none⟩ : Oper) :: rest) k σ O S B K M R := by
  unfold WLo at *
  refine fun w hw => o_any (e_append1 hx hy (hO.now hF hw) (hw.mem g _ hm) (hq w hw) hlen hsz hby hz) (wants_none rfl) hd fun v' w' hA => ?_
  have h4 := hO.app hw hA
  obtain ⟨A, n, rfl, _⟩ := h4.form
  exact h w A n w' hw (hw.app hO hA).org (App.keep hw hA) (App.old hw hA) h4 w' (hw.app hO hA)
/-- A row is appended to a table. -/
theorem lo_tabPush {x y : Operand} {t e : TypeId} {z : Value} [hT : SlT P t e] [hE : ElT P e 1 24 z] {v : Value} {us : List Value} {rows : List (List Int)} {u : Value} {r : List Int} {g : Nat} {eb : TypeId} (hx : ev σ x = some v) (hy : ev σ y = some (.slice (some ⟨g, 0, none⟩) 1 1))
    (hO : Tab (fre O K) L B v us rows) (hm : MIn g (cb [u] eb) M) (hr : Ow kRune (fun k => fre O K k ∧ v.ownBlock ≠ some k) (fun _ => False) B u r) (hL : ¬ L rows.length) (ha : ∀ i u2 k, L i → us[i]? = some u2 → u2.ownBlock = some k → u.ownBlock = some k → False) (hlen : (rows.length + 1) * 24 ≤ 140737488355328) (hz : z.cells.size = 1) (hd : okD dd fn.ntmps = true)
    (h : ∀ w A n w', Lw O S B K M w → Kp S O w' → Kp (fun k => K k ∨ v.ownBlock = some k) B w' → Tab (fre O (MK M)) (fun i => L i ∨ i = rows.length) w' (.slice A (rows ++ [r]).length n) (us ++ [u]) (rows ++ [r]) → WLo P fn ops rest k (putS dd (.slice A (rows ++ [r]).length n) σ) O S w' (MK M) M R) :
    WLo P fn ops ((⟨dd, .call { callee := .builtin .append, args := #[x, y], argTypes := #[t, t] }, oty, opos, oaf, none⟩ : Oper) :: rest) k σ O S B K M R := by
  have hul : us.length = rows.length := hO.len
  refine lo_append1 (d := kRaw) (q := u) hx hy hO.t (fun _ h => h.elim) hm (fun w' hw => ⟨rfl, by obtain ⟨_, _, rfl, _⟩ := hr.form; rfl⟩) (by rw [hul]; exact hlen) rfl rfl hz hd fun w A n w' hw ko kp hown hog => ?_
  have e : (us ++ [u]).length = (rows ++ [r]).length := by rw [List.length_append, List.length_append, hul]; rfl
  rw [e] at hog hown ⊢
  refine h w A n w' hw ko kp ?_
  have hvne : ∀ k, fre O K k → k < B.heap.size → v.ownBlock ≠ some k → fre O (MK M) k ∧ (Value.slice A (rows ++ [r]).length n).ownBlock ≠ some k := fun k hk hl hv => ⟨⟨hk.1, hw.apart hk.2 hl⟩, fun e => (hown k e).elim hv fun h => by omega⟩
  refine hO.push (fun k hk hv hl => kp.block k hl fun h => h.elim hk.2 hv) hog hvne hL ?_ ha
  have h1 := hr.mono (G' := fun k => (fre O K k ∧ v.ownBlock ≠ some k) ∧ k < B.heap.size) (F' := fun _ => False) (fun k hk hl => ⟨hk, hl⟩) fun _ h _ => h
  exact (Kp.ow kp h1 (fun k hk h => h.elim hk.1.1.2 hk.1.2) fun _ h => h.elim).mono (fun k hk _ => hvne k hk.1.1 hk.2 hk.1.2) fun _ h _ => h
end
end Go.Ink
