/-
  Walks over a list of blocks that are one's own: 'Lw', 'WL', 'WLo', 'WLd'.
-/
import Derived.Test.YtbmjcjlenbgpkaaRul
set_option linter.unusedVariables false
set_option linter.unusedSimpArgs false
namespace Go.Ink
open Go Go.RowKit

inductive Nf : List Value → List Value → Prop where
  | nil : Nf [] []
  | cons {a : Value} {l l' : List Value} : Nf l l' → Nf (a :: l) (a :: l')
theorem Nf.eq : ∀ {l l' : List Value}, Nf l l' → l = l'
  | _, _, .nil => rfl
  | _, _, .cons h => by rw [h.eq]
inductive GetL : List Value → Nat → Value → Prop where
  | hd {v : Value} {l : List Value} : GetL (v :: l) 0 v
  | tl {x v : Value} {l : List Value} {n : Nat} : GetL l n v → GetL (x :: l) (n + 1) v
theorem GetL.get : ∀ {l : List Value} {n : Nat} {v : Value}, GetL l n v → l[n]? = some v
  | _, _, _, .hd => rfl
  | _, _, _, .tl h => by rw [List.getElem?_cons_succ]; exact h.get
inductive SetL : List Value → Nat → Value → List Value → Prop where
  | hd {x v : Value} {l : List Value} : SetL (x :: l) 0 v (v :: l)
  | tl {x v : Value} {l l' : List Value} {n : Nat} : SetL l n v l' → SetL (x :: l) (n + 1) v (x :: l')
theorem SetL.eq : ∀ {l : List Value} {n : Nat} {v : Value} {l' : List Value}, SetL l n v l' → l.set n v = l'
  | _, _, _, _, .hd => rfl
  | _, _, _, _, .tl h => by rw [List.set_cons_succ, h.eq]
abbrev Mm := List (Nat × Obj)
abbrev cb (xs : List Value) (t : TypeId) : Obj := .cells xs.toArray t (0, 0)
inductive MIn (g : Nat) (o : Obj) : Mm → Prop where
  | hd {M : Mm} : MIn g o ((g, o) :: M)
  | tl {x : Nat × Obj} {M : Mm} : MIn g o M → MIn g o (x :: M)
def MK (M : Mm) (k : Nat) : Prop := ∃ o, MIn k o M
/-- g's block is o' now. -/
inductive MUp (g : Nat) (o' : Obj) : Mm → Mm → Prop where
  | hd {o : Obj} {M : Mm} : MUp g o' ((g, o) :: M) ((g, o') :: M)
  | tl {x : Nat × Obj} {M M' : Mm} : MUp g o' M M' → MUp g o' (x :: M) (x :: M')
/-- The first has some of the second's blocks, in order. -/
inductive MSub : Mm → Mm → Prop where
  | refl {M : Mm} : MSub M M
  | nil {M : Mm} : MSub [] M
  | keep {g : Nat} {o o' : Obj} {M M' : Mm} : o = o' → MSub M M' → MSub ((g, o) :: M) ((g, o') :: M')
  | drop {x : Nat × Obj} {M M' : Mm} : MSub M M' → MSub M (x :: M')
inductive MCat : Mm → Mm → Mm → Prop where
  | nil {M : Mm} : MCat [] M M
  | cons {x : Nat × Obj} {X M Y : Mm} : MCat X M Y → MCat (x :: X) M (x :: Y)
theorem MCat.eq : ∀ {X M Y : Mm}, MCat X M Y → X ++ M = Y
  | _, _, _, .nil => rfl
  | _, _, _, .cons h => by rw [List.cons_append, h.eq]
theorem MIn.mem {g : Nat} {o : Obj} : ∀ {M : Mm}, MIn g o M → (g, o) ∈ M
  | _, .hd => List.mem_cons_self
  | _, .tl h => List.mem_cons_of_mem _ h.mem
theorem MIn.of_mem {g : Nat} {o : Obj} : ∀ {M : Mm}, (g, o) ∈ M → MIn g o M
  | [], h => by simp at h
  | (a, b) :: M, h => by
    rcases List.mem_cons.1 h with h | h
    · cases h; exact .hd
    · exact .tl (.of_mem h)
theorem MK_iff {M : Mm} {k : Nat} : MK M k ↔ k ∈ M.map (·.1) := by
  constructor
  · rintro ⟨o, h⟩; exact List.mem_map.2 ⟨_, h.mem, rfl⟩
  · intro h; obtain ⟨⟨a, b⟩, h1, rfl⟩ := List.mem_map.1 h; exact ⟨b, .of_mem h1⟩
theorem MUp.keys {g : Nat} {o' : Obj} : ∀ {M M' : Mm}, MUp g o' M M' → M'.map (·.1) = M.map (·.1)
  | _, _, .hd => rfl
  | _, _, .tl h => by simp [h.keys]
theorem MUp.key {g : Nat} {o' : Obj} : ∀ {M M' : Mm}, MUp g o' M M' → g ∈ M.map (·.1)
  | _, _, .hd => by simp
  | _, _, .tl h => by simp [h.key]
theorem MUp.mem {g : Nat} {o' : Obj} : ∀ {M M' : Mm}, MUp g o' M M' → (M.map (·.1)).Nodup → ∀ k o, MIn k o M' → (k = g ∧ o = o') ∨ (k ≠ g ∧ MIn k o M)
  | _, _, .hd, hn, k, o, h => by
    cases h with
    | hd => exact .inl ⟨rfl, rfl⟩
    | tl h =>
      refine .inr ⟨?_, .tl h⟩
      rintro rfl
      simp only [List.map_cons, List.nodup_cons] at hn
      exact hn.1 (List.mem_map.2 ⟨_, h.mem, rfl⟩)
  | _, _, .tl (x := x) hu, hn, k, o, h => by
    simp only [List.map_cons, List.nodup_cons] at hn
    cases h with
    | hd =>
      refine .inr ⟨?_, .hd⟩
      rintro rfl
      exact hn.1 hu.key
    | tl h =>
      rcases hu.mem hn.2 k o h with h | ⟨h1, h2⟩
      · exact .inl h
      · exact .inr ⟨h1, .tl h2⟩
theorem MSub.sub : ∀ {M M' : Mm}, MSub M M' → M.Sublist M'
  | _, _, .refl => List.Sublist.refl _
  | _, _, .nil => List.nil_sublist _
  | _, _, .keep h h' => by subst h; exact h'.sub.cons_cons _
  | _, _, .drop h => h.sub.cons _
theorem MSub.mem {M M' : Mm} (h : MSub M M') {g : Nat} {o : Obj} (hm : MIn g o M) : MIn g o M' := .of_mem (h.sub.subset hm.mem)

/-- O: the world at the function's beginning, of which only S may turn; B: a world since then, of which only K may turn; M: blocks and what they are. -/
structure Lw (O : World) (S : Nat → Prop) (B : World) (K : Nat → Prop) (M : Mm) (w : World) : Prop where
  org : Kp S O w
  kp : Kp K B w
  mem : ∀ g o, MIn g o M → w.heap[g]? = some o
  nd : (M.map (·.1)).Nodup
  ge : ∀ k, MK M k → (O.heap.size ≤ k ∨ S k) ∧ (B.heap.size ≤ k ∨ K k)
section
variable {O B w w' : World} {S K : Nat → Prop} {M M' : Mm}
theorem Lw.init (O : World) (S K : Nat → Prop) : Lw O S O K [] O := ⟨Kp.refl _ _, Kp.refl _ _, (fun _ _ h => by cases h), List.nodup_nil, (fun k h => by obtain ⟨o, h⟩ := h; cases h)⟩
theorem Lw.of_kp (h : Kp S O w) : Lw O S O S [] w := ⟨h, h, (fun _ _ h => by cases h), List.nodup_nil, (fun k h => by obtain ⟨o, h⟩ := h; cases h)⟩
/-- A block that stood, of those that may turn. -/
theorem Lw.own (h : Lw O S B K M w) {g : Nat} {o : Obj} (hb : w.heap[g]? = some o) (hn : g ∉ M.map (·.1)) (hs : S g) (hk : K g) : Lw O S B K ((g, o) :: M) w :=
  ⟨h.org, h.kp, fun k u hm => by cases hm with | hd => exact hb | tl hm => exact h.mem k u hm, by simp only [List.map_cons, List.nodup_cons]; exact ⟨hn, h.nd⟩,
    fun k hm => by obtain ⟨u, hm⟩ := hm; cases hm with | hd => exact ⟨.inr hs, .inr hk⟩ | tl hm => exact h.ge k ⟨u, hm⟩⟩
/-- A block that stands, one of the function's own. -/
theorem Lw.more (h : Lw O S B K M w) {g : Nat} {o : Obj} (hb : w.heap[g]? = some o) (hn : g ∉ M.map (·.1)) (hg : (O.heap.size ≤ g ∨ S g) ∧ (B.heap.size ≤ g ∨ K g)) : Lw O S B K ((g, o) :: M) w :=
  ⟨h.org, h.kp, fun k u hm => by cases hm with | hd => exact hb | tl hm => exact h.mem k u hm, by simp only [List.map_cons, List.nodup_cons]; exact ⟨hn, h.nd⟩,
    fun k hm => by obtain ⟨u, hm⟩ := hm; cases hm with | hd => exact hg | tl hm => exact h.ge k ⟨u, hm⟩⟩
theorem Lw.lt (h : Lw O S B K M w) {k : Nat} (hk : MK M k) : k < w.heap.size := by obtain ⟨o, hm⟩ := hk; exact blk_lt (h.mem k o hm)
theorem Lw.nb (h : Lw O S B K M w) {g : Nat} {o : Obj} (hn : Nb w w' g o) : Lw O S B K ((g, o) :: M) w' := by
  refine ⟨h.org.trans hn.kn.kp, h.kp.trans hn.kn.kp, fun k u hm => ?_, ?_, fun k hm => ?_⟩
  · cases hm with
    | hd => exact hn.at_
    | tl hm => exact hn.kn.blk (h.mem k u hm) id
  · simp only [List.map_cons, List.nodup_cons]
    refine ⟨fun hk => ?_, h.nd⟩
    have := h.lt (MK_iff.2 hk)
    have := hn.ge
    omega
  · obtain ⟨u, hm⟩ := hm
    cases hm with
    | hd => exact ⟨.inl (Nat.le_trans h.org.size hn.ge), .inl (Nat.le_trans h.kp.size hn.ge)⟩
    | tl hm => exact h.ge k ⟨u, hm⟩
theorem Lw.wr (h : Lw O S B K M w) {g : Nat} {o : Obj} (hw : Wr w w' g o) (hu : MUp g o M M') : Lw O S B K M' w' := by
  have hg := h.ge g (MK_iff.2 hu.key)
  refine ⟨Kp.then h.org hw.kp (fun _ h => h) fun i hi he => ?_, Kp.then h.kp hw.kp (fun _ h => h) fun i hi he => ?_, fun k u hm => ?_, by rw [hu.keys]; exact h.nd, fun k hm => ?_⟩
  · subst he; rcases hg.1 with h | h
    · omega
    · exact h
  · subst he; rcases hg.2 with h | h
    · omega
    · exact h
  · rcases hu.mem h.nd k u hm with ⟨rfl, rfl⟩ | ⟨h1, h2⟩
    · exact hw.at_
    · exact hw.kp.blk (h.mem k u h2) h1
  · exact h.ge k (MK_iff.2 (by rw [← hu.keys]; exact MK_iff.1 hm))
theorem Lw.kn (h : Lw O S B K M w) (hk : Kn w w') : Lw O S B K M w' :=
  ⟨h.org.trans hk.kp, h.kp.trans hk.kp, fun k u hm => hk.blk (h.mem k u hm) id, h.nd, h.ge⟩
/-- A call that turns some blocks that may turn and are not listed. -/
theorem Lw.kpS (h : Lw O S B K M w) {T : Nat → Prop} (hk : Kp T w w') (h1 : ∀ k, T k → k < O.heap.size → S k) (h2 : ∀ k, T k → k < B.heap.size → K k) (h3 : ∀ k, T k → ¬ MK M k) : Lw O S B K M w' :=
  ⟨Kp.then h.org hk (fun _ h => h) fun i hi ht => h1 i ht hi, Kp.then h.kp hk (fun _ h => h) fun i hi ht => h2 i ht hi, fun k u hm => hk.blk (h.mem k u hm) (fun ht => h3 k ht ⟨u, hm⟩), h.nd, h.ge⟩
theorem Lw.sub (h : Lw O S B K M w) (hs : MSub M' M) : Lw O S B K M' w :=
  ⟨h.org, h.kp, fun g o hm => h.mem g o (hs.mem hm), h.nd.sublist (hs.sub.map _), fun k hm => by obtain ⟨o, hm⟩ := hm; exact h.ge k ⟨o, hs.mem hm⟩⟩
/-- From here on: B is the world as it is. -/
theorem Lw.base (h : Lw O S B K M w) : Lw O S w (MK M) M w := ⟨h.org, Kp.refl _ _, h.mem, h.nd, fun k hm => ⟨(h.ge k hm).1, .inr hm⟩⟩
theorem Lw.cell (h : Lw O S B K M w) {g i : Nat} {cs : Array Value} {t : TypeId} {fr : Nat × Nat} {v : Value} (hm : MIn g (.cells cs t fr) M) (hv : cs[i]? = some v) : w.cell? ⟨g, i, none⟩ = some v :=
  (blk_cell (h.mem g _ hm)).trans hv
theorem Lw.cellO (h : Lw O S B K M w) {p : Addr} {v : Value} (hc : O.cell? p = some v) (hs : ¬ S p.block) : w.cell? p = some v := h.org.cell hc hs
theorem Lw.cellB (h : Lw O S B K M w) {p : Addr} {v : Value} (hc : B.cell? p = some v) (hs : ¬ K p.block) : w.cell? p = some v := h.kp.cell hc hs
end
/-! ### Goals -/
def WLG (P : Program) (fn : Func) (todo : List Item) (σ : Sig) (O : World) (S : Nat → Prop) (B : World) (K : Nat → Prop) (M : Mm) (R : Pt) : Prop :=
  ∀ w, Lw O S B K M w → WG P fn todo σ w R
abbrev WL (P : Program) (fn : Func) (todo : List Item) (σ : Sig) (O : World) (S : Nat → Prop) (B : World) (K : Nat → Prop) (M : Mm) (R : Value → World → Prop) : Prop := WLG P fn todo σ O S B K M (Pt.fn P fn [] R)
def WLo (P : Program) (fn : Func) (ops : Array Oper) (l : List Oper) (k : List Item) (σ : Sig) (O : World) (S : Nat → Prop) (B : World) (K : Nat → Prop) (M : Mm) (R : Pt) : Prop :=
  ∀ w, Lw O S B K M w → WO P fn ops l k σ w R
section
variable {P : Program} {fn : Func} {k k' : List Item} {σ : Sig} {O B : World} {S K : Nat → Prop} {M M' : Mm} {R : Pt} {ops : Array Oper} {rest : List Oper}
theorem l_enter {f : FuncId} {c : Code} {args : List Value} (S : Nat → Prop) (hf : P.funcs[f]? = some fn) (hb : fn.body = some c) (hn : Nat.ble args.length fn.ntmps = true)
    {R : Value → World → Prop} (h : WL P fn [.code c] (sigOf 0 args) O S O S [] R) : CallsR P f args.toArray O R := calls_enter hf hb hn (h O (Lw.init _ _ _))
theorem l_close {w : World} (h : Lw O S B K M w) (hk : WLG P fn k σ O S B K M R) : WG P fn k σ w R := hk w h
theorem lo_close {w : World} (h : Lw O S B K M w) (hk : WLo P fn ops rest k σ O S B K M R) : WO P fn ops rest k σ w R := hk w h
theorem WL.sub {σ' : Sig} (hs : SubB σ σ') (hm : MSub M' M) (h : WLG P fn k σ' O S B K M' R) : WLG P fn k σ O S B K M R := fun w hw => WK.sub (Sub.mk hs) (h w (hw.sub hm))
theorem WLo.sub {σ' : Sig} (hs : SubB σ σ') (hm : MSub M' M) (h : WLo P fn ops rest k σ' O S B K M' R) : WLo P fn ops rest k σ O S B K M R := fun w hw => WO.sub (Sub.mk hs) (h w (hw.sub hm))
theorem l_base (h : ∀ w, Kp S O w → WLG P fn k σ O S w (MK M) M R) : WLG P fn k σ O S B K M R := fun w hw => h w hw.org w hw.base
theorem l_go (h : KG k k') (hk : WLG P fn k' σ O S B K M R) : WLG P fn k σ O S B K M R := fun w hw => k_go h (hk w hw)
theorem l_region {id : Nat} {l : List Oper} (h : WLo P fn l.toArray l k σ O S B K M R) : WLG P fn (.code (.region id l.toArray false) :: k) σ O S B K M R := fun w hw => k_region (h w hw)
theorem l_seq {x y : Code} (h : WLG P fn (.code x :: .code y :: k) σ O S B K M R) : WLG P fn (.code (.seq x y) :: k) σ O S B K M R := fun w hw => k_seq (h w hw)
theorem lo_nil (h : WLG P fn k σ O S B K M R) : WLo P fn ops [] k σ O S B K M R := fun w hw => o_nil (h w hw)
theorem l_ite {c : Operand} {x y : Code} {p : Prop} [Decidable p] (hc : ev σ c = some (.bool (decide p))) (ht : p → WLG P fn (.code x :: k) σ O S B K M R) (hf : ¬ p → WLG P fn (.code y :: k) σ O S B K M R) :
    WLG P fn (.code (.cond c x y) :: k) σ O S B K M R := fun w hw => k_ite hc (fun h => ht h w hw) (fun h => hf h w hw)
theorem l_cond {c : Operand} {x y : Code} {t : Bool} (hc : ev σ c = some (.bool t)) (ht : t = true → WLG P fn (.code x :: k) σ O S B K M R) (hf : t = false → WLG P fn (.code y :: k) σ O S B K M R) :
    WLG P fn (.code (.cond c x y) :: k) σ O S B K M R := fun w hw => k_cond hc (fun h => ht h w hw) (fun h => hf h w hw)
theorem l_true {c : Operand} {x y : Code} (hc : ev σ c = some (.bool true)) (h : WLG P fn (.code x :: k) σ O S B K M R) : WLG P fn (.code (.cond c x y) :: k) σ O S B K M R := fun w hw => k_true hc (h w hw)
theorem l_false {c : Operand} {x y : Code} (hc : ev σ c = some (.bool false)) (h : WLG P fn (.code y :: k) σ O S B K M R) : WLG P fn (.code (.cond c x y) :: k) σ O S B K M R := fun w hw => k_false hc (h w hw)
theorem l_yes {c : Operand} {x y : Code} {p : Prop} [Decidable p] (hc : ev σ c = some (.bool (decide p))) (hp : p) (h : WLG P fn (.code x :: k) σ O S B K M R) : WLG P fn (.code (.cond c x y) :: k) σ O S B K M R := fun w hw => k_yes hc hp (h w hw)
theorem l_no {c : Operand} {x y : Code} {p : Prop} [Decidable p] (hc : ev σ c = some (.bool (decide p))) (hp : ¬ p) (h : WLG P fn (.code y :: k) σ O S B K M R) : WLG P fn (.code (.cond c x y) :: k) σ O S B K M R := fun w hw => k_no hc hp (h w hw)
/-! ### Operations -/
variable {dd : Option Nat} {op : Op} {oty : TypeId} {opos : String} {oaf : Array Edge} {og : Option (Nat × Bool)}
/-! ### What kind of operation comes next -/
theorem lo_isG {g : Nat × Bool} (h : WLo P fn ops ((⟨dd, op, oty, opos, oaf, some g⟩ : Oper) :: rest) k σ O S B K M R) : WLo P fn ops ((⟨dd, op, oty, opos, oaf, some g⟩ : Oper) :: rest) k σ O S B K M R := h
theorem lo_isB {t : TypeId} {ps : Array (Nat × Operand)} (h : WLo P fn ops ((⟨dd, .build t ps, oty, opos, oaf, none⟩ : Oper) :: rest) k σ O S B K M R) : WLo P fn ops ((⟨dd, .build t ps, oty, opos, oaf, none⟩ : Oper) :: rest) k σ O S B K M R := h
theorem lo_isL {t : TypeId} {x : Operand} (h : WLo P fn ops ((⟨dd, .load t x, oty, opos, oaf, none⟩ : Oper) :: rest) k σ O S B K M R) : WLo P fn ops ((⟨dd, .load t x, oty, opos, oaf, none⟩ : Oper) :: rest) k σ O S B K M R := h
theorem lo_isI {t : TypeId} {x y : Operand} (h : WLo P fn ops ((⟨dd, .indexAddr t x y, oty, opos, oaf, none⟩ : Oper) :: rest) k σ O S B K M R) : WLo P fn ops ((⟨dd, .indexAddr t x y, oty, opos, oaf, none⟩ : Oper) :: rest) k σ O S B K M R := h
theorem lo_isS {t : TypeId} {x y : Operand} (h : WLo P fn ops ((⟨dd, .store t x y, oty, opos, oaf, none⟩ : Oper) :: rest) k σ O S B K M R) : WLo P fn ops ((⟨dd, .store t x y, oty, opos, oaf, none⟩ : Oper) :: rest) k σ O S B K M R := h
theorem lo_s {v : Value} (hr : Ri P fn.ntmps σ ⟨dd, op, oty, opos, oaf, none⟩ v) (hd : okD dd fn.ntmps = true) (h : WLo P fn ops rest k (putS dd v σ) O S B K M R) : WLo P fn ops (⟨dd, op, oty, opos, oaf, none⟩ :: rest) k σ O S B K M R :=
  fun w hw => o_s hr hd (h w hw)
theorem lo_pass (hg : wants ops σ ⟨dd, op, oty, opos, oaf, og⟩ false) (hd : okD dd fn.ntmps = true) (h : WLo P fn ops rest k (putS dd undef σ) O S B K M R) : WLo P fn ops ((⟨dd, op, oty, opos, oaf, og⟩ : Oper) :: rest) k σ O S B K M R :=
  fun w hw => o_pass hg hd (h w hw)
theorem lo_yes (hg : wants ops σ ⟨dd, op, oty, opos, oaf, og⟩ true) (h : WLo P fn ops ((⟨dd, op, oty, opos, oaf, none⟩ : Oper) :: rest) k σ O S B K M R) : WLo P fn ops ((⟨dd, op, oty, opos, oaf, og⟩ : Oper) :: rest) k σ O S B K M R :=
  fun w hw => o_yes hg (h w hw)
theorem lo_gsplit {o : Oper} {j t : Nat} {want : Bool} {p : Prop} [Decidable p] (h : o.guard = some (j, want)) (h1 : (ops[j]?).bind (·.dst) = some t) (h2 : σ.get t = some (.bool (decide p)))
    (hp : p → WLo P fn ops (o :: rest) k σ O S B K M R) (hn : ¬ p → WLo P fn ops (o :: rest) k σ O S B K M R) : WLo P fn ops (o :: rest) k σ O S B K M R := by
  by_cases h : p
  · exact hp h
  · exact hn h
theorem lo_still {v : Value} (hrun : ∀ w, Lw O S B K M w → Rn P fn.ntmps σ w ⟨dd, op, oty, opos, oaf, none⟩ v) (hd : okD dd fn.ntmps = true)
    (h : WLo P fn ops rest k (putS dd v σ) O S B K M R) : WLo P fn ops ((⟨dd, op, oty, opos, oaf, none⟩ : Oper) :: rest) k σ O S B K M R :=
  fun w hw => o_still (hrun w hw) (wants_none rfl) hd (h w hw)
theorem lo_rn {v : Value} (hrun : ∀ w, Rn P fn.ntmps σ w ⟨dd, op, oty, opos, oaf, none⟩ v) (hd : okD dd fn.ntmps = true)
    (h : WLo P fn ops rest k (putS dd v σ) O S B K M R) : WLo P fn ops ((⟨dd, op, oty, opos, oaf, none⟩ : Oper) :: rest) k σ O S B K M R :=
  fun w hw => o_still (hrun w) (wants_none rfl) hd (h w hw)
theorem lo_box1 {x : Operand} {e : TypeId} {v : Value} (hx : ev σ x = some v) (hv : v.oneCell' = true) (hd : okD dd fn.ntmps = true)
    (h : ∀ g, O.heap.size ≤ g → B.heap.size ≤ g → WLo P fn ops rest k (putS dd (.pointer (some ⟨g, 0, none⟩)) σ) O S B K ((g, cb [v] e) :: M) R) :
    WLo P fn ops ((⟨dd, .box e x, oty, opos, oaf, none⟩ : Oper) :: rest) k σ O S B K M R := fun w hw =>
  o_any (e_box hx) (wants_none rfl) hd fun u w' ⟨g, hu, hn⟩ => by
    subst hu
    rw [one_size hv] at hn
    exact h g (Nat.le_trans hw.org.size hn.ge) (Nat.le_trans hw.kp.size hn.ge) w' (hw.nb hn)
theorem lo_boxA {x : Operand} {e : TypeId} {cs : Array Value} (hx : ev σ x = some (.agg cs)) (hd : okD dd fn.ntmps = true)
    (h : ∀ g, O.heap.size ≤ g → B.heap.size ≤ g → WLo P fn ops rest k (putS dd (.pointer (some ⟨g, 0, none⟩)) σ) O S B K ((g, .cells cs e (0, 0)) :: M) R) :
    WLo P fn ops ((⟨dd, .box e x, oty, opos, oaf, none⟩ : Oper) :: rest) k σ O S B K M R := fun w hw =>
  o_any (e_box hx) (wants_none rfl) hd fun u w' ⟨g, hu, hn⟩ => by
    subst hu
    exact h g (Nat.le_trans hw.org.size hn.ge) (Nat.le_trans hw.kp.size hn.ge) w' (hw.nb hn)
theorem lo_alloc {e : TypeId} {sz bytes : Nat} {z : Value} [hE : ElT P e sz bytes z] (hd : okD dd fn.ntmps = true)
    (h : ∀ g, O.heap.size ≤ g → B.heap.size ≤ g → WLo P fn ops rest k (putS dd (.pointer (some ⟨g, 0, none⟩)) σ) O S B K ((g, .cells z.cells e (0, 0)) :: M) R) :
    WLo P fn ops ((⟨dd, .alloc e, oty, opos, oaf, none⟩ : Oper) :: rest) k σ O S B K M R := fun w hw =>
  o_any e_alloc (wants_none rfl) hd fun u w' ⟨g, hu, hn⟩ => by
    subst hu
    exact h g (Nat.le_trans hw.org.size hn.ge) (Nat.le_trans hw.kp.size hn.ge) w' (hw.nb hn)
theorem lo_load {x : Operand} {t : TypeId} [hT : CellT P t] {g i : Nat} {cs : Array Value} {e : TypeId} {fr : Nat × Nat} {v : Value} {p : Addr} (hx : ev σ x = some (.pointer (some p))) (hp : p = ⟨g, i, none⟩) (hm : MIn g (.cells cs e fr) M) (hv : GetL cs.toList i v)
    (hd : okD dd fn.ntmps = true) (h : WLo P fn ops rest k (putS dd v σ) O S B K M R) : WLo P fn ops ((⟨dd, .load t x, oty, opos, oaf, none⟩ : Oper) :: rest) k σ O S B K M R :=
  lo_still (fun w hw => r_load hx (by rw [hp]; exact hw.cell hm (by simpa using hv.get))) hd h
theorem lo_loadO {x : Operand} {t : TypeId} [hT : CellT P t] {v : Value} {p : Addr} (hx : ev σ x = some (.pointer (some p))) (hc : O.cell? p = some v) (hs : ¬ S p.block)
    (hd : okD dd fn.ntmps = true) (h : WLo P fn ops rest k (putS dd v σ) O S B K M R) : WLo P fn ops ((⟨dd, .load t x, oty, opos, oaf, none⟩ : Oper) :: rest) k σ O S B K M R :=
  lo_still (fun w hw => r_load hx (hw.cellO hc hs)) hd h
theorem lo_loadB {x : Operand} {t : TypeId} [hT : CellT P t] {v : Value} {p : Addr} (hx : ev σ x = some (.pointer (some p))) (hc : B.cell? p = some v) (hs : ¬ K p.block)
    (hd : okD dd fn.ntmps = true) (h : WLo P fn ops rest k (putS dd v σ) O S B K M R) : WLo P fn ops ((⟨dd, .load t x, oty, opos, oaf, none⟩ : Oper) :: rest) k σ O S B K M R :=
  lo_still (fun w hw => r_load hx (hw.cellB hc hs)) hd h
theorem lo_loadA {x : Operand} {t : TypeId} {n : Nat} [hT : AggT P t n] {g i : Nat} {cs : Array Value} {e : TypeId} {fr : Nat × Nat} {p : Addr} {cs' : List Value} (hx : ev σ x = some (.pointer (some p))) (hp : p = ⟨g, i, none⟩) (hm : MIn g (.cells cs e fr) M)
    (hc : (cs.toList.drop i).take n = cs') (hl : cs'.length = n)
    (hd : okD dd fn.ntmps = true) (h : WLo P fn ops rest k (putS dd (.agg cs'.toArray) σ) O S B K M R) : WLo P fn ops ((⟨dd, .load t x, oty, opos, oaf, none⟩ : Oper) :: rest) k σ O S B K M R :=
  lo_still (fun w hw => r_loadA hx hl (by subst hp hc; exact blk_cells (hw.mem g _ hm))) hd h
theorem lo_loadAO {x : Operand} {t : TypeId} {n : Nat} [hT : AggT P t n] {p : Addr} {cs : List Value} (hx : ev σ x = some (.pointer (some p))) (hl : cs.length = n) (hc : ∀ j u, cs[j]? = some u → O.cell? (p.add j) = some u) (hs : ¬ S p.block)
    (hd : okD dd fn.ntmps = true) (h : WLo P fn ops rest k (putS dd (.agg cs.toArray) σ) O S B K M R) : WLo P fn ops ((⟨dd, .load t x, oty, opos, oaf, none⟩ : Oper) :: rest) k σ O S B K M R :=
  lo_still (fun w hw => r_loadA hx hl fun j u hu => hw.cellO (hc j u hu) (by rw [add_block]; exact hs)) hd h
theorem lo_loadAB {x : Operand} {t : TypeId} {n : Nat} [hT : AggT P t n] {p : Addr} {cs : List Value} (hx : ev σ x = some (.pointer (some p))) (hl : cs.length = n) (hc : ∀ j u, cs[j]? = some u → B.cell? (p.add j) = some u) (hs : ¬ K p.block)
    (hd : okD dd fn.ntmps = true) (h : WLo P fn ops rest k (putS dd (.agg cs.toArray) σ) O S B K M R) : WLo P fn ops ((⟨dd, .load t x, oty, opos, oaf, none⟩ : Oper) :: rest) k σ O S B K M R :=
  lo_still (fun w hw => r_loadA hx hl fun j u hu => hw.cellB (hc j u hu) (by rw [add_block]; exact hs)) hd h
theorem lo_store {x y : Operand} {t : TypeId} [hT : CellT P t] {p : Addr} {v : Value} {g i : Nat} {cs cs' : List Value} {e : TypeId} (hx : ev σ x = some (.pointer (some p))) (hp : p = ⟨g, i, none⟩) (hm : MIn g (cb cs e) M)
    (hi : Nat.blt i cs.length = true) (hy : ev σ y = some v) (hv : v.oneCell' = true) (hs : SetL cs i v cs') (hu : MUp g (cb cs' e) M M') (hd : okD dd fn.ntmps = true)
    (h : WLo P fn ops rest k (putS dd undef σ) O S B K M' R) : WLo P fn ops ((⟨dd, .store t x y, oty, opos, oaf, none⟩ : Oper) :: rest) k σ O S B K M R := fun w hw =>
  o_unit (u_store hx hy hv hp (hw.mem g _ hm) (by simpa [Nat.blt_eq] using hi)) (wants_none rfl) hd fun w' hr => h w' (hw.wr (by simpa using hr) (by rw [← hs.eq] at hu; exact hu))
theorem lo_storeA {x y : Operand} {t : TypeId} {n : Nat} [hT : AggT P t n] {p : Addr} {new : List Value} {g i : Nat} {cs cs' : List Value} {e : TypeId} (hx : ev σ x = some (.pointer (some p))) (hp : p = ⟨g, i, none⟩) (hm : MIn g (cb cs e) M)
    (hi : Nat.ble (i + n) cs.length = true) (hy : ev σ y = some (.agg new.toArray)) (hl : new.length = n) (hv : new.all Value.oneCell' = true) (hc : cs.take i ++ new ++ cs.drop (i + n) = cs') (hu : MUp g (cb cs' e) M M') (hd : okD dd fn.ntmps = true)
    (h : WLo P fn ops rest k (putS dd undef σ) O S B K M' R) : WLo P fn ops ((⟨dd, .store t x y, oty, opos, oaf, none⟩ : Oper) :: rest) k σ O S B K M R := fun w hw =>
  o_unit (u_storeA hx hy hl (by simpa using hv) hp (hw.mem g _ hm) (by simpa using hi)) (wants_none rfl) hd fun w' hr => h w' (hw.wr (by subst hc; simpa using hr) hu)
theorem lo_index {x y : Operand} {t e : TypeId} {sz bytes : Nat} {z : Value} [hT : SlT P t e] [hE : ElT P e sz bytes z] {A : Option Addr} {ad : Addr} {n c j : Nat} {i : Int} {ik : IntKind} (hx : ev σ x = some (.slice A n c)) (hy : ev σ y = some (.int ik i)) (hj : i = (j : Int)) (hn : j < n) (hA : A = some ad)
    (hd : okD dd fn.ntmps = true) (h : WLo P fn ops rest k (putS dd (.pointer (some (ad.add (j * sz)))) σ) O S B K M R) : WLo P fn ops ((⟨dd, .indexAddr t x y, oty, opos, oaf, none⟩ : Oper) :: rest) k σ O S B K M R :=
  lo_rn (fun w => by subst hj hA; exact r_index hx hy rfl (by omega) (by omega)) hd h
theorem lo_any {Φ : World → Value → World → Prop} (hrun : ∀ w, Lw O S B K M w → Ef P fn.ntmps σ w ⟨dd, op, oty, opos, oaf, none⟩ (Φ w)) (hd : okD dd fn.ntmps = true)
    (h : ∀ w v w', Lw O S B K M w → Φ w v w' → WO P fn ops rest k (putS dd v σ) w' R) : WLo P fn ops ((⟨dd, op, oty, opos, oaf, none⟩ : Oper) :: rest) k σ O S B K M R :=
  fun w hw => o_any (hrun w hw) (wants_none rfl) hd fun v w' hf => h w v w' hw hf
theorem lo_unit {Φ : World → World → Prop} (hrun : ∀ w, Lw O S B K M w → Eu P fn.ntmps σ w ⟨dd, op, oty, opos, oaf, none⟩ (Φ w)) (hd : okD dd fn.ntmps = true)
    (h : ∀ w w', Lw O S B K M w → Φ w w' → WO P fn ops rest k (putS dd undef σ) w' R) : WLo P fn ops ((⟨dd, op, oty, opos, oaf, none⟩ : Oper) :: rest) k σ O S B K M R :=
  fun w hw => o_unit (hrun w hw) (wants_none rfl) hd fun w' hf => h w w' hw hf
/-! ### Calls -/
/-- A call that leaves all blocks and hands back v. -/
theorem lo_call {f : FuncId} {args : Array Value} {v : Value} (hrun : En P fn.ntmps σ ⟨dd, op, oty, opos, oaf, none⟩ f args) (hd : okD dd fn.ntmps = true) (hc : ∀ w, Lw O S B K M w → CallsR P f args w fun u w' => Kn w w' ∧ u = v)
    (h : WLo P fn ops rest k (putS dd v σ) O S B K M R) : WLo P fn ops ((⟨dd, op, oty, opos, oaf, none⟩ : Oper) :: rest) k σ O S B K M R :=
  fun w hw => o_enter hrun (wants_none rfl) hd ((hc w hw).mono fun u w' ⟨h1, h2⟩ => by subst h2; exact h w' (hw.kn h1))
theorem lo_callP {f : FuncId} {args : Array Value} {v : Value} (hrun : En P fn.ntmps σ ⟨dd, op, oty, opos, oaf, none⟩ f args) (hd : okD dd fn.ntmps = true) (hc : ∀ w, Lw O S B K M w → CallsR P f args w fun u w' => w' = w ∧ u = v)
    (h : WLo P fn ops rest k (putS dd v σ) O S B K M R) : WLo P fn ops ((⟨dd, op, oty, opos, oaf, none⟩ : Oper) :: rest) k σ O S B K M R :=
  fun w hw => o_enter hrun (wants_none rfl) hd ((hc w hw).mono fun u w' ⟨h1, h2⟩ => by subst h1 h2; exact h _ hw)
/-- One that hands back what is told by Φ, in a world that is the new base. -/
theorem lo_callB {f : FuncId} {args : Array Value} {Φ : World → Value → World → Prop} (hrun : En P fn.ntmps σ ⟨dd, op, oty, opos, oaf, none⟩ f args) (hd : okD dd fn.ntmps = true) (hc : ∀ w, Lw O S B K M w → CallsR P f args w fun u w' => Kn w w' ∧ Φ w u w')
    (h : ∀ w u w' K', Lw O S B K M w → Kn w w' → Kp S O w' → Φ w u w' → (∀ k, K' k → k < w.heap.size) → WLo P fn ops rest k (putS dd u σ) O S w' K' M R) : WLo P fn ops ((⟨dd, op, oty, opos, oaf, none⟩ : Oper) :: rest) k σ O S B K M R :=
  fun w hw => o_enter hrun (wants_none rfl) hd ((hc w hw).mono fun u w' ⟨h1, h2⟩ => h w u w' (MK M) hw h1 (hw.kn h1).org h2 (fun k hk => hw.lt hk) w' (hw.kn h1).base)
/-- One that hands back what is told by Φ of the value alone. -/
theorem lo_callV {f : FuncId} {args : Array Value} {Φ : Value → Prop} (hrun : En P fn.ntmps σ ⟨dd, op, oty, opos, oaf, none⟩ f args) (hd : okD dd fn.ntmps = true) (hc : ∀ w, Lw O S B K M w → CallsR P f args w fun u w' => Kn w w' ∧ Φ u)
    (h : ∀ u, Φ u → WLo P fn ops rest k (putS dd u σ) O S B K M R) : WLo P fn ops ((⟨dd, op, oty, opos, oaf, none⟩ : Oper) :: rest) k σ O S B K M R :=
  fun w hw => o_enter hrun (wants_none rfl) hd ((hc w hw).mono fun u w' ⟨h1, h2⟩ => h u h2 w' (hw.kn h1))
/-! ### Results -/
theorem l_ret1 {R : Value → World → Prop} {t : Nat} {v : Value} (hr : fn.results = #[.tmp t]) (hv : σ.get t = some v) (h : ∀ w, Lw O S B K M w → R v w) : WL P fn (.code .ret :: k) σ O S B K M R := fun w hw => k_ret1 hr hv (h w hw)
theorem l_ret0 {R : Value → World → Prop} (hr : fn.results = #[]) (h : ∀ w, Lw O S B K M w → R (.tuple #[]) w) : WL P fn (.code .ret :: k) σ O S B K M R := fun w hw => k_ret0 hr (h w hw)
theorem l_end0 {R : Value → World → Prop} (hr : fn.results = #[]) (h : ∀ w, Lw O S B K M w → R (.tuple #[]) w) : WL P fn [] σ O S B K M R := fun w hw => k_end0 hr (h w hw)
inductive LRes (P : Program) (σ : Sig) (M : Mm) : List ResultVar → List Value → Prop where
  | nil : LRes P σ M [] []
  | tmp {t : Nat} {v : Value} {rs : List ResultVar} {vs : List Value} : σ.get t = some v → LRes P σ M rs vs → LRes P σ M (.tmp t :: rs) (v :: vs)
  | agg {a n g i : Nat} {t e : TypeId} {fr : Nat × Nat} {cs : Array Value} {cs' : List Value} {rs : List ResultVar} {vs : List Value} [hT : AggT P t n] : σ.get a = some (.pointer (some ⟨g, i, none⟩)) → MIn g (.cells cs e fr) M → (cs.toList.drop i).take n = cs' → cs'.length = n →
      LRes P σ M rs vs → LRes P σ M (.cell a t :: rs) (.agg cs'.toArray :: vs)
  | one {a g i : Nat} {t e : TypeId} {fr : Nat × Nat} {cs : Array Value} {v : Value} {rs : List ResultVar} {vs : List Value} [hT : CellT P t] : σ.get a = some (.pointer (some ⟨g, i, none⟩)) → MIn g (.cells cs e fr) M → cs[i]? = some v →
      LRes P σ M rs vs → LRes P σ M (.cell a t :: rs) (v :: vs)
theorem LRes.res {rs : List ResultVar} {vs : List Value} {w : World} (h : LRes P σ M rs vs) (hw : Lw O S B K M w) : Res P σ w rs vs := by
  induction h with
  | nil => exact .nil
  | tmp h _ ih => exact .tmp h ih
  | agg h h1 h2 h3 _ ih => exact .agg h h3 (by subst h2; exact blk_cells (hw.mem _ _ h1)) ih
  | one h h1 h2 _ ih => exact .one h (hw.cell h1 h2) ih
theorem l_retR1 {R : Value → World → Prop} {r : ResultVar} {v : Value} (hr : fn.results = #[r]) (h : LRes P σ M [r] [v]) (hR : ∀ w, Lw O S B K M w → R v w) : WL P fn (.code .ret :: k) σ O S B K M R := fun w hw => k_retR1 hr (h.res hw) (hR w hw)
theorem l_retR2 {R : Value → World → Prop} {r1 r2 : ResultVar} {u v : Value} (hr : fn.results = #[r1, r2]) (h : LRes P σ M [r1, r2] [u, v]) (hR : ∀ w, Lw O S B K M w → R (.tuple #[u, v]) w) : WL P fn (.code .ret :: k) σ O S B K M R := fun w hw => k_retR2 hr (h.res hw) (hR w hw)
theorem l_retR3 {R : Value → World → Prop} {r1 r2 r3 : ResultVar} {u v x : Value} (hr : fn.results = #[r1, r2, r3]) (h : LRes P σ M [r1, r2, r3] [u, v, x]) (hR : ∀ w, Lw O S B K M w → R (.tuple #[u, v, x]) w) : WL P fn (.code .ret :: k) σ O S B K M R := fun w hw => k_retR3 hr (h.res hw) (hR w hw)
theorem l_retR4 {R : Value → World → Prop} {r1 r2 r3 r4 : ResultVar} {u v x y : Value} (hr : fn.results = #[r1, r2, r3, r4]) (h : LRes P σ M [r1, r2, r3, r4] [u, v, x, y]) (hR : ∀ w, Lw O S B K M w → R (.tuple #[u, v, x, y]) w) : WL P fn (.code .ret :: k) σ O S B K M R := fun w hw => k_retR4 hr (h.res hw) (hR w hw)
/-! ### Loops -/
theorem l_while {T : Type} {c : Code} (μ : T → Nat) (sg : T → Sig) (Mf : T → Mm) (I : T → Prop) (s0 : T) (hs : SubB σ (sg s0)) (hM : MSub (Mf s0) M) (h0 : I s0)
    (round : ∀ s, I s → (∀ s', I s' → μ s' < μ s → ∀ σ' M', SubB σ' (sg s') → MSub (Mf s') M' → WLG P fn (.inLoop c :: k) σ' O S B K M' R) → WLG P fn (.code c :: .inLoop c :: k) (sg s) O S B K (Mf s) R) : WLG P fn (.code (.loop c) :: k) σ O S B K M R := by
  intro w hw
  refine k_while (S := T) μ sg (fun s w => I s ∧ Lw O S B K (Mf s) w) s0 hs ⟨h0, hw.sub hM⟩ ?_
  rintro s wr ⟨hI, hwr⟩ ih
  exact round s hI (fun s' hI' hlt σ' M' hs' hM' w'' hw'' => ih s' w'' ⟨hI', hw''.sub hM'⟩ hlt σ' hs') wr hwr
/-- A loop in which the base goes on: 'I s b': what holds in the world b at its head. -/
theorem l_whileB {T : Type} {c : Code} (μ : T → Nat) (sg : T → Sig) (Mf : T → Mm) (I : T → World → Prop) (s0 : T) (hs : SubB σ (sg s0)) (hM : MSub (Mf s0) M) (h0 : ∀ w, Lw O S B K M w → I s0 w)
    (round : ∀ s b, I s b → Kp S O b → (∀ s' b' K', I s' b' → μ s' < μ s → ∀ σ' M', SubB σ' (sg s') → MSub (Mf s') M' → (∀ w', Lw O S b' K' M' w' → I s' w') → WLG P fn (.inLoop c :: k) σ' O S b' K' M' R) → WLG P fn (.code c :: .inLoop c :: k) (sg s) O S b (MK (Mf s)) (Mf s) R) : WLG P fn (.code (.loop c) :: k) σ O S B K M R := by
  intro w hw
  refine k_while (S := T) μ sg (fun s w => I s w ∧ ∃ B K, Lw O S B K (Mf s) w) s0 hs ⟨h0 w hw, B, K, hw.sub hM⟩ ?_
  rintro s wr ⟨hI, B1, K1, hwr⟩ ih
  exact round s wr hI hwr.org (fun s' b' K' hI' hlt σ' M' hs' hM' hst w'' hw'' => ih s' w'' ⟨hst w'' hw'', b', K', hw''.sub hM'⟩ hlt σ' hs') wr hwr.base
end
/-! ### Regions that draw: X: blocks that are new since the region began, M: the others -/
def WLd (P : Program) (fn : Func) (ops : Array Oper) (listed : Array Bool) (l : List (Nat × Nat)) (k : List Item) (σ : Sig) (O : World) (S : Nat → Prop) (B : World) (K : Nat → Prop) (X M : Mm) (R : Pt) : Prop :=
  ∀ w w2, Lw O S B K M w → Lw O S B K (X ++ M) w2 → St w w2 → w.heap.size ≤ w2.heap.size → (∀ g, MK X g → w.heap.size ≤ g) → WD P fn ops listed l k σ w w2 R
def WLdo (P : Program) (fn : Func) (ops : Array Oper) (listed : Array Bool) (i kd : Nat) (o : Oper) (l : List (Nat × Nat)) (k : List Item) (σ : Sig) (O : World) (S : Nat → Prop) (B : World) (K : Nat → Prop) (X M : Mm) (R : Pt) : Prop :=
  ∀ w w2, Lw O S B K M w → Lw O S B K (X ++ M) w2 → St w w2 → w.heap.size ≤ w2.heap.size → (∀ g, MK X g → w.heap.size ≤ g) → WDo P fn ops listed i kd o l k σ w w2 R
section
variable {P : Program} {fn : Func} {k : List Item} {σ : Sig} {O B : World} {S K : Nat → Prop} {X M M' : Mm} {R : Pt} {ops : Array Oper} {listed : Array Bool} {l : List (Nat × Nat)} {i kd : Nat}
variable {dd : Option Nat} {op : Op} {oty : TypeId} {opos : String} {oaf : Array Edge} {og : Option (Nat × Bool)}
theorem l_draw {id : Nat} (l : List (Nat × Nat)) (hm : P.follows .mixedOrders = true) (hn : Region.noSelect ops = true) (hl : ops.size = l.length) (ho : ordOK ops l (Array.replicate ops.size false) = true)
    (h : WLd P fn ops (Array.replicate ops.size false) l k σ O S B K [] M R) (hro : R.ro = none := by rfl) : WLG P fn (.code (.region id ops true) :: k) σ O S B K M R :=
  fun w hw => k_draw l hm hn hl ho (h w w hw hw (St.refl _) (Nat.le_refl _) fun g hg => by obtain ⟨o, hg⟩ := hg; cases hg) hro
theorem ld_nil {Y : Mm} (hY : MCat X M Y) (h : WLG P fn k σ O S B K Y R) : WLd P fn ops listed [] k σ O S B K X M R := fun w w2 h1 h2 h3 h4 h5 => d_nil (h w2 (hY.eq ▸ h2))
theorem ld_open {o : Oper} (hi : ops[i]? = some o) (h : WLdo P fn ops listed i kd o l k σ O S B K X M R) : WLd P fn ops listed ((i, kd) :: l) k σ O S B K X M R := fun w w2 h1 h2 h3 h4 h5 => d_open hi (h w w2 h1 h2 h3 h4 h5)
theorem ld_pass (hg : wants ops σ ⟨dd, op, oty, opos, oaf, og⟩ false) (hd : okD dd fn.ntmps = true) (h : WLd P fn ops (listed.setIfInBounds i true) l k (putS dd undef σ) O S B K X M R) : WLdo P fn ops listed i 0 (⟨dd, op, oty, opos, oaf, og⟩ : Oper) l k σ O S B K X M R :=
  fun w w2 h1 h2 h3 h4 h5 => x_pass hg hd h3 (h w w2 h1 h2 h3 h4 h5)
theorem ld_passN (hg : wants ops σ ⟨dd, op, oty, opos, oaf, og⟩ false) (hd : okD dd fn.ntmps = true) (h : WLd P fn ops (listed.setIfInBounds i true) l k (putS dd undef σ) O S B K X M R) : WLdo P fn ops listed i 1 (⟨dd, op, oty, opos, oaf, og⟩ : Oper) l k σ O S B K X M R :=
  fun w w2 h1 h2 h3 h4 h5 => x_passNow hg hd h3 (h w w2 h1 h2 h3 h4 h5)
theorem ld_s {v : Value} (hr : Ri P fn.ntmps σ ⟨dd, op, oty, opos, oaf, og⟩ v) (hg : wants ops σ ⟨dd, op, oty, opos, oaf, og⟩ true) (hd : okD dd fn.ntmps = true) (h : WLd P fn ops (listed.setIfInBounds i true) l k (putS dd v σ) O S B K X M R) : WLdo P fn ops listed i 0 (⟨dd, op, oty, opos, oaf, og⟩ : Oper) l k σ O S B K X M R :=
  fun w w2 h1 h2 h3 h4 h5 => x_s hr hg hd h3 (h w w2 h1 h2 h3 h4 h5)
theorem ld_n {v : Value} (hr : Ri P fn.ntmps σ ⟨dd, op, oty, opos, oaf, og⟩ v) (hg : wants ops σ ⟨dd, op, oty, opos, oaf, og⟩ true) (hd : okD dd fn.ntmps = true) (h : WLd P fn ops (listed.setIfInBounds i true) l k (putS dd v σ) O S B K X M R) : WLdo P fn ops listed i 1 (⟨dd, op, oty, opos, oaf, og⟩ : Oper) l k σ O S B K X M R :=
  fun w w2 h1 h2 h3 h4 h5 => x_n hr hg hd h3 (h w w2 h1 h2 h3 h4 h5)
theorem ld_still {v : Value} (hrun : ∀ w, Lw O S B K M w → Rn P fn.ntmps σ w ⟨dd, op, oty, opos, oaf, og⟩ v) (hg : wants ops σ ⟨dd, op, oty, opos, oaf, og⟩ true) (hd : okD dd fn.ntmps = true) (h : WLd P fn ops (listed.setIfInBounds i true) l k (putS dd v σ) O S B K X M R) : WLdo P fn ops listed i 0 (⟨dd, op, oty, opos, oaf, og⟩ : Oper) l k σ O S B K X M R :=
  fun w w2 h1 h2 h3 h4 h5 => x_still (hrun w h1) hg hd h3 (h w w2 h1 h2 h3 h4 h5)
theorem ld_now {v : Value} (hrun : ∀ w, Lw O S B K (X ++ M) w → Rn P fn.ntmps σ w ⟨dd, op, oty, opos, oaf, og⟩ v) (hg : wants ops σ ⟨dd, op, oty, opos, oaf, og⟩ true) (hd : okD dd fn.ntmps = true) (h : WLd P fn ops (listed.setIfInBounds i true) l k (putS dd v σ) O S B K X M R) : WLdo P fn ops listed i 1 (⟨dd, op, oty, opos, oaf, og⟩ : Oper) l k σ O S B K X M R :=
  fun w w2 h1 h2 h3 h4 h5 => x_now (hrun w2 h2) hg hd h3 (h w w2 h1 h2 h3 h4 h5)
theorem ld_new {Φ : World → Value → Nat → Obj → Prop} (hrun : ∀ w, Ef P fn.ntmps σ w ⟨dd, op, oty, opos, oaf, og⟩ fun u w' => ∃ g o, Φ w u g o ∧ Nb w w' g o) (hg : wants ops σ ⟨dd, op, oty, opos, oaf, og⟩ true) (hd : okD dd fn.ntmps = true)
    (h : ∀ w u g o, Φ w u g o → O.heap.size ≤ g → B.heap.size ≤ g → WLd P fn ops (listed.setIfInBounds i true) l k (putS dd u σ) O S B K ((g, o) :: X) M R) : WLdo P fn ops listed i 1 (⟨dd, op, oty, opos, oaf, og⟩ : Oper) l k σ O S B K X M R :=
  fun w w2 h1 h2 h3 h4 h5 => x_any (hrun w2) hg hd fun u w' ⟨g, o, hf, hn⟩ => .inl ⟨h3.trans h4 hn.kn.st, h w2 u g o hf (Nat.le_trans h2.org.size hn.ge) (Nat.le_trans h2.kp.size hn.ge) w w' h1 (h2.nb hn) (h3.trans h4 hn.kn.st) (Nat.le_trans h4 hn.kn.size)
    fun g' hg' => by
      obtain ⟨o', hg'⟩ := hg'
      cases hg' with
      | hd => exact Nat.le_trans h4 hn.ge
      | tl hg' => exact h5 _ ⟨o', hg'⟩⟩
theorem ld_box1 {x : Operand} {e : TypeId} {v : Value} (hx : ev σ x = some v) (hv : v.oneCell' = true) (hg : wants ops σ ⟨dd, .box e x, oty, opos, oaf, og⟩ true) (hd : okD dd fn.ntmps = true)
    (h : ∀ g, O.heap.size ≤ g → B.heap.size ≤ g → WLd P fn ops (listed.setIfInBounds i true) l k (putS dd (.pointer (some ⟨g, 0, none⟩)) σ) O S B K ((g, cb [v] e) :: X) M R) : WLdo P fn ops listed i 1 (⟨dd, .box e x, oty, opos, oaf, og⟩ : Oper) l k σ O S B K X M R :=
  ld_new (Φ := fun _ u g o => u = .pointer (some ⟨g, 0, none⟩) ∧ o = .cells v.cells e) (fun w => ⟨fun a w0 ha h0 => let ⟨u, w', h1, g, h2, h3⟩ := (e_box hx).run a w0 ha h0; ⟨u, w', h1, g, _, ⟨h2, rfl⟩, h3⟩⟩) hg hd fun w u g o ⟨h1, h2⟩ => by
    subst h1 h2; rw [one_size hv]; exact h g
theorem ld_boxA {x : Operand} {e : TypeId} {cs : Array Value} (hx : ev σ x = some (.agg cs)) (hg : wants ops σ ⟨dd, .box e x, oty, opos, oaf, og⟩ true) (hd : okD dd fn.ntmps = true)
    (h : ∀ g, O.heap.size ≤ g → B.heap.size ≤ g → WLd P fn ops (listed.setIfInBounds i true) l k (putS dd (.pointer (some ⟨g, 0, none⟩)) σ) O S B K ((g, .cells cs e (0, 0)) :: X) M R) : WLdo P fn ops listed i 1 (⟨dd, .box e x, oty, opos, oaf, og⟩ : Oper) l k σ O S B K X M R :=
  ld_new (Φ := fun _ u g o => u = .pointer (some ⟨g, 0, none⟩) ∧ o = .cells cs e) (fun w => ⟨fun a w0 ha h0 => let ⟨u, w', h1, g, h2, h3⟩ := (e_box hx).run a w0 ha h0; ⟨u, w', h1, g, _, ⟨h2, rfl⟩, h3⟩⟩) hg hd fun w u g o ⟨h1, h2⟩ => by
    subst h1 h2; exact h g
theorem ld_alloc {e : TypeId} {sz bytes : Nat} {z : Value} [hE : ElT P e sz bytes z] (hg : wants ops σ ⟨dd, .alloc e, oty, opos, oaf, og⟩ true) (hd : okD dd fn.ntmps = true)
    (h : ∀ g, O.heap.size ≤ g → B.heap.size ≤ g → WLd P fn ops (listed.setIfInBounds i true) l k (putS dd (.pointer (some ⟨g, 0, none⟩)) σ) O S B K ((g, .cells z.cells e (0, 0)) :: X) M R) : WLdo P fn ops listed i 1 (⟨dd, .alloc e, oty, opos, oaf, og⟩ : Oper) l k σ O S B K X M R :=
  ld_new (Φ := fun _ u g o => u = .pointer (some ⟨g, 0, none⟩) ∧ o = .cells z.cells e) (fun w => ⟨fun a w0 ha h0 => let ⟨u, w', h1, g, h2, h3⟩ := (e_alloc).run a w0 ha h0; ⟨u, w', h1, g, _, ⟨h2, rfl⟩, h3⟩⟩) hg hd fun w u g o ⟨h1, h2⟩ => by
    subst h1 h2; exact h g
/-- A block of the region's own is another one now. -/
theorem ld_wrX {X' : Mm} {g : Nat} {o : Obj} (hrun : ∀ w, Lw O S B K (X ++ M) w → Eu P fn.ntmps σ w ⟨dd, op, oty, opos, oaf, og⟩ fun w' => Wr w w' g o) (hu : MUp g o X X') (hg : wants ops σ ⟨dd, op, oty, opos, oaf, og⟩ true) (hd : okD dd fn.ntmps = true)
    (h : WLd P fn ops (listed.setIfInBounds i true) l k (putS dd undef σ) O S B K X' M R) : WLdo P fn ops listed i 1 (⟨dd, op, oty, opos, oaf, og⟩ : Oper) l k σ O S B K X M R :=
  fun w w2 h1 h2 h3 h4 h5 => x_unit (hrun w2 h2) hg hd fun w' hr => by
    have hst : St w w' := fun k hk => by
      refine (hr.kp.block k (by omega) ?_).trans (h3 k hk)
      rintro rfl
      have := h5 _ (MK_iff.2 hu.key)
      omega
    refine .inl ⟨hst, h w w' h1 (h2.wr hr ?_) hst (Nat.le_trans h4 hr.kp.size) fun g' hg' => h5 g' (MK_iff.2 (by rw [← hu.keys]; exact MK_iff.1 hg'))⟩
    clear h hr hst h1 h2 h5 hrun
    induction hu with
    | hd => exact .hd
    | tl _ ih => exact .tl (ih)
/-- The place of the operation is the same in all orders. -/
theorem ld_wrM {g : Nat} {o : Obj} (hrun : ∀ w, Lw O S B K (X ++ M) w → Eu P fn.ntmps σ w ⟨dd, op, oty, opos, oaf, og⟩ fun w' => Wr w w' g o) (hu : MUp g o (X ++ M) M') (hwa : waitsAll ops i = true) (hg : wants ops σ ⟨dd, op, oty, opos, oaf, og⟩ true) (hd : okD dd fn.ntmps = true)
    (h : WLd P fn ops (listed.setIfInBounds i true) l k (putS dd undef σ) O S B K [] M' R) : WLdo P fn ops listed i 1 (⟨dd, op, oty, opos, oaf, og⟩ : Oper) l k σ O S B K X M R :=
  fun w w2 h1 h2 h3 h4 h5 => x_unit (hrun w2 h2) hg hd fun w' hr => .inr ⟨hwa, h w' w' (h2.wr hr hu) (h2.wr hr hu) (St.refl _) (Nat.le_refl _) fun g hg => by obtain ⟨o, hg⟩ := hg; cases hg⟩
theorem ld_call {f : FuncId} {args : Array Value} {v : Value} (hrun : En P fn.ntmps σ ⟨dd, op, oty, opos, oaf, og⟩ f args) (hg : wants ops σ ⟨dd, op, oty, opos, oaf, og⟩ true) (hd : okD dd fn.ntmps = true) (hc : ∀ w, Lw O S B K (X ++ M) w → CallsR P f args w fun u w' => Kn w w' ∧ u = v)
    (h : WLd P fn ops (listed.setIfInBounds i true) l k (putS dd v σ) O S B K X M R) : WLdo P fn ops listed i 1 (⟨dd, op, oty, opos, oaf, og⟩ : Oper) l k σ O S B K X M R :=
  fun w w2 h1 h2 h3 h4 h5 => x_enter hrun hg hd ((hc w2 h2).mono fun u w' ⟨k1, k2⟩ => by
    subst k2; exact .inl ⟨h3.trans h4 k1.st, h w w' h1 (h2.kn k1) (h3.trans h4 k1.st) (Nat.le_trans h4 k1.size) h5⟩)
theorem ld_callP {f : FuncId} {args : Array Value} {v : Value} (hrun : En P fn.ntmps σ ⟨dd, op, oty, opos, oaf, og⟩ f args) (hg : wants ops σ ⟨dd, op, oty, opos, oaf, og⟩ true) (hd : okD dd fn.ntmps = true) (hc : ∀ w, Lw O S B K (X ++ M) w → CallsR P f args w fun u w' => w' = w ∧ u = v)
    (h : WLd P fn ops (listed.setIfInBounds i true) l k (putS dd v σ) O S B K X M R) : WLdo P fn ops listed i 1 (⟨dd, op, oty, opos, oaf, og⟩ : Oper) l k σ O S B K X M R :=
  ld_call hrun hg hd (fun w hw => (hc w hw).mono fun u w' ⟨h1, h2⟩ => ⟨by subst h1; exact Kp.refl _ _, h2⟩) h
theorem ld_callB {f : FuncId} {args : Array Value} {Φ : World → Value → World → Prop} (hrun : En P fn.ntmps σ ⟨dd, op, oty, opos, oaf, og⟩ f args) (hg : wants ops σ ⟨dd, op, oty, opos, oaf, og⟩ true) (hd : okD dd fn.ntmps = true) (hc : ∀ w, Lw O S B K (X ++ M) w → CallsR P f args w fun u w' => Kn w w' ∧ Φ w u w')
    (h : ∀ w u w', Lw O S B K (X ++ M) w → Kn w w' → Kp S O w' → Φ w u w' → WLd P fn ops (listed.setIfInBounds i true) l k (putS dd u σ) O S B K X M R) : WLdo P fn ops listed i 1 (⟨dd, op, oty, opos, oaf, og⟩ : Oper) l k σ O S B K X M R :=
  fun w w2 h1 h2 h3 h4 h5 => x_enter hrun hg hd ((hc w2 h2).mono fun u w' ⟨k1, k2⟩ => .inl ⟨h3.trans h4 k1.st, h w2 u w' h2 k1 (h2.kn k1).org k2 w w' h1 (h2.kn k1) (h3.trans h4 k1.st) (Nat.le_trans h4 k1.size) h5⟩)
end
attribute [irreducible] WLG WLo WLd WLdo
end Go.Ink
namespace Go.Ink
open Go Go.RowKit
/-! ### Structs put together, by lists -/
def cellsL (v : Value) : List Value := v.cells.toList
def fillL (pl : Array (Nat × Nat)) (z : List Value) : List (Nat × Value) → Option (List Value)
  | [] => some z
  | (i, v) :: r => match pl[i]? with
    | none => none
    | some (off, size) => if (cellsL v).length = size ∧ off + size ≤ z.length then fillL pl (z.take off ++ cellsL v ++ z.drop (off + size)) r else none
theorem foldl_set (off : Nat) : ∀ (vs : List Value) (j : Nat) (z : List Value), off + j + vs.length ≤ z.length →
    ((vs.zipIdx j).foldl (fun (cs : Array Value) (cj : Value × Nat) => cs.setIfInBounds (off + cj.2) cj.1) z.toArray) = (z.take (off + j) ++ vs ++ z.drop (off + j + vs.length)).toArray
  | [], j, z, h => by simp
  | v :: vs, j, z, h => by
    simp only [List.length_cons] at h
    simp only [List.zipIdx_cons, List.foldl_cons]
    rw [show z.toArray.setIfInBounds (off + j) v = (z.set (off + j) v).toArray by simp, foldl_set off vs (j + 1) _ (by rw [List.length_set]; omega)]
    congr 1
    have e1 : (z.set (off + j) v).take (off + (j + 1)) = z.take (off + j) ++ [v] := by
      rw [show off + (j + 1) = (off + j) + 1 by omega, List.take_add_one, List.take_set_of_le (by omega), List.getElem?_set_self (by omega)]; rfl
    have e2 : (z.set (off + j) v).drop (off + (j + 1) + vs.length) = z.drop (off + j + (vs.length + 1)) := by
      rw [List.drop_set_of_lt (by omega)]; congr 1; omega
    rw [e1, e2]; simp
theorem fill_fillL (pl : Array (Nat × Nat)) : ∀ (qs : List (Nat × Value)) (z cs : List Value), fillL pl z qs = some cs → Instr.fill (pl[·]?) z.toArray qs = some cs.toArray
  | [], z, cs, h => by simp only [fillL, Option.some.injEq] at h; subst h; rfl
  | (i, v) :: r, z, cs, h => by
    unfold fillL at h
    unfold Instr.fill
    simp only
    cases hp : pl[i]? with
    | none => rw [hp] at h; simp at h
    | some p =>
      obtain ⟨off, size⟩ := p
      rw [hp] at h
      simp only at h ⊢
      split at h
      · next hc =>
        obtain ⟨h1, h2⟩ := hc
        have h1' : v.cells.size = size := by simpa [cellsL] using h1
        have e := foldl_set off (cellsL v) 0 z (by omega)
        simp only [Nat.add_zero, cellsL] at e
        have e' : (Array.foldl (fun (cs : Array Value) (x : Value × Nat) => cs.setIfInBounds (off + x.2) x.1) z.toArray v.cells.zipIdx) = (z.take off ++ cellsL v ++ z.drop (off + size)).toArray := by
          rw [← Array.foldl_toList, Array.toList_zipIdx, e, cellsL, Array.length_toList, h1']
        rw [if_neg (by rw [h1']; simp; omega)]
        rw [show (v.cells.zipIdx.foldl (fun cs x => match x with | (c, j) => cs.setIfInBounds (off + j) c) z.toArray) = (Array.foldl (fun (cs : Array Value) (x : Value × Nat) => cs.setIfInBounds (off + x.2) x.1) z.toArray v.cells.zipIdx) from rfl, e']
        exact fill_fillL pl r _ cs h
      · cases h
section
variable {P : Program} {fn : Func} {k : List Item} {σ : Sig} {O B : World} {S K : Nat → Prop} {X M M' : Mm} {R : Pt} {ops : Array Oper} {rest : List Oper} {listed : Array Bool} {l : List (Nat × Nat)} {i kd : Nat}
variable {dd : Option Nat} {op : Op} {oty : TypeId} {opos : String} {oaf : Array Edge} {og : Option (Nat × Bool)}
theorem lo_build {t : TypeId} {pl : Array (Nat × Nat)} {z : Array Value} [hB : BldT P t pl z] {ps : List (Nat × Operand)} {qs : List (Nat × Value)} {cs cs' : List Value} (hx : evps σ ps = some qs) (hf : fillL pl z.toList qs = some cs) (hnf : Nf cs cs') (hd : okD dd fn.ntmps = true)
    (h : WLo P fn ops rest k (putS dd (.agg cs'.toArray) σ) O S B K M R) : WLo P fn ops ((⟨dd, .build t ps.toArray, oty, opos, oaf, none⟩ : Oper) :: rest) k σ O S B K M R :=
  lo_rn (fun w => r_build hx (fill_fillL pl qs z.toList cs' (by rw [hf, hnf.eq]))) hd h
theorem ld_build {t : TypeId} {pl : Array (Nat × Nat)} {z : Array Value} [hB : BldT P t pl z] {ps : List (Nat × Operand)} {qs : List (Nat × Value)} {cs cs' : List Value} (hx : evps σ ps = some qs) (hf : fillL pl z.toList qs = some cs) (hnf : Nf cs cs') (hg : wants ops σ ⟨dd, .build t ps.toArray, oty, opos, oaf, og⟩ true) (hd : okD dd fn.ntmps = true)
    (h : WLd P fn ops (listed.setIfInBounds i true) l k (putS dd (.agg cs'.toArray) σ) O S B K X M R) : WLdo P fn ops listed i 0 (⟨dd, .build t ps.toArray, oty, opos, oaf, og⟩ : Oper) l k σ O S B K X M R :=
  ld_still (fun w _ => r_build hx (fill_fillL pl qs z.toList cs' (by rw [hf, hnf.eq]))) hg hd h
theorem ld_buildN {t : TypeId} {pl : Array (Nat × Nat)} {z : Array Value} [hB : BldT P t pl z] {ps : List (Nat × Operand)} {qs : List (Nat × Value)} {cs cs' : List Value} (hx : evps σ ps = some qs) (hf : fillL pl z.toList qs = some cs) (hnf : Nf cs cs') (hg : wants ops σ ⟨dd, .build t ps.toArray, oty, opos, oaf, og⟩ true) (hd : okD dd fn.ntmps = true)
    (h : WLd P fn ops (listed.setIfInBounds i true) l k (putS dd (.agg cs'.toArray) σ) O S B K X M R) : WLdo P fn ops listed i 1 (⟨dd, .build t ps.toArray, oty, opos, oaf, og⟩ : Oper) l k σ O S B K X M R :=
  ld_now (fun w _ => r_build hx (fill_fillL pl qs z.toList cs' (by rw [hf, hnf.eq]))) hg hd h
/-- The whole block. -/
theorem lo_loadW {x : Operand} {t : TypeId} {n : Nat} [hT : AggT P t n] {g : Nat} {cs : List Value} {e : TypeId} {fr : Nat × Nat} {p : Addr} (hx : ev σ x = some (.pointer (some p))) (hp : p = ⟨g, 0, none⟩) (hm : MIn g (.cells cs.toArray e fr) M) (hl : cs.length = n)
    (hd : okD dd fn.ntmps = true) (h : WLo P fn ops rest k (putS dd (.agg cs.toArray) σ) O S B K M R) : WLo P fn ops ((⟨dd, .load t x, oty, opos, oaf, none⟩ : Oper) :: rest) k σ O S B K M R :=
  lo_still (fun w hw => r_loadA hx hl (by subst hp; exact blk_all (hw.mem g _ hm))) hd h
theorem lo_storeW {x y : Operand} {t : TypeId} {n : Nat} [hT : AggT P t n] {p : Addr} {new : List Value} {g : Nat} {cs : List Value} {e : TypeId} (hx : ev σ x = some (.pointer (some p))) (hp : p = ⟨g, 0, none⟩) (hm : MIn g (cb cs e) M)
    (hi : Nat.beq cs.length n = true) (hy : ev σ y = some (.agg new.toArray)) (hl : new.length = n) (hv : new.all Value.oneCell' = true) (hu : MUp g (cb new e) M M') (hd : okD dd fn.ntmps = true)
    (h : WLo P fn ops rest k (putS dd undef σ) O S B K M' R) : WLo P fn ops ((⟨dd, .store t x y, oty, opos, oaf, none⟩ : Oper) :: rest) k σ O S B K M R :=
  lo_storeA hx hp hm (by simpa [Nat.ble_eq] using Nat.le_of_eq (Nat.eq_of_beq_eq_true hi).symm) hy hl hv (by have := Nat.eq_of_beq_eq_true hi; simp [← this]) hu hd h
/-! ### The same in regions that draw -/
theorem ld_load {x : Operand} {t : TypeId} [hT : CellT P t] {g j : Nat} {cs : Array Value} {e : TypeId} {fr : Nat × Nat} {v : Value} {p : Addr} (hx : ev σ x = some (.pointer (some p))) (hp : p = ⟨g, j, none⟩) (hm : MIn g (.cells cs e fr) M) (hv : GetL cs.toList j v)
    (hg : wants ops σ ⟨dd, .load t x, oty, opos, oaf, og⟩ true) (hd : okD dd fn.ntmps = true) (h : WLd P fn ops (listed.setIfInBounds i true) l k (putS dd v σ) O S B K X M R) : WLdo P fn ops listed i 0 (⟨dd, .load t x, oty, opos, oaf, og⟩ : Oper) l k σ O S B K X M R :=
  ld_still (fun w hw => r_load hx (by rw [hp]; exact hw.cell hm (by simpa using hv.get))) hg hd h
theorem ld_loadN {x : Operand} {t : TypeId} [hT : CellT P t] {g j : Nat} {cs : Array Value} {e : TypeId} {fr : Nat × Nat} {v : Value} {p : Addr} (hx : ev σ x = some (.pointer (some p))) (hp : p = ⟨g, j, none⟩) (hm : MIn g (.cells cs e fr) (X ++ M)) (hv : GetL cs.toList j v)
    (hg : wants ops σ ⟨dd, .load t x, oty, opos, oaf, og⟩ true) (hd : okD dd fn.ntmps = true) (h : WLd P fn ops (listed.setIfInBounds i true) l k (putS dd v σ) O S B K X M R) : WLdo P fn ops listed i 1 (⟨dd, .load t x, oty, opos, oaf, og⟩ : Oper) l k σ O S B K X M R :=
  ld_now (fun w hw => r_load hx (by rw [hp]; exact hw.cell hm (by simpa using hv.get))) hg hd h
theorem ld_loadW {x : Operand} {t : TypeId} {n : Nat} [hT : AggT P t n] {g : Nat} {cs : List Value} {e : TypeId} {fr : Nat × Nat} {p : Addr} (hx : ev σ x = some (.pointer (some p))) (hp : p = ⟨g, 0, none⟩) (hm : MIn g (.cells cs.toArray e fr) M) (hl : cs.length = n)
    (hg : wants ops σ ⟨dd, .load t x, oty, opos, oaf, og⟩ true) (hd : okD dd fn.ntmps = true) (h : WLd P fn ops (listed.setIfInBounds i true) l k (putS dd (.agg cs.toArray) σ) O S B K X M R) : WLdo P fn ops listed i 0 (⟨dd, .load t x, oty, opos, oaf, og⟩ : Oper) l k σ O S B K X M R :=
  ld_still (fun w hw => r_loadA hx hl (by subst hp; exact blk_all (hw.mem g _ hm))) hg hd h
theorem ld_loadWN {x : Operand} {t : TypeId} {n : Nat} [hT : AggT P t n] {g : Nat} {cs : List Value} {e : TypeId} {fr : Nat × Nat} {p : Addr} (hx : ev σ x = some (.pointer (some p))) (hp : p = ⟨g, 0, none⟩) (hm : MIn g (.cells cs.toArray e fr) (X ++ M)) (hl : cs.length = n)
    (hg : wants ops σ ⟨dd, .load t x, oty, opos, oaf, og⟩ true) (hd : okD dd fn.ntmps = true) (h : WLd P fn ops (listed.setIfInBounds i true) l k (putS dd (.agg cs.toArray) σ) O S B K X M R) : WLdo P fn ops listed i 1 (⟨dd, .load t x, oty, opos, oaf, og⟩ : Oper) l k σ O S B K X M R :=
  ld_now (fun w hw => r_loadA hx hl (by subst hp; exact blk_all (hw.mem g _ hm))) hg hd h
theorem ld_loadO {x : Operand} {t : TypeId} [hT : CellT P t] {v : Value} {p : Addr} (hx : ev σ x = some (.pointer (some p))) (hc : O.cell? p = some v) (hs : ¬ S p.block)
    (hg : wants ops σ ⟨dd, .load t x, oty, opos, oaf, og⟩ true) (hd : okD dd fn.ntmps = true) (h : WLd P fn ops (listed.setIfInBounds i true) l k (putS dd v σ) O S B K X M R) : WLdo P fn ops listed i 0 (⟨dd, .load t x, oty, opos, oaf, og⟩ : Oper) l k σ O S B K X M R :=
  ld_still (fun w hw => r_load hx (hw.cellO hc hs)) hg hd h
theorem ld_loadON {x : Operand} {t : TypeId} [hT : CellT P t] {v : Value} {p : Addr} (hx : ev σ x = some (.pointer (some p))) (hc : O.cell? p = some v) (hs : ¬ S p.block)
    (hg : wants ops σ ⟨dd, .load t x, oty, opos, oaf, og⟩ true) (hd : okD dd fn.ntmps = true) (h : WLd P fn ops (listed.setIfInBounds i true) l k (putS dd v σ) O S B K X M R) : WLdo P fn ops listed i 1 (⟨dd, .load t x, oty, opos, oaf, og⟩ : Oper) l k σ O S B K X M R :=
  ld_now (fun w hw => r_load hx (hw.cellO hc hs)) hg hd h
theorem ld_loadB {x : Operand} {t : TypeId} [hT : CellT P t] {v : Value} {p : Addr} (hx : ev σ x = some (.pointer (some p))) (hc : B.cell? p = some v) (hs : ¬ K p.block)
    (hg : wants ops σ ⟨dd, .load t x, oty, opos, oaf, og⟩ true) (hd : okD dd fn.ntmps = true) (h : WLd P fn ops (listed.setIfInBounds i true) l k (putS dd v σ) O S B K X M R) : WLdo P fn ops listed i 0 (⟨dd, .load t x, oty, opos, oaf, og⟩ : Oper) l k σ O S B K X M R :=
  ld_still (fun w hw => r_load hx (hw.cellB hc hs)) hg hd h
theorem ld_index {x y : Operand} {t e : TypeId} {sz bytes : Nat} {z : Value} [hT : SlT P t e] [hE : ElT P e sz bytes z] {A : Option Addr} {ad : Addr} {n c j : Nat} {iv : Int} {ik : IntKind} (hx : ev σ x = some (.slice A n c)) (hy : ev σ y = some (.int ik iv)) (hj : iv = (j : Int)) (hn : j < n) (hA : A = some ad)
    (hg : wants ops σ ⟨dd, .indexAddr t x y, oty, opos, oaf, og⟩ true) (hd : okD dd fn.ntmps = true) (h : WLd P fn ops (listed.setIfInBounds i true) l k (putS dd (.pointer (some (ad.add (j * sz)))) σ) O S B K X M R) : WLdo P fn ops listed i 0 (⟨dd, .indexAddr t x y, oty, opos, oaf, og⟩ : Oper) l k σ O S B K X M R :=
  ld_still (fun w _ => by subst hj hA; exact r_index hx hy rfl (by omega) (by omega)) hg hd h
theorem ld_indexN {x y : Operand} {t e : TypeId} {sz bytes : Nat} {z : Value} [hT : SlT P t e] [hE : ElT P e sz bytes z] {A : Option Addr} {ad : Addr} {n c j : Nat} {iv : Int} {ik : IntKind} (hx : ev σ x = some (.slice A n c)) (hy : ev σ y = some (.int ik iv)) (hj : iv = (j : Int)) (hn : j < n) (hA : A = some ad)
    (hg : wants ops σ ⟨dd, .indexAddr t x y, oty, opos, oaf, og⟩ true) (hd : okD dd fn.ntmps = true) (h : WLd P fn ops (listed.setIfInBounds i true) l k (putS dd (.pointer (some (ad.add (j * sz)))) σ) O S B K X M R) : WLdo P fn ops listed i 1 (⟨dd, .indexAddr t x y, oty, opos, oaf, og⟩ : Oper) l k σ O S B K X M R :=
  ld_now (fun w _ => by subst hj hA; exact r_index hx hy rfl (by omega) (by omega)) hg hd h
/-- A store to a block of the region's own; to one whose place in all orders is the same. -/
theorem ld_storeX {X' : Mm} {x y : Operand} {t : TypeId} [hT : CellT P t] {p : Addr} {v : Value} {g j : Nat} {cs cs' : List Value} {e : TypeId} (hx : ev σ x = some (.pointer (some p))) (hp : p = ⟨g, j, none⟩) (hm : MIn g (cb cs e) (X ++ M))
    (hi : Nat.blt j cs.length = true) (hy : ev σ y = some v) (hv : v.oneCell' = true) (hs : SetL cs j v cs') (hu : MUp g (cb cs' e) X X') (hg : wants ops σ ⟨dd, .store t x y, oty, opos, oaf, og⟩ true) (hd : okD dd fn.ntmps = true)
    (h : WLd P fn ops (listed.setIfInBounds i true) l k (putS dd undef σ) O S B K X' M R) : WLdo P fn ops listed i 1 (⟨dd, .store t x y, oty, opos, oaf, og⟩ : Oper) l k σ O S B K X M R :=
  ld_wrX (fun w hw => by have := u_store (P := P) (N := fn.ntmps) (t := t) (dst := dd) (ty := oty) (pos := opos) (af := oaf) (gd := og) hx hy hv hp (hw.mem g _ hm) (by simpa [Nat.blt_eq] using hi); simpa using this) (by rw [← hs.eq] at hu; exact hu) hg hd h
theorem ld_storeM {Y : Mm} {x y : Operand} {t : TypeId} [hT : CellT P t] {p : Addr} {v : Value} {g j : Nat} {cs cs' : List Value} {e : TypeId} (hY : MCat X M Y) (hx : ev σ x = some (.pointer (some p))) (hp : p = ⟨g, j, none⟩) (hm : MIn g (cb cs e) Y)
    (hi : Nat.blt j cs.length = true) (hy : ev σ y = some v) (hv : v.oneCell' = true) (hs : SetL cs j v cs') (hu : MUp g (cb cs' e) Y M') (hwa : waitsAll ops i = true) (hg : wants ops σ ⟨dd, .store t x y, oty, opos, oaf, og⟩ true) (hd : okD dd fn.ntmps = true)
    (h : WLd P fn ops (listed.setIfInBounds i true) l k (putS dd undef σ) O S B K [] M' R) : WLdo P fn ops listed i 1 (⟨dd, .store t x y, oty, opos, oaf, og⟩ : Oper) l k σ O S B K X M R :=
  ld_wrM (fun w hw => by rw [hY.eq] at hw; exact (by have := u_store (P := P) (N := fn.ntmps) (t := t) (dst := dd) (ty := oty) (pos := opos) (af := oaf) (gd := og) hx hy hv hp (hw.mem g _ hm) (by simpa [Nat.blt_eq] using hi); simpa using this)) (by rw [hY.eq]; rw [← hs.eq] at hu; exact hu) hwa hg hd h
theorem eu_storeW {N : Nat} {x y : Operand} {t : TypeId} {n : Nat} [hT : AggT P t n] {p : Addr} {new : List Value} {g : Nat} {cs : List Value} {e : TypeId} {w : World} (hx : ev σ x = some (.pointer (some p))) (hp : p = ⟨g, 0, none⟩) (hb : w.heap[g]? = some (cb cs e))
    (hi : Nat.beq cs.length n = true) (hy : ev σ y = some (.agg new.toArray)) (hl : new.length = n) (hv : new.all Value.oneCell' = true) : Eu P N σ w ⟨dd, .store t x y, oty, opos, oaf, og⟩ fun w' => Wr w w' g (cb new e) := by
  have h0 := Nat.eq_of_beq_eq_true hi
  have := u_storeA (P := P) (N := N) (t := t) (dst := dd) (ty := oty) (pos := opos) (af := oaf) (gd := og) hx hy hl (by simpa using hv) hp hb (by simp [h0])
  rw [← h0] at this
  simpa using this
theorem ld_storeWX {X' : Mm} {x y : Operand} {t : TypeId} {n : Nat} [hT : AggT P t n] {p : Addr} {new : List Value} {g : Nat} {cs : List Value} {e : TypeId} (hx : ev σ x = some (.pointer (some p))) (hp : p = ⟨g, 0, none⟩) (hm : MIn g (cb cs e) (X ++ M))
    (hi : Nat.beq cs.length n = true) (hy : ev σ y = some (.agg new.toArray)) (hl : new.length = n) (hv : new.all Value.oneCell' = true) (hu : MUp g (cb new e) X X') (hg : wants ops σ ⟨dd, .store t x y, oty, opos, oaf, og⟩ true) (hd : okD dd fn.ntmps = true)
    (h : WLd P fn ops (listed.setIfInBounds i true) l k (putS dd undef σ) O S B K X' M R) : WLdo P fn ops listed i 1 (⟨dd, .store t x y, oty, opos, oaf, og⟩ : Oper) l k σ O S B K X M R :=
  ld_wrX (fun w hw => eu_storeW hx hp (hw.mem g _ hm) hi hy hl hv) hu hg hd h
theorem ld_storeWM {Y : Mm} {x y : Operand} {t : TypeId} {n : Nat} [hT : AggT P t n] {p : Addr} {new : List Value} {g : Nat} {cs : List Value} {e : TypeId} (hY : MCat X M Y) (hx : ev σ x = some (.pointer (some p))) (hp : p = ⟨g, 0, none⟩) (hm : MIn g (cb cs e) Y)
    (hi : Nat.beq cs.length n = true) (hy : ev σ y = some (.agg new.toArray)) (hl : new.length = n) (hv : new.all Value.oneCell' = true) (hu : MUp g (cb new e) Y M') (hwa : waitsAll ops i = true) (hg : wants ops σ ⟨dd, .store t x y, oty, opos, oaf, og⟩ true) (hd : okD dd fn.ntmps = true)
    (h : WLd P fn ops (listed.setIfInBounds i true) l k (putS dd undef σ) O S B K [] M' R) : WLdo P fn ops listed i 1 (⟨dd, .store t x y, oty, opos, oaf, og⟩ : Oper) l k σ O S B K X M R :=
  ld_wrM (fun w hw => by rw [hY.eq] at hw; exact eu_storeW hx hp (hw.mem g _ hm) hi hy hl hv) (by rw [hY.eq]; exact hu) hwa hg hd h
end
end Go.Ink
namespace Go.Ink
open Go Go.RowKit
/-! ### Regions in which some blocks of one's own turn, in an order that is drawn: Q: those, T: the others -/
inductive MPart : List Nat → Mm → Mm → Prop where
  | nil : MPart [] [] []
  | turn {g : Nat} {o : Obj} {Q : List Nat} {T M : Mm} : MPart Q T M → MPart (g :: Q) T ((g, o) :: M)
  | keep {x : Nat × Obj} {Q : List Nat} {T M : Mm} : MPart Q T M → MPart Q (x :: T) (x :: M)
theorem MPart.sub : ∀ {Q : List Nat} {T M : Mm}, MPart Q T M → T.Sublist M
  | _, _, _, .nil => List.Sublist.refl _
  | _, _, _, .turn h => h.sub.cons _
  | _, _, _, .keep h => h.sub.cons_cons _
theorem MPart.inM : ∀ {Q : List Nat} {T M : Mm}, MPart Q T M → ∀ k ∈ Q, k ∈ M.map (·.1)
  | _, _, _, .nil, k, h => by simp at h
  | _, _, _, .turn h, k, hk => by
    rcases List.mem_cons.1 hk with rfl | hk
    · simp
    · simp only [List.map_cons, List.mem_cons]; exact .inr (h.inM k hk)
  | _, _, _, .keep h, k, hk => by simp only [List.map_cons, List.mem_cons]; exact .inr (h.inM k hk)
theorem MPart.apart : ∀ {Q : List Nat} {T M : Mm}, MPart Q T M → (M.map (·.1)).Nodup → ∀ k ∈ Q, k ∉ T.map (·.1)
  | _, _, _, .nil, _, k, h => by simp at h
  | _, _, _, .turn h, hn, k, hk => by
    simp only [List.map_cons, List.nodup_cons] at hn
    rcases List.mem_cons.1 hk with rfl | hk
    · exact fun ht => hn.1 ((h.sub.map _).subset ht)
    · exact h.apart hn.2 k hk
  | _, _, _, .keep h, hn, k, hk => by
    simp only [List.map_cons, List.nodup_cons] at hn
    simp only [List.map_cons, List.mem_cons]
    rintro (rfl | ht)
    · exact hn.1 (h.inM _ hk)
    · exact h.apart hn.2 k hk ht
/-- What is steady while the blocks of Q turn. -/
structure Sd (O B : World) (S K : Nat → Prop) (Q : List Nat) (T : Mm) (w : World) : Prop where
  mem : ∀ g o, MIn g o T → w.heap[g]? = some o
  o : ∀ k, k < O.heap.size → ¬ S k → w.heap[k]? = O.heap[k]?
  b : ∀ k, k < B.heap.size → ¬ K k → w.heap[k]? = B.heap[k]?
theorem Sd.cell {O B w : World} {S K : Nat → Prop} {Q : List Nat} {T : Mm} (h : Sd O B S K Q T w) {g i : Nat} {cs : Array Value} {t : TypeId} {fr : Nat × Nat} {v : Value} (hm : MIn g (.cells cs t fr) T) (hv : cs[i]? = some v) : w.cell? ⟨g, i, none⟩ = some v :=
  (blk_cell (h.mem g _ hm)).trans hv
theorem Sd.cellO {O B w : World} {S K : Nat → Prop} {Q : List Nat} {T : Mm} (h : Sd O B S K Q T w) {p : Addr} {v : Value} (hc : O.cell? p = some v) (hs : ¬ S p.block) : w.cell? p = some v :=
  (World.cell?_of_block (h.o p.block (World.block_lt_of_cell? O p hc) hs)).trans hc
theorem Sd.cellB {O B w : World} {S K : Nat → Prop} {Q : List Nat} {T : Mm} (h : Sd O B S K Q T w) {p : Addr} {v : Value} (hc : B.cell? p = some v) (hs : ¬ K p.block) : w.cell? p = some v :=
  (World.cell?_of_block (h.b p.block (World.block_lt_of_cell? B p hc) hs)).trans hc
def WLq (P : Program) (fn : Func) (ops : Array Oper) (listed : Array Bool) (l : List (Nat × Nat)) (k : List Item) (σ : Sig) (O : World) (S : Nat → Prop) (B : World) (K : Nat → Prop) (Q : List Nat) (T M : Mm) (R : Pt) : Prop :=
  ∀ w w2, (∀ w1, StQ (· ∈ Q) w w1 → Sd O B S K Q T w1) → Lw O S B K M w2 → StQ (· ∈ Q) w w2 → w.heap.size ≤ w2.heap.size → WQ P fn ops listed l k σ (· ∈ Q) w w2 R
def WLqo (P : Program) (fn : Func) (ops : Array Oper) (listed : Array Bool) (i kd : Nat) (o : Oper) (l : List (Nat × Nat)) (k : List Item) (σ : Sig) (O : World) (S : Nat → Prop) (B : World) (K : Nat → Prop) (Q : List Nat) (T M : Mm) (R : Pt) : Prop :=
  ∀ w w2, (∀ w1, StQ (· ∈ Q) w w1 → Sd O B S K Q T w1) → Lw O S B K M w2 → StQ (· ∈ Q) w w2 → w.heap.size ≤ w2.heap.size → WQo P fn ops listed i kd o l k σ (· ∈ Q) w w2 R
section
variable {P : Program} {fn : Func} {k : List Item} {σ : Sig} {O B : World} {S K : Nat → Prop} {Q : List Nat} {T M M' : Mm} {R : Pt} {ops : Array Oper} {listed : Array Bool} {l : List (Nat × Nat)} {i kd : Nat}
variable {dd : Option Nat} {op : Op} {oty : TypeId} {opos : String} {oaf : Array Edge} {og : Option (Nat × Bool)}
theorem l_drawQ {id : Nat} (Q : List Nat) (hp : MPart Q T M) (l : List (Nat × Nat)) (hm : P.follows .mixedOrders = true) (hn : Region.noSelect ops = true) (hl : ops.size = l.length) (ho : ordOK ops l (Array.replicate ops.size false) = true)
    (h : WLq P fn ops (Array.replicate ops.size false) l k σ O S B K Q T M R) (hro : R.ro = none := by rfl) : WLG P fn (.code (.region id ops true) :: k) σ O S B K M R := by
  unfold WLG; intro w hw
  refine k_drawQ (· ∈ Q) l hm hn hl ho (h w w (fun w1 hq => ?_) hw (StQ.refl _ _) (Nat.le_refl _)) hro
  refine ⟨fun g o hg => ?_, fun k hk hs => ?_, fun k hk hs => ?_⟩
  · have hg' : MIn g o M := .of_mem (hp.sub.subset hg.mem)
    refine (hq g (hw.lt ⟨o, hg'⟩) fun hgq => hp.apart hw.nd g hgq (MK_iff.1 ⟨o, hg⟩)).trans (hw.mem g o hg')
  · have hnq : k ∉ Q := fun hkq => by
      rcases (hw.ge k (MK_iff.2 (hp.inM k hkq))).1 with h | h
      · omega
      · exact hs h
    exact (hq k (Nat.lt_of_lt_of_le hk hw.org.size) hnq).trans (hw.org.block k hk hs)
  · have hnq : k ∉ Q := fun hkq => by
      rcases (hw.ge k (MK_iff.2 (hp.inM k hkq))).2 with h | h
      · omega
      · exact hs h
    exact (hq k (Nat.lt_of_lt_of_le hk hw.kp.size) hnq).trans (hw.kp.block k hk hs)
theorem lq_nil (h : WLG P fn k σ O S B K M R) : WLq P fn ops listed [] k σ O S B K Q T M R := fun w w2 h1 h2 h3 h4 => q_nil (by unfold WLG at h; exact h w2 h2)
theorem lq_open {o : Oper} (hi : ops[i]? = some o) (h : WLqo P fn ops listed i kd o l k σ O S B K Q T M R) : WLq P fn ops listed ((i, kd) :: l) k σ O S B K Q T M R := fun w w2 h1 h2 h3 h4 => q_open hi (h w w2 h1 h2 h3 h4)
theorem lq_pass (hg : wants ops σ ⟨dd, op, oty, opos, oaf, og⟩ false) (hd : okD dd fn.ntmps = true) (h : WLq P fn ops (listed.setIfInBounds i true) l k (putS dd undef σ) O S B K Q T M R) : WLqo P fn ops listed i 0 (⟨dd, op, oty, opos, oaf, og⟩ : Oper) l k σ O S B K Q T M R :=
  fun w w2 h1 h2 h3 h4 => q_pass hg hd h3 (h w w2 h1 h2 h3 h4)
theorem lq_passN (hg : wants ops σ ⟨dd, op, oty, opos, oaf, og⟩ false) (hd : okD dd fn.ntmps = true) (h : WLq P fn ops (listed.setIfInBounds i true) l k (putS dd undef σ) O S B K Q T M R) : WLqo P fn ops listed i 1 (⟨dd, op, oty, opos, oaf, og⟩ : Oper) l k σ O S B K Q T M R :=
  fun w w2 h1 h2 h3 h4 => q_passNow hg hd h3 (h w w2 h1 h2 h3 h4)
theorem lq_s {v : Value} (hr : Ri P fn.ntmps σ ⟨dd, op, oty, opos, oaf, og⟩ v) (hg : wants ops σ ⟨dd, op, oty, opos, oaf, og⟩ true) (hd : okD dd fn.ntmps = true) (h : WLq P fn ops (listed.setIfInBounds i true) l k (putS dd v σ) O S B K Q T M R) : WLqo P fn ops listed i 0 (⟨dd, op, oty, opos, oaf, og⟩ : Oper) l k σ O S B K Q T M R :=
  fun w w2 h1 h2 h3 h4 => q_s hr hg hd h3 (h w w2 h1 h2 h3 h4)
theorem lq_n {v : Value} (hr : Ri P fn.ntmps σ ⟨dd, op, oty, opos, oaf, og⟩ v) (hg : wants ops σ ⟨dd, op, oty, opos, oaf, og⟩ true) (hd : okD dd fn.ntmps = true) (h : WLq P fn ops (listed.setIfInBounds i true) l k (putS dd v σ) O S B K Q T M R) : WLqo P fn ops listed i 1 (⟨dd, op, oty, opos, oaf, og⟩ : Oper) l k σ O S B K Q T M R :=
  fun w w2 h1 h2 h3 h4 => q_n hr hg hd h3 (h w w2 h1 h2 h3 h4)
theorem lq_still {v : Value} (hrun : ∀ w, Sd O B S K Q T w → Rn P fn.ntmps σ w ⟨dd, op, oty, opos, oaf, og⟩ v) (hg : wants ops σ ⟨dd, op, oty, opos, oaf, og⟩ true) (hd : okD dd fn.ntmps = true) (h : WLq P fn ops (listed.setIfInBounds i true) l k (putS dd v σ) O S B K Q T M R) : WLqo P fn ops listed i 0 (⟨dd, op, oty, opos, oaf, og⟩ : Oper) l k σ O S B K Q T M R :=
  fun w w2 h1 h2 h3 h4 => q_still (fun w1 hq => hrun w1 (h1 w1 hq)) hg hd h3 (h w w2 h1 h2 h3 h4)
theorem lq_load {x : Operand} {t : TypeId} [hT : CellT P t] {g j : Nat} {cs : Array Value} {e : TypeId} {fr : Nat × Nat} {v : Value} {p : Addr} (hx : ev σ x = some (.pointer (some p))) (hp : p = ⟨g, j, none⟩) (hm : MIn g (.cells cs e fr) T) (hv : GetL cs.toList j v)
    (hg : wants ops σ ⟨dd, .load t x, oty, opos, oaf, og⟩ true) (hd : okD dd fn.ntmps = true) (h : WLq P fn ops (listed.setIfInBounds i true) l k (putS dd v σ) O S B K Q T M R) : WLqo P fn ops listed i 0 (⟨dd, .load t x, oty, opos, oaf, og⟩ : Oper) l k σ O S B K Q T M R :=
  lq_still (fun w hw => r_load hx (by rw [hp]; exact hw.cell hm (by simpa using hv.get))) hg hd h
theorem lq_loadW {x : Operand} {t : TypeId} {n : Nat} [hT : AggT P t n] {g : Nat} {cs : List Value} {e : TypeId} {fr : Nat × Nat} {p : Addr} (hx : ev σ x = some (.pointer (some p))) (hp : p = ⟨g, 0, none⟩) (hm : MIn g (.cells cs.toArray e fr) T) (hl : cs.length = n)
    (hg : wants ops σ ⟨dd, .load t x, oty, opos, oaf, og⟩ true) (hd : okD dd fn.ntmps = true) (h : WLq P fn ops (listed.setIfInBounds i true) l k (putS dd (.agg cs.toArray) σ) O S B K Q T M R) : WLqo P fn ops listed i 0 (⟨dd, .load t x, oty, opos, oaf, og⟩ : Oper) l k σ O S B K Q T M R :=
  lq_still (fun w hw => r_loadA hx hl (by subst hp; exact blk_all (hw.mem g _ hm))) hg hd h
theorem lq_loadO {x : Operand} {t : TypeId} [hT : CellT P t] {v : Value} {p : Addr} (hx : ev σ x = some (.pointer (some p))) (hc : O.cell? p = some v) (hs : ¬ S p.block)
    (hg : wants ops σ ⟨dd, .load t x, oty, opos, oaf, og⟩ true) (hd : okD dd fn.ntmps = true) (h : WLq P fn ops (listed.setIfInBounds i true) l k (putS dd v σ) O S B K Q T M R) : WLqo P fn ops listed i 0 (⟨dd, .load t x, oty, opos, oaf, og⟩ : Oper) l k σ O S B K Q T M R :=
  lq_still (fun w hw => r_load hx (hw.cellO hc hs)) hg hd h
theorem lq_index {x y : Operand} {t e : TypeId} {sz bytes : Nat} {z : Value} [hT : SlT P t e] [hE : ElT P e sz bytes z] {A : Option Addr} {ad : Addr} {n c j : Nat} {iv : Int} {ik : IntKind} (hx : ev σ x = some (.slice A n c)) (hy : ev σ y = some (.int ik iv)) (hj : iv = (j : Int)) (hn : j < n) (hA : A = some ad)
    (hg : wants ops σ ⟨dd, .indexAddr t x y, oty, opos, oaf, og⟩ true) (hd : okD dd fn.ntmps = true) (h : WLq P fn ops (listed.setIfInBounds i true) l k (putS dd (.pointer (some (ad.add (j * sz)))) σ) O S B K Q T M R) : WLqo P fn ops listed i 0 (⟨dd, .indexAddr t x y, oty, opos, oaf, og⟩ : Oper) l k σ O S B K Q T M R :=
  lq_still (fun w _ => by subst hj hA; exact r_index hx hy rfl (by omega) (by omega)) hg hd h
theorem lq_build {t : TypeId} {pl : Array (Nat × Nat)} {z : Array Value} [hB : BldT P t pl z] {ps : List (Nat × Operand)} {qs : List (Nat × Value)} {cs cs' : List Value} (hx : evps σ ps = some qs) (hf : fillL pl z.toList qs = some cs) (hnf : Nf cs cs') (hg : wants ops σ ⟨dd, .build t ps.toArray, oty, opos, oaf, og⟩ true) (hd : okD dd fn.ntmps = true)
    (h : WLq P fn ops (listed.setIfInBounds i true) l k (putS dd (.agg cs'.toArray) σ) O S B K Q T M R) : WLqo P fn ops listed i 0 (⟨dd, .build t ps.toArray, oty, opos, oaf, og⟩ : Oper) l k σ O S B K Q T M R :=
  lq_still (fun w _ => r_build hx (fill_fillL pl qs z.toList cs' (by rw [hf, hnf.eq]))) hg hd h
theorem lq_wr {g : Nat} {o : Obj} (hrun : ∀ w, Lw O S B K M w → Eu P fn.ntmps σ w ⟨dd, op, oty, opos, oaf, og⟩ fun w' => Wr w w' g o) (hu : MUp g o M M') (hq : g ∈ Q) (hg : wants ops σ ⟨dd, op, oty, opos, oaf, og⟩ true) (hd : okD dd fn.ntmps = true)
    (h : WLq P fn ops (listed.setIfInBounds i true) l k (putS dd undef σ) O S B K Q T M' R) : WLqo P fn ops listed i 1 (⟨dd, op, oty, opos, oaf, og⟩ : Oper) l k σ O S B K Q T M R :=
  fun w w2 h1 h2 h3 h4 => q_unit (hrun w2 h2) hg hd fun w' hr => by
    have hst : StQ (· ∈ Q) w w' := fun k hk hn => (hr.kp.block k (by omega) (by rintro rfl; exact hn hq)).trans (h3 k hk hn)
    exact .inl ⟨hst, h w w' h1 (h2.wr hr hu) hst (Nat.le_trans h4 hr.kp.size)⟩
theorem lq_store {x y : Operand} {t : TypeId} [hT : CellT P t] {p : Addr} {v : Value} {g j : Nat} {cs cs' : List Value} {e : TypeId} (hx : ev σ x = some (.pointer (some p))) (hp : p = ⟨g, j, none⟩) (hm : MIn g (cb cs e) M)
    (hi : Nat.blt j cs.length = true) (hy : ev σ y = some v) (hv : v.oneCell' = true) (hs : SetL cs j v cs') (hu : MUp g (cb cs' e) M M') (hq : g ∈ Q) (hg : wants ops σ ⟨dd, .store t x y, oty, opos, oaf, og⟩ true) (hd : okD dd fn.ntmps = true)
    (h : WLq P fn ops (listed.setIfInBounds i true) l k (putS dd undef σ) O S B K Q T M' R) : WLqo P fn ops listed i 1 (⟨dd, .store t x y, oty, opos, oaf, og⟩ : Oper) l k σ O S B K Q T M R :=
  lq_wr (fun w hw => by have := u_store (P := P) (N := fn.ntmps) (t := t) (dst := dd) (ty := oty) (pos := opos) (af := oaf) (gd := og) hx hy hv hp (hw.mem g _ hm) (by simpa [Nat.blt_eq] using hi); simpa using this) (by rw [← hs.eq] at hu; exact hu) hq hg hd h
theorem lq_storeW {x y : Operand} {t : TypeId} {n : Nat} [hT : AggT P t n] {p : Addr} {new : List Value} {g : Nat} {cs : List Value} {e : TypeId} (hx : ev σ x = some (.pointer (some p))) (hp : p = ⟨g, 0, none⟩) (hm : MIn g (cb cs e) M)
    (hi : Nat.beq cs.length n = true) (hy : ev σ y = some (.agg new.toArray)) (hl : new.length = n) (hv : new.all Value.oneCell' = true) (hu : MUp g (cb new e) M M') (hq : g ∈ Q) (hg : wants ops σ ⟨dd, .store t x y, oty, opos, oaf, og⟩ true) (hd : okD dd fn.ntmps = true)
    (h : WLq P fn ops (listed.setIfInBounds i true) l k (putS dd undef σ) O S B K Q T M' R) : WLqo P fn ops listed i 1 (⟨dd, .store t x y, oty, opos, oaf, og⟩ : Oper) l k σ O S B K Q T M R :=
  lq_wr (fun w hw => eu_storeW hx hp (hw.mem g _ hm) hi hy hl hv) hu hq hg hd h
theorem lq_call {f : FuncId} {args : Array Value} {v : Value} (hrun : En P fn.ntmps σ ⟨dd, op, oty, opos, oaf, og⟩ f args) (hg : wants ops σ ⟨dd, op, oty, opos, oaf, og⟩ true) (hd : okD dd fn.ntmps = true) (hc : ∀ w, Lw O S B K M w → CallsR P f args w fun u w' => Kn w w' ∧ u = v)
    (h : WLq P fn ops (listed.setIfInBounds i true) l k (putS dd v σ) O S B K Q T M R) : WLqo P fn ops listed i 1 (⟨dd, op, oty, opos, oaf, og⟩ : Oper) l k σ O S B K Q T M R :=
  fun w w2 h1 h2 h3 h4 => q_enter hrun hg hd ((hc w2 h2).mono fun u w' ⟨k1, k2⟩ => by
    have hst : StQ (· ∈ Q) w w' := fun k hk hn => (k1.block k (by omega) id).trans (h3 k hk hn)
    subst k2; exact .inl ⟨hst, h w w' h1 (h2.kn k1) hst (Nat.le_trans h4 k1.size)⟩)
end
attribute [irreducible] WLq WLqo
end Go.Ink
namespace Go.Ink
open Go Go.RowKit
theorem addr_add_zero (a : Addr) : a.add 0 = a := rfl
theorem cutV_pre (A : Option Addr) (h m sz : Nat) : cutV A 0 h m sz = .slice A h m := by
  unfold cutV
  rw [Nat.sub_zero, Nat.sub_zero, Nat.zero_mul]
  split
  · rfl
  · cases A <;> rfl
section
variable {P : Program} {fn : Func} {k : List Item} {σ : Sig} {O B : World} {S K : Nat → Prop} {X M M' : Mm} {R : Pt} {ops : Array Oper} {rest : List Oper} {listed : Array Bool} {l : List (Nat × Nat)} {i kd : Nat}
variable {dd : Option Nat} {op : Op} {oty : TypeId} {opos : String} {oaf : Array Edge} {og : Option (Nat × Bool)}
/-- x[:j] -/
theorem lo_pre {x y : Operand} {t e : TypeId} {sz bytes : Nat} {z : Value} [hT : SlT P t e] [hE : ElT P e sz bytes z] {A : Option Addr} {n c j : Nat} {iv : Int} {ik : IntKind} (hx : ev σ x = some (.slice A n c)) (hy : ev σ y = some (.int ik iv)) (hj : iv = (j : Int)) (hn : j ≤ c)
    (hd : okD dd fn.ntmps = true) (h : WLo P fn ops rest k (putS dd (.slice A j c) σ) O S B K M R) : WLo P fn ops ((⟨dd, .slice t x none (some y) none, oty, opos, oaf, none⟩ : Oper) :: rest) k σ O S B K M R :=
  lo_rn (fun w => by rw [← cutV_pre A j c sz]; subst hj; exact r_slice hx 0 j c rfl ⟨_, hy⟩ rfl (Nat.zero_le _) hn (Nat.le_refl _)) hd h
/-- x[j:] -/
theorem lo_suf {x y : Operand} {t e : TypeId} {sz bytes : Nat} {z : Value} [hT : SlT P t e] [hE : ElT P e sz bytes z] {A : Option Addr} {n c j : Nat} {iv : Int} {ik : IntKind} (hx : ev σ x = some (.slice A n c)) (hy : ev σ y = some (.int ik iv)) (hj : iv = (j : Int)) (hn : j ≤ n) (hc : n ≤ c)
    (hd : okD dd fn.ntmps = true) (h : WLo P fn ops rest k (putS dd (cutV A j n c sz) σ) O S B K M R) : WLo P fn ops ((⟨dd, .slice t x (some y) none none, oty, opos, oaf, none⟩ : Oper) :: rest) k σ O S B K M R :=
  lo_rn (fun w => by subst hj; exact r_slice hx j n c rfl ⟨rfl, rfl⟩ ⟨_, hy⟩ hn hc (Nat.le_refl _)) hd h
/-- A function value is made. -/
theorem lo_fn {f : Fn} {first cap : List Operand} {us vs : List Value} (h1 : evs σ first = some us) (h2 : evs σ cap = some vs) (hd : okD dd fn.ntmps = true)
    (h : WLo P fn ops rest k (putS dd (.func f us.toArray vs.toArray) σ) O S B K M R) : WLo P fn ops ((⟨dd, .makeFunc f first.toArray cap.toArray, oty, opos, oaf, none⟩ : Oper) :: rest) k σ O S B K M R :=
  lo_rn (fun w => r_makeFunc h1 h2) hd h
end
end Go.Ink
namespace Go.Ink
open Go Go.RowKit
/-! ### Calls that hand back blocks of their own -/
/-- N: new blocks since w, in w'. -/
structure News (w w' : World) (N : Mm) : Prop where
  kn : Kn w w'
  mem : ∀ g o, MIn g o N → w'.heap[g]? = some o
  ge : ∀ k, MK N k → w.heap.size ≤ k
  nd : (N.map (·.1)).Nodup
theorem Lw.news {O B w w' : World} {S K : Nat → Prop} {M N : Mm} (h : Lw O S B K M w) (hn : News w w' N) : Lw O S B K (N ++ M) w' := by
  have hm : ∀ {g o}, MIn g o (N ++ M) → MIn g o N ∨ MIn g o M := fun {g o} hm => by
    have := hm.mem
    rcases List.mem_append.1 this with h | h
    · exact .inl (.of_mem h)
    · exact .inr (.of_mem h)
  refine ⟨h.org.trans hn.kn.kp, h.kp.trans hn.kn.kp, fun g o hg => ?_, ?_, fun k hk => ?_⟩
  · rcases hm hg with h1 | h1
    · exact hn.mem g o h1
    · exact hn.kn.blk (h.mem g o h1) id
  · rw [List.map_append, List.nodup_append]
    refine ⟨hn.nd, h.nd, fun a ha b hb e => ?_⟩
    subst e
    have h1 := hn.ge a (MK_iff.2 ha)
    have h2 := h.lt (MK_iff.2 hb)
    omega
  · obtain ⟨o, hk⟩ := hk
    rcases hm hk with h1 | h1
    · have := hn.ge k ⟨o, h1⟩
      exact ⟨.inl (Nat.le_trans h.org.size this), .inl (Nat.le_trans h.kp.size this)⟩
    · exact h.ge k ⟨o, h1⟩
/-- What a function of its own blocks hands back. -/
theorem Lw.toNews {O w : World} {K : Nat → Prop} {M N : Mm} (h : Lw O (fun _ => False) O K M w) (hs : MSub N M) : News O w N :=
  ⟨h.org, fun g o hm => h.mem g o (hs.mem hm), fun k hk => by
    obtain ⟨o, hk⟩ := hk
    exact (h.ge k ⟨o, hs.mem hk⟩).1.elim id False.elim, h.nd.sublist (hs.sub.map _)⟩
section
variable {P : Program} {fn : Func} {k : List Item} {σ : Sig} {O B : World} {S K : Nat → Prop} {X M M' : Mm} {R : Pt} {ops : Array Oper} {rest : List Oper} {listed : Array Bool} {l : List (Nat × Nat)} {i kd : Nat}
variable {dd : Option Nat} {op : Op} {oty : TypeId} {opos : String} {oaf : Array Edge} {og : Option (Nat × Bool)}
theorem lo_callX {f : FuncId} {args : Array Value} {Φ : Value → Mm → Prop} (hrun : En P fn.ntmps σ ⟨dd, op, oty, opos, oaf, none⟩ f args) (hd : okD dd fn.ntmps = true) (hc : ∀ w, Lw O S B K M w → CallsR P f args w fun u w' => ∃ N, News w w' N ∧ Φ u N)
    (h : ∀ u N, Φ u N → WLo P fn ops rest k (putS dd u σ) O S B K (N ++ M) R) : WLo P fn ops ((⟨dd, op, oty, opos, oaf, none⟩ : Oper) :: rest) k σ O S B K M R := by
  unfold WLo at *
  exact fun w hw => o_enter hrun (wants_none rfl) hd ((hc w hw).mono fun u w' ⟨N, h1, h2⟩ => h u N h2 w' (hw.news h1))
theorem ld_callX {f : FuncId} {args : Array Value} {Φ : Value → Mm → Prop} (hrun : En P fn.ntmps σ ⟨dd, op, oty, opos, oaf, og⟩ f args) (hg : wants ops σ ⟨dd, op, oty, opos, oaf, og⟩ true) (hd : okD dd fn.ntmps = true) (hc : ∀ w, Lw O S B K (X ++ M) w → CallsR P f args w fun u w' => ∃ N, News w w' N ∧ Φ u N)
    (h : ∀ u N, Φ u N → WLd P fn ops (listed.setIfInBounds i true) l k (putS dd u σ) O S B K (N ++ X) M R) : WLdo P fn ops listed i 1 (⟨dd, op, oty, opos, oaf, og⟩ : Oper) l k σ O S B K X M R := by
  unfold WLd at h
  unfold WLdo
  exact fun w w2 h1 h2 h3 h4 h5 => x_enter hrun hg hd ((hc w2 h2).mono fun u w' ⟨N, k1, k2⟩ =>
    .inl ⟨h3.trans h4 k1.kn.st, h u N k2 w w' h1 (by rw [List.append_assoc]; exact h2.news k1) (h3.trans h4 k1.kn.st) (Nat.le_trans h4 k1.kn.size) fun g hg => by
      obtain ⟨o, hg⟩ := hg
      rcases List.mem_append.1 hg.mem with h | h
      · exact Nat.le_trans h4 (k1.ge g ⟨o, .of_mem h⟩)
      · exact h5 g ⟨o, .of_mem h⟩⟩)
theorem ld_callV {f : FuncId} {args : Array Value} {Φ : Value → Prop} (hrun : En P fn.ntmps σ ⟨dd, op, oty, opos, oaf, og⟩ f args) (hg : wants ops σ ⟨dd, op, oty, opos, oaf, og⟩ true) (hd : okD dd fn.ntmps = true) (hc : ∀ w, Lw O S B K (X ++ M) w → CallsR P f args w fun u w' => Kn w w' ∧ Φ u)
    (h : ∀ u, Φ u → WLd P fn ops (listed.setIfInBounds i true) l k (putS dd u σ) O S B K X M R) : WLdo P fn ops listed i 1 (⟨dd, op, oty, opos, oaf, og⟩ : Oper) l k σ O S B K X M R := by
  unfold WLd at h
  unfold WLdo
  exact fun w w2 h1 h2 h3 h4 h5 => x_enter hrun hg hd ((hc w2 h2).mono fun u w' ⟨k1, k2⟩ => .inl ⟨h3.trans h4 k1.st, h u k2 w w' h1 (h2.kn k1) (h3.trans h4 k1.st) (Nat.le_trans h4 k1.size) h5⟩)
end
end Go.Ink
