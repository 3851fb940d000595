/-
  An engine for walks: goals 'WK' (items still to be run, the known temporaries, a world) and one small lemma for each kind of operation.
-/
import Derived.WalkKit
import Derived.WalkSpells
import Derived.OrdersHeld
import Derived.KernelRfl
import Derived.RangeFuncRecord
set_option linter.unusedVariables false
set_option linter.unusedSimpArgs false
namespace Go.Ink
open Go Go.RowKit

/-! ### 1. Known temporaries -/
abbrev Sig := List (Nat × Value)
def Sig.get : Sig → Nat → Option Value
  | [], _ => none
  | (t, v) :: r, s => bif Nat.beq t s then some v else Sig.get r s
/-- The value of an operand, as far as it is known. -/
def ev (σ : Sig) : Operand → Option Value
  | .tmp t => σ.get t
  | .const v => some v
  | .global g => some (.pointer (some ⟨g, 0, none⟩))
  | .func f => some (.func (.func f) #[] #[])
theorem nbeq_ne {t s : Nat} (h : ¬ t = s) : Nat.beq t s = false := by
  cases hb : Nat.beq t s with
  | false => rfl
  | true => exact absurd (Nat.eq_of_beq_eq_true hb) h
structure Fr (D : List Deferred) (N : Nat) (σ : Sig) (a : Act) : Prop where
  defers : a.defers = D
  size : a.tmps.size = N
  get : ∀ t v, σ.get t = some v → a.tmps[t]? = some v
theorem Fr.ev {D : List Deferred} {N : Nat} {σ : Sig} {a : Act} (h : Fr D N σ a) {x : Operand} {v : Value} (hx : ev σ x = some v) : a.eval x = v := by
  cases x with
  | tmp t => simp only [Ink.ev] at hx; simp [Act.eval, Array.getD_eq_getD_getElem?, h.get t v hx]
  | const v => simpa [Ink.ev, Act.eval] using hx
  | global g => simpa [Ink.ev, Act.eval] using hx
  | func f => simpa [Ink.ev, Act.eval] using hx
/-- A temporary is written. -/
@[reducible] def putS (d : Option Nat) (v : Value) (σ : Sig) : Sig :=
  match d with
  | none => σ
  | some t => (t, v) :: σ
/-- It lies in the frame. -/
def okD (d : Option Nat) (N : Nat) : Bool :=
  match d with
  | none => true
  | some t => Nat.blt t N
theorem Fr.put {D : List Deferred} {N : Nat} {σ : Sig} {a : Act} (h : Fr D N σ a) (d : Option Nat) (v : Value) (hd : okD d N = true) : Fr D N (putS d v σ) (a.put d v) := by
  cases d with
  | none => exact h
  | some t =>
    refine ⟨h.defers, by simp [Act.put, h.size], fun s u hs => ?_⟩
    have hlt : t < N := by simpa [okD, Nat.blt_eq] using hd
    simp only [putS, Sig.get] at hs
    by_cases hts : t = s
    · subst hts
      rw [show Nat.beq t t = true from by simp] at hs
      simp only [cond_true, Option.some.injEq] at hs
      subst hs
      have : t < a.tmps.size := by rw [h.size]; exact hlt
      simp [Act.put, this]
    · rw [show Nat.beq t s = false from nbeq_ne hts] at hs
      simp only [cond_false] at hs
      simp [Act.put, Array.getElem?_setIfInBounds, hts, h.get s u hs]
def Sub (σ' σ : Sig) : Prop := ∀ t v, σ'.get t = some v → σ.get t = some v
inductive SubB (σ : Sig) : Sig → Prop where
  | nil : SubB σ []
  | cons {t : Nat} {v : Value} {r : Sig} : σ.get t = some v → SubB σ r → SubB σ ((t, v) :: r)
theorem Sub.mk {σ' σ : Sig} (h : SubB σ σ') : Sub σ' σ := by
  induction h with
  | nil => intro t v hv; simp [Sig.get] at hv
  | @cons t v r h1 h2 ih =>
    intro s u hs
    simp only [Sig.get] at hs
    by_cases hts : t = s
    · subst hts
      rw [show Nat.beq t t = true from by simp] at hs
      simp only [cond_true, Option.some.injEq] at hs
      subst hs
      exact h1
    · rw [show Nat.beq t s = false from nbeq_ne hts] at hs
      exact ih s u hs
theorem Sub.refl (σ : Sig) : Sub σ σ := fun _ _ h => h
theorem Fr.sub {D : List Deferred} {N : Nat} {σ σ' : Sig} {a : Act} (h : Fr D N σ a) (hs : Sub σ' σ) : Fr D N σ' a := ⟨h.defers, h.size, fun t v hv => h.get t v (hs t v hv)⟩
def sigOf : Nat → List Value → Sig
  | _, [] => []
  | n, v :: r => (n, v) :: sigOf (n + 1) r
theorem sigOf_get : ∀ (l : List Value) (n t : Nat) (v : Value), (sigOf n l).get t = some v → n ≤ t ∧ l[t - n]? = some v
  | [], n, t, v, h => by simp [sigOf, Sig.get] at h
  | u :: r, n, t, v, h => by
    simp only [sigOf, Sig.get] at h
    by_cases hts : n = t
    · subst hts
      rw [show Nat.beq n n = true from by simp] at h
      simp only [cond_true, Option.some.injEq] at h
      subst h
      simp
    · rw [show Nat.beq n t = false from nbeq_ne hts] at h
      obtain ⟨h1, h2⟩ := sigOf_get r (n + 1) t v h
      refine ⟨by omega, ?_⟩
      rw [show t - n = (t - (n + 1)) + 1 from by omega]
      simpa using h2

/-! ### 2. What is still to be run -/
/-- The same world, but for the count of draws. -/
structure Dr (w w' : World) : Prop where
  heap : w'.heap = w.heap
  os : w'.os = w.os
  tape : w'.tape = w.tape
  output : w'.output = w.output
theorem Dr.refl (w : World) : Dr w w := ⟨rfl, rfl, rfl, rfl⟩
theorem Dr.trans {a b c : World} (h : Dr a b) (k : Dr b c) : Dr a c := ⟨k.heap.trans h.heap, k.os.trans h.os, k.tape.trans h.tape, k.output.trans h.output⟩
theorem Dr.drawn (w : World) (n : Nat) : Dr w { w with drawn := n } := ⟨rfl, rfl, rfl, rfl⟩
theorem Dr.cell {w w' : World} (h : Dr w w') (a : Addr) : w'.cell? a = w.cell? a := by simp [World.cell?, h.heap]
/-- Every block that stood is as it was. -/
def St (w w' : World) : Prop := ∀ k, k < w.heap.size → w'.heap[k]? = w.heap[k]?
theorem St.refl (w : World) : St w w := fun _ _ => rfl
theorem Dr.st {w w' : World} (h : Dr w w') : St w w' := fun k _ => by rw [h.heap]
theorem St.cell {w w' : World} (h : St w w') {a : Addr} {v : Value} (hc : w.cell? a = some v) : w'.cell? a = some v :=
  (World.cell?_of_block (h _ (World.block_lt_of_cell? w a hc))).trans hc

/-- What a walk is to come to: D: the deferred calls of the frame as it stands; ro: the loop whose round it is; T: where it ends: what is still to be run there, the frame, the world. -/
structure Pt where
  D : List Deferred
  ro : Option Nat
  T : List Item → Act → World → Prop
def WG (P : Program) (fn : Func) (todo : List Item) (σ : Sig) (w : World) (R : Pt) : Prop :=
  ∀ a w0, Fr R.D fn.ntmps σ a → Dr w w0 → ∀ (b : Frame) (cs : List Frame), b.roundOf = R.ro →
    ∃ a' w' todo', Steps P (lone (b.atR a todo) cs w0) (lone (b.atR a' todo') cs w') ∧ R.T todo' a' w'
/-- It leaves: at its end, or at a return. -/
def AtEnd (todo : List Item) : Prop := todo = [] ∨ ∃ k, todo = .code .ret :: k
/-- What is left when the deferred calls have been made: marks of loops over functions in whose rounds nothing was deferred. -/
def Unw (P : Program) (fn : Func) (R : Value → World → Prop) (tmps : Array Value) : List Deferred → World → Prop
  | [], w => ∃ v w1, (results fn tmps).run P w = .ok v w ∧ Dr w1 w ∧ R v w1
  | d :: ds, w => ∃ r w', d.target = .collected r ∧ (Instr.takeDeferred r).run P w = .ok [] w' ∧ Unw P fn R tmps ds w'
/-- A function's end. -/
def Pt.fn (P : Program) (fn : Func) (D : List Deferred) (R : Value → World → Prop) : Pt := { D := D, ro := none, T := fun todo a w => AtEnd todo ∧ Unw P fn R a.tmps a.defers w }
abbrev WK (P : Program) (fn : Func) (todo : List Item) (σ : Sig) (w : World) (R : Value → World → Prop) : Prop := WG P fn todo σ w (Pt.fn P fn [] R)
/-- A call that returns. -/
def CallsR (P : Program) (f : FuncId) (args : Array Value) (w : World) (R : Value → World → Prop) : Prop :=
  ∀ w0, Dr w w0 → Calls P f args w0 fun e w' => ∃ v w1, e = .returned v ∧ Dr w1 w' ∧ R v w1
theorem CallsR.mono {P : Program} {f : FuncId} {args : Array Value} {w : World} {R R' : Value → World → Prop} (h : CallsR P f args w R) (hr : ∀ v w', R v w' → R' v w') : CallsR P f args w R' :=
  fun w0 h0 => Calls.mono (h w0 h0) fun _ w' ⟨v, w1, he, hd, hv⟩ => ⟨v, w1, he, hd, hr v w1 hv⟩
theorem CallsR.calls {P : Program} {f : FuncId} {args : Array Value} {w : World} {R : Value → World → Prop} (h : CallsR P f args w R) : Calls P f args w fun e w' => ∃ v w1, e = .returned v ∧ Dr w1 w' ∧ R v w1 := h w (Dr.refl w)
theorem unw_steps {P : Program} {fn : Func} {R : Value → World → Prop} {cs : List Frame} : ∀ (ds : List Deferred) (w : World) (fr : Frame), fr.mode = .returning → fr.defers = ds → fr.kind = .normal → P.funcs[fr.fn]? = some fn → Unw P fn R fr.tmps ds w →
    ∃ v w1 w' fr', Dr w1 w' ∧ R v w1 ∧ Steps P (lone fr cs w) (lone fr' cs w') ∧ fr'.fn = fr.fn ∧ fr'.leaving P w' (.returned v)
  | [], w, fr, hm, hd, hk, hf, h => by
    obtain ⟨v, w1, hr, h1, hR⟩ := h
    exact ⟨v, w1, w, fr, h1, hR, .refl _ _, rfl, hm, hd, hk, fn, hf, hr⟩
  | d :: ds, w, fr, hm, hd, hk, hf, h => by
    obtain ⟨r, w', ht, hk', hu⟩ := h
    have h1 := step_collected (cs := cs) (by rw [hm]; simp) hd ht hk'
    obtain ⟨v, w1, w2, fr', e1, e2, e3, e4, e5⟩ := unw_steps ds w' { fr with defers := [] ++ ds } hm rfl hk hf hu
    exact ⟨v, w1, w2, fr', e1, e2, .head h1 e3, e4, e5⟩
theorem calls_enter {P : Program} {f : FuncId} {fn : Func} {c : Code} {args : List Value} {w : World} {R : Value → World → Prop}
    (hf : P.funcs[f]? = some fn) (hb : fn.body = some c) (hn : Nat.ble args.length fn.ntmps = true)
    (h : WK P fn [.code c] (sigOf 0 args) w R) : CallsR P f args.toArray w R := by
  intro w0 h0 cs
  let b : Frame := { (default : Frame) with fn := f, kind := .normal }
  have hn' : args.length ≤ fn.ntmps := by simpa using hn
  have henter : Frame.enter P f args.toArray .normal =
      b.atR { tmps := args.toArray ++ Array.replicate (fn.ntmps - args.toArray.size) undef, defers := [] } [.code c] := by
    simp [Frame.enter, Frame.atR, hf, hb, b]; rfl
  obtain ⟨a', w', todo', hs, hT⟩ := h { tmps := args.toArray ++ Array.replicate (fn.ntmps - args.toArray.size) undef, defers := [] } w0
    ⟨rfl, by simp; omega, fun t v hv => by
      obtain ⟨_, h2⟩ := sigOf_get _ _ _ _ hv
      have h2' : args[t]? = some v := by simpa using h2
      have hlt : t < args.length := by
        rcases Nat.lt_or_ge t args.length with h | h
        · exact h
        · simp [List.getElem?_eq_none h] at h2'
      have h3 : args[t] = v := by simpa [List.getElem?_eq_getElem hlt] using h2'
      simp [Array.getElem?_append, hlt, h3]⟩ h0 b cs rfl
  rw [← henter] at hs
  obtain ⟨hend, hu⟩ := hT
  have hret : step P (lone (b.atR a' todo') cs w') = .next (lone { b.atR a' todo' with mode := .returning } cs w') := by
    rcases hend with rfl | ⟨k, rfl⟩
    · exact stepR_end rfl
    · exact stepR_ret rfl
  obtain ⟨v, w1, w2, fr', e1, e2, e3, e4, e5⟩ := unw_steps (cs := cs) a'.defers w' { b.atR a' todo' with mode := .returning } rfl rfl rfl hf hu
  exact ⟨.returned v, w2, fr', ⟨v, w1, rfl, e1, e2⟩, Steps.trans hs (.head hret e3), e4, e5⟩

section
variable {P : Program} {fn : Func} {k : List Item} {σ : Sig} {w : World} {R : Pt}
theorem WK.sub {todo : List Item} {σ' : Sig} (hs : Sub σ' σ) (h : WG P fn todo σ' w R) : WG P fn todo σ w R :=
  fun a w0 ha => h a w0 (ha.sub hs)
theorem WG.mono {todo : List Item} {R' : Pt} (h : WG P fn todo σ w R) (hD : R'.D = R.D) (hro : R'.ro = R.ro) (hr : ∀ t a w, R.T t a w → R'.T t a w) : WG P fn todo σ w R' :=
  fun a w0 ha h0 b cs hb => let ⟨a', w', t', h1, h2⟩ := h a w0 (hD ▸ ha) h0 b cs (hb.trans hro); ⟨a', w', t', h1, hr _ _ _ h2⟩
theorem Unw.mono {R R' : Value → World → Prop} (hr : ∀ v w, R v w → R' v w) {tmps : Array Value} : ∀ {ds : List Deferred} {w : World}, Unw P fn R tmps ds w → Unw P fn R' tmps ds w
  | [], _, ⟨v, w1, h1, h2, h3⟩ => ⟨v, w1, h1, h2, hr _ _ h3⟩
  | _ :: _, _, ⟨r, w', h1, h2, h3⟩ => ⟨r, w', h1, h2, h3.mono hr⟩
theorem WK.mono {todo : List Item} {R R' : Value → World → Prop} (h : WK P fn todo σ w R) (hr : ∀ v w', R v w' → R' v w') : WK P fn todo σ w R' :=
  WG.mono h rfl rfl fun t a w ⟨h1, h2⟩ => ⟨h1, h2.mono hr⟩
theorem WK.step {todo todo' : List Item} (hs : ∀ (a : Act) (b : Frame) (cs : List Frame) (w0 : World), Fr R.D fn.ntmps σ a → step P (lone (b.atR a todo) cs w0) = .next (lone (b.atR a todo') cs w0))
    (h : WG P fn todo' σ w R) : WG P fn todo σ w R :=
  fun a w0 ha h0 b cs hb => let ⟨a', w', t', h1, h2⟩ := h a w0 ha h0 b cs hb; ⟨a', w', t', .head (hs a b cs w0 ha) h1, h2⟩
/-- The walk ends here. -/
theorem k_stop {todo : List Item} (h : ∀ a w0, Fr R.D fn.ntmps σ a → Dr w w0 → R.T todo a w0) : WG P fn todo σ w R :=
  fun a w0 ha h0 b cs _ => ⟨a, w0, todo, .refl _ _, h a w0 ha h0⟩
theorem k_seq {x y : Code} (h : WG P fn (.code x :: .code y :: k) σ w R) : WG P fn (.code (.seq x y) :: k) σ w R := WK.step (fun _ _ _ _ _ => stepR_seq) h
theorem k_skip (h : WG P fn k σ w R) : WG P fn (.code .skip :: k) σ w R := WK.step (fun _ _ _ _ _ => stepR_skip) h
theorem k_label {l : Nat} (h : WG P fn k σ w R) : WG P fn (.code (.label l) :: k) σ w R := WK.step (fun _ _ _ _ _ => stepR_label) h
theorem k_block {id : Nat} {c : Code} (h : WG P fn (.code c :: .inBlock id :: k) σ w R) : WG P fn (.code (.block id c) :: k) σ w R := WK.step (fun _ _ _ _ _ => stepR_block) h
theorem k_inBlock {id : Nat} (h : WG P fn k σ w R) : WG P fn (.inBlock id :: k) σ w R := WK.step (fun _ _ _ _ _ => stepR_inBlock) h
theorem k_inLoop {c : Code} (h : WG P fn (.code c :: .inLoop c :: k) σ w R) : WG P fn (.inLoop c :: k) σ w R := WK.step (fun _ _ _ _ _ => stepR_inLoop) h
/-- A loop's head is stepped into at once. -/
theorem k_loopIn {c : Code} (h : WG P fn (.code c :: .inLoop c :: k) σ w R) : WG P fn (.code (.loop c) :: k) σ w R := WK.step (fun _ _ _ _ _ => stepR_loop) h
theorem k_exit {id : Nat} {k' : List Item} (hk : exitTo id k = some k') (h : WG P fn k' σ w R) : WG P fn (.code (.exit id) :: k) σ w R := WK.step (fun _ _ _ _ _ => stepR_exit hk) h
theorem k_cond {c : Operand} {x y : Code} {t : Bool} (hc : ev σ c = some (.bool t)) (ht : t = true → WG P fn (.code x :: k) σ w R) (hf : t = false → WG P fn (.code y :: k) σ w R) :
    WG P fn (.code (.cond c x y) :: k) σ w R := by
  cases t
  · exact WK.step (fun a _ _ _ ha => stepR_cond (ha.ev hc)) (hf rfl)
  · exact WK.step (fun a _ _ _ ha => stepR_cond (ha.ev hc)) (ht rfl)
/-- A test, its fact as a proposition. -/
theorem k_ite {c : Operand} {x y : Code} {p : Prop} [Decidable p] (hc : ev σ c = some (.bool (decide p))) (ht : p → WG P fn (.code x :: k) σ w R) (hf : ¬ p → WG P fn (.code y :: k) σ w R) :
    WG P fn (.code (.cond c x y) :: k) σ w R :=
  k_cond hc (fun h => ht (of_decide_eq_true h)) (fun h => hf (of_decide_eq_false h))
theorem k_true {c : Operand} {x y : Code} (hc : ev σ c = some (.bool true)) (h : WG P fn (.code x :: k) σ w R) : WG P fn (.code (.cond c x y) :: k) σ w R := k_cond hc (fun _ => h) (fun h => by cases h)
theorem k_false {c : Operand} {x y : Code} (hc : ev σ c = some (.bool false)) (h : WG P fn (.code y :: k) σ w R) : WG P fn (.code (.cond c x y) :: k) σ w R := k_cond hc (fun h => by cases h) (fun _ => h)
theorem k_yes {c : Operand} {x y : Code} {p : Prop} [Decidable p] (hc : ev σ c = some (.bool (decide p))) (hp : p) (h : WG P fn (.code x :: k) σ w R) : WG P fn (.code (.cond c x y) :: k) σ w R := k_ite hc (fun _ => h) (fun n => absurd hp n)
theorem k_no {c : Operand} {x y : Code} {p : Prop} [Decidable p] (hc : ev σ c = some (.bool (decide p))) (hp : ¬ p) (h : WG P fn (.code y :: k) σ w R) : WG P fn (.code (.cond c x y) :: k) σ w R := k_ite hc (fun n => absurd n hp) (fun _ => h)
end
section
variable {P : Program} {fn : Func} {k : List Item} {σ : Sig} {w : World} {R : Value → World → Prop}
theorem k_ret {v : Value} (hr : ∀ a w0, Fr [] fn.ntmps σ a → Dr w w0 → (results fn a.tmps).run P w0 = .ok v w0) (h : R v w) : WK P fn (.code .ret :: k) σ w R :=
  k_stop fun a w0 ha h0 => ⟨.inr ⟨_, rfl⟩, by rw [show a.defers = [] from ha.defers]; exact ⟨v, w, hr a w0 ha h0, h0, h⟩⟩
theorem k_end {v : Value} (hr : ∀ a w0, Fr [] fn.ntmps σ a → Dr w w0 → (results fn a.tmps).run P w0 = .ok v w0) (h : R v w) : WK P fn [] σ w R :=
  k_stop fun a w0 ha h0 => ⟨.inl rfl, by rw [show a.defers = [] from ha.defers]; exact ⟨v, w, hr a w0 ha h0, h0, h⟩⟩
theorem res_tmp {D : List Deferred} {t : Nat} {v : Value} (hr : fn.results = #[.tmp t]) (hv : σ.get t = some v) : ∀ a w0, Fr D fn.ntmps σ a → Dr w w0 → (results fn a.tmps).run P w0 = .ok v w0 := by
  intro a w0 ha _
  rw [results_tmp hr, Array.getD_eq_getD_getElem?, ha.get t v hv]; rfl
theorem k_ret1 {t : Nat} {v : Value} (hr : fn.results = #[.tmp t]) (hv : σ.get t = some v) (h : R v w) : WK P fn (.code .ret :: k) σ w R := k_ret (res_tmp hr hv) h
theorem k_ret0 (hr : fn.results = #[]) (h : R (.tuple #[]) w) : WK P fn (.code .ret :: k) σ w R := k_ret (fun a _ _ _ => results_none hr _ _ _) h
theorem k_end0 (hr : fn.results = #[]) (h : R (.tuple #[]) w) : WK P fn [] σ w R := k_end (fun a _ _ _ => results_none hr _ _ _) h
theorem k_ret2 {t u : Nat} {v v' : Value} (hr : fn.results = #[.tmp t, .tmp u]) (hv : σ.get t = some v) (hv' : σ.get u = some v') (h : R (.tuple #[v, v']) w) : WK P fn (.code .ret :: k) σ w R :=
  k_ret (fun a w0 ha _ => by rw [results_tmp2 hr, Array.getD_eq_getD_getElem?, Array.getD_eq_getD_getElem?, ha.get t v hv, ha.get u v' hv']; rfl) h
end
section
variable {P : Program} {fn : Func} {k : List Item} {σ : Sig} {w : World} {R : Pt}
/-- A loop: 'I n σ w': what holds at its head, n: a measure. -/
theorem k_rounds {c : Code} (I : Nat → Sig → World → Prop) (round : ∀ n, (∀ m, m < n → ∀ σ w, I m σ w → WG P fn (.inLoop c :: k) σ w R) → ∀ σ w, I n σ w → WG P fn (.code c :: .inLoop c :: k) σ w R)
    (n : Nat) (σ' : Sig) (hs : Sub σ' σ) (h : I n σ' w) : WG P fn (.code (.loop c) :: k) σ w R := by
  have key : ∀ n, ∀ σ w, I n σ w → WG P fn (.code c :: .inLoop c :: k) σ w R := by
    intro n
    induction n using Nat.strongRecOn with
    | _ n ih => exact fun σ w h => round n (fun m hm σ w hI => k_inLoop (ih m hm σ w hI)) σ w h
  exact k_loopIn (WK.sub hs (key n σ' w h))
/-- A loop whose head's state is told by 's': a measure, the temporaries, what holds. -/
theorem k_while {S : Type} {c : Code} (μ : S → Nat) (sg : S → Sig) (I : S → World → Prop) (s0 : S) (hs : SubB σ (sg s0)) (h0 : I s0 w)
    (round : ∀ s wr, I s wr → (∀ s' w', I s' w' → μ s' < μ s → ∀ σ', SubB σ' (sg s') → WG P fn (.inLoop c :: k) σ' w' R) → WG P fn (.code c :: .inLoop c :: k) (sg s) wr R) : WG P fn (.code (.loop c) :: k) σ w R := by
  refine k_rounds (fun n σ w => ∃ s, n = μ s ∧ σ = sg s ∧ I s w) ?_ (μ s0) (sg s0) (Sub.mk hs) ⟨s0, rfl, rfl, h0⟩
  rintro n ih _ wr ⟨s, rfl, rfl, hI⟩
  exact round s wr hI fun s' w' hI' hlt σ' hs' => WK.sub (Sub.mk hs') (ih _ hlt _ _ ⟨s', rfl, rfl, hI'⟩)
end

/-- A part of a code, by its road: 0 the first, 1 the second part. -/
def cut1 : Code → Nat → Code
  | .seq a _, 0 => a
  | .seq _ b, _ => b
  | .cond _ a _, 0 => a
  | .cond _ _ b, _ => b
  | .block _ c, _ => c
  | .loop c, _ => c
  | .scope c, _ => c
  | c, _ => c
def cutC (c : Code) : List Nat → Code
  | [] => c
  | n :: r => cutC (cut1 c n) r
def bodyC (fn : Func) (r : List Nat) : Code := cutC (fn.body.getD .skip) r
/-! ### 3. Operations -/
/-- An operation that yields a value and a world. -/
structure Ef (P : Program) (N : Nat) (σ : Sig) (w : World) (o : Oper) (Φ : Value → World → Prop) : Prop where
  run : ∀ {D : List Deferred} a w0, Fr D N σ a → Dr w w0 → ∃ v w', (execOp a.eval o).run P w0 = .ok (.value v) w' ∧ Φ v w'
/-- One that yields nothing. -/
structure Eu (P : Program) (N : Nat) (σ : Sig) (w : World) (o : Oper) (Φ : World → Prop) : Prop where
  run : ∀ {D : List Deferred} a w0, Fr D N σ a → Dr w w0 → ∃ w', (execOp a.eval o).run P w0 = .ok .skip w' ∧ Φ w'
/-- What stands behind a region's operations. -/
def QO (P : Program) (fn : Func) (k : List Item) (R : Pt) : Exit → Act → World → Prop :=
  fun e a' w' => e = .normal ∧ ∃ σ' w1, Fr R.D fn.ntmps σ' a' ∧ Dr w1 w' ∧ WG P fn k σ' w1 R
/-- l: the last ones of a region's operations, from n on; the first may lack its guard, where that says yes. -/
def Alike (ops : Array Oper) (a : Act) (n : Nat) : List Oper → Prop
  | [] => True
  | o' :: rest => ∃ o, ops[n]? = some o ∧ ops.toList.drop (n + 1) = rest ∧ (o' = o ∨ (o' = { o with guard := none } ∧ Region.wanted o (yielded ops a.tmps) = true))
/-- The operations l, the last ones of a region's, one behind the other. -/
def WO (P : Program) (fn : Func) (ops : Array Oper) (l : List Oper) (k : List Item) (σ : Sig) (w : World) (R : Pt) : Prop :=
  ∀ a w0, Fr R.D fn.ntmps σ a → Dr w w0 → ∀ n, Alike ops a n l → ∀ (b : Frame) (cs : List Frame), b.roundOf = R.ro →
    ∃ a' w' todo', Steps P (lone (b.atR a (.inRegion ops (List.range' n l.length) :: k)) cs w0) (lone (b.atR a' todo') cs w') ∧ R.T todo' a' w'
/-- In every world in which the blocks of w stand as they stood, the operation yields v and nothing else. -/
structure Rn (P : Program) (N : Nat) (σ : Sig) (w : World) (o : Oper) (v : Value) : Prop where
  run : ∀ {D : List Deferred} a w0, Fr D N σ a → St w w0 → (execOp a.eval o).run P w0 = .ok (.value v) w0
theorem sem_same {P : Program} {ρ : Operand → Value} {o : Oper} {w w' : World} {x : Next} (ro : Option Nat) (h : (execOp ρ o).run P w = .ok x w') (hx : ∀ d, x ≠ .defer d) : (o.semAt ro ρ).run P w = .ok x w' := by
  unfold Oper.semAt
  split
  · next l c he =>
    simp only [execOp, he, Sem.run_bind] at h
    cases hr : (resolve ρ c o.type).run P w with
    | ok d w1 =>
      rw [hr] at h
      simp only [Result.andThen_ok, Sem.run_pure, Result.ok.injEq] at h
      exact absurd h.1.symm (hx _)
    | halt e w1 => rw [hr] at h; cases h
  · exact h
section
variable {P : Program} {fn : Func} {ops : Array Oper} {rest : List Oper} {k : List Item} {σ : Sig} {w w' : World} {R : Pt}
theorem k_code {c : Code} (hro : R.ro = none) (h : ∀ a w0, Fr R.D fn.ntmps σ a → Dr w w0 → c.wp P (QO P fn k R) a w0) : WG P fn (.code c :: k) σ w R := by
  intro a w0 ha h0 b cs hb
  rw [hro] at hb
  obtain ⟨e, a', w', ⟨rfl, σ', w1, hσ', hw1, hk⟩, harr⟩ := h a w0 ha h0 b k cs
  obtain ⟨a2, w2, t2, h1, h2⟩ := hk a' w' hσ' hw1 b cs (hb.trans hro.symm)
  rw [Frame.atR_of_none hb] at h1
  have harr' : Steps P (lone (b.at a (.code c :: k)) cs w0) (lone (b.at a' k) cs w') := harr
  exact ⟨a2, w2, t2, by rw [Frame.atR_of_none hb]; exact Steps.trans harr' h1, h2⟩
theorem drop_cons {o : Oper} {n : Nat} (h : ops.toList.drop n = o :: rest) : ops[n]? = some o ∧ ops.toList.drop (n + 1) = rest := by
  constructor
  · have := congrArg (·[0]?) h
    simpa using this
  · rw [← List.tail_drop, h]; rfl
theorem alike_of {a : Act} {n : Nat} : ∀ {l : List Oper}, ops.toList.drop n = l → Alike ops a n l
  | [], _ => trivial
  | _ :: _, h => ⟨_, (drop_cons h).1, (drop_cons h).2, .inl rfl⟩
theorem k_region {id : Nat} {l : List Oper} (h : WO P fn l.toArray l k σ w R) : WG P fn (.code (.region id l.toArray false) :: k) σ w R :=
  WK.step (fun _ _ _ _ _ => stepR_region) (fun a w0 ha h0 b cs hb => by
    have := h a w0 ha h0 0 (alike_of (by simp)) b cs hb
    rwa [← List.range_eq_range', show l.length = l.toArray.size by simp] at this)
theorem o_nil (h : WG P fn k σ w R) : WO P fn ops [] k σ w R := fun a w0 ha h0 n _ b cs hb =>
  let ⟨a', w', t', h1, h2⟩ := h a w0 ha h0 b cs hb; ⟨a', w', t', .head stepR_region_end h1, h2⟩
theorem WO.sub {l : List Oper} {σ' : Sig} (hs : Sub σ' σ) (h : WO P fn ops l k σ' w R) : WO P fn ops l k σ w R := fun a w0 ha => h a w0 (ha.sub hs)
/-- The operation is wanted: it bears no guard, or its guard says so. -/
def wants (ops : Array Oper) (σ : Sig) (o : Oper) (b : Bool) : Prop :=
  match o.guard with
  | none => b = true
  | some (j, want) => ∃ t, (ops[j]?).bind (·.dst) = some t ∧ ((∃ c, σ.get t = some (.bool c) ∧ b = (c == want)) ∨ (σ.get t = some undef ∧ b = false))
theorem wants_wanted {D : List Deferred} {a : Act} {N : Nat} {o : Oper} {b : Bool} (ha : Fr D N σ a) (h : wants ops σ o b) : Region.wanted o (yielded ops a.tmps) = b := by
  unfold wants at h
  unfold Region.wanted
  cases hg : o.guard with
  | none => rw [hg] at h; simpa using h.symm
  | some p =>
    obtain ⟨j, want⟩ := p
    rw [hg] at h
    obtain ⟨t, h1, ⟨c, h2, rfl⟩ | ⟨h2, rfl⟩⟩ := h
    · have := ha.get t _ h2
      simp only [yielded, h1, Option.bind_some, this]
      cases c <;> cases want <;> rfl
    · have := ha.get t _ h2
      simp only [yielded, h1, Option.bind_some, this, undef]
      cases want <;> rfl
theorem wants_none {o : Oper} (h : o.guard = none) : wants ops σ o true := by unfold wants; rw [h]
theorem wants_some {o : Oper} {j t : Nat} {want c : Bool} (h : o.guard = some (j, want)) (h1 : (ops[j]?).bind (·.dst) = some t) (h2 : σ.get t = some (.bool c)) : wants ops σ o (c == want) := by
  unfold wants; rw [h]; exact ⟨t, h1, .inl ⟨c, h2, rfl⟩⟩
/-- Its guard's own operation was passed by. -/
theorem wants_not {o : Oper} {j t : Nat} {want : Bool} (h : o.guard = some (j, want)) (h1 : (ops[j]?).bind (·.dst) = some t) (h2 : σ.get t = some undef) : wants ops σ o false := by
  unfold wants; rw [h]; exact ⟨t, h1, .inr ⟨h2, rfl⟩⟩
/-- The next operation, stepped. -/
theorem o_step {o' : Oper} {want : Bool} (hg : wants ops σ o' want) (h : ∀ n o a w0, ops[n]? = some o → ops.toList.drop (n + 1) = rest → Region.wanted o (yielded ops a.tmps) = want → (∀ ρ, execOp ρ o = execOp ρ o') → o.dst = o'.dst → Fr R.D fn.ntmps σ a → Dr w w0 → ∀ (b : Frame) (cs : List Frame), b.roundOf = R.ro →
      ∃ a' w' todo', Steps P (lone (b.atR a (.inRegion ops (n :: List.range' (n + 1) rest.length) :: k)) cs w0) (lone (b.atR a' todo') cs w') ∧ R.T todo' a' w') : WO P fn ops (o' :: rest) k σ w R := by
  intro a w0 ha h0 n ⟨o, h1, h2, h3⟩ b cs hb
  rcases h3 with rfl | ⟨rfl, h3⟩
  · exact h n o' a w0 h1 h2 (wants_wanted ha hg) (fun _ => rfl) rfl ha h0 b cs hb
  · have hw : want = true := hg
    exact h n o a w0 h1 h2 (hw ▸ h3) (fun _ => rfl) rfl ha h0 b cs hb
theorem fin_atR {b : Frame} {a : Act} {n : Nat} {l : List Nat} {o : Oper} (ho : ops[n]? = some o) (v : Value) : (b.atR a (.inRegion ops (n :: l) :: k)).finish v = b.atR (a.put o.dst v) (.inRegion ops l :: k) := by
  rw [Frame.finish_atR, ho]; rfl
/-- An operation that yields a value; the world behind it. -/
theorem o_any {dd : Option Nat} {op : Op} {oty : TypeId} {opos : String} {oaf : Array Edge} {og : Option (Nat × Bool)} {Φ : Value → World → Prop} (hrun : Ef P fn.ntmps σ w ⟨dd, op, oty, opos, oaf, og⟩ Φ) (hg : wants ops σ ⟨dd, op, oty, opos, oaf, og⟩ true) (hd : okD dd fn.ntmps = true)
    (h : ∀ v w', Φ v w' → WO P fn ops rest k (putS dd v σ) w' R) : WO P fn ops ((⟨dd, op, oty, opos, oaf, og⟩ : Oper) :: rest) k σ w R :=
  o_step hg fun n o a w0 ho hn hw he hds ha h0 b cs hb => by
    obtain ⟨v, w', hr, hf⟩ := hrun.run a w0 ha h0
    rw [← he] at hr
    obtain ⟨a', w2, t', h1, h2⟩ := h v w' hf _ w' (ha.put dd v hd) (Dr.refl _) (n + 1) (alike_of hn) b cs hb
    refine ⟨a', w2, t', .head (step_lone_go ?_) h1, h2⟩
    have hfin := fin_atR (k := k) (b := b) (a := a) (l := List.range' (n + 1) rest.length) ho v
    rw [hds] at hfin
    rw [stepGR_op ho hw, ← hfin]
    simp [stepG.apply, sem_same b.roundOf hr (by simp)]
/-- An operation that leaves the world alone. -/
theorem o_still {dd : Option Nat} {op : Op} {oty : TypeId} {opos : String} {oaf : Array Edge} {og : Option (Nat × Bool)} {v : Value} (hrun : Rn P fn.ntmps σ w ⟨dd, op, oty, opos, oaf, og⟩ v) (hg : wants ops σ ⟨dd, op, oty, opos, oaf, og⟩ true) (hd : okD dd fn.ntmps = true)
    (h : WO P fn ops rest k (putS dd v σ) w R) : WO P fn ops ((⟨dd, op, oty, opos, oaf, og⟩ : Oper) :: rest) k σ w R :=
  o_step hg fun n o a w0 ho hn hw he hds ha h0 b cs hb => by
    have hr := hrun.run a w0 ha h0.st
    rw [← he] at hr
    obtain ⟨a', w2, t', h1, h2⟩ := h _ w0 (ha.put dd v hd) h0 (n + 1) (alike_of hn) b cs hb
    refine ⟨a', w2, t', .head (step_lone_go ?_) h1, h2⟩
    have hfin := fin_atR (k := k) (b := b) (a := a) (l := List.range' (n + 1) rest.length) ho v
    rw [hds] at hfin
    rw [stepGR_op ho hw, ← hfin]
    simp [stepG.apply, sem_same b.roundOf hr (by simp)]
theorem wants_yes {o : Oper} {j t : Nat} {want c : Bool} (h : o.guard = some (j, want)) (h1 : (ops[j]?).bind (·.dst) = some t) (h2 : σ.get t = some (.bool c)) (hc : c = want) : wants ops σ o true := by
  subst hc
  have := wants_some (ops := ops) (σ := σ) h h1 h2
  simpa using this
theorem wants_no {o : Oper} {j t : Nat} {want c : Bool} (h : o.guard = some (j, want)) (h1 : (ops[j]?).bind (·.dst) = some t) (h2 : σ.get t = some (.bool c)) (hc : c = !want) : wants ops σ o false := by
  subst hc
  have := wants_some (ops := ops) (σ := σ) h h1 h2
  cases want <;> simpa using this
/-- Its guard is not decided: both ways. -/
theorem o_gsplit {o : Oper} {j t : Nat} {want : Bool} {p : Prop} [Decidable p] (h : o.guard = some (j, want)) (h1 : (ops[j]?).bind (·.dst) = some t) (h2 : σ.get t = some (.bool (decide p)))
    (hp : p → WO P fn ops (o :: rest) k σ w R) (hn : ¬ p → WO P fn ops (o :: rest) k σ w R) : WO P fn ops (o :: rest) k σ w R := by
  by_cases h : p
  · exact hp h
  · exact hn h
/-- Its guard says yes: it is as one without a guard. -/
theorem o_yes {dd : Option Nat} {op : Op} {oty : TypeId} {opos : String} {oaf : Array Edge} {og : Option (Nat × Bool)} (hg : wants ops σ ⟨dd, op, oty, opos, oaf, og⟩ true)
    (h : WO P fn ops ((⟨dd, op, oty, opos, oaf, none⟩ : Oper) :: rest) k σ w R) : WO P fn ops ((⟨dd, op, oty, opos, oaf, og⟩ : Oper) :: rest) k σ w R := by
  intro a w0 ha h0 n ⟨o, h1, h2, h3⟩ b cs hb
  refine h a w0 ha h0 n ⟨o, h1, h2, .inr ?_⟩ b cs hb
  rcases h3 with rfl | ⟨h3, h4⟩
  · exact ⟨rfl, wants_wanted ha hg⟩
  · refine ⟨?_, h4⟩
    have := congrArg (fun x : Oper => { x with guard := none }) h3
    exact this
/-- An operation that is not wanted. -/
theorem o_pass {dd : Option Nat} {op : Op} {oty : TypeId} {opos : String} {oaf : Array Edge} {og : Option (Nat × Bool)} (hg : wants ops σ ⟨dd, op, oty, opos, oaf, og⟩ false) (hd : okD dd fn.ntmps = true) (h : WO P fn ops rest k (putS dd undef σ) w R) : WO P fn ops ((⟨dd, op, oty, opos, oaf, og⟩ : Oper) :: rest) k σ w R :=
  o_step hg fun n o a w0 ho hn hw he hds ha h0 b cs hb => by
    obtain ⟨a', w2, t', h1, h2⟩ := h _ w0 (ha.put dd undef hd) h0 (n + 1) (alike_of hn) b cs hb
    have hs := stepR_op_skip (P := P) (b := b) (a := a) (k := k) (cs := cs) (w := w0) (ops := ops) (i := n) (rest := List.range' (n + 1) rest.length) (by simp [ho, hw])
    simp only [ho, Option.bind_some, hds] at hs
    exact ⟨a', w2, t', .head hs h1, h2⟩
theorem o_unit {dd : Option Nat} {op : Op} {oty : TypeId} {opos : String} {oaf : Array Edge} {og : Option (Nat × Bool)} {Φ : World → Prop} (hrun : Eu P fn.ntmps σ w ⟨dd, op, oty, opos, oaf, og⟩ Φ) (hg : wants ops σ ⟨dd, op, oty, opos, oaf, og⟩ true) (hd : okD dd fn.ntmps = true)
    (h : ∀ w', Φ w' → WO P fn ops rest k (putS dd undef σ) w' R) : WO P fn ops ((⟨dd, op, oty, opos, oaf, og⟩ : Oper) :: rest) k σ w R :=
  o_step hg fun n o a w0 ho hn hw he hds ha h0 b cs hb => by
    obtain ⟨w', hr, hf⟩ := hrun.run a w0 ha h0
    rw [← he] at hr
    obtain ⟨a', w2, t', h1, h2⟩ := h w' hf _ w' (ha.put dd undef hd) (Dr.refl _) (n + 1) (alike_of hn) b cs hb
    refine ⟨a', w2, t', .head (step_lone_go ?_) h1, h2⟩
    have hfin := fin_atR (k := k) (b := b) (a := a) (l := List.range' (n + 1) rest.length) ho undef
    rw [hds] at hfin
    rw [stepGR_op ho hw, ← hfin]
    simp [stepG.apply, sem_same b.roundOf hr (by simp)]
/-- An operation that enters a function. -/
structure En (P : Program) (N : Nat) (σ : Sig) (o : Oper) (f : FuncId) (args : Array Value) : Prop where
  run : ∀ {D : List Deferred} a w0, Fr D N σ a → (execOp a.eval o).run P w0 = .ok (.enter f args) w0
theorem o_enter {dd : Option Nat} {op : Op} {oty : TypeId} {opos : String} {oaf : Array Edge} {og : Option (Nat × Bool)} {f : FuncId} {args : Array Value} (hrun : En P fn.ntmps σ ⟨dd, op, oty, opos, oaf, og⟩ f args) (hg : wants ops σ ⟨dd, op, oty, opos, oaf, og⟩ true) (hd : okD dd fn.ntmps = true)
    (h : CallsR P f args w fun v w' => WO P fn ops rest k (putS dd v σ) w' R) : WO P fn ops ((⟨dd, op, oty, opos, oaf, og⟩ : Oper) :: rest) k σ w R :=
  o_step hg fun n o a w0 ho hn hw he hds ha h0 b cs hb => by
    have hr := hrun.run a w0 ha
    rw [← he] at hr
    obtain ⟨e, w', fr, ⟨v, w1, rfl, hd1, hv⟩, hst, hfn, hl⟩ := h w0 h0 (b.atR a (.inRegion ops (n :: List.range' (n + 1) rest.length) :: k) :: cs)
    obtain ⟨a', w2, t', h1, h2⟩ := hv _ w' (ha.put dd v hd) hd1 (n + 1) (alike_of hn) b cs hb
    have henter : step P (lone (b.atR a (.inRegion ops (n :: List.range' (n + 1) rest.length) :: k)) cs w0) = .next (lone (Frame.enter P f args .normal) (b.atR a (.inRegion ops (n :: List.range' (n + 1) rest.length) :: k) :: cs) w0) :=
      step_lone_go (by rw [stepGR_op ho hw]; simp [stepG.apply, sem_same b.roundOf hr (by simp), Frame.atR])
    have hback := step_leave_returned (c := b.atR a (.inRegion ops (n :: List.range' (n + 1) rest.length) :: k)) (cs := cs) hl
    rw [fin_atR ho, hds] at hback
    exact ⟨a', w2, t', .head henter (Steps.trans hst (.head hback h1)), h2⟩
end

/-! ### 4. Regions that draw their order: the operations that leave the world alone are taken first; each other one is the only one that may come up -/
/-- What j waits for, itself and through others. -/
def predsOf (ops : Array Oper) (j : Nat) : List Nat := ((ops[j]?).map fun o => (o.after.toList.filter (Region.binds .any)).map (·.on)).getD []
def predMask (ops : Array Oper) (j : Nat) : Nat := (predsOf ops j).foldl (fun b p => b ||| 2 ^ p) 0
def ancStep (ops : Array Oper) (acc m : Nat) : Nat := if acc.testBit m then acc ||| predMask ops m else acc
def ancOf (ops : Array Oper) (j : Nat) : Nat := (List.range ops.size).reverse.foldl (ancStep ops) (predMask ops j)
def pureOp (o : Oper) : Bool := match o.op with | .move _ => true | .assign _ => true | _ => false
def pureAt (ops : Array Oper) (m : Nat) : Bool := match ops[m]? with | some o => pureOp o | none => true
theorem yields_free {P : Program} {ops : Array Oper} {S S' : World → Prop} {o : Oper} {v : Value} {a : Act} {w : World} (h : YieldsIf P ops S o v a) (hp : pureOp o = true) (hS : S w) : YieldsIf P ops S' o v a := by
  rcases h with ⟨h1, h2⟩ | h
  · refine .inl ⟨h1, fun w' _ => ?_⟩
    have := h2 w hS
    unfold pureOp at hp
    split at hp
    · next he => simp only [execOp, he, Sem.run_pure, Result.ok.injEq, Next.value.injEq, and_true] at this ⊢; exact this
    · next he => simp only [execOp, he, Sem.run_pure, Result.ok.injEq, Next.value.injEq, and_true] at this ⊢; exact this
    · cases hp
  · exact .inr h
/-- Operation j waits for every other one, or they wait for it, or they do but copy. -/
def waitsAll (ops : Array Oper) (j : Nat) : Bool :=
  (List.range ops.size).all fun m => m == j || (ancOf ops j).testBit m || pureAt ops m || (ancOf ops m).testBit j
/-- What was taken waits for nothing that was not. -/
def Shut (ops : Array Oper) (listed : Array Bool) : Prop := ∀ m, listed.getD m false = true → ∀ p ∈ predsOf ops m, listed.getD p false = true
theorem preds_ready {ops : Array Oper} {listed : Array Bool} {j : Nat} (hj : j ∈ Region.ready .any ops listed) : ∀ p ∈ predsOf ops j, listed.getD p false = true := by
  intro p hp
  obtain ⟨_, oj, hoj, hall⟩ := mem_ready.1 hj
  simp only [predsOf, hoj, Option.map_some, Option.getD_some, List.mem_map, List.mem_filter] at hp
  obtain ⟨e, ⟨he, hb⟩, rfl⟩ := hp
  exact hall e (by simpa using he) hb
theorem getD_set_mono {listed : Array Bool} {j p : Nat} (h : listed.getD p false = true) : (listed.setIfInBounds j true).getD p false = true := by
  rw [Array.getD_eq_getD_getElem?] at h ⊢
  rw [Array.getElem?_setIfInBounds]
  split
  · next hjp => subst hjp; split <;> simp_all
  · exact h
theorem Shut.set {ops : Array Oper} {listed : Array Bool} {j : Nat} (h : Shut ops listed) (hj : j ∈ Region.ready .any ops listed) : Shut ops (listed.setIfInBounds j true) := by
  intro m hm p hp
  by_cases hjm : j = m
  · subst hjm
    exact getD_set_mono (preds_ready hj p hp)
  · refine getD_set_mono (h m ?_ p hp)
    rw [Array.getD_eq_getD_getElem?] at hm ⊢
    rw [Array.getElem?_setIfInBounds, if_neg hjm] at hm
    exact hm
theorem mask_mem : ∀ (l : List Nat) (b x : Nat), (l.foldl (fun b p => b ||| 2 ^ p) b).testBit x = true → b.testBit x = true ∨ x ∈ l
  | [], _, _, h => .inl h
  | p :: l, b, x, h => by
    rcases mask_mem l _ x h with h | h
    · rw [Nat.testBit_or, Bool.or_eq_true] at h
      rcases h with h | h
      · exact .inl h
      · rw [Nat.testBit_two_pow] at h
        exact .inr (by simp [of_decide_eq_true h])
    · exact .inr (List.mem_cons_of_mem _ h)
theorem predMask_mem {ops : Array Oper} {j x : Nat} (h : (predMask ops j).testBit x = true) : x ∈ predsOf ops j := by
  rcases mask_mem _ _ _ h with h | h
  · simp at h
  · exact h
theorem anc_listed {ops : Array Oper} {listed : Array Bool} (h : Shut ops listed) : ∀ (ms : List Nat) (acc : Nat), (∀ x, acc.testBit x = true → listed.getD x false = true) → ∀ x, (ms.foldl (ancStep ops) acc).testBit x = true → listed.getD x false = true
  | [], _, h0 => h0
  | m :: ms, acc, h0 => by
    refine anc_listed h ms _ ?_
    intro x hx
    unfold ancStep at hx
    split at hx
    · next hc =>
      rw [Nat.testBit_or, Bool.or_eq_true] at hx
      rcases hx with h1 | h1
      · exact h0 x h1
      · exact h m (h0 m hc) x (predMask_mem h1)
    · exact h0 x hx
theorem anc_ready {ops : Array Oper} {listed : Array Bool} (hsh : Shut ops listed) {i j : Nat} (hi : i ∈ Region.ready .any ops listed) (hj : j ∈ Region.ready .any ops listed) (h : (ancOf ops j).testBit i = true) : False := by
  have hiu := (mem_ready.1 hi).1
  have := anc_listed hsh _ _ (fun x hx => preds_ready hj x (predMask_mem hx)) i h
  rcases Nat.lt_or_ge i listed.size with h' | h'
  · simp [h'] at hiu this; rw [hiu] at this; cases this
  · simp [Array.getElem?_eq_none h'] at hiu
/-- Whatever order is picked from here on; S holds behind every operation but one whose place in all orders is the same. -/
def anyL (P : Program) (ops : Array Oper) (Q : Exit → Act → World → Prop) (S : World → Prop) : Nat → Array Bool → Act → World → Prop
  | 0, listed, a, w => Region.ready .any ops listed = [] ∧ Q .normal a w
  | n + 1, listed, a, w => (Region.ready .any ops listed = [] → Q .normal a w) ∧
    ∀ i ∈ Region.ready .any ops listed, wpOp P ops Q i (fun a' w' => (S w' ∧ anyL P ops Q S n (listed.setIfInBounds i true) a' w') ∨ (waitsAll ops i = true ∧ ∃ S', S' w' ∧ anyL P ops Q S' n (listed.setIfInBounds i true) a' w')) a w
section
variable {P : Program} {ops : Array Oper} {Q : Exit → Act → World → Prop} {S : World → Prop}
theorem any_of_L : ∀ (n : Nat) (S : World → Prop) (listed : Array Bool) (a : Act) (w : World), anyL P ops Q S n listed a w → wpAny P .any ops Q n listed a w
  | 0, _, _, _, _, h => h
  | n + 1, S, _, _, _, h => ⟨h.1, fun i hi => wpOp_mono (fun a' w' h' => h'.elim (fun h' => any_of_L n S _ a' w' h'.2) (fun ⟨_, S', _, h'⟩ => any_of_L n S' _ a' w' h')) (h.2 i hi)⟩
theorem ready_waits {listed : Array Bool} {i j : Nat} (hsh : Shut ops listed) (hi : i ∈ Region.ready .any ops listed) (hj : j ∈ Region.ready .any ops listed) (hne : j ≠ i) (hw : waitsAll ops j = true) : pureAt ops i = true := by
  obtain ⟨_, oi, hoi, _⟩ := mem_ready.1 hi
  have hlt : i < ops.size := (Array.getElem?_eq_some_iff.1 hoi).1
  have := List.all_eq_true.1 hw i (by simpa using hlt)
  simp only [Bool.or_eq_true, beq_iff_eq] at this
  rcases this with ((h | h) | h) | h
  · exact absurd h.symm hne
  · exact (anc_ready hsh hi hj h).elim
  · exact h
  · exact (anc_ready hsh hj hi h).elim
/-- An operation that yields its value in every world that meets S may be taken first. -/
theorem anyL_first {i : Nat} {oi : Oper} {v : Value} (hi : ops[i]? = some oi) (hsel : ∀ (j : Nat) (o : Oper) cs b, ops[j]? = some o → o.op ≠ .select cs b)
    (hQ : ∀ c a w, Q (.panic c) (a.put oi.dst v) w → Q (.panic c) a w) : ∀ (n : Nat) (S : World → Prop) (listed : Array Bool) (a : Act) (w : World),
      (∀ j oj, ops[j]? = some oj → j ≠ i → listed.getD j true = false → (∀ e ∈ oj.after, Region.binds .any e = true → e.on ≠ i) → oi.apart ops oj = true) →
      i ∈ Region.ready .any ops listed → YieldsIf P ops S oi v a → S w → Shut ops listed → anyL P ops Q S n (listed.setIfInBounds i true) (a.put oi.dst v) w → anyL P ops Q S (n + 1) listed a w
  | n, S, listed, a, w, hfree, hr, hy, hS, hsh, H => by
    refine ⟨fun h => (by rw [h] at hr; cases hr), fun j hj => ?_⟩
    by_cases hji : j = i
    · subst hji
      exact hy.wpOp hi hS (.inl ⟨hS, H⟩)
    · cases n with
      | zero =>
        have := ready_mono hj hji
        rw [H.1] at this
        cases this
      | succ n =>
        obtain ⟨hjun, oj, hoj, hall⟩ := mem_ready.1 hj
        have hnot : ∀ e ∈ oj.after, Region.binds .any e = true → e.on ≠ i := fun e he hb heq => by
          have h1 := hall e he hb
          have h0 := (mem_ready.1 hr).1
          rw [heq] at h1
          rcases Nat.lt_or_ge i listed.size with h' | h'
          · simp [h'] at h0 h1; rw [h0] at h1; cases h1
          · simp [Array.getElem?_eq_none h'] at h1
        have h2 := wpOp_putIf hoj (hfree j oj hoj hji hjun hnot) (fun cs b => hsel i oi cs b hi) (fun cs b => hsel j oj cs b hoj) hQ hy (H.2 j (ready_mono hj hji))
        refine wpOp_mono (fun a' w' ⟨hy', hS'⟩ => ?_) h2
        have hfree' : ∀ k ok, ops[k]? = some ok → k ≠ i → (listed.setIfInBounds j true).getD k true = false → (∀ e ∈ ok.after, Region.binds .any e = true → e.on ≠ i) → oi.apart ops ok = true := fun k ok hk hki hun hno => by
          refine hfree k ok hk hki ?_ hno
          by_cases hjk : j = k
          · subst hjk; exact hjun
          · rw [getD_set_ne true hjk] at hun; exact hun
        rcases hS' with ⟨hSw, h3⟩ | ⟨hw, S', hSw, h3⟩
        · refine .inl ⟨hSw, anyL_first hi hsel hQ n S (listed.setIfInBounds j true) a' w' hfree' (ready_mono hr (Ne.symm hji)) hy' hSw (hsh.set hj) ?_⟩
          rw [Array.setIfInBounds_comm _ _ hji]
          exact h3
        · have hp : pureOp oi = true := by have := ready_waits hsh hr hj hji hw; simpa [pureAt, hi] using this
          refine .inr ⟨hw, S', hSw, anyL_first hi hsel hQ n S' (listed.setIfInBounds j true) a' w' hfree' (ready_mono hr (Ne.symm hji)) (yields_free hy' hp hS) hSw (hsh.set hj) ?_⟩
          rw [Array.setIfInBounds_comm _ _ hji]
          exact h3
theorem anyL_take {i : Nat} {oi : Oper} {v : Value} {n : Nat} {listed : Array Bool} {a : Act} {w : World} (hi : ops[i]? = some oi)
    (hs : Region.noSelect ops = true) (hf : Region.free .any ops listed i = true) (hr : (Region.ready .any ops listed).contains i = true)
    (hQ : ∀ c a w, Q (.panic c) (a.put oi.dst v) w → Q (.panic c) a w) (hy : YieldsIf P ops S oi v a) (hS : S w) (hsh : Shut ops listed)
    (h : anyL P ops Q S n (listed.setIfInBounds i true) (a.put oi.dst v) w) : anyL P ops Q S (n + 1) listed a w :=
  anyL_first hi (Region.noSelect_spec hs) hQ n S listed a w (Region.free_spec hi hf) (by simpa using hr) hy hS hsh h
theorem anyL_all {rs : List Nat} {n : Nat} {listed : Array Bool} {a : Act} {w : World} (hr : Region.ready .any ops listed = rs) (hne : rs ≠ [])
    (h : ∀ i ∈ rs, wpOp P ops Q i (fun a' w' => (S w' ∧ anyL P ops Q S n (listed.setIfInBounds i true) a' w') ∨ (waitsAll ops i = true ∧ ∃ S', S' w' ∧ anyL P ops Q S' n (listed.setIfInBounds i true) a' w')) a w) : anyL P ops Q S (n + 1) listed a w :=
  ⟨fun h0 => absurd (hr ▸ h0) hne, hr ▸ h⟩
theorem anyL_done {listed : Array Bool} {a : Act} {w : World} (hr : Region.ready .any ops listed = []) (h : Q .normal a w) : ∀ n, anyL P ops Q S n listed a w
  | 0 => ⟨hr, h⟩
  | _ + 1 => ⟨fun _ => h, by rw [hr]; simp⟩
end
def ordOK (ops : Array Oper) : List (Nat × Nat) → Array Bool → Bool
  | [], listed => (Region.ready .any ops listed).isEmpty
  | (i, 0) :: r, listed => Region.free .any ops listed i && (Region.ready .any ops listed).contains i && ordOK ops r (listed.setIfInBounds i true)
  | (i, 1) :: r, listed => Region.ready .any ops listed == [i] && ordOK ops r (listed.setIfInBounds i true)
  | (_, _) :: _, _ => true
def WD (P : Program) (fn : Func) (ops : Array Oper) (listed : Array Bool) (l : List (Nat × Nat)) (k : List Item) (σ : Sig) (w w2 : World) (R : Pt) : Prop :=
  Region.noSelect ops = true → ordOK ops l listed = true → Shut ops listed → ∀ a w0, Fr R.D fn.ntmps σ a → Dr w2 w0 → anyL P ops (QO P fn k R) (St w) l.length listed a w0
section
variable {P : Program} {fn : Func} {ops : Array Oper} {listed : Array Bool} {l : List (Nat × Nat)} {k : List Item} {σ : Sig} {w w2 : World} {R : Pt}
theorem k_draw {id : Nat} (l : List (Nat × Nat)) (hm : P.follows .mixedOrders = true) (hn : Region.noSelect ops = true) (hl : ops.size = l.length) (ho : ordOK ops l (Array.replicate ops.size false) = true)
    (h : WD P fn ops (Array.replicate ops.size false) l k σ w w R) (hro : R.ro = none := by rfl) : WG P fn (.code (.region id ops true) :: k) σ w R :=
  k_code hro fun a w0 ha h0 => wp_region_any hm (by
    have := h hn ho (fun m hm => by rw [Array.getD_eq_getD_getElem?, Array.getElem?_replicate] at hm; split at hm <;> cases hm) a { w0 with drawn := w0.drawn + 1 } ha (h0.trans (Dr.drawn _ _))
    rw [← hl] at this
    exact any_of_L _ _ _ _ _ this)
theorem d_nil (h : WG P fn k σ w2 R) : WD P fn ops listed [] k σ w w2 R :=
  fun _ ho _ a w0 ha h0 => anyL_done (by simpa [ordOK] using ho) ⟨rfl, σ, w2, ha, h0, h⟩ _
theorem d_still {i : Nat} {dd : Option Nat} {op : Op} {oty : TypeId} {opos : String} {oaf : Array Edge} {og : Option (Nat × Bool)} {v : Value} (hi : ops[i]? = some (⟨dd, op, oty, opos, oaf, og⟩ : Oper)) (hrun : Rn P fn.ntmps σ w ⟨dd, op, oty, opos, oaf, og⟩ v) (hg : wants ops σ ⟨dd, op, oty, opos, oaf, og⟩ true) (hd : okD dd fn.ntmps = true) (hS : St w w2)
    (h : WD P fn ops (listed.setIfInBounds i true) l k (putS dd v σ) w w2 R) : WD P fn ops listed ((i, 0) :: l) k σ w w2 R := by
  intro hn ho hsh a w0 ha h0
  simp only [ordOK, Bool.and_eq_true] at ho
  have hrd := List.contains_iff_mem.1 ho.1.2
  exact anyL_take hi hn ho.1.1 ho.1.2 (fun c a w hq => by simp [QO] at hq) (.inl ⟨wants_wanted ha hg, fun w1 h1 => hrun.run a w1 ha h1⟩)
    (fun k hk => by rw [h0.heap]; exact hS k hk) hsh (h hn ho.2 (hsh.set hrd) _ _ (ha.put dd v hd) h0)
theorem d_pass {i : Nat} {dd : Option Nat} {op : Op} {oty : TypeId} {opos : String} {oaf : Array Edge} {og : Option (Nat × Bool)} (hi : ops[i]? = some (⟨dd, op, oty, opos, oaf, og⟩ : Oper)) (hg : wants ops σ ⟨dd, op, oty, opos, oaf, og⟩ false) (hd : okD dd fn.ntmps = true) (hS : St w w2)
    (h : WD P fn ops (listed.setIfInBounds i true) l k (putS dd undef σ) w w2 R) : WD P fn ops listed ((i, 0) :: l) k σ w w2 R := by
  intro hn ho hsh a w0 ha h0
  simp only [ordOK, Bool.and_eq_true] at ho
  have hrd := List.contains_iff_mem.1 ho.1.2
  exact anyL_take hi hn ho.1.1 ho.1.2 (fun c a w hq => by simp [QO] at hq) (.inr ⟨wants_wanted ha hg, rfl⟩)
    (fun k hk => by rw [h0.heap]; exact hS k hk) hsh (h hn ho.2 (hsh.set hrd) _ _ (ha.put dd undef hd) h0)
theorem d_loud {i : Nat} {o : Oper} (hi : ops[i]? = some o) (h : ∀ a w0, Fr R.D fn.ntmps σ a → Dr w2 w0 → wpOp P ops (QO P fn k R) i (fun a' w' => ∃ σ' w3, Fr R.D fn.ntmps σ' a' ∧ Dr w3 w' ∧ ((St w w3 ∧ WD P fn ops (listed.setIfInBounds i true) l k σ' w w3 R) ∨ (waitsAll ops i = true ∧ WD P fn ops (listed.setIfInBounds i true) l k σ' w3 w3 R))) a w0) :
    WD P fn ops listed ((i, 1) :: l) k σ w w2 R := by
  intro hn ho hsh a w0 ha h0
  simp only [ordOK, Bool.and_eq_true, beq_iff_eq] at ho
  refine anyL_all ho.1 (by simp) fun j hj => ?_
  have hs2 := hsh.set (j := i) (by rw [ho.1]; simp)
  obtain rfl : j = i := by simpa using hj
  exact wpOp_mono (fun a' w' ⟨σ', w3, h1, h2, h3⟩ => h3.imp (fun ⟨hS, h3⟩ => ⟨fun k hk => by rw [h2.heap]; exact hS k hk, h3 hn ho.2 hs2 a' w' h1 h2⟩) (fun ⟨hB, h3⟩ => ⟨hB, St w3, fun k _ => by rw [h2.heap], h3 hn ho.2 hs2 a' w' h1 h2⟩)) (h a w0 ha h0)
/-- Two that may come up, both of which are carried out in some world: each order is walked. -/
theorem d_branch {i j x : Nat} {l1 l2 : List (Nat × Nat)} (hr : (Region.ready .any ops listed == [i, j]) = true) (h1 : l1.length = l.length + 1) (h2 : l2.length = l.length + 1)
    (o1 : (Region.ready .any ops listed == [i, j] && ordOK ops l1.tail (listed.setIfInBounds i true)) = true) (o2 : (Region.ready .any ops listed == [i, j] && ordOK ops l2.tail (listed.setIfInBounds j true)) = true)
    (w1 : (∀ a w0, Fr R.D fn.ntmps σ a → Dr w2 w0 → wpOp P ops (QO P fn k R) i (fun a' w' => ∃ σ' w3, Fr R.D fn.ntmps σ' a' ∧ Dr w3 w' ∧ ((St w w3 ∧ WD P fn ops (listed.setIfInBounds i true) l1.tail k σ' w w3 R) ∨ (waitsAll ops i = true ∧ WD P fn ops (listed.setIfInBounds i true) l1.tail k σ' w3 w3 R))) a w0))
    (w2' : (∀ a w0, Fr R.D fn.ntmps σ a → Dr w2 w0 → wpOp P ops (QO P fn k R) j (fun a' w' => ∃ σ' w3, Fr R.D fn.ntmps σ' a' ∧ Dr w3 w' ∧ ((St w w3 ∧ WD P fn ops (listed.setIfInBounds j true) l2.tail k σ' w w3 R) ∨ (waitsAll ops j = true ∧ WD P fn ops (listed.setIfInBounds j true) l2.tail k σ' w3 w3 R))) a w0)) :
    WD P fn ops listed ((x, 2) :: l) k σ w w2 R := by
  intro hn ho hsh a w0 ha h0
  simp only [Bool.and_eq_true, beq_iff_eq] at hr o1 o2
  have hsi := hsh.set (j := i) (by rw [hr]; simp)
  have hsj := hsh.set (j := j) (by rw [hr]; simp)
  refine anyL_all hr (by simp) fun m hm => ?_
  have e1 : l1.tail.length = l.length := by simp [h1]
  have e2 : l2.tail.length = l.length := by simp [h2]
  rcases (by simpa using hm : m = i ∨ m = j) with rfl | rfl
  · refine wpOp_mono (fun a' w' ⟨σ', w3, h1, h2, h3⟩ => h3.imp (fun ⟨hS, h3⟩ => ⟨fun k hk => by rw [h2.heap]; exact hS k hk, ?_⟩) (fun ⟨hB, h3⟩ => ⟨hB, St w3, fun k _ => by rw [h2.heap], ?_⟩)) (w1 a w0 ha h0)
    all_goals
      have := h3 hn o1.2 hsi a' w' h1 h2
      rwa [e1] at this
  · refine wpOp_mono (fun a' w' ⟨σ', w3, h1, h2, h3⟩ => h3.imp (fun ⟨hS, h3⟩ => ⟨fun k hk => by rw [h2.heap]; exact hS k hk, ?_⟩) (fun ⟨hB, h3⟩ => ⟨hB, St w3, fun k _ => by rw [h2.heap], ?_⟩)) (w2' a w0 ha h0)
    all_goals
      have := h3 hn o2.2 hsj a' w' h1 h2
      rwa [e2] at this
theorem d_any {i : Nat} {dd : Option Nat} {op : Op} {oty : TypeId} {opos : String} {oaf : Array Edge} {og : Option (Nat × Bool)} (hi : ops[i]? = some (⟨dd, op, oty, opos, oaf, og⟩ : Oper)) {Φ : Value → World → Prop} (hrun : Ef P fn.ntmps σ w2 ⟨dd, op, oty, opos, oaf, og⟩ Φ) (hg : wants ops σ ⟨dd, op, oty, opos, oaf, og⟩ true) (hd : okD dd fn.ntmps = true)
    (h : ∀ v w', Φ v w' → (St w w' ∧ WD P fn ops (listed.setIfInBounds i true) l k (putS dd v σ) w w' R) ∨ (waitsAll ops i = true ∧ WD P fn ops (listed.setIfInBounds i true) l k (putS dd v σ) w' w' R)) : WD P fn ops listed ((i, 1) :: l) k σ w w2 R := by
  refine d_loud hi fun a w0 ha h0 => ?_
  unfold wpOp
  simp only [hi]
  rw [wants_wanted ha hg, if_pos rfl]
  left
  obtain ⟨v, w', hr, hf⟩ := hrun.run a w0 ha h0
  unfold Oper.wp
  rw [hr, Oper.upon_value]
  exact ⟨_, w', ha.put dd v hd, Dr.refl _, h v w' hf⟩
theorem d_unit {i : Nat} {dd : Option Nat} {op : Op} {oty : TypeId} {opos : String} {oaf : Array Edge} {og : Option (Nat × Bool)} (hi : ops[i]? = some (⟨dd, op, oty, opos, oaf, og⟩ : Oper)) {Φ : World → Prop} (hrun : Eu P fn.ntmps σ w2 ⟨dd, op, oty, opos, oaf, og⟩ Φ) (hg : wants ops σ ⟨dd, op, oty, opos, oaf, og⟩ true) (hd : okD dd fn.ntmps = true)
    (h : ∀ w', Φ w' → (St w w' ∧ WD P fn ops (listed.setIfInBounds i true) l k (putS dd undef σ) w w' R) ∨ (waitsAll ops i = true ∧ WD P fn ops (listed.setIfInBounds i true) l k (putS dd undef σ) w' w' R)) : WD P fn ops listed ((i, 1) :: l) k σ w w2 R := by
  refine d_loud hi fun a w0 ha h0 => ?_
  unfold wpOp
  simp only [hi]
  rw [wants_wanted ha hg, if_pos rfl]
  left
  obtain ⟨w', hr, hf⟩ := hrun.run a w0 ha h0
  unfold Oper.wp
  rw [hr, Oper.upon_skip]
  exact ⟨_, w', ha.put dd undef hd, Dr.refl _, h w' hf⟩
/-- An operation that leaves the world alone, in the world as it now is. -/
theorem d_now {i : Nat} {dd : Option Nat} {op : Op} {oty : TypeId} {opos : String} {oaf : Array Edge} {og : Option (Nat × Bool)} {v : Value} (hi : ops[i]? = some (⟨dd, op, oty, opos, oaf, og⟩ : Oper)) (hrun : Rn P fn.ntmps σ w2 ⟨dd, op, oty, opos, oaf, og⟩ v) (hg : wants ops σ ⟨dd, op, oty, opos, oaf, og⟩ true) (hd : okD dd fn.ntmps = true) (hS : St w w2)
    (h : WD P fn ops (listed.setIfInBounds i true) l k (putS dd v σ) w w2 R) : WD P fn ops listed ((i, 1) :: l) k σ w w2 R := by
  refine d_loud hi fun a w0 ha h0 => ?_
  unfold wpOp
  simp only [hi]
  rw [wants_wanted ha hg, if_pos rfl]
  left
  unfold Oper.wp
  rw [hrun.run a w0 ha h0.st, Oper.upon_value]
  exact ⟨_, w2, ha.put dd v hd, h0, .inl ⟨hS, h⟩⟩
theorem d_passNow {i : Nat} {dd : Option Nat} {op : Op} {oty : TypeId} {opos : String} {oaf : Array Edge} {og : Option (Nat × Bool)} (hi : ops[i]? = some (⟨dd, op, oty, opos, oaf, og⟩ : Oper)) (hg : wants ops σ ⟨dd, op, oty, opos, oaf, og⟩ false) (hd : okD dd fn.ntmps = true) (hS : St w w2)
    (h : WD P fn ops (listed.setIfInBounds i true) l k (putS dd undef σ) w w2 R) : WD P fn ops listed ((i, 1) :: l) k σ w w2 R := by
  refine d_loud hi fun a w0 ha h0 => ?_
  unfold wpOp
  simp only [hi]
  rw [wants_wanted ha hg, if_neg (by simp)]
  exact ⟨_, w2, ha.put dd undef hd, h0, .inl ⟨hS, h⟩⟩
theorem d_enter {i : Nat} {dd : Option Nat} {op : Op} {oty : TypeId} {opos : String} {oaf : Array Edge} {og : Option (Nat × Bool)} {f : FuncId} {args : Array Value} (hi : ops[i]? = some (⟨dd, op, oty, opos, oaf, og⟩ : Oper)) (hrun : En P fn.ntmps σ ⟨dd, op, oty, opos, oaf, og⟩ f args) (hg : wants ops σ ⟨dd, op, oty, opos, oaf, og⟩ true) (hd : okD dd fn.ntmps = true)
    (h : CallsR P f args w2 fun v w' => (St w w' ∧ WD P fn ops (listed.setIfInBounds i true) l k (putS dd v σ) w w' R) ∨ (waitsAll ops i = true ∧ WD P fn ops (listed.setIfInBounds i true) l k (putS dd v σ) w' w' R)) : WD P fn ops listed ((i, 1) :: l) k σ w w2 R := by
  refine d_loud hi fun a w0 ha h0 => ?_
  unfold wpOp
  simp only [hi]
  rw [wants_wanted ha hg, if_pos rfl]
  left
  unfold Oper.wp
  rw [hrun.run a w0 ha, Oper.upon_enter]
  refine Calls.mono (h w0 h0) fun e w' ⟨v, w1, he, hd1, hv⟩ => ?_
  subst he
  exact ⟨_, w1, ha.put dd v hd, hd1, hv⟩
/-- The operation that comes up next, laid open. -/
def WDo (P : Program) (fn : Func) (ops : Array Oper) (listed : Array Bool) (i kd : Nat) (o : Oper) (l : List (Nat × Nat)) (k : List Item) (σ : Sig) (w w2 : World) (R : Pt) : Prop :=
  ops[i]? = some o → WD P fn ops listed ((i, kd) :: l) k σ w w2 R
theorem d_open {i kd : Nat} {o : Oper} (hi : ops[i]? = some o) (h : WDo P fn ops listed i kd o l k σ w w2 R) : WD P fn ops listed ((i, kd) :: l) k σ w w2 R := h hi
theorem x_still {i : Nat} {dd : Option Nat} {op : Op} {oty : TypeId} {opos : String} {oaf : Array Edge} {og : Option (Nat × Bool)} {v : Value} (hrun : Rn P fn.ntmps σ w ⟨dd, op, oty, opos, oaf, og⟩ v) (hg : wants ops σ ⟨dd, op, oty, opos, oaf, og⟩ true) (hd : okD dd fn.ntmps = true) (hS : St w w2)
    (h : WD P fn ops (listed.setIfInBounds i true) l k (putS dd v σ) w w2 R) : WDo P fn ops listed i 0 (⟨dd, op, oty, opos, oaf, og⟩ : Oper) l k σ w w2 R := fun hi => d_still hi hrun hg hd hS h
theorem x_pass {i : Nat} {dd : Option Nat} {op : Op} {oty : TypeId} {opos : String} {oaf : Array Edge} {og : Option (Nat × Bool)} (hg : wants ops σ ⟨dd, op, oty, opos, oaf, og⟩ false) (hd : okD dd fn.ntmps = true) (hS : St w w2)
    (h : WD P fn ops (listed.setIfInBounds i true) l k (putS dd undef σ) w w2 R) : WDo P fn ops listed i 0 (⟨dd, op, oty, opos, oaf, og⟩ : Oper) l k σ w w2 R := fun hi => d_pass hi hg hd hS h
theorem x_any {i : Nat} {dd : Option Nat} {op : Op} {oty : TypeId} {opos : String} {oaf : Array Edge} {og : Option (Nat × Bool)} {Φ : Value → World → Prop} (hrun : Ef P fn.ntmps σ w2 ⟨dd, op, oty, opos, oaf, og⟩ Φ) (hg : wants ops σ ⟨dd, op, oty, opos, oaf, og⟩ true) (hd : okD dd fn.ntmps = true)
    (h : ∀ v w', Φ v w' → (St w w' ∧ WD P fn ops (listed.setIfInBounds i true) l k (putS dd v σ) w w' R) ∨ (waitsAll ops i = true ∧ WD P fn ops (listed.setIfInBounds i true) l k (putS dd v σ) w' w' R)) : WDo P fn ops listed i 1 (⟨dd, op, oty, opos, oaf, og⟩ : Oper) l k σ w w2 R := fun hi => d_any hi hrun hg hd h
theorem x_unit {i : Nat} {dd : Option Nat} {op : Op} {oty : TypeId} {opos : String} {oaf : Array Edge} {og : Option (Nat × Bool)} {Φ : World → Prop} (hrun : Eu P fn.ntmps σ w2 ⟨dd, op, oty, opos, oaf, og⟩ Φ) (hg : wants ops σ ⟨dd, op, oty, opos, oaf, og⟩ true) (hd : okD dd fn.ntmps = true)
    (h : ∀ w', Φ w' → (St w w' ∧ WD P fn ops (listed.setIfInBounds i true) l k (putS dd undef σ) w w' R) ∨ (waitsAll ops i = true ∧ WD P fn ops (listed.setIfInBounds i true) l k (putS dd undef σ) w' w' R)) : WDo P fn ops listed i 1 (⟨dd, op, oty, opos, oaf, og⟩ : Oper) l k σ w w2 R := fun hi => d_unit hi hrun hg hd h
theorem x_now {i : Nat} {dd : Option Nat} {op : Op} {oty : TypeId} {opos : String} {oaf : Array Edge} {og : Option (Nat × Bool)} {v : Value} (hrun : Rn P fn.ntmps σ w2 ⟨dd, op, oty, opos, oaf, og⟩ v) (hg : wants ops σ ⟨dd, op, oty, opos, oaf, og⟩ true) (hd : okD dd fn.ntmps = true) (hS : St w w2)
    (h : WD P fn ops (listed.setIfInBounds i true) l k (putS dd v σ) w w2 R) : WDo P fn ops listed i 1 (⟨dd, op, oty, opos, oaf, og⟩ : Oper) l k σ w w2 R := fun hi => d_now hi hrun hg hd hS h
theorem x_passNow {i : Nat} {dd : Option Nat} {op : Op} {oty : TypeId} {opos : String} {oaf : Array Edge} {og : Option (Nat × Bool)} (hg : wants ops σ ⟨dd, op, oty, opos, oaf, og⟩ false) (hd : okD dd fn.ntmps = true) (hS : St w w2)
    (h : WD P fn ops (listed.setIfInBounds i true) l k (putS dd undef σ) w w2 R) : WDo P fn ops listed i 1 (⟨dd, op, oty, opos, oaf, og⟩ : Oper) l k σ w w2 R := fun hi => d_passNow hi hg hd hS h
theorem x_enter {i : Nat} {dd : Option Nat} {op : Op} {oty : TypeId} {opos : String} {oaf : Array Edge} {og : Option (Nat × Bool)} {f : FuncId} {args : Array Value} (hrun : En P fn.ntmps σ ⟨dd, op, oty, opos, oaf, og⟩ f args) (hg : wants ops σ ⟨dd, op, oty, opos, oaf, og⟩ true) (hd : okD dd fn.ntmps = true)
    (h : CallsR P f args w2 fun v w' => (St w w' ∧ WD P fn ops (listed.setIfInBounds i true) l k (putS dd v σ) w w' R) ∨ (waitsAll ops i = true ∧ WD P fn ops (listed.setIfInBounds i true) l k (putS dd v σ) w' w' R)) : WDo P fn ops listed i 1 (⟨dd, op, oty, opos, oaf, og⟩ : Oper) l k σ w w2 R := fun hi => d_enter hi hrun hg hd h
/-- Guards of operations in a region that draws: x_still .. take 'hg' as they stand. -/
theorem x_yes {i kd : Nat} {o : Oper} (h : WDo P fn ops listed i kd o l k σ w w2 R) : WDo P fn ops listed i kd o l k σ w w2 R := h
end
attribute [irreducible] WG WO WD WDo CallsR
end Go.Ink
