/-
  Ranges over functions: a call of yield, a round, the statement.
-/
import Derived.Test.YtcfbkoajhllcaaaLw
import Derived.RangeFuncRecord
set_option linter.unusedVariables false
set_option linter.unusedSimpArgs false
namespace Go.Ink
open Go Go.RowKit

/-! ### A call of yield -/
/-- A round of the loop l that hands back v. -/
def RoundR (P : Program) (l : Nat) (args : List Value) (w : World) (R : Value → World → Prop) : Prop :=
  ∀ w0, Dr w w0 → ∃ f tmps as_ body, (Instr.yield l args.toArray).run P w0 = .ok (.round l f tmps as_ body) w0 ∧
    ∀ (c : Frame) (cs : List Frame), ∃ v w' w1, Steps P (lone (Frame.round l f tmps as_ body .normal) (c :: cs) w0) (lone (c.finish v) cs w') ∧ Dr w1 w' ∧ R v w1
theorem RoundR.mono {P : Program} {l : Nat} {args : List Value} {w : World} {R R' : Value → World → Prop} (h : RoundR P l args w R) (hr : ∀ v w, R v w → R' v w) : RoundR P l args w R' :=
  fun w0 h0 => let ⟨f, t, a, b, h1, h2⟩ := h w0 h0; ⟨f, t, a, b, h1, fun c cs => let ⟨v, w', w1, h3, h4, h5⟩ := h2 c cs; ⟨v, w', w1, h3, h4, hr _ _ h5⟩⟩
structure Yd (P : Program) (N : Nat) (σ : Sig) (o : Oper) (l : Nat) (args : List Value) : Prop where
  run : ∀ {D : List Deferred} a w0, Fr D N σ a → (execOp a.eval o).run P w0 = (Instr.yield l args.toArray).run P w0
section
variable {P : Program} {fn : Func} {ops : Array Oper} {rest : List Oper} {k : List Item} {σ : Sig} {w w' : World} {R : Pt}
variable {dd : Option Nat} {op : Op} {oty : TypeId} {opos : String} {oaf : Array Edge} {og : Option (Nat × Bool)}
theorem yd_call {N : Nat} {l : Nat} {x : Operand} {args : List Operand} {vs : List Value} {ts : Array TypeId} (hf : ev σ x = some (.func (.yield l) #[] #[])) (hx : evs σ args = some vs) :
    Yd P N σ ⟨dd, .call { callee := .value x, args := args.toArray, argTypes := ts }, oty, opos, oaf, og⟩ l vs := by
  constructor; intro _ a w0 ha
  simp [execOp, resolve, invoke, List.map_toArray, evs_map ha hx, ha.ev hf, Sem.run_bind, Sem.run_pure, Deferred.ofValue, Result.andThen_ok]
theorem o_yield {l : Nat} {args : List Value} (hrun : Yd P fn.ntmps σ ⟨dd, op, oty, opos, oaf, og⟩ l args) (hg : wants ops σ ⟨dd, op, oty, opos, oaf, og⟩ true) (hd : okD dd fn.ntmps = true)
    (h : RoundR P l args w fun v w' => WO P fn ops rest k (putS dd v σ) w' R) : WO P fn ops ((⟨dd, op, oty, opos, oaf, og⟩ : Oper) :: rest) k σ w R :=
  o_step hg fun n o a w0 ho hn hw he hds ha h0 b cs hb => by
    obtain ⟨f, tmps, as_, body, hy, hrd⟩ := h w0 h0
    have hr := hrun.run a w0 ha
    rw [← he, hy] at hr
    obtain ⟨v, w', w1, hst, hd1, hv⟩ := hrd (b.atR a (.inRegion ops (n :: List.range' (n + 1) rest.length) :: k)) cs
    unfold WO at hv
    obtain ⟨a', w2, t', h1, h2⟩ := hv _ w' (ha.put dd v hd) hd1 (n + 1) (alike_of hn) b cs hb
    have henter : step P (lone (b.atR a (.inRegion ops (n :: List.range' (n + 1) rest.length) :: k)) cs w0) = .next (lone (Frame.round l f tmps as_ body .normal) (b.atR a (.inRegion ops (n :: List.range' (n + 1) rest.length) :: k) :: cs) w0) :=
      step_lone_go (by rw [stepGR_op ho hw]; simp [stepG.apply, sem_same b.roundOf hr (by simp), Frame.atR])
    rw [fin_atR ho, hds] at hst
    exact ⟨a', w2, t', .head henter (Steps.trans hst h1), h2⟩
theorem lo_yield {O B : World} {S K : Nat → Prop} {M : Mm} {l : Nat} {args : List Value} (hrun : Yd P fn.ntmps σ ⟨dd, op, oty, opos, oaf, none⟩ l args) (hd : okD dd fn.ntmps = true)
    (h : ∀ w, Lw O S B K M w → RoundR P l args w fun v w' => WO P fn ops rest k (putS dd v σ) w' R) : WLo P fn ops ((⟨dd, op, oty, opos, oaf, none⟩ : Oper) :: rest) k σ O S B K M R := by
  unfold WLo
  exact fun w hw => o_yield hrun (wants_none rfl) hd (h w hw)
end

/-! ### A round -/
/-- What a round is to come to. -/
def Pt.round (P : Program) (l : Nat) (R : Value → World → Prop) : Pt :=
  { D := [], ro := some l, T := fun todo a w => a.defers = [] ∧ ((todo = [] ∧ ∃ v w' w1, (Instr.endRound l none).run P w = .ok v w' ∧ Dr w1 w' ∧ R v w1) ∨ ((∃ k, todo = .code .ret :: k) ∧ ∃ v w' w1, (Instr.endRound l (some .ret)).run P w = .ok v w' ∧ Dr w1 w' ∧ R v w1)) }
theorem wr_putObj {w w0 : World} (h : Dr w w0) {l : Nat} {o : Obj} (hl : w.heap[l]? = some o) (o' : Obj) : Wr w (w0.putObj l o') l o' :=
  ⟨⟨h.os, h.tape, h.output, by simp [h.heap], fun k hk hn => by rw [World.putObj_heap_other hn, h.heap]⟩, World.putObj_heap_same (by rw [h.heap]; exact blk_lt hl)⟩
/-- Temporaries with some written. -/
def putsS : List (Nat × Value) → Sig → Sig
  | [], σ => σ
  | (t, v) :: r, σ => putsS r ((t, v) :: σ)
theorem fr_puts {N : Nat} : ∀ (l : List (Nat × Value)) (σ : Sig) (τ : Array Value), τ.size = N → (∀ t v, σ.get t = some v → τ[t]? = some v) → l.all (fun p => Nat.blt p.1 N) = true →
    Fr [] N (putsS l σ) { tmps := l.foldl (fun τ p => τ.setIfInBounds p.1 p.2) τ, defers := [] }
  | [], σ, τ, h1, h2, _ => ⟨rfl, h1, h2⟩
  | (t, v) :: r, σ, τ, h1, h2, h3 => by
    simp only [List.all_cons, Bool.and_eq_true] at h3
    have hp := (Fr.mk (D := []) (N := N) (σ := σ) (a := { tmps := τ, defers := [] }) rfl h1 h2).put (some t) v h3.1
    exact fr_puts r _ _ hp.size hp.get h3.2
section
variable {P : Program} {fn : Func} {k : List Item} {σ : Sig} {w w' : World} {l : Nat}
theorem round_enter {R : Value → World → Prop} {r : Loop} {args : List Value} {ps : List Nat} (hl : w.heap[l]? = some (.loop r)) (hp : r.params = ps.toArray) (hs : args.length = ps.length) (h1 : r.tmps.size = fn.ntmps) (h2 : ∀ t v, σ.get t = some v → r.tmps[t]? = some v)
    (h3 : (ps.zip args).all (fun p => Nat.blt p.1 fn.ntmps) = true) (h : WG P fn [.code r.assign, .beginRound, .code r.body] (putsS (ps.zip args) σ) w (Pt.round P l R)) : RoundR P l args w R := by
  unfold WG at h
  intro w0 h0
  have hl0 : w0.heap[l]? = some (.loop r) := by rw [h0.heap]; exact hl
  refine ⟨_, _, _, _, run_yield hl0 (by rw [hp]; simpa using hs), fun c cs => ?_⟩
  let b : Frame := { (default : Frame) with fn := r.fn, kind := .normal, roundOf := some l }
  have htm : (r.params.zip args.toArray).foldl (fun tmps (x : Nat × Value) => tmps.setIfInBounds x.1 x.2) r.tmps = (ps.zip args).foldl (fun τ p => τ.setIfInBounds p.1 p.2) r.tmps := by
    rw [hp, List.zip_toArray, ← Array.foldl_toList]
  obtain ⟨a', w1, t', hst, hD, hT⟩ := h _ w0 (fr_puts (ps.zip args) σ r.tmps h1 h2 h3) h0 b (c :: cs) rfl
  have hb0 : Frame.round l r.fn ((r.params.zip args.toArray).foldl (fun tmps (x : Nat × Value) => tmps.setIfInBounds x.1 x.2) r.tmps) r.assign r.body .normal = b.atR { tmps := (ps.zip args).foldl (fun τ p => τ.setIfInBounds p.1 p.2) r.tmps, defers := [] } [.code r.assign, .beginRound, .code r.body] := by
    rw [htm]; simp [Frame.round, Frame.atR, b]
  have hb1 : Frame.round l r.fn ((r.params.zip args.toArray).foldl (fun tmps (t, a) => tmps.setIfInBounds t a) r.tmps) r.assign r.body .normal = b.atR { tmps := (ps.zip args).foldl (fun τ p => τ.setIfInBounds p.1 p.2) r.tmps, defers := [] } [.code r.assign, .beginRound, .code r.body] := hb0
  rw [hb1]
  rcases hT with ⟨rfl, v, w2, w3, h4, h5, h6⟩ | ⟨⟨k', rfl⟩, v, w2, w3, h4, h5, h6⟩
  · exact ⟨v, w2, w3, Steps.trans hst (.one (stepR_round_end rfl rfl h4)), h5, h6⟩
  · exact ⟨v, w2, w3, Steps.trans hst (.one (stepR_round_ret rfl rfl h4)), h5, h6⟩
theorem k_beginRound {R : Pt} {r : Loop} (hro : R.ro = some l) (hl : w.heap[l]? = some (.loop r)) (hr : r.state = .ready) (h : ∀ w', Wr w w' l (.loop { r with state := .busy }) → WG P fn k σ w' R) : WG P fn (.beginRound :: k) σ w R := by
  unfold WG at h ⊢
  intro a w0 ha h0 b cs hb
  have hl0 : w0.heap[l]? = some (.loop r) := by rw [h0.heap]; exact hl
  obtain ⟨a', w', t', h1, h2⟩ := h _ (wr_putObj h0 hl _) a _ ha (Dr.refl _) b cs hb
  exact ⟨a', w', t', .head (stepR_beginRound (hb.trans hro) (run_beginRound hl0 hr)) h1, h2⟩
theorem k_endRound {R : Value → World → Prop} {r : Loop} (hl : w.heap[l]? = some (.loop r)) (h : ∀ w', Wr w w' l (.loop { r with state := .ready, pending := none }) → R (.bool true) w') : WG P fn [] σ w (Pt.round P l R) :=
  k_stop fun a w0 ha h0 => ⟨ha.defers, .inl ⟨rfl, _, _, _, run_endRound (r := r) none (by rw [h0.heap]; exact hl), Dr.refl _, h _ (wr_putObj h0 hl _)⟩⟩
theorem k_retRound {R : Value → World → Prop} {r : Loop} (hl : w.heap[l]? = some (.loop r)) (h : ∀ w', Wr w w' l (.loop { r with state := .done, pending := some .ret }) → R (.bool false) w') : WG P fn (.code .ret :: k) σ w (Pt.round P l R) :=
  k_stop fun a w0 ha h0 => ⟨ha.defers, .inr ⟨⟨_, rfl⟩, _, _, _, run_endRound (r := r) (some .ret) (by rw [h0.heap]; exact hl), Dr.refl _, h _ (wr_putObj h0 hl _)⟩⟩
end
section
variable {P : Program} {fn : Func} {k : List Item} {σ : Sig} {l : Nat} {O B : World} {S K : Nat → Prop} {M M' : Mm}
theorem l_beginRound {R : Pt} {r : Loop} (hro : R.ro = some l) (hm : MIn l (.loop r) M) (hr : r.state = .ready) (hu : MUp l (.loop { r with state := .busy }) M M') (h : WLG P fn k σ O S B K M' R) : WLG P fn (.beginRound :: k) σ O S B K M R := by
  unfold WLG at *
  exact fun w hw => k_beginRound hro (hw.mem _ _ hm) hr fun w' hr' => h w' (hw.wr hr' hu)
theorem l_endRound {R : Value → World → Prop} {r : Loop} (hm : MIn l (.loop r) M) (hu : MUp l (.loop { r with state := .ready, pending := none }) M M') (h : ∀ w, Lw O S B K M' w → R (.bool true) w) : WLG P fn [] σ O S B K M (Pt.round P l R) := by
  unfold WLG
  exact fun w hw => k_endRound (hw.mem _ _ hm) fun w' hr' => h w' (hw.wr hr' hu)
theorem l_retRound {R : Value → World → Prop} {r : Loop} (hm : MIn l (.loop r) M) (hu : MUp l (.loop { r with state := .done, pending := some .ret }) M M') (h : ∀ w, Lw O S B K M' w → R (.bool false) w) : WLG P fn (.code .ret :: k) σ O S B K M (Pt.round P l R) := by
  unfold WLG
  exact fun w hw => k_retRound (hw.mem _ _ hm) fun w' hr' => h w' (hw.wr hr' hu)
end

/-! ### The statement -/
/-- With one deferred call more. -/
def Pt.push (R : Pt) (d : Deferred) : Pt := { R with D := d :: R.D }
section
variable {P : Program} {fn : Func} {k : List Item} {σ : Sig} {w : World} {R : Pt}
theorem k_range {g : Operand} {ps : Array Tmp} {as_ body : Code} {f : FuncId} [hF : FnT P f] {cap : List Value} (hro : R.ro = none) (hg : ev σ g = some (.func (.func f) #[] cap.toArray))
    (h : ∀ φ τ r l w1 w2, τ.size = fn.ntmps → (∀ t v, σ.get t = some v → τ[t]? = some v) → Nb w w1 r (.deferred (some [])) → Nb w1 w2 l (.loop { state := .ready, pending := none, fn := φ, tmps := τ, params := ps, assign := as_, body := body, defers := r }) →
      CallsR P f (.func (.yield l) #[] #[] :: cap).toArray w2 fun _ w3 => ∃ rec, w3.heap[l]? = some (.loop rec) ∧ rec.state ≠ .busy ∧ ∀ w4, Wr w3 w4 l (.loop { rec with state := .exhausted }) →
        WG P fn ((rec.pending.map Item.code).toList ++ k) σ w4 (R.push { target := .collected r, args := #[] })) : WG P fn (.code (.rangeFunc g ps as_ body) :: k) σ w R := by
  unfold CallsR WG at h
  unfold WG
  intro a w0 ha h0 b cs hb
  have hro' : b.roundOf = none := hb.trans hro
  have he := run_enterLoop_outer (P := P) (w := w0) b.fn a.tmps ps as_ body
  rw [← hro'] at he
  have n1 := nb_alloc h0 (.deferred (some []))
  have n2 := nb_alloc (Dr.refl (w0.alloc (.deferred (some [])))) (.loop { state := .ready, pending := none, fn := b.fn, tmps := a.tmps, params := ps, assign := as_, body := body, defers := w0.heap.size })
  have hsz : (w0.alloc (.deferred (some []))).heap.size = w0.heap.size + 1 := World.size_alloc _ _
  rw [hsz] at n2
  have hc := h b.fn a.tmps _ _ _ _ ha.size ha.get n1 n2
  have hres : ∀ W, (resolve a.eval (rangeCall g (w0.heap.size + 1)) 0).run P W = .ok ⟨.fn (.func f) cap.toArray, #[.func (.yield (w0.heap.size + 1)) #[] #[]]⟩ W := by
    intro W
    have hcn : a.eval (.const (.func (.yield (w0.heap.size + 1)) #[] #[])) = .func (.yield (w0.heap.size + 1)) #[] #[] := rfl
    simp [resolve, ha.ev hg, hcn, Sem.run_bind, Sem.run_pure, Deferred.ofValue, Result.andThen_ok]
  have hinv : ∀ W, (invoke (.fn (.func f) cap.toArray) #[.func (.yield (w0.heap.size + 1)) #[] #[]]).run P W = .ok (.enter f (.func (.yield (w0.heap.size + 1)) #[] #[] :: cap).toArray) W := by
    intro W
    simp [invoke, hF.run]
  have henter := stepR_rangeFunc (P := P) (b := b) (a := a) (k := k) (cs := cs) (w := w0) he (hres _) (hinv _)
  obtain ⟨e, w3, fr, ⟨v, w3', rfl, hd3, rec, hl, hbusy, hk⟩, hst, hfn, hlv⟩ := hc _ (Dr.refl _) (b.atR { a with defers := [{ target := .collected w0.heap.size, args := #[] }] ++ a.defers } (.inRangeFunc (w0.heap.size + 1) :: k) :: cs)
  have hback := step_leave_returned (c := b.atR { a with defers := [{ target := .collected w0.heap.size, args := #[] }] ++ a.defers } (.inRangeFunc (w0.heap.size + 1) :: k)) (cs := cs) hlv
  rw [finish_atR_inRangeFunc] at hback
  have hend := stepR_endRangeFunc (P := P) (b := b) (a := { a with defers := [{ target := .collected w0.heap.size, args := #[] }] ++ a.defers }) (k := k) (cs := cs) (run_endLoop (P := P) (w := w3) (r := rec) (by rw [hd3.heap]; exact hl) hbusy)
  obtain ⟨a', w4, t', h1, h2⟩ := hk _ (wr_putObj hd3 hl _) { a with defers := [{ target := .collected w0.heap.size, args := #[] }] ++ a.defers } _ ⟨by show _ ++ a.defers = _ :: R.D; rw [ha.defers]; rfl, ha.size, ha.get⟩ (Dr.refl _) b cs hb
  exact ⟨a', w4, t', .head henter (Steps.trans hst (.head hback (.head hend h1))), h2⟩
/-- A return behind one loop over a function. -/
theorem k_retM {R : Value → World → Prop} {r : Nat} {rs : List ResultVar} {vs : List Value} (hr : fn.results = rs.toArray) (hb : w.heap[r]? = some (.deferred (some []))) (h : ∀ w', Wr w w' r (.deferred none) → Res P σ w' rs vs ∧ R (if h : vs.length = 1 then vs[0] else .tuple vs.toArray) w') :
    WG P fn (.code .ret :: k) σ w ((Pt.fn P fn [] R).push { target := .collected r, args := #[] }) :=
  k_stop fun a w0 ha h0 => ⟨.inr ⟨_, rfl⟩, by
    rw [show a.defers = [{ target := .collected r, args := #[] }] from ha.defers]
    have hw := wr_putObj h0 hb (.deferred none)
    obtain ⟨h1, h2⟩ := h _ hw
    refine ⟨r, _, rfl, run_takeDeferred (by rw [h0.heap]; exact hb), _, _, res_any (fn := fn) (D := [{ target := .collected r, args := #[] }]) hr h1 a _ ha (Dr.refl _), Dr.refl _, h2⟩⟩
theorem l_retM {O B : World} {S K : Nat → Prop} {M M' : Mm} {R : Value → World → Prop} {r : Nat} {rs : List ResultVar} {vs : List Value} (hr : fn.results = rs.toArray) (hm : MIn r (.deferred (some [])) M) (hu : MUp r (.deferred none) M M') (hL : LRes P σ M' rs vs)
    (h : ∀ w, Lw O S B K M' w → R (if h : vs.length = 1 then vs[0] else .tuple vs.toArray) w) : WLG P fn (.code .ret :: k) σ O S B K M ((Pt.fn P fn [] R).push { target := .collected r, args := #[] }) := by
  unfold WLG
  exact fun w hw => k_retM hr (hw.mem _ _ hm) fun w' hw' => ⟨hL.res (hw.wr hw' hu), h w' (hw.wr hw' hu)⟩
end
end Go.Ink
