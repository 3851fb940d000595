/-
  word.seek.
-/
import Derived.Test.YtcfbkoajhllcaaaG4
set_option linter.unusedVariables false
set_option linter.unusedSimpArgs false
namespace Go.Ink
open Go Go.Proofs

/-- v is behind t (by 1), or ahead of it (-1). -/
def On (by_ : Int) (t v : Nat) : Prop := by_ = 1 ∧ t < v ∨ by_ = -1 ∧ v < t
/-- The nearest one that is such a one. -/
def Sk (f : Ps → Bool) (P : List Ps) (by_ : Int) (t : Nat) : Option Nat → Prop
  | some u => u < P.length ∧ On by_ t u ∧ f (P.getD u (0, 0)) = true ∧ ∀ v, On by_ t v → On by_ v u → f (P.getD v (0, 0)) = false
  | none => ∀ v, v < P.length → On by_ t v → f (P.getD v (0, 0)) = false
theorem Sk.eq {f : Ps → Bool} {P : List Ps} {by_ : Int} {t : Nat} {r r' : Option Nat} (h : Sk f P by_ t r) (h' : Sk f P by_ t r') : r = r' := by
  match r, r', h, h' with
  | none, none, _, _ => rfl
  | some u, none, h, h' => have := h' u h.1 h.2.1; rw [h.2.2.1] at this; cases this
  | none, some u, h, h' => have := h u h'.1 h'.2.1; rw [h'.2.2.1] at this; cases this
  | some u, some v, h, h' =>
    have h1 := h.2.2.2 v h'.2.1
    have h2 := h'.2.2.2 u h.2.1
    rw [h'.2.2.1] at h1
    rw [h.2.2.1] at h2
    have h3 := h.2.1
    have h4 := h'.2.1
    have : u = v := by
      rcases Nat.lt_trichotomy u v with h5 | h5 | h5
      · rcases h3 with ⟨h6, h7⟩ | ⟨h6, h7⟩
        · exact absurd (h2 (.inl ⟨h6, h5⟩)) (by simp)
        · rcases h4 with ⟨h8, h9⟩ | ⟨h8, h9⟩
          · omega
          · exact absurd (h1 (.inr ⟨h6, h5⟩)) (by simp)
      · exact h5
      · rcases h3 with ⟨h6, h7⟩ | ⟨h6, h7⟩
        · rcases h4 with ⟨h8, h9⟩ | ⟨h8, h9⟩
          · exact absurd (h1 (.inl ⟨h6, h5⟩)) (by simp)
          · omega
        · exact absurd (h2 (.inr ⟨h6, h5⟩)) (by simp)
    rw [this]
def lastM (l : List (List Int)) : Ps := if l = [] then (0, 0) else (((l.length - 1 : Nat) : Int), (((l.getD (l.length - 1) []).length - 1 : Nat) : Int))
/-- What is told. -/
def tellM (l : List (List Int)) (by_ : Int) : Option Nat → Ps
  | some u => (placesTo l l.length).getD u (0, 0)
  | none => if 0 < by_ then lastM l else (0, 0)
def SeekM (f : Ps → Bool) (l : List (List Int)) (by_ : Int) (p q : Ps) : Prop :=
  (l = [] ∧ q = (0, 0)) ∨ ∃ t r, (placesTo l l.length)[t]? = some (clipM l p) ∧ Sk f (placesTo l l.length) by_ t r ∧ q = tellM l by_ r
section
variable {F : Nat → Prop} {w : World} {v : Value} {l : List (List Int)} {p : Ps} {by_ : Int}
theorem lastP_calls (h : Sl kRow F w v l) : CallsR Try.prog 11 #[v] w fun u w' => Kn w w' ∧ u = posV (lastM l) := by
  obtain ⟨A, c, ad, rV, rc, ra, rfl, hR⟩ := h.rws
  have hlen := hR.len
  refine l_enter (fun _ => False) Try.func11 rfl rfl ?_
  repeat(first|refine lrun_ ?_|(refine lo_boxA rfl rfl ?_;intro _ _ _)|(refine lo_box1 rfl rfl rfl ?_;intro _ _ _)|(refine lo_alloc rfl ?_;intro _ _ _))
  by_cases h0 : l.length = 0
  · refine l_yes rfl (by omega) ?_
    repeat(first|refine lrun_ ?_|(refine lo_boxA rfl rfl ?_;intro _ _ _)|(refine lo_box1 rfl rfl rfl ?_;intro _ _ _)|(refine lo_alloc rfl ?_;intro _ _ _))
    exact l_retR1 rfl (by repeat(first|exact LRes.nil|refine LRes.tmp rfl ?_|refine LRes.agg rfl (by(repeat(first|exact MIn.hd|refine MIn.tl ?_));done) (by rfl) (by rfl) ?_|refine LRes.one rfl (by(repeat(first|exact MIn.hd|refine MIn.tl ?_));done) (by rfl) ?_)) fun w hw => ⟨hw.org, by unfold lastM; rw [if_pos (List.length_eq_zero_iff.1 h0)]; rfl⟩
  · refine l_no rfl (by omega) ?_
    obtain ⟨n, hn⟩ : ∃ n : Nat, (l.length : Int) - 1 = n ∧ l.length - 1 = n := ⟨l.length - 1, by omega, rfl⟩
    have hrl := hR.rl n
    repeat(first|refine lrun_ ?_|(refine lo_boxA rfl rfl ?_;intro _ _ _)|(refine lo_box1 rfl rfl rfl ?_;intro _ _ _)|(refine lo_alloc rfl ?_;intro _ _ _))
    rw [hn.1]
    repeat(first|refine lrun_ ?_|(refine lo_boxA rfl rfl ?_;intro _ _ _)|(refine lo_box1 rfl rfl rfl ?_;intro _ _ _)|(refine lo_alloc rfl ?_;intro _ _ _))
    refine l_retR1 rfl (by repeat(first|exact LRes.nil|refine LRes.tmp rfl ?_|refine LRes.agg rfl (by(repeat(first|exact MIn.hd|refine MIn.tl ?_));done) (by rfl) (by rfl) ?_|refine LRes.one rfl (by(repeat(first|exact MIn.hd|refine MIn.tl ?_));done) (by rfl) ?_)) fun w hw => ⟨hw.org, ?_⟩
    have e : lastM l = ((n : Int), if 0 < ((l.getD n []).length : Int) - 1 then ((l.getD n []).length : Int) - 1 else 0) := by
      unfold lastM
      rw [if_neg (fun h' : l = [] => h0 (by rw [h']; rfl)), hn.2]
      congr 1
      split <;> omega
    rw [e]; rfl
theorem placesF_calls {q : Ps} {A : Option Addr} {n c : Nat} : CallsR Try.prog 36 #[.slice A n c, posV q, .int .i64 by_] w fun u w' => Kn w w' ∧ ∃ g1 g2 g3, u = .func (.func 43) #[] #[.pointer (some ⟨g1, 0, none⟩), .pointer (some ⟨g2, 0, none⟩), .pointer (some ⟨g3, 0, none⟩)] ∧
    w'.heap[g1]? = some (cb [.slice A n c] 22) ∧ w'.heap[g2]? = some (cb [.int .i64 q.1, .int .i64 q.2] 24) ∧ w'.heap[g3]? = some (cb [.int .i64 by_] 3) ∧ w.heap.size ≤ g1 ∧ w.heap.size ≤ g2 ∧ w.heap.size ≤ g3 ∧ g1 ≠ g2 ∧ g3 ≠ g2 := by
  refine l_enter (fun _ => False) Try.func36 rfl rfl ?_
  repeat(first|refine lrun_ ?_|(refine lo_boxA rfl rfl ?_;intro _ _ _)|(refine lo_box1 rfl rfl rfl ?_;intro _ _ _)|(refine lo_alloc rfl ?_;intro _ _ _))
  rename_i g1 h1 _ g2 h2 _ g3 h3 _
  refine l_ret1 rfl rfl fun w hw => ⟨hw.org, g1, g2, g3, rfl, hw.mem _ _ (by(repeat(first|exact MIn.hd|refine MIn.tl ?_));done), hw.mem _ _ (by(repeat(first|exact MIn.hd|refine MIn.tl ?_));done), hw.mem _ _ (by(repeat(first|exact MIn.hd|refine MIn.tl ?_));done), h1, h2, h3, ?_⟩
  have := hw.nd
  simp at this
  omega
theorem places1_nil {A : Option Addr} {c g1 g2 g3 lp : Nat} (h : w.cell? ⟨g1, 0, none⟩ = some (.slice A 0 c)) :
    CallsR Try.prog 43 #[.func (.yield lp) #[] #[], .pointer (some ⟨g1, 0, none⟩), .pointer (some ⟨g2, 0, none⟩), .pointer (some ⟨g3, 0, none⟩)] w fun _ w' => w' = w := by
  refine calls_enter Try.func43 rfl rfl ?_
  repeat(refine run_ ?_)
  refine o_still (r_load rfl h) (wants_none rfl) rfl ?_
  repeat(refine run_ ?_)
  refine k_true rfl ?_
  repeat(refine run_ ?_)
  exact k_ret0 rfl rfl
def rfA : Code → Code
  | .rangeFunc _ _ a _ => a
  | c => c
def rfB : Code → Code
  | .rangeFunc _ _ _ b => b
  | c => c
/-- The record of a loop that is ready. -/
def mkRec (ps : Array Tmp) (as_ body : Code) (φ : FuncId) (τ : Array Value) (r : Nat) : Loop := { state := .ready, pending := none, fn := φ, tmps := τ, params := ps, assign := as_, body := body, defers := r }
/-- The round of seek's loop. -/
theorem seek_round {f : FuncId} [hFn : FnT Try.prog f] {cap : List Value} {φ : FuncId} {τ : Array Value} {r lp g7 g8 : Nat} {q : Ps} {b : Bool} (hτ : τ.size = Try.f32.ntmps) (hσ : ∀ t v, Sig.get [(7, .pointer (some ⟨g7, 0, none⟩)), (8, .pointer (some ⟨g8, 0, none⟩))] t = some v → τ[t]? = some v)
    (hl : w.heap[lp]? = some (.loop (mkRec #[16] (rfA (bodyC Try.f32 [1, 0, 1, 0])) (rfB (bodyC Try.f32 [1, 0, 1, 0])) φ τ r))) (h8 : w.heap[g8]? = some (cb [.int .i64 0, .int .i64 0] 24)) (h7 : w.cell? ⟨g7, 0, none⟩ = some (.func (.func f) #[] cap.toArray)) (n78 : g7 ≠ g8) (n7 : g7 ≠ lp) (n8 : g8 ≠ lp)
    (hcall : ∀ w', Kp (fun k => k = lp ∨ k = g8) w w' → CallsR Try.prog f (posV q :: cap).toArray w' fun u w'' => Kn w' w'' ∧ u = .bool b) :
    RoundR Try.prog lp [posV q] w fun v w' => (b = false ∧ v = .bool true ∧ Kp (fun k => k = lp) w w' ∧ w'.heap[lp]? = some (.loop (mkRec #[16] (rfA (bodyC Try.f32 [1, 0, 1, 0])) (rfB (bodyC Try.f32 [1, 0, 1, 0])) φ τ r))) ∨
      (b = true ∧ v = .bool false ∧ Kp (fun k => k = lp ∨ k = g8) w w' ∧ w'.heap[lp]? = some (.loop { mkRec #[16] (rfA (bodyC Try.f32 [1, 0, 1, 0])) (rfB (bodyC Try.f32 [1, 0, 1, 0])) φ τ r with state := .done, pending := some .ret }) ∧ w'.heap[g8]? = some (cb [.int .i64 q.1, .int .i64 q.2] 24)) := by
  refine round_enter (fn := Try.f32) (ps := [16]) (σ := [(7, .pointer (some ⟨g7, 0, none⟩)), (8, .pointer (some ⟨g8, 0, none⟩))]) hl rfl rfl hτ hσ rfl ?_
  cases b with
  | false =>
    have hlw : Lw w (fun k => k = lp) w (fun k => k = lp) [(lp, .loop (mkRec #[16] (rfA (bodyC Try.f32 [1, 0, 1, 0])) (rfB (bodyC Try.f32 [1, 0, 1, 0])) φ τ r))] w := (Lw.init w _ _).own hl (by simp) rfl rfl
    refine l_close hlw ?_
    show WLG Try.prog Try.f32 [.code (rfA (bodyC Try.f32 [1, 0, 1, 0])), .beginRound, .code (rfB (bodyC Try.f32 [1, 0, 1, 0]))] _ _ _ _ _ _ _
    repeat(first|refine lrun_ ?_|(refine lo_boxA rfl rfl ?_;intro _ _ _)|(refine lo_box1 rfl rfl rfl ?_;intro _ _ _)|(refine lo_alloc rfl ?_;intro _ _ _))
    refine l_beginRound rfl (by(repeat(first|exact MIn.hd|refine MIn.tl ?_));done) rfl (by first|exact .hd|exact .tl .hd|exact .tl (.tl .hd)|exact .tl (.tl (.tl .hd))|exact .tl (.tl (.tl (.tl .hd)))|exact .tl (.tl (.tl (.tl (.tl .hd))))|exact .tl (.tl (.tl (.tl (.tl (.tl .hd)))))|exact .tl (.tl (.tl (.tl (.tl (.tl (.tl .hd))))))|exact .tl (.tl (.tl (.tl (.tl (.tl (.tl (.tl .hd)))))))) ?_
    repeat(first|refine lrun_ ?_|(refine lo_boxA rfl rfl ?_;intro _ _ _)|(refine lo_box1 rfl rfl rfl ?_;intro _ _ _)|(refine lo_alloc rfl ?_;intro _ _ _))
    refine lo_call (n_callV rfl rfl) rfl (fun w hw => hcall w (hw.org.mono fun _ _ h => .inl h)) ?_
    repeat(first|refine lrun_ ?_|(refine lo_boxA rfl rfl ?_;intro _ _ _)|(refine lo_box1 rfl rfl rfl ?_;intro _ _ _)|(refine lo_alloc rfl ?_;intro _ _ _))
    refine l_false rfl ?_
    repeat(first|refine lrun_ ?_|(refine lo_boxA rfl rfl ?_;intro _ _ _)|(refine lo_box1 rfl rfl rfl ?_;intro _ _ _)|(refine lo_alloc rfl ?_;intro _ _ _))
    exact l_endRound (by(repeat(first|exact MIn.hd|refine MIn.tl ?_));done) (by first|exact .hd|exact .tl .hd|exact .tl (.tl .hd)|exact .tl (.tl (.tl .hd))|exact .tl (.tl (.tl (.tl .hd)))|exact .tl (.tl (.tl (.tl (.tl .hd))))|exact .tl (.tl (.tl (.tl (.tl (.tl .hd)))))|exact .tl (.tl (.tl (.tl (.tl (.tl (.tl .hd))))))|exact .tl (.tl (.tl (.tl (.tl (.tl (.tl (.tl .hd)))))))) fun w hw => .inl ⟨rfl, rfl, hw.org, hw.mem _ _ (by(repeat(first|exact MIn.hd|refine MIn.tl ?_));done)⟩
  | true =>
    have hlw : Lw w (fun k => k = lp ∨ k = g8) w (fun k => k = lp ∨ k = g8) [(g8, cb [.int .i64 0, .int .i64 0] 24), (lp, .loop (mkRec #[16] (rfA (bodyC Try.f32 [1, 0, 1, 0])) (rfB (bodyC Try.f32 [1, 0, 1, 0])) φ τ r))] w := ((Lw.init w _ _).own hl (by simp) (.inl rfl) (.inl rfl)).own h8 (by simpa using n8) (.inr rfl) (.inr rfl)
    have n7' : ¬ (g7 = lp ∨ g7 = g8) := by omega
    refine l_close hlw ?_
    show WLG Try.prog Try.f32 [.code (rfA (bodyC Try.f32 [1, 0, 1, 0])), .beginRound, .code (rfB (bodyC Try.f32 [1, 0, 1, 0]))] _ _ _ _ _ _ _
    repeat(first|refine lrun_ ?_|(refine lo_boxA rfl rfl ?_;intro _ _ _)|(refine lo_box1 rfl rfl rfl ?_;intro _ _ _)|(refine lo_alloc rfl ?_;intro _ _ _))
    refine l_beginRound rfl (by(repeat(first|exact MIn.hd|refine MIn.tl ?_));done) rfl (by first|exact .hd|exact .tl .hd|exact .tl (.tl .hd)|exact .tl (.tl (.tl .hd))|exact .tl (.tl (.tl (.tl .hd)))|exact .tl (.tl (.tl (.tl (.tl .hd))))|exact .tl (.tl (.tl (.tl (.tl (.tl .hd)))))|exact .tl (.tl (.tl (.tl (.tl (.tl (.tl .hd))))))|exact .tl (.tl (.tl (.tl (.tl (.tl (.tl (.tl .hd)))))))) ?_
    repeat(first|refine lrun_ ?_|(refine lo_boxA rfl rfl ?_;intro _ _ _)|(refine lo_box1 rfl rfl rfl ?_;intro _ _ _)|(refine lo_alloc rfl ?_;intro _ _ _))
    refine lo_call (n_callV rfl rfl) rfl (fun w hw => hcall w hw.org) ?_
    repeat(first|refine lrun_ ?_|(refine lo_boxA rfl rfl ?_;intro _ _ _)|(refine lo_box1 rfl rfl rfl ?_;intro _ _ _)|(refine lo_alloc rfl ?_;intro _ _ _))
    refine l_true rfl ?_
    repeat(first|refine lrun_ ?_|(refine lo_boxA rfl rfl ?_;intro _ _ _)|(refine lo_box1 rfl rfl rfl ?_;intro _ _ _)|(refine lo_alloc rfl ?_;intro _ _ _))
    exact l_retRound (by(repeat(first|exact MIn.hd|refine MIn.tl ?_));done) (by first|exact .hd|exact .tl .hd|exact .tl (.tl .hd)|exact .tl (.tl (.tl .hd))|exact .tl (.tl (.tl (.tl .hd)))|exact .tl (.tl (.tl (.tl (.tl .hd))))|exact .tl (.tl (.tl (.tl (.tl (.tl .hd)))))|exact .tl (.tl (.tl (.tl (.tl (.tl (.tl .hd))))))|exact .tl (.tl (.tl (.tl (.tl (.tl (.tl (.tl .hd)))))))) fun w hw => .inr ⟨rfl, rfl, hw.org, hw.mem _ _ (by(repeat(first|exact MIn.hd|refine MIn.tl ?_));done), hw.mem _ _ (by(repeat(first|exact MIn.hd|refine MIn.tl ?_));done)⟩
set_option maxHeartbeats 8000000 in
theorem seek_calls {f : FuncId} [hFn : FnT Try.prog f] {cap : List Value} {pred : Ps → Bool} (hs0 : l.length + runesM l ≤ 4000) (h : Sl kRow F w v l) (hp : P64 p) (hby : by_ = 1 ∨ by_ = -1)
    (hcall : ∀ q w', Kn w w' → At l q → CallsR Try.prog f (posV q :: cap).toArray w' fun u w'' => Kn w' w'' ∧ u = .bool (pred q)) :
    CallsR Try.prog 32 #[v, posV p, .int .i64 by_, .func (.func f) #[] cap.toArray] w fun u w' => Kn w w' ∧ ∃ q, u = posV q ∧ SeekM pred l by_ p q := by
  have h := h.old
  obtain ⟨A, c, ad, rV, rc, ra, rfl, hR⟩ := h.rws
  refine l_enter (fun _ => False) Try.func32 rfl rfl ?_
  repeat(first|refine lrun_ ?_|(refine lo_boxA rfl rfl ?_;intro _ _ _)|(refine lo_box1 rfl rfl rfl ?_;intro _ _ _)|(refine lo_alloc rfl ?_;intro _ _ _))
  rename_i g5 h5 _ g7 h7 _ g8 h8 _
  refine lo_call (n_call rfl) rfl (fun w hw => clipP_calls (Kn.sl hw.org h) hp) ?_
  repeat(first|refine lrun_ ?_|(refine lo_boxA rfl rfl ?_;intro _ _ _)|(refine lo_box1 rfl rfl rfl ?_;intro _ _ _)|(refine lo_alloc rfl ?_;intro _ _ _))
  refine lo_callB (n_call rfl) rfl (fun w hw => placesF_calls) ?_
  rintro wa _ wb K hwa kab kwb ⟨g1, g2, g3, rfl, b1, b2, b3, e1, e2, e3, n12, n32⟩ hK
  have nw : ∀ g, MK [(g8, Obj.cells (Value.cells (Value.agg #[Value.int IntKind.i64 0, Value.int IntKind.i64 0])) 24 (0, 0)), (g7, cb [.func (.func f) #[] cap.toArray] 44), (g5, cb [.int .i64 p.1, .int .i64 p.2] 24)] g → g < wa.heap.size := fun g hg => hwa.lt hg
  have l8 := nw g8 ⟨_, .hd⟩
  have l7 := nw g7 ⟨_, .tl .hd⟩
  have hnd := hwa.nd
  clear nw
  refine lo_nil ?_
  repeat(first|refine lrun_ ?_|(refine lo_boxA rfl rfl ?_;intro _ _ _)|(refine lo_box1 rfl rfl rfl ?_;intro _ _ _)|(refine lo_alloc rfl ?_;intro _ _ _))
  unfold WLG
  intro wc hwc
  have kbc := hwc.kp
  have c1 := kbc.blk b1 (fun h => by have := hK _ h; omega)
  have c2 := kbc.blk b2 (fun h => by have := hK _ h; omega)
  have c3 := kbc.blk b3 (fun h => by have := hK _ h; omega)
  have c8 := hwc.mem _ _ (.hd)
  have c7 := hwc.mem _ _ (.tl .hd)
  have kwc : Kn w wc := hwc.org
  have O1 := hwa.org.size
  clear b1 b2 b3 kbc kwb kab hwa hwc hK
  refine k_range rfl rfl ?_
  intro φ τ r lp w1 w2 hτ hσ nr nl
  have x1 := blk_lt c1
  have x2 := blk_lt c2
  have x3 := blk_lt c3
  have x7 := blk_lt c7
  have x8 := blk_lt c8
  have y1 := nr.ge
  have y2 := nl.ge
  have y3 := nr.lt
  have kc2 : Kn wc w2 := nr.kn.trans nl.kn
  have kw2 : Kn w w2 := kwc.trans kc2
  have d1 := kc2.blk c1 id
  have d2 := kc2.blk c2 id
  have d3 := kc2.blk c3 id
  have d7 := kc2.blk c7 id
  have d8 : w2.heap[g8]? = some (cb [.int .i64 0, .int .i64 0] 24) := kc2.blk c8 id
  have dr := nl.kn.blk nr.at_ id
  have dl : w2.heap[lp]? = some (.loop (mkRec #[16] (rfA (bodyC Try.f32 [1, 0, 1, 0])) (rfB (bodyC Try.f32 [1, 0, 1, 0])) φ τ r)) := nl.at_
  clear nr nl c1 c2 c3 c7 c8
  have hσ0 : ∀ t v, Sig.get [(7, .pointer (some ⟨g7, 0, none⟩)), (8, .pointer (some ⟨g8, 0, none⟩))] t = some v → τ[t]? = some v := fun t v hv => hσ t v (Sub.mk (by repeat (first | exact SubB.nil | refine SubB.cons rfl ?_)) t v hv)
  have hfin : ∀ w3 (rec : Loop), Kp (fun k => k = g2 ∨ k = lp ∨ k = g8) w2 w3 → w3.heap[lp]? = some (.loop rec) → rec.state ≠ .busy → (∀ w4, Wr w3 w4 lp (.loop { rec with state := .exhausted }) → Lw w (fun _ => False) w (fun _ => False) [(r, .deferred (some []))] w4) := by
    intro w3 rec k3 hl3 hb3 w4 hw4
    have hr4 := hw4.kp.blk (k3.blk dr (by omega)) (show ¬ r = lp by omega)
    have k4 : Kn w w4 := Kp.then (Kp.then kw2 k3 (fun _ h => h) fun i hi h => by omega) hw4.kp (fun _ h => h) fun i hi h => by omega
    exact (Lw.of_kp k4).more hr4 (by simp) ⟨.inl (by omega), .inl (by omega)⟩
  have n28 : g2 ≠ g8 := by omega
  -- the loop ended by itself
  have tail0 : ∀ r0 : Option Nat, SeekM pred l by_ p (tellM l by_ r0) ∨ (l = [] ∧ r0 = none) → r0 = none → ∀ w3, Kp (fun k => k = g2 ∨ k = lp) w2 w3 → w3.heap[lp]? = some (.loop (mkRec #[16] (rfA (bodyC Try.f32 [1, 0, 1, 0])) (rfB (bodyC Try.f32 [1, 0, 1, 0])) φ τ r)) → ∀ w4, Wr w3 w4 lp (.loop { (mkRec #[16] (rfA (bodyC Try.f32 [1, 0, 1, 0])) (rfB (bodyC Try.f32 [1, 0, 1, 0])) φ τ r) with state := .exhausted }) →
      ∀ σ', SubB σ' [(0, .slice A l.length c), (2, .int .i64 by_), (8, .pointer (some ⟨g8, 0, none⟩))] →
      WG Try.prog Try.f32 [.inBlock 0, .code (bodyC Try.f32 [1, 1])] σ' w4 ((Pt.fn Try.prog Try.f32 [] fun u w' => Kn w w' ∧ ∃ q, u = posV q ∧ SeekM pred l by_ p q).push { target := .collected r, args := #[] }) := by
    rintro r0 hsk rfl w3 k3 hl3 w4 hw4 σ' hs
    refine WK.sub (Sub.mk hs) ?_
    clear hs
    have hlw := hfin w3 _ (k3.mono fun _ _ h => h.elim .inl fun h => .inr (.inl h)) hl3 (by intro h; cases h) w4 hw4
    have e8 : w4.heap[g8]? = some (cb [.int .i64 0, .int .i64 0] 24) := hw4.kp.blk (k3.blk d8 (by omega)) (show ¬ g8 = lp by omega)
    have hlw2 : Lw w (fun _ => False) w (fun _ => False) [(g8, cb [.int .i64 0, .int .i64 0] 24), (r, .deferred (some []))] w4 := hlw.more e8 (by simp; omega) ⟨.inl h8, .inl h8⟩
    have hq : ∃ q, (if 0 < by_ then lastM l else (0, 0)) = q ∧ SeekM pred l by_ p q := by
      refine ⟨_, rfl, ?_⟩
      rcases hsk with h | ⟨h, -⟩
      · exact h
      · refine .inl ⟨h, ?_⟩
        unfold lastM
        rw [if_pos h]
        split <;> rfl
    obtain ⟨q, hq, hsm⟩ := hq
    refine l_close hlw2 ?_
    rcases hby with hb | hb
    · rw [if_pos (by omega)] at hq
      repeat(first|refine lrun_ ?_|(refine lo_boxA rfl rfl ?_;intro _ _ _)|(refine lo_box1 rfl rfl rfl ?_;intro _ _ _)|(refine lo_alloc rfl ?_;intro _ _ _))
      refine l_yes rfl (by omega) ?_
      repeat(first|refine lrun_ ?_|(refine lo_boxA rfl rfl ?_;intro _ _ _)|(refine lo_box1 rfl rfl rfl ?_;intro _ _ _)|(refine lo_alloc rfl ?_;intro _ _ _))
      refine lo_call (n_call rfl) rfl (fun w hw => lastP_calls (Kn.sl hw.org h)) ?_
      rw [hq]
      repeat(first|refine lrun_ ?_|(refine lo_boxA rfl rfl ?_;intro _ _ _)|(refine lo_box1 rfl rfl rfl ?_;intro _ _ _)|(refine lo_alloc rfl ?_;intro _ _ _))
      exact l_retM (rs := [_]) (vs := [_]) rfl (by(repeat(first|exact MIn.hd|refine MIn.tl ?_));done) (by first|exact .hd|exact .tl .hd|exact .tl (.tl .hd)|exact .tl (.tl (.tl .hd))|exact .tl (.tl (.tl (.tl .hd)))|exact .tl (.tl (.tl (.tl (.tl .hd))))|exact .tl (.tl (.tl (.tl (.tl (.tl .hd)))))|exact .tl (.tl (.tl (.tl (.tl (.tl (.tl .hd))))))|exact .tl (.tl (.tl (.tl (.tl (.tl (.tl (.tl .hd)))))))) (by repeat(first|exact LRes.nil|refine LRes.tmp rfl ?_|refine LRes.agg rfl (by(repeat(first|exact MIn.hd|refine MIn.tl ?_));done) (by rfl) (by rfl) ?_|refine LRes.one rfl (by(repeat(first|exact MIn.hd|refine MIn.tl ?_));done) (by rfl) ?_)) fun w hw => ⟨hw.org, q, rfl, hsm⟩
    · rw [if_neg (by omega)] at hq
      subst hq
      repeat(first|refine lrun_ ?_|(refine lo_boxA rfl rfl ?_;intro _ _ _)|(refine lo_box1 rfl rfl rfl ?_;intro _ _ _)|(refine lo_alloc rfl ?_;intro _ _ _))
      refine l_no rfl (by omega) ?_
      repeat(first|refine lrun_ ?_|(refine lo_boxA rfl rfl ?_;intro _ _ _)|(refine lo_box1 rfl rfl rfl ?_;intro _ _ _)|(refine lo_alloc rfl ?_;intro _ _ _))
      exact l_retM (rs := [_]) (vs := [_]) rfl (by(repeat(first|exact MIn.hd|refine MIn.tl ?_));done) (by first|exact .hd|exact .tl .hd|exact .tl (.tl .hd)|exact .tl (.tl (.tl .hd))|exact .tl (.tl (.tl (.tl .hd)))|exact .tl (.tl (.tl (.tl (.tl .hd))))|exact .tl (.tl (.tl (.tl (.tl (.tl .hd)))))|exact .tl (.tl (.tl (.tl (.tl (.tl (.tl .hd))))))|exact .tl (.tl (.tl (.tl (.tl (.tl (.tl (.tl .hd)))))))) (by repeat(first|exact LRes.nil|refine LRes.tmp rfl ?_|refine LRes.agg rfl (by(repeat(first|exact MIn.hd|refine MIn.tl ?_));done) (by rfl) (by rfl) ?_|refine LRes.one rfl (by(repeat(first|exact MIn.hd|refine MIn.tl ?_));done) (by rfl) ?_)) fun w hw => ⟨hw.org, _, rfl, hsm⟩
  by_cases hl0 : l = []
  · subst hl0
    refine (places1_nil (blk_cell d1)).mono ?_
    rintro _ w3 rfl
    refine ⟨_, dl, (by intro h; cases h), fun w4 hw4 => ?_⟩
    exact tail0 none (.inr ⟨rfl, rfl⟩) rfl w3 (Kp.refl _ _) dl w4 hw4 _ (by repeat (first | exact SubB.nil | refine SubB.cons rfl ?_))
  have hat := clip_at (p := p) hl0
  obtain ⟨t0, ht0⟩ := at_get hat
  have hby0 : by_ = 1 ∨ by_ = -1 := hby
  have hS0 : Sl kRow (fun k => k < w.heap.size) w2 (.slice A l.length c) l := Kn.sl kw2 h
  have lo : ∀ {wa wb : World} {S : Nat → Prop}, (∀ k, S k → w.heap.size ≤ k) → Kp S wa wb → Sl kRow (fun k => k < w.heap.size) wa (.slice A l.length c) l → Sl kRow (fun k => k < w.heap.size) wb (.slice A l.length c) l :=
    fun hS hk hsl => Kp.sl hk hsl fun k hk hs => by have := hS k hs; omega
  have kn2 : ∀ {wb : World}, Kp (fun k => k = g2 ∨ k = lp ∨ k = g8) w2 wb → Kn w wb := fun hk => Kp.then kw2 hk (fun _ h => h) fun i hi h => by omega
  refine (places1_calls (F := fun k => k < w.heap.size) (A := A) (c := c) (l := l) (by_ := by_) (t0 := t0) (q0 := clipM l p)
    (fun t q wx => (placesTo l l.length)[t]? = some q ∧ (t = t0 ∨ On by_ t0 t) ∧ (∀ v, On by_ t0 v → On by_ v t ∨ v = t → pred ((placesTo l l.length).getD v (0, 0)) = false) ∧ Kp (fun k => k = g2 ∨ k = lp) w2 wx ∧ wx.heap[lp]? = some (.loop (mkRec #[16] (rfA (bodyC Try.f32 [1, 0, 1, 0])) (rfB (bodyC Try.f32 [1, 0, 1, 0])) φ τ r)) ∧ wx.heap[g2]? = some (cb [.int .i64 q.1, .int .i64 q.2] 24))
    (fun wx => ∃ u q, (placesTo l l.length)[u]? = some q ∧ Sk pred (placesTo l l.length) by_ t0 (some u) ∧ Kp (fun k => k = g2 ∨ k = lp ∨ k = g8) w2 wx ∧ wx.heap[lp]? = some (.loop { (mkRec #[16] (rfA (bodyC Try.f32 [1, 0, 1, 0])) (rfB (bodyC Try.f32 [1, 0, 1, 0])) φ τ r) with state := .done, pending := some .ret }) ∧ wx.heap[g8]? = some (cb [.int .i64 q.1, .int .i64 q.2] 24))
    (fun wx => Sk pred (placesTo l l.length) by_ t0 none ∧ Kp (fun k => k = g2 ∨ k = lp) w2 wx ∧ wx.heap[lp]? = some (.loop (mkRec #[16] (rfA (bodyC Try.f32 [1, 0, 1, 0])) (rfB (bodyC Try.f32 [1, 0, 1, 0])) φ τ r)))
    hs0 hby (fun k hk => by omega) n12 n32 ?_ ?_ ?_ ⟨ht0, .inl rfl, fun v h1 h2 => ?_, Kp.refl _ _, dl, d2⟩).mono ?_
  · rintro t q wx ⟨h1, h2, h3, h4, h5, h6⟩
    exact ⟨h1, ⟨lo (fun k hk => by omega) h4 hS0, blk_cell (h4.blk d1 (by omega)), h6, blk_cell (h4.blk d3 (by omega))⟩⟩
  · rintro t q u q' wx wy ⟨h1, h2, h3, h4, h5, h6⟩ hu hut hk hg
    have hul := (List.getElem?_eq_some_iff.1 hu).1
    have hgd : (placesTo l l.length).getD u (0, 0) = q' := by rw [List.getD_eq_getElem?_getD, hu]; rfl
    have hon : On by_ t u := by unfold On; omega
    have hon0 : On by_ t0 u := by
      rcases h2 with rfl | h2
      · exact hon
      · unfold On at *; omega
    have k2y : Kp (fun k => k = g2 ∨ k = lp) w2 wy := h4.trans (hk.mono fun _ _ h => .inl h)
    have hlpy := hk.blk h5 (by omega)
    refine (seek_round (f := f) (cap := cap) (g7 := g7) (g8 := g8) (q := q') (b := pred q') hτ hσ0 hlpy (k2y.blk d8 (by omega)) (k2y.cell (blk_cell d7) (show ¬ (g7 = g2 ∨ g7 = lp) by omega)) (by simp at hnd; omega) (by omega) (by omega) fun w' hw' => hcall q' w' (kn2 ((k2y.mono fun _ _ h => h.elim .inl fun h => .inr (.inl h)).trans (hw'.mono fun _ _ h => h.elim (fun h => .inr (.inl h)) fun h => .inr (.inr h)))) (get_at hu)).mono ?_
    rintro v wz (⟨hb, hv, hkz, hlz⟩ | ⟨hb, hv, hkz, hlz, h8z⟩)
    · refine .inl ⟨hv, hu, .inr hon0, fun v h7 h8 => ?_, k2y.trans (hkz.mono fun _ _ h => .inr h), hlz, hkz.blk hg (show ¬ g2 = lp by omega)⟩
      rcases h8 with h8 | rfl
      · refine h3 v h7 ?_
        by_cases hvt : v = t
        · exact .inr hvt
        · refine .inl ?_
          unfold On at *; omega
      · rw [hgd]; exact hb
    · refine .inr ⟨hv, u, q', hu, ⟨hul, hon0, by rw [hgd]; exact hb, fun v h7 h8 => ?_⟩, (k2y.mono fun _ _ h => h.elim .inl fun h => .inr (.inl h)).trans (hkz.mono fun _ _ h => h.elim (fun h => .inr (.inl h)) fun h => .inr (.inr h)), hlz, h8z⟩
      refine h3 v h7 ?_
      by_cases hvt : v = t
      · exact .inr hvt
      · refine .inl ?_
        unfold On at *; omega
  · rintro t q wx wy ⟨h1, h2, h3, h4, h5, h6⟩ hout hk
    have htl := (List.getElem?_eq_some_iff.1 h1).1
    refine ⟨fun v hv1 hv2 => h3 v hv2 ?_, h4.trans (hk.mono fun _ _ h => .inl h), hk.blk h5 (by omega)⟩
    by_cases hvt : v = t
    · exact .inr hvt
    · refine .inl ?_
      unfold On at *; omega
  · exfalso
    rcases h2 with h2 | rfl
    · unfold On at *; omega
    · unfold On at h1; omega
  · rintro _ w3 (⟨u, q, hu, hsk, k3, hl3, h83⟩ | ⟨hsk, k3, hl3⟩)
    · refine ⟨_, hl3, (by intro h; cases h), fun w4 hw4 => ?_⟩
      have hlw := hfin w3 _ k3 hl3 (by intro h; cases h) w4 hw4
      have e8 := hw4.kp.blk h83 (show ¬ g8 = lp by omega)
      have hlw2 : Lw w (fun _ => False) w (fun _ => False) [(g8, cb [.int .i64 q.1, .int .i64 q.2] 24), (r, .deferred (some []))] w4 := hlw.more e8 (by simp; omega) ⟨.inl h8, .inl h8⟩
      refine l_close hlw2 ?_
      show WLG Try.prog Try.f32 (.code .ret :: _) _ _ _ _ _ _ _
      exact l_retM (rs := [_]) (vs := [_]) rfl (by(repeat(first|exact MIn.hd|refine MIn.tl ?_));done) (by first|exact .hd|exact .tl .hd|exact .tl (.tl .hd)|exact .tl (.tl (.tl .hd))|exact .tl (.tl (.tl (.tl .hd)))|exact .tl (.tl (.tl (.tl (.tl .hd))))|exact .tl (.tl (.tl (.tl (.tl (.tl .hd)))))|exact .tl (.tl (.tl (.tl (.tl (.tl (.tl .hd))))))|exact .tl (.tl (.tl (.tl (.tl (.tl (.tl (.tl .hd)))))))) (by repeat(first|exact LRes.nil|refine LRes.tmp rfl ?_|refine LRes.agg rfl (by(repeat(first|exact MIn.hd|refine MIn.tl ?_));done) (by rfl) (by rfl) ?_|refine LRes.one rfl (by(repeat(first|exact MIn.hd|refine MIn.tl ?_));done) (by rfl) ?_)) fun w hw => ⟨hw.org, q, rfl, .inr ⟨t0, some u, ht0, hsk, by unfold tellM; simp only [List.getD_eq_getElem?_getD, hu]; rfl⟩⟩
    · refine ⟨_, hl3, (by intro h; cases h), fun w4 hw4 => ?_⟩
      exact tail0 none (.inl (.inr ⟨t0, none, ht0, hsk, rfl⟩)) rfl w3 k3 hl3 w4 hw4 _ (by repeat (first | exact SubB.nil | refine SubB.cons rfl ?_))
end
end Go.Ink
