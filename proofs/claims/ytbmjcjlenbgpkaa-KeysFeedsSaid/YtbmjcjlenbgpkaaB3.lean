/-
  What runes mean: slices.IndexFunc, ContainsFunc over maps; the closures of find and Push.
-/
import Derived.Test.YtbmjcjlenbgpkaaB2
set_option linter.unusedVariables false
set_option linter.unusedSimpArgs false
namespace Go.Ink
open Go Go.Proofs Go.RowKit

abbrev Mg := List Int × List Int
def kMg : Kd Mg := kPair (kSl kRune) (kSl kRune)
theorem mg_cells {F : Nat → Prop} {w : World} {m : Mg} {cs : List Value} (h : kMg.R F w m cs) : ∃ v1 v2, cs = [v1, v2] ∧ Sl kRune F w v1 m.1 ∧ Sl kRune F w v2 m.2 := by
  obtain ⟨_, _, rfl, ⟨v1, rfl, h1⟩, ⟨v2, rfl, h2⟩⟩ := h
  exact ⟨v1, v2, rfl, h1, h2⟩
theorem mg_R {F : Nat → Prop} {w : World} {m : Mg} {v1 v2 : Value} (h1 : Sl kRune F w v1 m.1) (h2 : Sl kRune F w v2 m.2) : kMg.R F w m [v1, v2] := ⟨[v1], [v2], rfl, ⟨v1, rfl, h1⟩, ⟨v2, rfl, h2⟩⟩
instance : AggT Try.prog 63 2 := ⟨fun _ => by kernel_rfl, fun _ => by kernel_rfl⟩
def idxW (o : Option Nat) : Value := match o with | some i => .int .i64 (i : Int) | none => .int .i64 (-1)
theorem idx_someM {α : Type} {x : List α} {P : α → Bool} {m : Nat} (hm : m < x.length) (h1 : P x[m] = true) (h2 : ∀ j (hj : j < m), P (x[j]'(by omega)) = false) : x.findIdx? P = some m := by
  rw [List.findIdx?_eq_some_iff_getElem]
  exact ⟨hm, h1, fun j hj => by rw [h2 j hj]; decide⟩
theorem idx_noneM {α : Type} {x : List α} {P : α → Bool} (h : ∀ j (hj : j < x.length), P x[j] = false) : x.findIdx? P = none := by
  rw [List.findIdx?_eq_none_iff]
  intro r hr
  obtain ⟨j, hj, rfl⟩ := List.getElem_of_mem hr
  exact h j hj
section
variable {F : Nat → Prop} {w : World} {v : Value} {ms : List Mg} {f : FuncId} {cap : List Value} {P : Mg → Bool}
set_option maxHeartbeats 4000000 in
theorem indexM_calls [hfn : FnT Try.prog f] (h : Sl kMg F w v ms)
    (hp : ∀ w', Kn w w' → ∀ (m : Mg) (v1 v2 : Value), Sl kRune F w' v1 m.1 → Sl kRune F w' v2 m.2 → CallsR Try.prog f ([Value.agg #[v1, v2]] ++ cap).toArray w' fun u w'' => Kn w' w'' ∧ u = .bool (P m)) :
    CallsR Try.prog 29 #[v, .func (.func f) #[] cap.toArray] w fun u w' => Kn w w' ∧ u = idxW (ms.findIdx? P) := by
  obtain ⟨A, c, rfl, hc, hf⟩ := h.form
  have hl := hf.len
  refine l_enter (args := [.slice A ms.length c, .func (.func f) #[] cap.toArray]) (fun _ => False) Try.func29 rfl rfl ?_
  repeat(first|refine lrun_ ?_|(refine lo_boxA rfl rfl ?_;intro _ _ _)|(refine lo_box1 rfl rfl rfl ?_;intro _ _ _)|(refine lo_alloc rfl ?_;intro _ _ _))
  refine l_while (fun i => ms.length - i) (fun i : Nat => [(0, .slice A ms.length c), (1, .func (.func f) #[] cap.toArray), (7, .int .i64 ms.length), (8, .int .i64 i)]) (fun _ => []) (fun i => i ≤ ms.length ∧ ∀ j (hj : j < i) (hl : j < ms.length), P ms[j] = false) 0 (by repeat (first | exact SubB.nil | refine SubB.cons rfl ?_)) (by repeat(first|exact MSub.refl|refine MSub.keep rfl ?_|exact MSub.nil|apply MSub.drop)) ⟨Nat.zero_le _, fun j hj => by omega⟩ ?_
  rintro i ⟨hi, hno⟩ ih
  by_cases hlt : i < ms.length
  · obtain ⟨ad, cs, rfl, hr, hcell⟩ := h.at_ (List.getElem?_eq_getElem hlt)
    obtain ⟨v1, v2, rfl, h1, h2⟩ := mg_cells hr
    repeat(first|refine lrun_ ?_|(refine lo_boxA rfl rfl ?_;intro _ _ _)|(refine lo_box1 rfl rfl rfl ?_;intro _ _ _)|(refine lo_alloc rfl ?_;intro _ _ _))
    refine l_yes rfl (by omega) ?_
    repeat(first|refine lrun_ ?_|(refine lo_boxA rfl rfl ?_;intro _ _ _)|(refine lo_box1 rfl rfl rfl ?_;intro _ _ _)|(refine lo_alloc rfl ?_;intro _ _ _))
    refine lo_index rfl rfl rfl hlt rfl rfl ?_
    refine lo_loadAO (cs := [v1, v2]) rfl rfl (fun j u hu => by rw [add_add]; exact hcell j u hu) id rfl ?_
    refine lo_call (n_callV rfl rfl) rfl (fun w' hw => hp w' hw.org ms[i] v1 v2 (Kn.sl hw.org h1) (Kn.sl hw.org h2)) ?_
    cases hb : P ms[i] with
    | true =>
      repeat(first|refine lrun_ ?_|(refine lo_boxA rfl rfl ?_;intro _ _ _)|(refine lo_box1 rfl rfl rfl ?_;intro _ _ _)|(refine lo_alloc rfl ?_;intro _ _ _))
      refine l_true rfl ?_
      repeat(first|refine lrun_ ?_|(refine lo_boxA rfl rfl ?_;intro _ _ _)|(refine lo_box1 rfl rfl rfl ?_;intro _ _ _)|(refine lo_alloc rfl ?_;intro _ _ _))
      exact l_ret1 rfl rfl fun w hw => ⟨hw.org, by rw [idx_someM hlt hb fun j hj => hno j hj (by omega)]; rfl⟩
    | false =>
      repeat(first|refine lrun_ ?_|(refine lo_boxA rfl rfl ?_;intro _ _ _)|(refine lo_box1 rfl rfl rfl ?_;intro _ _ _)|(refine lo_alloc rfl ?_;intro _ _ _))
      refine l_false rfl ?_
      refine l_go .skip ?_
      repeat(first|refine lrun_ ?_|(refine lo_boxA rfl rfl ?_;intro _ _ _)|(refine lo_box1 rfl rfl rfl ?_;intro _ _ _)|(refine lo_alloc rfl ?_;intro _ _ _))
      exact ih (i + 1) ⟨hlt, fun j hj hl => by
        by_cases e : j = i
        · subst e; exact hb
        · exact hno j (by omega) hl⟩ (by omega) _ _ (by repeat (first | exact SubB.nil | refine SubB.cons rfl ?_)) (by repeat(first|exact MSub.refl|refine MSub.keep rfl ?_|exact MSub.nil|apply MSub.drop))
  · repeat(first|refine lrun_ ?_|(refine lo_boxA rfl rfl ?_;intro _ _ _)|(refine lo_box1 rfl rfl rfl ?_;intro _ _ _)|(refine lo_alloc rfl ?_;intro _ _ _))
    refine l_no rfl (by omega) ?_
    refine l_go (.exit rfl) ?_
    repeat(first|refine lrun_ ?_|(refine lo_boxA rfl rfl ?_;intro _ _ _)|(refine lo_box1 rfl rfl rfl ?_;intro _ _ _)|(refine lo_alloc rfl ?_;intro _ _ _))
    exact l_ret1 rfl rfl fun w hw => ⟨hw.org, by rw [idx_noneM fun j hj => hno j (by omega) hj]; rfl⟩
theorem containsM_calls [hfn : FnT Try.prog f] (h : Sl kMg F w v ms)
    (hp : ∀ w', Kn w w' → ∀ (m : Mg) (v1 v2 : Value), Sl kRune F w' v1 m.1 → Sl kRune F w' v2 m.2 → CallsR Try.prog f ([Value.agg #[v1, v2]] ++ cap).toArray w' fun u w'' => Kn w' w'' ∧ u = .bool (P m)) :
    CallsR Try.prog 26 #[v, .func (.func f) #[] cap.toArray] w fun u w' => Kn w w' ∧ u = .bool (ms.any P) := by
  refine l_enter (args := [v, .func (.func f) #[] cap.toArray]) (fun _ => False) Try.func26 rfl rfl ?_
  repeat(first|refine lrun_ ?_|(refine lo_boxA rfl rfl ?_;intro _ _ _)|(refine lo_box1 rfl rfl rfl ?_;intro _ _ _)|(refine lo_alloc rfl ?_;intro _ _ _))
  refine lo_call (n_call rfl) rfl (fun w' hw => indexM_calls (Kn.sl hw.org h) fun w'' hk => hp w'' (hw.org.trans hk)) ?_
  cases e : ms.findIdx? P with
  | none =>
    have hn : ms.any P = false := by
      rw [List.any_eq_false]
      intro m hm
      rw [List.findIdx?_eq_none_iff] at e
      rw [e m hm]
      decide
    rw [hn]
    unfold idxW
    repeat(first|refine lrun_ ?_|(refine lo_boxA rfl rfl ?_;intro _ _ _)|(refine lo_box1 rfl rfl rfl ?_;intro _ _ _)|(refine lo_alloc rfl ?_;intro _ _ _))
    exact l_ret1 rfl rfl fun w hw => ⟨hw.org, rfl⟩
  | some i =>
    have hn : ms.any P = true := by
      rw [List.findIdx?_eq_some_iff_getElem] at e
      obtain ⟨h1, h2, _⟩ := e
      exact List.any_eq_true.2 ⟨ms[i], List.getElem_mem h1, h2⟩
    rw [hn]
    unfold idxW
    repeat(first|refine lrun_ ?_|(refine lo_boxA rfl rfl ?_;intro _ _ _)|(refine lo_box1 rfl rfl rfl ?_;intro _ _ _)|(refine lo_alloc rfl ?_;intro _ _ _))
    refine l_ret1 rfl rfl fun w hw => ⟨hw.org, ?_⟩
    rw [decide_eq_true (by omega)]
end
section
variable {F G : Nat → Prop} {w : World} {m : Mg} {v1 v2 vw : Value} {x : List Int} {g : Nat} {e : TypeId} {fr : Nat × Nat}
theorem findC_calls (h1 : Sl kRune F w v1 m.1) (hb : w.heap[g]? = some (.cells #[vw] e fr)) (hx : Sl kRune G w vw x) : CallsR Try.prog 48 #[.agg #[v1, v2], .pointer (some ⟨g, 0, none⟩)] w fun u w' => Kn w w' ∧ u = .bool (decide (m.1 = x)) := by
  have c0 : w.cell? ⟨g, 0, none⟩ = some vw := blk_cell hb
  refine l_enter (args := [.agg #[v1, v2], .pointer (some ⟨g, 0, none⟩)]) (fun _ => False) Try.func48 rfl rfl ?_
  repeat(first|refine lrun_ ?_|(refine lo_boxA rfl rfl ?_;intro _ _ _)|(refine lo_box1 rfl rfl rfl ?_;intro _ _ _)|(refine lo_alloc rfl ?_;intro _ _ _))
  refine lo_call (n_call rfl) rfl (fun w' hw => equal_calls (Kn.sl hw.org h1) (Kn.sl hw.org hx)) ?_
  repeat(first|refine lrun_ ?_|(refine lo_boxA rfl rfl ?_;intro _ _ _)|(refine lo_box1 rfl rfl rfl ?_;intro _ _ _)|(refine lo_alloc rfl ?_;intro _ _ _))
  exact l_ret1 rfl rfl fun w hw => ⟨hw.org, rfl⟩
/-- Does a map begin with what waits, and go on? -/
def openM (x : List Int) (m : Mg) : Bool := decide (x.length < m.1.length) && begM m.1 x
theorem push1_calls (h1 : Sl kRune F w v1 m.1) (hb : w.heap[g]? = some (.cells #[vw] e fr)) (hx : Sl kRune G w vw x) : CallsR Try.prog 27 #[.agg #[v1, v2], .pointer (some ⟨g, 0, none⟩)] w fun u w' => Kn w w' ∧ u = .bool (openM x m) := by
  have c0 : w.cell? ⟨g, 0, none⟩ = some vw := blk_cell hb
  obtain ⟨A, c, rfl, _, hf⟩ := h1.form
  obtain ⟨A', c', rfl, _, hf'⟩ := hx.form
  have := hf.len
  have := hf'.len
  unfold openM
  refine l_enter (args := [.agg #[.slice A m.1.length c, v2], .pointer (some ⟨g, 0, none⟩)]) (fun _ => False) Try.func27 rfl rfl ?_
  by_cases hlt : x.length < m.1.length
  · repeat(first|refine lrun_ ?_|(refine lo_boxA rfl rfl ?_;intro _ _ _)|(refine lo_box1 rfl rfl rfl ?_;intro _ _ _)|(refine lo_alloc rfl ?_;intro _ _ _))
    refine lo_call (n_call rfl) rfl (fun w' hw => begins_calls (Kn.sl hw.org h1) (Kn.sl hw.org hx)) ?_
    repeat(first|refine lrun_ ?_|(refine lo_boxA rfl rfl ?_;intro _ _ _)|(refine lo_box1 rfl rfl rfl ?_;intro _ _ _)|(refine lo_alloc rfl ?_;intro _ _ _))
    refine l_ret1 rfl rfl fun w hw => ⟨hw.org, ?_⟩
    rw [decide_eq_true hlt, Bool.true_and]
  · repeat(first|refine lrun_ ?_|(refine lo_boxA rfl rfl ?_;intro _ _ _)|(refine lo_box1 rfl rfl rfl ?_;intro _ _ _)|(refine lo_alloc rfl ?_;intro _ _ _))
    refine l_ret1 rfl rfl fun w hw => ⟨hw.org, ?_⟩
    rw [decide_eq_false hlt, Bool.false_and]
theorem push2_calls (h1 : Sl kRune F w v1 m.1) (hb : w.heap[g]? = some (.cells #[vw] e fr)) (hx : Sl kRune G w vw x) : CallsR Try.prog 30 #[.agg #[v1, v2], .pointer (some ⟨g, 0, none⟩)] w fun u w' => Kn w w' ∧ u = .bool (begM x m.1) := by
  have c0 : w.cell? ⟨g, 0, none⟩ = some vw := blk_cell hb
  refine l_enter (args := [.agg #[v1, v2], .pointer (some ⟨g, 0, none⟩)]) (fun _ => False) Try.func30 rfl rfl ?_
  repeat(first|refine lrun_ ?_|(refine lo_boxA rfl rfl ?_;intro _ _ _)|(refine lo_box1 rfl rfl rfl ?_;intro _ _ _)|(refine lo_alloc rfl ?_;intro _ _ _))
  refine lo_call (n_call rfl) rfl (fun w' hw => begins_calls (Kn.sl hw.org hx) (Kn.sl hw.org h1)) ?_
  repeat(first|refine lrun_ ?_|(refine lo_boxA rfl rfl ?_;intro _ _ _)|(refine lo_box1 rfl rfl rfl ?_;intro _ _ _)|(refine lo_alloc rfl ?_;intro _ _ _))
  exact l_ret1 rfl rfl fun w hw => ⟨hw.org, rfl⟩
end
end Go.Ink
