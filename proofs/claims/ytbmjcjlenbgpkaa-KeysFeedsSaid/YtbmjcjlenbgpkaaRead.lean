/-
  Arguments: what is read before the call, as the engine's kinds; and the row of a law out of a contract of its function.
-/
import Derived.Test.YtbmjcjlenbgpkaaAct2
import Derived.Deep.Slices
import Derived.SizedLaws
import Derived.ProofKit
set_option linter.unusedVariables false
set_option linter.unusedSimpArgs false
namespace Go.Ink
open Go Go.RowKit

def rdOK {H : Type} {α : Type} (enc : TypeId × Value → H) (P : Program) (t : TypeId) (d : Kd α) (W : World) : Prop :=
  ∀ (fuel : Nat) (cs : List Value) (x : DataW H × List MemPlace), DataW.trod enc P W 0 (fun _ => true) true fuel t cs = some x → (x.1.weights P t).all (fun n => decide (n ≤ reachBytes)) = true → ∃ a, d.R (fun _ => True) W a cs
class RdT (P : Program) (t : TypeId) {α : outParam Type} (d : outParam (Kd α)) : Prop where
  rd : ∀ {H : Type} (enc : TypeId × Value → H) (W : World), rdOK enc P t d W
  sz : P.cellsOf t = d.sz
  by_ : P.bytesOf t = d.bytes
theorem wf_i32 {n : Int} (h : (Lit.int .i32 n).wf = true) : -2147483648 ≤ n ∧ n ≤ 2147483647 := by
  have e1 : IntKind.i32.min = -2147483648 := by decide
  have e2 : IntKind.i32.max = 2147483647 := by decide
  simp [Lit.wf] at h; omega
theorem wf_i64 {n : Int} (h : (Lit.int .i64 n).wf = true) : -9223372036854775808 ≤ n ∧ n ≤ 9223372036854775807 := by
  have e1 : IntKind.i64.min = -9223372036854775808 := by decide
  have e2 : IntKind.i64.max = 9223372036854775807 := by decide
  simp [Lit.wf] at h; omega
theorem cells_of_el {P : Program} {t : TypeId} {sz bytes : Nat} {z : Value} (h : ElT P t sz bytes z) : P.cellsOf t = sz ∧ P.bytesOf t = bytes := by
  obtain ⟨i, h1, h2, h3, h4⟩ := h.parts
  simp [Program.cellsOf, Program.bytesOf, h1, h3, h4]
instance {P : Program} {t : TypeId} {z : Value} [hI : IntT P t .i32] [hE : ElT P t 1 4 z] : RdT P t kRune where
  rd := by
    intro H enc W fuel cs x h _
    obtain ⟨n, rfl, rfl, hw⟩ := DataW.trod_int hI.und h
    exact ⟨n, rfl, (wf_i32 hw).1, (wf_i32 hw).2⟩
  sz := (cells_of_el hE).1
  by_ := (cells_of_el hE).2
instance {P : Program} {t : TypeId} {z : Value} [hI : IntT P t .i64] [hE : ElT P t 1 8 z] : RdT P t kI64 where
  rd := by
    intro H enc W fuel cs x h _
    obtain ⟨n, rfl, rfl, hw⟩ := DataW.trod_int hI.und h
    exact ⟨n, rfl, (wf_i64 hw).1, (wf_i64 hw).2⟩
  sz := (cells_of_el hE).1
  by_ := (cells_of_el hE).2
instance {P : Program} {t : TypeId} {z : Value} [hI : BoolT P t] [hE : ElT P t 1 1 z] : RdT P t kBool where
  rd := by
    intro H enc W fuel cs x h _
    obtain ⟨b, rfl, rfl⟩ := DataW.trod_bool hI.und h
    exact ⟨b, rfl⟩
  sz := (cells_of_el hE).1
  by_ := (cells_of_el hE).2
instance {P : Program} {t : TypeId} {z : Value} [hI : StrT P t] [hE : ElT P t 1 16 z] : RdT P t kStr where
  rd := by
    intro H enc W fuel cs x h hw
    obtain ⟨s, rfl, rfl, hm⟩ := DataW.trod_string hI.und h
    refine ⟨s, rfl, ?_⟩
    have e : s.size = s.data.size := rfl
    rw [e]
    have e2 : reachBytes = 140737488351232 := by decide
    have h2 : s.data.size ≤ reachBytes := by simpa [DataW.weights] using hw
    omega
  sz := (cells_of_el hE).1
  by_ := (cells_of_el hE).2
theorem cells_some {w : World} {a : Addr} {n : Nat} {cs : List Value} (h : w.cells? 0 a n = some cs) : cs.length = n ∧ ∀ i u, cs[i]? = some u → w.cell? (a.add i) = some u := by
  obtain ⟨_, h1, h2⟩ := World.cells?_some h
  refine ⟨h1, fun i u hu => ?_⟩
  have hi : i < cs.length := by
    rcases Nat.lt_or_ge i cs.length with h | h
    · exact h
    · simp [List.getElem?_eq_none h] at hu
  rw [h2 i (by omega)]
  exact hu
theorem choose_lt' {β : Type} [Inhabited β] {p : Nat → β → Prop} {n : Nat} (h : ∀ i, i < n → ∃ v, p i v) : ∃ V : Nat → β, ∀ i, i < n → p i (V i) := by
  classical
  exact ⟨fun i => if hi : i < n then (h i hi).choose else default, fun i hi => by simp only [hi, dif_pos]; exact (h i hi).choose_spec⟩
theorem weightsAll_mem {H : Type} {P : Program} {e : TypeId} : ∀ {l : List (DataW H)} {q : Nat → Bool}, (DataW.weightsAll P e l).all q = true → ∀ d ∈ l, (d.weights P e).all q = true
  | [], _, _, d, hd => by cases hd
  | y :: l, q, h, d, hd => by
    simp only [DataW.weightsAll, List.all_append, Bool.and_eq_true] at h
    cases hd with
    | head => exact h.1
    | tail _ hd => exact weightsAll_mem h.2 d hd
/-- Elements, read one by one. -/
theorem els_of {α : Type} {d : Kd α} {F : Nat → Prop} {W : World} : ∀ (n : Nat) (f : Nat → List Value), (∀ i, i < n → ∃ a, d.R F W a (f i)) → ∃ xs, xs.length = n ∧ Els d F W xs ((List.range n).flatMap f)
  | 0, f, _ => ⟨[], rfl, by simp [Els]⟩
  | n + 1, f, h => by
    obtain ⟨xs, hl, hE⟩ := els_of n f fun i hi => h i (by omega)
    obtain ⟨a, ha⟩ := h n (by omega)
    refine ⟨xs ++ [a], by simp [hl], ?_⟩
    rw [List.range_succ, List.flatMap_append]
    simpa using hE.snoc ha
theorem flat_get {f : Nat → List Value} {sz : Nat} (hsz : 0 < sz) : ∀ (n : Nat), (∀ i, i < n → (f i).length = sz) → ∀ j u, ((List.range n).flatMap f)[j]? = some u → j / sz < n ∧ (f (j / sz))[j % sz]? = some u
  | 0, _, j, u, hu => by simp at hu
  | n + 1, hl, j, u, hu => by
    have hlen : ∀ m, m ≤ n → ((List.range m).flatMap f).length = m * sz := by
      intro m
      induction m with
      | zero => intro _; simp
      | succ m ih => intro hm; rw [List.range_succ, List.flatMap_append, List.length_append, ih (by omega)]; simp [hl m (by omega), Nat.add_mul]
    rw [List.range_succ, List.flatMap_append] at hu
    simp only [List.flatMap_cons, List.flatMap_nil, List.append_nil] at hu
    by_cases hj : j < n * sz
    · rw [List.getElem?_append_left (by rw [hlen n (Nat.le_refl _)]; exact hj)] at hu
      obtain ⟨h1, h2⟩ := flat_get hsz n (fun i hi => hl i (by omega)) j u hu
      exact ⟨by omega, h2⟩
    · rw [List.getElem?_append_right (by rw [hlen n (Nat.le_refl _)]; omega), hlen n (Nat.le_refl _)] at hu
      have hlt : j - n * sz < (f n).length := by
        rcases Nat.lt_or_ge (j - n * sz) (f n).length with h | h
        · exact h
        · simp [List.getElem?_eq_none h] at hu
      rw [hl n (by omega)] at hlt
      have hdiv : j / sz = n := by
        rw [Nat.div_eq_of_lt_le]
        · rw [Nat.mul_comm]; rw [Nat.mul_comm] at hj; omega
        · rw [Nat.add_mul]; omega
      have hmod : j % sz = j - n * sz := by
        have := Nat.div_add_mod j sz
        rw [hdiv, Nat.mul_comm] at this
        omega
      rw [hdiv, hmod]
      exact ⟨by omega, hu⟩
instance {P : Program} {t e : TypeId} {z : Value} {α : Type} {d : Kd α} [hT : SlT P t e] [hS : ElT P t 1 24 z] [hR : RdT P e d] : RdT P t (kSl d) where
  rd := by
    intro H enc W fuel cs x h hw
    rcases Deep.open_slice hT.und h with ⟨rfl, rfl⟩ | ⟨a, len, cap, m, n, D, Pl, rfl, _, hl, hm, hmm, rfl, hx⟩
    · exact ⟨[], _, rfl, Sl.nil _ _ _⟩
    · simp only [if_true] at hmm
      subst hmm
      simp only [DataW.weights, hT.und, List.all_cons, List.all_append, Bool.and_eq_true, decide_eq_true_eq, List.length_map, List.length_range] at hw
      obtain ⟨hw0, hw1, _⟩ := hw
      have e2 : reachBytes = 140737488351232 := by decide
      obtain ⟨f, hf⟩ := choose_lt' (β := List Value) (p := fun i cs' => W.cells? 0 (a.add (i * P.cellsOf e)) (P.cellsOf e) = some cs' ∧ DataW.trod enc P W 0 (fun _ => true) true n e cs' = some (D i, Pl i)) hx
      have hel : ∀ i, i < len → ∃ q, d.R (fun _ => True) W q (f i) := fun i hi => by
        obtain ⟨h1, h2⟩ := hf i (by omega)
        exact hR.rd enc W n (f i) _ h2 (weightsAll_mem hw1 (D i) (List.mem_map.2 ⟨i, by simpa using hi, rfl⟩))
      obtain ⟨xs, hxl, hE⟩ := els_of len f hel
      have hfl : ∀ i, i < len → (f i).length = d.sz := fun i hi => by
        obtain ⟨q, hq⟩ := hel i hi
        exact d.len hq
      have hfit : Fits d xs.length := by
        unfold Fits
        rw [hxl, ← hR.by_]
        exact Nat.le_trans (Nat.mul_le_mul_right _ (by omega : len ≤ len + (m - len))) (by omega)
      refine ⟨xs, _, rfl, some a, m, _, by rw [hxl], by omega, hm, hfit, hE, .inr ⟨a, rfl, trivial, fun j u hu => ?_⟩⟩
      obtain ⟨h1, h2⟩ := flat_get d.pos len hfl j u hu
      obtain ⟨h3, _⟩ := hf (j / d.sz) (by omega)
      have h4 := (cells_some h3).2 _ _ h2
      rw [add_add, hR.sz] at h4
      rw [show j / d.sz * d.sz + j % d.sz = j from by rw [Nat.mul_comm]; exact Nat.div_add_mod j d.sz] at h4
      exact h4
  sz := (cells_of_el hS).1
  by_ := (cells_of_el hS).2

/-! ### Structs: their fields one behind the other -/
/-- Fields of these types, one behind the other, read as a d. -/
def rdFs {H : Type} {α : Type} (enc : TypeId × Value → H) (P : Program) (ts : List TypeId) (d : Kd α) (W : World) : Prop :=
  ∀ (fuel : Nat) (cs : List Value) (xs : List (DataW H × List MemPlace)), cs.length = (ts.map P.cellsOf).sum → xs.length = ts.length →
    (∀ i t, ts[i]? = some t → DataW.trod enc P W 0 (fun _ => true) true fuel t ((cs.drop ((ts.take i).map P.cellsOf).sum).take (P.cellsOf t)) = xs[i]?) →
    (DataW.weightsEach P ts (xs.map (·.1))).all (fun n => decide (n ≤ reachBytes)) = true → ∃ a, d.R (fun _ => True) W a cs
class RdF (P : Program) (ts : List TypeId) {α : outParam Type} (d : outParam (Kd α)) : Prop where
  rd : ∀ {H : Type} (enc : TypeId × Value → H) (W : World), rdFs enc P ts d W
instance {P : Program} {t : TypeId} {α : Type} {d : Kd α} [hR : RdT P t d] : RdF P [t] d where
  rd := by
    intro H enc W fuel cs xs hl hxl hx hw
    obtain ⟨x, rfl⟩ : ∃ x, xs = [x] := by
      match xs, hxl with
      | [x], _ => exact ⟨x, rfl⟩
    have h0 := hx 0 t rfl
    simp at h0 hl
    rw [List.take_of_length_le (by omega)] at h0
    simp only [List.map_cons, List.map_nil, DataW.weightsEach, List.append_nil] at hw
    exact hR.rd enc W fuel cs x h0 hw
instance {P : Program} {t t' : TypeId} {ts : List TypeId} {α β : Type} {d : Kd α} {e : Kd β} [hR : RdT P t d] [hF : RdF P (t' :: ts) e] : RdF P (t :: t' :: ts) (kPair d e) where
  rd := by
    intro H enc W fuel cs xs hl hxl hx hw
    obtain ⟨x, xs, rfl⟩ : ∃ x r, xs = x :: r := by
      match xs, hxl with
      | x :: r, _ => exact ⟨x, r, rfl⟩
    have h0 := hx 0 t rfl
    simp at h0
    rw [List.map_cons, DataW.weightsEach, List.all_append, Bool.and_eq_true] at hw
    obtain ⟨a, ha⟩ := hR.rd enc W fuel _ x h0 hw.1
    rw [List.map_cons, List.sum_cons] at hl
    obtain ⟨b, hb⟩ := hF.rd enc W fuel (cs.drop (P.cellsOf t)) xs (by rw [List.length_drop]; omega) (by simpa using hxl) (fun i u hu => by
      have := hx (i + 1) u (by simpa using hu)
      simp only [List.take_succ_cons, List.map_cons, List.sum_cons, List.getElem?_cons_succ] at this
      rw [List.drop_drop]
      exact this) hw.2
    exact ⟨(a, b), _, _, (List.take_append_drop _ _).symm, ha, hb⟩
/-- A struct type whose fields have these types, nothing between them. -/
class StrucT (P : Program) (t : TypeId) (ts : outParam (List TypeId)) : Prop where
  und : (match P.underlying t with | some (.struct fs) => some (fs.toList.map fun f => (f.type, f.offset)) | _ => none) = some (ts.zipIdx.map fun p => (p.1, ((ts.take p.2).map P.cellsOf).sum))
  len : P.cellsOf t = (ts.map P.cellsOf).sum
theorem rd_struct {P : Program} {t : TypeId} {ts : List TypeId} {α β : Type} {d : Kd α} {f : β → α} {g : α → β} {b : Nat} {hb : 0 < b} (hT : StrucT P t ts) (hF : RdF P ts d) (hg : ∀ a, f (g a) = a) (h1 : P.cellsOf t = d.sz) (h2 : P.bytesOf t = b) : RdT P t (kIso d f b hb) where
  rd := by
    intro H enc W fuel cs x h hw
    have hu := hT.und
    split at hu
    case h_2 => cases hu
    rename_i fs hfs
    simp only [Option.some.injEq] at hu
    obtain ⟨xs, n, rfl, rfl, hl, hxl, hx⟩ := DataW.trod_struct hfs h
    have hts : ∀ i u, ts[i]? = some u → ∃ fl, fs[i]? = some fl ∧ fl.type = u ∧ fl.offset = ((ts.take i).map P.cellsOf).sum := by
      intro i u hi
      have h3 : (fs.toList.map fun f => (f.type, f.offset))[i]? = (ts.zipIdx.map fun p => (p.1, ((ts.take p.2).map P.cellsOf).sum))[i]? := by rw [hu]
      rw [List.getElem?_map, List.getElem?_map, List.getElem?_zipIdx, hi] at h3
      simp only [Option.map_some, Nat.zero_add] at h3
      obtain ⟨fl, hfl, he⟩ := Option.map_eq_some_iff.1 h3
      simp only [Prod.mk.injEq] at he
      exact ⟨fl, by simpa using hfl, he.1, he.2⟩
    have hlen : fs.size = ts.length := by
      have := congrArg List.length hu
      simpa using this
    have hmap : fs.toList.map (·.type) = ts := by
      have := congrArg (List.map Prod.fst) hu
      simp only [List.map_map] at this
      have e1 : (Prod.fst ∘ fun f : Field => (f.type, f.offset)) = (·.type) := rfl
      rw [e1] at this
      rw [this]
      refine List.ext_getElem? fun i => ?_
      simp only [List.getElem?_map, List.getElem?_zipIdx]
      cases ts[i]? <;> simp
    simp only [DataW.weights, hfs, hmap] at hw
    obtain ⟨a, ha⟩ := hF.rd enc W n cs xs (by rw [hl, hT.len]) (by omega) (fun i u hi => by
      obtain ⟨fl, h3, h4, h5⟩ := hts i u hi
      have := hx i fl h3
      rw [h4, h5] at this
      exact this) hw
    exact ⟨g a, by show d.R _ W (f (g a)) cs; rw [hg]; exact ha⟩
  sz := h1
  by_ := h2
end Go.Ink
