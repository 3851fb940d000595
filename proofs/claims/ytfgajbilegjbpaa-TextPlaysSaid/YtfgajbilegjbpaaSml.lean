/-
  inkhornref04.Runes, inkhornlaw04.Small.
-/
import Derived.Test.YtfgajbilegjbpaaSeat
import Derived.Test.YtfgajbilegjbpaaLst
import Derived.Test.YtfgajbilegjbpaaApp
set_option linter.unusedVariables false
set_option linter.unusedSimpArgs false
namespace Go.Ink
open Go Go.Proofs

def runesM (l : List (List Int)) : Nat := (l.map List.length).sum
theorem runes04_calls {F : Nat → Prop} {w : World} {v : Value} {ls : List (List Int)} (h : Sl kRow F w v ls) (hl : ls.length ≤ 300) :
    CallsR Try.prog 31 #[v] w fun u w' => w' = w ∧ u = .int .i64 (if (ls.length : Int) - 1 + runesM ls < 0 then 0 else (ls.length : Int) - 1 + runesM ls) := by
  obtain ⟨A, c, rfl, hc, hlf⟩ := h.form
  refine calls_enter Try.func31 rfl rfl ?_
  repeat(refine run_ ?_)
  have hb : ∀ x ∈ ls, x.length ≤ 140737488355328 := fun x hx => by
    obtain ⟨j, hj, rfl⟩ := List.getElem_of_mem hx
    obtain ⟨ad, cs, rfl, ⟨v1, rfl, hr⟩, hcell⟩ := h.at_ (List.getElem?_eq_getElem hj)
    obtain ⟨_, _, _, _, hf⟩ := hr.form
    exact hf.len
  refine k_while (fun k => ls.length - k) (fun k : Nat => [(0, .slice A ls.length c), (3, .int .i64 ((ls.length : Int) - 1 + runesM (ls.take k))), (4, .int .i64 k)])
    (fun k wr => k ≤ ls.length ∧ wr = w) 0 (.cons rfl (.cons (int_eq (by simp [runesM])) (.cons rfl .nil))) ⟨Nat.zero_le _, rfl⟩ ?_
  rintro k _ ⟨hk, rfl⟩ ih
  repeat(refine run_ ?_)
  refine k_ite rfl (fun hlt => ?_) (fun hge => ?_)
  · have hlt' : k < ls.length := by omega
    obtain ⟨ad, cs, rfl, ⟨v1, rfl, hr⟩, hcell⟩ := h.at_ (List.getElem?_eq_getElem hlt')
    obtain ⟨A1, c1, rfl, hc1, hf1⟩ := hr.form
    have hf := hf1.len
    have hs : runesM (ls.take (k + 1)) = runesM (ls.take k) + ls[k].length := by
      unfold runesM
      rw [List.take_succ_eq_append_getElem hlt', List.map_append, List.sum_append]
      simp
    have hle : ∀ (l : List (List Int)), (∀ x ∈ l, x.length ≤ 140737488355328) → runesM l ≤ l.length * 140737488355328 := by
      intro l
      induction l with
      | nil => intro _; simp [runesM]
      | cons x l ih =>
        intro hx
        have h1 := ih fun y hy => hx y (List.mem_cons_of_mem _ hy)
        have h2 := hx x (by simp)
        unfold runesM at h1 ⊢
        simp only [List.map_cons, List.sum_cons, List.length_cons]
        omega
    have hb2 := hle (ls.take k) fun x hx => hb x (List.mem_of_mem_take hx)
    have hb3 : (ls.take k).length ≤ 300 := by rw [List.length_take]; omega
    have hb4 : runesM (ls.take k) ≤ 300 * 140737488355328 := Nat.le_trans hb2 (Nat.mul_le_mul_right _ hb3)
    repeat(refine run_ ?_)
    refine o_still (r_index rfl rfl rfl (by omega) (by omega)) (wants_none rfl) rfl ?_
    refine o_still (r_load rfl (hcell 0 _ rfl)) (wants_none rfl) rfl ?_
    repeat(refine run_ ?_)
    exact ih (k + 1) _ ⟨by omega, rfl⟩ (by omega) _ (.cons rfl (.cons (int_eq (by rw [hs]; omega)) (.cons rfl .nil)))
  · have : ls.take k = ls := List.take_of_length_le (by omega)
    repeat(refine run_ ?_)
    rw [this]
    refine k_ret1 rfl rfl ⟨rfl, ?_⟩
    congr 1
def smallM (ls : List (List Int)) : Bool := decide (ls.length ≤ 300 ∧ (ls.length : Int) - 1 + runesM ls ≤ 3000)
theorem small_calls {F : Nat → Prop} {w : World} {v : Value} {ls : List (List Int)} (h : Sl kRow F w v ls) : CallsR Try.prog 10 #[v] w fun u w' => w' = w ∧ u = .bool (smallM ls) := by
  obtain ⟨A, c, rfl, hc, hlf⟩ := h.form
  have hlen := hlf.len
  refine calls_enter Try.func10 rfl rfl ?_
  by_cases hl : ls.length ≤ 300
  · repeat(refine run_ ?_)
    refine o_enter (n_call rfl) (wants_none rfl) rfl ((runes04_calls h hl).mono ?_)
    rintro _ w ⟨rfl, rfl⟩
    repeat(refine run_ ?_)
    refine k_ret1 rfl rfl ⟨rfl, ?_⟩
    unfold smallM
    congr 1
    rw [decide_eq_decide]
    split <;> omega
  · repeat(refine run_ ?_)
    refine k_ret1 rfl rfl ⟨rfl, ?_⟩
    unfold smallM
    rw [decide_eq_false (fun h => hl h.1)]
end Go.Ink
