/-
  Small, name, (*Set).All.
-/
import Derived.Test.YtlikhbhkodlaoaaF11
import Derived.Test.YtlikhbhkodlaoaaIdx
set_option linter.unusedVariables false
set_option linter.unusedSimpArgs false
namespace Go.Ink
open Go Go.Proofs

def runesM (l : List (List Int)) : Nat := (l.map List.length).sum
def kNamed : Kd (Int × Reg) := kIso (kPair kRune kReg) id 40 (by decide)
theorem runes04_calls {F : Nat → Prop} {w : World} {v : Value} {ls : List (List Int)} (h : Sl kRow F w v ls) (hl : ls.length ≤ 300) :
    CallsR Try.prog 28 #[v] w fun u w' => w' = w ∧ u = .int .i64 (if (ls.length : Int) - 1 + runesM ls < 0 then 0 else (ls.length : Int) - 1 + runesM ls) := by
  obtain ⟨A, c, rfl, hc, hlf⟩ := h.form
  refine calls_enter Try.func28 rfl rfl ?_
  repeat(first|refine o_nil ?_|(refine o_pass (wants_no rfl rfl rfl ?_) rfl ?_;(focus(first|rfl|assumption|(simp;done)|(simp;omega))))|refine o_pass (wants_not rfl rfl rfl) rfl ?_|(refine o_yes (wants_yes rfl rfl rfl ?_) ?_;(focus(first|rfl|assumption|(simp;done)|(simp;omega))))|refine k_region ?_|(apply k_go;(focus(constructor<;>rfl)))|refine d_nil ?_|(apply o_s;(focus(first|(constructor<;>first|rfl|omega)|(apply Ri.add3<;>first|rfl|omega)|(apply Ri.sub3<;>first|rfl|omega)|(apply Ri.conv3<;>first|rfl|omega)|(apply Ri.eqb<;>rfl)|(apply Ri.neb<;>rfl)|(apply Ri.pT;(focus rfl);(focus(first|rfl|assumption|(simp;done)|(simp;omega)));(focus rfl))|(apply Ri.pF;(focus rfl);(focus(first|rfl|assumption|(simp;done)|(simp;omega)));(focus rfl))));(focus rfl)))
  have hb : ∀ x ∈ ls, x.length ≤ 140737488355328 := fun x hx => by
    obtain ⟨j, hj, rfl⟩ := List.getElem_of_mem hx
    obtain ⟨ad, cs, rfl, ⟨v1, rfl, hr⟩, hcell⟩ := h.at_ (List.getElem?_eq_getElem hj)
    obtain ⟨_, _, _, _, hf⟩ := hr.form
    exact hf.len
  refine k_while (fun k => ls.length - k) (fun k : Nat => [(0, .slice A ls.length c), (3, .int .i64 ((ls.length : Int) - 1 + runesM (ls.take k))), (4, .int .i64 k)])
    (fun k wr => k ≤ ls.length ∧ wr = w) 0 (.cons rfl (.cons (int_eq (by simp [runesM])) (.cons rfl .nil))) ⟨Nat.zero_le _, rfl⟩ ?_
  rintro k _ ⟨hk, rfl⟩ ih
  repeat(first|refine o_nil ?_|(refine o_pass (wants_no rfl rfl rfl ?_) rfl ?_;(focus(first|rfl|assumption|(simp;done)|(simp;omega))))|refine o_pass (wants_not rfl rfl rfl) rfl ?_|(refine o_yes (wants_yes rfl rfl rfl ?_) ?_;(focus(first|rfl|assumption|(simp;done)|(simp;omega))))|refine k_region ?_|(apply k_go;(focus(constructor<;>rfl)))|refine d_nil ?_|(apply o_s;(focus(first|(constructor<;>first|rfl|omega)|(apply Ri.add3<;>first|rfl|omega)|(apply Ri.sub3<;>first|rfl|omega)|(apply Ri.conv3<;>first|rfl|omega)|(apply Ri.eqb<;>rfl)|(apply Ri.neb<;>rfl)|(apply Ri.pT;(focus rfl);(focus(first|rfl|assumption|(simp;done)|(simp;omega)));(focus rfl))|(apply Ri.pF;(focus rfl);(focus(first|rfl|assumption|(simp;done)|(simp;omega)));(focus rfl))));(focus rfl)))
  refine k_ite rfl (fun hlt => ?_) (fun hge => ?_)
  · have hlt' : k < ls.length := by omega
    obtain ⟨ad, cs, rfl, ⟨v1, rfl, hr⟩, hcell⟩ := h.at_ (List.getElem?_eq_getElem hlt')
    obtain ⟨A1, c1, rfl, hc1, hf1⟩ := hr.form
    have hf := hf1.len
    have hs : runesM (ls.take (k + 1)) = runesM (ls.take k) + ls[k].length := by
      unfold runesM
      rw [List.take_succ_eq_append_getElem hlt', List.map_append, List.sum_append]
      simp
    have hle : ∀ (l : List (List Int)), (∀ x ∈ l, x.length ≤ 140737488355328) → runesM l ≤ l.length * 140737488355328 := by
      intro l
      induction l with
      | nil => intro _; simp [runesM]
      | cons x l ih =>
        intro hx
        have h1 := ih fun y hy => hx y (List.mem_cons_of_mem _ hy)
        have h2 := hx x (by simp)
        unfold runesM at h1 ⊢
        simp only [List.map_cons, List.sum_cons, List.length_cons]
        omega
    have hb2 := hle (ls.take k) fun x hx => hb x (List.mem_of_mem_take hx)
    have hb3 : (ls.take k).length ≤ 300 := by rw [List.length_take]; omega
    have hb4 : runesM (ls.take k) ≤ 300 * 140737488355328 := Nat.le_trans hb2 (Nat.mul_le_mul_right _ hb3)
    repeat(first|refine o_nil ?_|(refine o_pass (wants_no rfl rfl rfl ?_) rfl ?_;(focus(first|rfl|assumption|(simp;done)|(simp;omega))))|refine o_pass (wants_not rfl rfl rfl) rfl ?_|(refine o_yes (wants_yes rfl rfl rfl ?_) ?_;(focus(first|rfl|assumption|(simp;done)|(simp;omega))))|refine k_region ?_|(apply k_go;(focus(constructor<;>rfl)))|refine d_nil ?_|(apply o_s;(focus(first|(constructor<;>first|rfl|omega)|(apply Ri.add3<;>first|rfl|omega)|(apply Ri.sub3<;>first|rfl|omega)|(apply Ri.conv3<;>first|rfl|omega)|(apply Ri.eqb<;>rfl)|(apply Ri.neb<;>rfl)|(apply Ri.pT;(focus rfl);(focus(first|rfl|assumption|(simp;done)|(simp;omega)));(focus rfl))|(apply Ri.pF;(focus rfl);(focus(first|rfl|assumption|(simp;done)|(simp;omega)));(focus rfl))));(focus rfl)))
    refine o_still (r_index rfl rfl rfl (by omega) (by omega)) (wants_none rfl) rfl ?_
    refine o_still (r_load rfl (hcell 0 _ rfl)) (wants_none rfl) rfl ?_
    repeat(first|refine o_nil ?_|(refine o_pass (wants_no rfl rfl rfl ?_) rfl ?_;(focus(first|rfl|assumption|(simp;done)|(simp;omega))))|refine o_pass (wants_not rfl rfl rfl) rfl ?_|(refine o_yes (wants_yes rfl rfl rfl ?_) ?_;(focus(first|rfl|assumption|(simp;done)|(simp;omega))))|refine k_region ?_|(apply k_go;(focus(constructor<;>rfl)))|refine d_nil ?_|(apply o_s;(focus(first|(constructor<;>first|rfl|omega)|(apply Ri.add3<;>first|rfl|omega)|(apply Ri.sub3<;>first|rfl|omega)|(apply Ri.conv3<;>first|rfl|omega)|(apply Ri.eqb<;>rfl)|(apply Ri.neb<;>rfl)|(apply Ri.pT;(focus rfl);(focus(first|rfl|assumption|(simp;done)|(simp;omega)));(focus rfl))|(apply Ri.pF;(focus rfl);(focus(first|rfl|assumption|(simp;done)|(simp;omega)));(focus rfl))));(focus rfl)))
    exact ih (k + 1) _ ⟨by omega, rfl⟩ (by omega) _ (.cons rfl (.cons (int_eq (by rw [hs]; omega)) (.cons rfl .nil)))
  · have : ls.take k = ls := List.take_of_length_le (by omega)
    repeat(first|refine o_nil ?_|(refine o_pass (wants_no rfl rfl rfl ?_) rfl ?_;(focus(first|rfl|assumption|(simp;done)|(simp;omega))))|refine o_pass (wants_not rfl rfl rfl) rfl ?_|(refine o_yes (wants_yes rfl rfl rfl ?_) ?_;(focus(first|rfl|assumption|(simp;done)|(simp;omega))))|refine k_region ?_|(apply k_go;(focus(constructor<;>rfl)))|refine d_nil ?_|(apply o_s;(focus(first|(constructor<;>first|rfl|omega)|(apply Ri.add3<;>first|rfl|omega)|(apply Ri.sub3<;>first|rfl|omega)|(apply Ri.conv3<;>first|rfl|omega)|(apply Ri.eqb<;>rfl)|(apply Ri.neb<;>rfl)|(apply Ri.pT;(focus rfl);(focus(first|rfl|assumption|(simp;done)|(simp;omega)));(focus rfl))|(apply Ri.pF;(focus rfl);(focus(first|rfl|assumption|(simp;done)|(simp;omega)));(focus rfl))));(focus rfl)))
    rw [this]
    refine k_ret1 rfl rfl ⟨rfl, ?_⟩
    congr 1
def smallM (ls : List (List Int)) : Bool := decide (ls.length ≤ 300 ∧ (ls.length : Int) - 1 + runesM ls ≤ 3000)
theorem small_calls {F : Nat → Prop} {w : World} {v : Value} {ls : List (List Int)} (h : Sl kRow F w v ls) : CallsR Try.prog 15 #[v] w fun u w' => w' = w ∧ u = .bool (smallM ls) := by
  obtain ⟨A, c, rfl, hc, hlf⟩ := h.form
  have hlen := hlf.len
  refine calls_enter Try.func15 rfl rfl ?_
  by_cases hl : ls.length ≤ 300
  · repeat(first|refine o_nil ?_|(refine o_pass (wants_no rfl rfl rfl ?_) rfl ?_;(focus(first|rfl|assumption|(simp;done)|(simp;omega))))|refine o_pass (wants_not rfl rfl rfl) rfl ?_|(refine o_yes (wants_yes rfl rfl rfl ?_) ?_;(focus(first|rfl|assumption|(simp;done)|(simp;omega))))|refine k_region ?_|(apply k_go;(focus(constructor<;>rfl)))|refine d_nil ?_|(apply o_s;(focus(first|(constructor<;>first|rfl|omega)|(apply Ri.add3<;>first|rfl|omega)|(apply Ri.sub3<;>first|rfl|omega)|(apply Ri.conv3<;>first|rfl|omega)|(apply Ri.eqb<;>rfl)|(apply Ri.neb<;>rfl)|(apply Ri.pT;(focus rfl);(focus(first|rfl|assumption|(simp;done)|(simp;omega)));(focus rfl))|(apply Ri.pF;(focus rfl);(focus(first|rfl|assumption|(simp;done)|(simp;omega)));(focus rfl))));(focus rfl)))
    refine o_enter (n_call rfl) (wants_none rfl) rfl ((runes04_calls h hl).mono ?_)
    rintro _ w ⟨rfl, rfl⟩
    repeat(first|refine o_nil ?_|(refine o_pass (wants_no rfl rfl rfl ?_) rfl ?_;(focus(first|rfl|assumption|(simp;done)|(simp;omega))))|refine o_pass (wants_not rfl rfl rfl) rfl ?_|(refine o_yes (wants_yes rfl rfl rfl ?_) ?_;(focus(first|rfl|assumption|(simp;done)|(simp;omega))))|refine k_region ?_|(apply k_go;(focus(constructor<;>rfl)))|refine d_nil ?_|(apply o_s;(focus(first|(constructor<;>first|rfl|omega)|(apply Ri.add3<;>first|rfl|omega)|(apply Ri.sub3<;>first|rfl|omega)|(apply Ri.conv3<;>first|rfl|omega)|(apply Ri.eqb<;>rfl)|(apply Ri.neb<;>rfl)|(apply Ri.pT;(focus rfl);(focus(first|rfl|assumption|(simp;done)|(simp;omega)));(focus rfl))|(apply Ri.pF;(focus rfl);(focus(first|rfl|assumption|(simp;done)|(simp;omega)));(focus rfl))));(focus rfl)))
    refine k_ret1 rfl rfl ⟨rfl, ?_⟩
    unfold smallM
    congr 1
    rw [decide_eq_decide]
    split <;> omega
  · repeat(first|refine o_nil ?_|(refine o_pass (wants_no rfl rfl rfl ?_) rfl ?_;(focus(first|rfl|assumption|(simp;done)|(simp;omega))))|refine o_pass (wants_not rfl rfl rfl) rfl ?_|(refine o_yes (wants_yes rfl rfl rfl ?_) ?_;(focus(first|rfl|assumption|(simp;done)|(simp;omega))))|refine k_region ?_|(apply k_go;(focus(constructor<;>rfl)))|refine d_nil ?_|(apply o_s;(focus(first|(constructor<;>first|rfl|omega)|(apply Ri.add3<;>first|rfl|omega)|(apply Ri.sub3<;>first|rfl|omega)|(apply Ri.conv3<;>first|rfl|omega)|(apply Ri.eqb<;>rfl)|(apply Ri.neb<;>rfl)|(apply Ri.pT;(focus rfl);(focus(first|rfl|assumption|(simp;done)|(simp;omega)));(focus rfl))|(apply Ri.pF;(focus rfl);(focus(first|rfl|assumption|(simp;done)|(simp;omega)));(focus rfl))));(focus rfl)))
    refine k_ret1 rfl rfl ⟨rfl, ?_⟩
    unfold smallM
    rw [decide_eq_false (fun h => hl h.1)]
def nameM (i : Nat) : Int := if i = 0 then 34 else if i = 1 then 45 else if i < 12 then 48 + ((i : Int) - 2) else 97 + ((i : Int) - 12)
theorem name_calls {w : World} {i : Nat} (hi : i < 38) : CallsR Try.prog 36 #[.int .i64 i] w fun u w' => w' = w ∧ u = .int .i32 (nameM i) := by
  refine calls_enter Try.func36 rfl rfl ?_
  by_cases h0 : i = 0
  · repeat(first|refine o_nil ?_|(refine o_pass (wants_no rfl rfl rfl ?_) rfl ?_;(focus(first|rfl|assumption|(simp;done)|(simp;omega))))|refine o_pass (wants_not rfl rfl rfl) rfl ?_|(refine o_yes (wants_yes rfl rfl rfl ?_) ?_;(focus(first|rfl|assumption|(simp;done)|(simp;omega))))|refine k_region ?_|(apply k_go;(focus(constructor<;>rfl)))|refine d_nil ?_|(apply o_s;(focus(first|(constructor<;>first|rfl|omega)|(apply Ri.add3<;>first|rfl|omega)|(apply Ri.sub3<;>first|rfl|omega)|(apply Ri.conv3<;>first|rfl|omega)|(apply Ri.eqb<;>rfl)|(apply Ri.neb<;>rfl)|(apply Ri.pT;(focus rfl);(focus(first|rfl|assumption|(simp;done)|(simp;omega)));(focus rfl))|(apply Ri.pF;(focus rfl);(focus(first|rfl|assumption|(simp;done)|(simp;omega)));(focus rfl))));(focus rfl)))
    refine k_yes rfl (by omega) ?_
    repeat(first|refine o_nil ?_|(refine o_pass (wants_no rfl rfl rfl ?_) rfl ?_;(focus(first|rfl|assumption|(simp;done)|(simp;omega))))|refine o_pass (wants_not rfl rfl rfl) rfl ?_|(refine o_yes (wants_yes rfl rfl rfl ?_) ?_;(focus(first|rfl|assumption|(simp;done)|(simp;omega))))|refine k_region ?_|(apply k_go;(focus(constructor<;>rfl)))|refine d_nil ?_|(apply o_s;(focus(first|(constructor<;>first|rfl|omega)|(apply Ri.add3<;>first|rfl|omega)|(apply Ri.sub3<;>first|rfl|omega)|(apply Ri.conv3<;>first|rfl|omega)|(apply Ri.eqb<;>rfl)|(apply Ri.neb<;>rfl)|(apply Ri.pT;(focus rfl);(focus(first|rfl|assumption|(simp;done)|(simp;omega)));(focus rfl))|(apply Ri.pF;(focus rfl);(focus(first|rfl|assumption|(simp;done)|(simp;omega)));(focus rfl))));(focus rfl)))
    exact k_ret1 rfl rfl ⟨rfl, by unfold nameM; rw [if_pos h0]⟩
  by_cases h1 : i = 1
  · repeat(first|refine o_nil ?_|(refine o_pass (wants_no rfl rfl rfl ?_) rfl ?_;(focus(first|rfl|assumption|(simp;done)|(simp;omega))))|refine o_pass (wants_not rfl rfl rfl) rfl ?_|(refine o_yes (wants_yes rfl rfl rfl ?_) ?_;(focus(first|rfl|assumption|(simp;done)|(simp;omega))))|refine k_region ?_|(apply k_go;(focus(constructor<;>rfl)))|refine d_nil ?_|(apply o_s;(focus(first|(constructor<;>first|rfl|omega)|(apply Ri.add3<;>first|rfl|omega)|(apply Ri.sub3<;>first|rfl|omega)|(apply Ri.conv3<;>first|rfl|omega)|(apply Ri.eqb<;>rfl)|(apply Ri.neb<;>rfl)|(apply Ri.pT;(focus rfl);(focus(first|rfl|assumption|(simp;done)|(simp;omega)));(focus rfl))|(apply Ri.pF;(focus rfl);(focus(first|rfl|assumption|(simp;done)|(simp;omega)));(focus rfl))));(focus rfl)))
    refine k_no rfl (by omega) ?_
    repeat(first|refine o_nil ?_|(refine o_pass (wants_no rfl rfl rfl ?_) rfl ?_;(focus(first|rfl|assumption|(simp;done)|(simp;omega))))|refine o_pass (wants_not rfl rfl rfl) rfl ?_|(refine o_yes (wants_yes rfl rfl rfl ?_) ?_;(focus(first|rfl|assumption|(simp;done)|(simp;omega))))|refine k_region ?_|(apply k_go;(focus(constructor<;>rfl)))|refine d_nil ?_|(apply o_s;(focus(first|(constructor<;>first|rfl|omega)|(apply Ri.add3<;>first|rfl|omega)|(apply Ri.sub3<;>first|rfl|omega)|(apply Ri.conv3<;>first|rfl|omega)|(apply Ri.eqb<;>rfl)|(apply Ri.neb<;>rfl)|(apply Ri.pT;(focus rfl);(focus(first|rfl|assumption|(simp;done)|(simp;omega)));(focus rfl))|(apply Ri.pF;(focus rfl);(focus(first|rfl|assumption|(simp;done)|(simp;omega)));(focus rfl))));(focus rfl)))
    refine k_yes rfl (by omega) ?_
    repeat(first|refine o_nil ?_|(refine o_pass (wants_no rfl rfl rfl ?_) rfl ?_;(focus(first|rfl|assumption|(simp;done)|(simp;omega))))|refine o_pass (wants_not rfl rfl rfl) rfl ?_|(refine o_yes (wants_yes rfl rfl rfl ?_) ?_;(focus(first|rfl|assumption|(simp;done)|(simp;omega))))|refine k_region ?_|(apply k_go;(focus(constructor<;>rfl)))|refine d_nil ?_|(apply o_s;(focus(first|(constructor<;>first|rfl|omega)|(apply Ri.add3<;>first|rfl|omega)|(apply Ri.sub3<;>first|rfl|omega)|(apply Ri.conv3<;>first|rfl|omega)|(apply Ri.eqb<;>rfl)|(apply Ri.neb<;>rfl)|(apply Ri.pT;(focus rfl);(focus(first|rfl|assumption|(simp;done)|(simp;omega)));(focus rfl))|(apply Ri.pF;(focus rfl);(focus(first|rfl|assumption|(simp;done)|(simp;omega)));(focus rfl))));(focus rfl)))
    exact k_ret1 rfl rfl ⟨rfl, by unfold nameM; rw [if_neg h0, if_pos h1]⟩
  repeat(first|refine o_nil ?_|(refine o_pass (wants_no rfl rfl rfl ?_) rfl ?_;(focus(first|rfl|assumption|(simp;done)|(simp;omega))))|refine o_pass (wants_not rfl rfl rfl) rfl ?_|(refine o_yes (wants_yes rfl rfl rfl ?_) ?_;(focus(first|rfl|assumption|(simp;done)|(simp;omega))))|refine k_region ?_|(apply k_go;(focus(constructor<;>rfl)))|refine d_nil ?_|(apply o_s;(focus(first|(constructor<;>first|rfl|omega)|(apply Ri.add3<;>first|rfl|omega)|(apply Ri.sub3<;>first|rfl|omega)|(apply Ri.conv3<;>first|rfl|omega)|(apply Ri.eqb<;>rfl)|(apply Ri.neb<;>rfl)|(apply Ri.pT;(focus rfl);(focus(first|rfl|assumption|(simp;done)|(simp;omega)));(focus rfl))|(apply Ri.pF;(focus rfl);(focus(first|rfl|assumption|(simp;done)|(simp;omega)));(focus rfl))));(focus rfl)))
  refine k_no rfl (by omega) ?_
  repeat(first|refine o_nil ?_|(refine o_pass (wants_no rfl rfl rfl ?_) rfl ?_;(focus(first|rfl|assumption|(simp;done)|(simp;omega))))|refine o_pass (wants_not rfl rfl rfl) rfl ?_|(refine o_yes (wants_yes rfl rfl rfl ?_) ?_;(focus(first|rfl|assumption|(simp;done)|(simp;omega))))|refine k_region ?_|(apply k_go;(focus(constructor<;>rfl)))|refine d_nil ?_|(apply o_s;(focus(first|(constructor<;>first|rfl|omega)|(apply Ri.add3<;>first|rfl|omega)|(apply Ri.sub3<;>first|rfl|omega)|(apply Ri.conv3<;>first|rfl|omega)|(apply Ri.eqb<;>rfl)|(apply Ri.neb<;>rfl)|(apply Ri.pT;(focus rfl);(focus(first|rfl|assumption|(simp;done)|(simp;omega)));(focus rfl))|(apply Ri.pF;(focus rfl);(focus(first|rfl|assumption|(simp;done)|(simp;omega)));(focus rfl))));(focus rfl)))
  refine k_no rfl (by omega) ?_
  repeat(first|refine o_nil ?_|(refine o_pass (wants_no rfl rfl rfl ?_) rfl ?_;(focus(first|rfl|assumption|(simp;done)|(simp;omega))))|refine o_pass (wants_not rfl rfl rfl) rfl ?_|(refine o_yes (wants_yes rfl rfl rfl ?_) ?_;(focus(first|rfl|assumption|(simp;done)|(simp;omega))))|refine k_region ?_|(apply k_go;(focus(constructor<;>rfl)))|refine d_nil ?_|(apply o_s;(focus(first|(constructor<;>first|rfl|omega)|(apply Ri.add3<;>first|rfl|omega)|(apply Ri.sub3<;>first|rfl|omega)|(apply Ri.conv3<;>first|rfl|omega)|(apply Ri.eqb<;>rfl)|(apply Ri.neb<;>rfl)|(apply Ri.pT;(focus rfl);(focus(first|rfl|assumption|(simp;done)|(simp;omega)));(focus rfl))|(apply Ri.pF;(focus rfl);(focus(first|rfl|assumption|(simp;done)|(simp;omega)));(focus rfl))));(focus rfl)))
  by_cases h2 : i < 12
  · refine k_yes rfl (by omega) ?_
    repeat(first|refine o_nil ?_|(refine o_pass (wants_no rfl rfl rfl ?_) rfl ?_;(focus(first|rfl|assumption|(simp;done)|(simp;omega))))|refine o_pass (wants_not rfl rfl rfl) rfl ?_|(refine o_yes (wants_yes rfl rfl rfl ?_) ?_;(focus(first|rfl|assumption|(simp;done)|(simp;omega))))|refine k_region ?_|(apply k_go;(focus(constructor<;>rfl)))|refine d_nil ?_|(apply o_s;(focus(first|(constructor<;>first|rfl|omega)|(apply Ri.add3<;>first|rfl|omega)|(apply Ri.sub3<;>first|rfl|omega)|(apply Ri.conv3<;>first|rfl|omega)|(apply Ri.eqb<;>rfl)|(apply Ri.neb<;>rfl)|(apply Ri.pT;(focus rfl);(focus(first|rfl|assumption|(simp;done)|(simp;omega)));(focus rfl))|(apply Ri.pF;(focus rfl);(focus(first|rfl|assumption|(simp;done)|(simp;omega)));(focus rfl))));(focus rfl)))
    exact k_ret1 rfl rfl ⟨rfl, by unfold nameM; rw [if_neg h0, if_neg h1, if_pos h2]⟩
  · refine k_no rfl (by omega) ?_
    repeat(first|refine o_nil ?_|(refine o_pass (wants_no rfl rfl rfl ?_) rfl ?_;(focus(first|rfl|assumption|(simp;done)|(simp;omega))))|refine o_pass (wants_not rfl rfl rfl) rfl ?_|(refine o_yes (wants_yes rfl rfl rfl ?_) ?_;(focus(first|rfl|assumption|(simp;done)|(simp;omega))))|refine k_region ?_|(apply k_go;(focus(constructor<;>rfl)))|refine d_nil ?_|(apply o_s;(focus(first|(constructor<;>first|rfl|omega)|(apply Ri.add3<;>first|rfl|omega)|(apply Ri.sub3<;>first|rfl|omega)|(apply Ri.conv3<;>first|rfl|omega)|(apply Ri.eqb<;>rfl)|(apply Ri.neb<;>rfl)|(apply Ri.pT;(focus rfl);(focus(first|rfl|assumption|(simp;done)|(simp;omega)));(focus rfl))|(apply Ri.pF;(focus rfl);(focus(first|rfl|assumption|(simp;done)|(simp;omega)));(focus rfl))));(focus rfl)))
    exact k_ret1 rfl rfl ⟨rfl, by unfold nameM; rw [if_neg h0, if_neg h1, if_neg h2]⟩
def allFrom (m : List Slot) (n : Nat) : List (Int × Reg) := (List.range n).filterMap fun i => if (slotAt m i).1 = true then some (nameM i, (slotAt m i).2) else none
theorem allFrom_succ (m : List Slot) (n : Nat) : allFrom m (n + 1) = allFrom m n ++ (if (slotAt m n).1 = true then [(nameM n, (slotAt m n).2)] else []) := by
  unfold allFrom
  rw [List.range_succ, List.filterMap_append]
  congr 1
  simp only [List.filterMap_cons, List.filterMap_nil]
  split <;> split <;> simp_all
theorem allFrom_le (m : List Slot) (n : Nat) : (allFrom m n).length ≤ n := by
  unfold allFrom
  exact Nat.le_trans (List.length_filterMap_le _ _) (by simp)
structure AlSt where
  i : Nat
  A : Option Addr
  c : Nat
set_option maxHeartbeats 2000000 in
theorem all_calls {D : Nat → Prop} {g : Nat} {w : World} {m : List Slot} (h : IsSet D g w m) :
    CallsR Try.prog 20 #[.pointer (some ⟨g, 0, none⟩)] w fun u w' => Kn w w' ∧ ∃ A c, u = .slice A (allFrom m 38).length c ∧ Ow kNamed (noB w) (noB w) w' (.slice A (allFrom m 38).length c) (allFrom m 38) := by
  obtain ⟨hm, hg, cells, hE, hb⟩ := h
  have h : IsSet D g w m := ⟨hm, hg, cells, hE, hb⟩
  have hcl : cells.length = 114 := by have := hE.len; rw [hm] at this; exact this
  refine calls_enter Try.func20 rfl rfl ?_
  repeat(first|refine o_nil ?_|(refine o_pass (wants_no rfl rfl rfl ?_) rfl ?_;(focus(first|rfl|assumption|(simp;done)|(simp;omega))))|refine o_pass (wants_not rfl rfl rfl) rfl ?_|(refine o_yes (wants_yes rfl rfl rfl ?_) ?_;(focus(first|rfl|assumption|(simp;done)|(simp;omega))))|refine k_region ?_|(apply k_go;(focus(constructor<;>rfl)))|refine d_nil ?_|(apply o_s;(focus(first|(constructor<;>first|rfl|omega)|(apply Ri.add3<;>first|rfl|omega)|(apply Ri.sub3<;>first|rfl|omega)|(apply Ri.conv3<;>first|rfl|omega)|(apply Ri.eqb<;>rfl)|(apply Ri.neb<;>rfl)|(apply Ri.pT;(focus rfl);(focus(first|rfl|assumption|(simp;done)|(simp;omega)));(focus rfl))|(apply Ri.pF;(focus rfl);(focus(first|rfl|assumption|(simp;done)|(simp;omega)));(focus rfl))));(focus rfl)))
  refine k_false rfl ?_
  repeat(first|refine o_nil ?_|(refine o_pass (wants_no rfl rfl rfl ?_) rfl ?_;(focus(first|rfl|assumption|(simp;done)|(simp;omega))))|refine o_pass (wants_not rfl rfl rfl) rfl ?_|(refine o_yes (wants_yes rfl rfl rfl ?_) ?_;(focus(first|rfl|assumption|(simp;done)|(simp;omega))))|refine k_region ?_|(apply k_go;(focus(constructor<;>rfl)))|refine d_nil ?_|(apply o_s;(focus(first|(constructor<;>first|rfl|omega)|(apply Ri.add3<;>first|rfl|omega)|(apply Ri.sub3<;>first|rfl|omega)|(apply Ri.conv3<;>first|rfl|omega)|(apply Ri.eqb<;>rfl)|(apply Ri.neb<;>rfl)|(apply Ri.pT;(focus rfl);(focus(first|rfl|assumption|(simp;done)|(simp;omega)));(focus rfl))|(apply Ri.pF;(focus rfl);(focus(first|rfl|assumption|(simp;done)|(simp;omega)));(focus rfl))));(focus rfl)))
  refine o_still (r_loadA (cs := cells) rfl hcl (by
    intro j u hu
    rw [add_add, add_plain, Nat.zero_add, Nat.zero_add, blk_cell hb]
    simpa using hu)) (wants_none rfl) rfl ?_
  repeat(first|refine o_nil ?_|(refine o_pass (wants_no rfl rfl rfl ?_) rfl ?_;(focus(first|rfl|assumption|(simp;done)|(simp;omega))))|refine o_pass (wants_not rfl rfl rfl) rfl ?_|(refine o_yes (wants_yes rfl rfl rfl ?_) ?_;(focus(first|rfl|assumption|(simp;done)|(simp;omega))))|refine k_region ?_|(apply k_go;(focus(constructor<;>rfl)))|refine d_nil ?_|(apply o_s;(focus(first|(constructor<;>first|rfl|omega)|(apply Ri.add3<;>first|rfl|omega)|(apply Ri.sub3<;>first|rfl|omega)|(apply Ri.conv3<;>first|rfl|omega)|(apply Ri.eqb<;>rfl)|(apply Ri.neb<;>rfl)|(apply Ri.pT;(focus rfl);(focus(first|rfl|assumption|(simp;done)|(simp;omega)));(focus rfl))|(apply Ri.pF;(focus rfl);(focus(first|rfl|assumption|(simp;done)|(simp;omega)));(focus rfl))));(focus rfl)))
  refine k_while (S := AlSt) (fun s => 38 - s.i) (fun s => [(3, .slice s.A (allFrom m s.i).length s.c), (11, .agg cells.toArray), (12, .int .i64 s.i)])
    (fun s wr => s.i ≤ 38 ∧ Kn w wr ∧ Ow kNamed (noB w) (noB w) wr (.slice s.A (allFrom m s.i).length s.c) (allFrom m s.i)) ⟨0, none, 0⟩ (by repeat (first | exact SubB.nil | refine SubB.cons rfl ?_)) ⟨by show 0 ≤ 38; decide, Kp.refl _ _, Ow.nil _ _ _ _⟩ ?_
  rintro ⟨i, A, c⟩ wr ⟨hi, hkn, hO⟩ ih
  simp only at hi hkn hO ih ⊢
  have hal := allFrom_le m i
  repeat(first|refine o_nil ?_|(refine o_pass (wants_no rfl rfl rfl ?_) rfl ?_;(focus(first|rfl|assumption|(simp;done)|(simp;omega))))|refine o_pass (wants_not rfl rfl rfl) rfl ?_|(refine o_yes (wants_yes rfl rfl rfl ?_) ?_;(focus(first|rfl|assumption|(simp;done)|(simp;omega))))|refine k_region ?_|(apply k_go;(focus(constructor<;>rfl)))|refine d_nil ?_|(apply o_s;(focus(first|(constructor<;>first|rfl|omega)|(apply Ri.add3<;>first|rfl|omega)|(apply Ri.sub3<;>first|rfl|omega)|(apply Ri.conv3<;>first|rfl|omega)|(apply Ri.eqb<;>rfl)|(apply Ri.neb<;>rfl)|(apply Ri.pT;(focus rfl);(focus(first|rfl|assumption|(simp;done)|(simp;omega)));(focus rfl))|(apply Ri.pF;(focus rfl);(focus(first|rfl|assumption|(simp;done)|(simp;omega)));(focus rfl))));(focus rfl)))
  refine k_ite rfl (fun hlt => ?_) (fun hge => ?_)
  case refine_2 =>
    obtain rfl : i = 38 := by omega
    repeat(first|refine o_nil ?_|(refine o_pass (wants_no rfl rfl rfl ?_) rfl ?_;(focus(first|rfl|assumption|(simp;done)|(simp;omega))))|refine o_pass (wants_not rfl rfl rfl) rfl ?_|(refine o_yes (wants_yes rfl rfl rfl ?_) ?_;(focus(first|rfl|assumption|(simp;done)|(simp;omega))))|refine k_region ?_|(apply k_go;(focus(constructor<;>rfl)))|refine d_nil ?_|(apply o_s;(focus(first|(constructor<;>first|rfl|omega)|(apply Ri.add3<;>first|rfl|omega)|(apply Ri.sub3<;>first|rfl|omega)|(apply Ri.conv3<;>first|rfl|omega)|(apply Ri.eqb<;>rfl)|(apply Ri.neb<;>rfl)|(apply Ri.pT;(focus rfl);(focus(first|rfl|assumption|(simp;done)|(simp;omega)));(focus rfl))|(apply Ri.pF;(focus rfl);(focus(first|rfl|assumption|(simp;done)|(simp;omega)));(focus rfl))));(focus rfl)))
    exact k_ret1 rfl rfl ⟨hkn, A, c, rfl, hO⟩
  have hlt' : i < 38 := by omega
  obtain ⟨vs, hvs, hlo, hhi, s0, s1, s2⟩ := h.slot hlt'
  have hext : cells.toArray.extract (i * 3) (i * 3 + 3) = #[.bool (slotAt m i).1, .int .i64 (slotAt m i).2.1, vs] := by
    rw [blk_cell hb] at s0 s1 s2
    apply Array.toList_inj.1
    have e0 : cells[i * 3]? = some (.bool (slotAt m i).1) := by simpa using s0
    have e1 : cells[i * 3 + 1]? = some (.int .i64 (slotAt m i).2.1) := by simpa using s1
    have e2 : cells[i * 3 + 2]? = some vs := by simpa using s2
    rw [Array.toList_extract]
    refine List.ext_getElem? fun j => ?_
    simp only [List.extract_eq_take_drop]
    rw [List.getElem?_take]
    match j with
    | 0 => rw [if_pos (by omega), List.getElem?_drop]; simpa using e0
    | 1 => rw [if_pos (by omega), List.getElem?_drop]; simpa using e1
    | 2 => rw [if_pos (by omega), List.getElem?_drop]; simpa using e2
    | j + 3 => rw [if_neg (by omega)]; simp
  obtain ⟨Av, cv, rfl, _⟩ := hvs.form
  have nxt : ∀ w6 A6 c6, Kn w w6 → Ow kNamed (noB w) (noB w) w6 (.slice A6 (allFrom m (i + 1)).length c6) (allFrom m (i + 1)) → ∀ σ', SubB σ' [(3, .slice A6 (allFrom m (i + 1)).length c6), (11, .agg cells.toArray), (12, .int .i64 i)] →
      WK Try.prog Try.f20 [.inBlock 1, .code (bodyC Try.f20 [1, 1, 1, 0, 1, 0, 0, 1, 1, 1]), .inLoop (bodyC Try.f20 [1, 1, 1, 0, 1, 0, 0]), .inBlock 0, .code (bodyC Try.f20 [1, 1, 1, 1])] σ' w6 fun u w' => Kn w w' ∧ ∃ A c, u = .slice A (allFrom m 38).length c ∧ Ow kNamed (noB w) (noB w) w' (.slice A (allFrom m 38).length c) (allFrom m 38) := by
    intro w6 A6 c6 hk6 hO6 σ' hs
    refine WK.sub (Sub.mk hs) ?_
    repeat(first|refine o_nil ?_|(refine o_pass (wants_no rfl rfl rfl ?_) rfl ?_;(focus(first|rfl|assumption|(simp;done)|(simp;omega))))|refine o_pass (wants_not rfl rfl rfl) rfl ?_|(refine o_yes (wants_yes rfl rfl rfl ?_) ?_;(focus(first|rfl|assumption|(simp;done)|(simp;omega))))|refine k_region ?_|(apply k_go;(focus(constructor<;>rfl)))|refine d_nil ?_|(apply o_s;(focus(first|(constructor<;>first|rfl|omega)|(apply Ri.add3<;>first|rfl|omega)|(apply Ri.sub3<;>first|rfl|omega)|(apply Ri.conv3<;>first|rfl|omega)|(apply Ri.eqb<;>rfl)|(apply Ri.neb<;>rfl)|(apply Ri.pT;(focus rfl);(focus(first|rfl|assumption|(simp;done)|(simp;omega)));(focus rfl))|(apply Ri.pF;(focus rfl);(focus(first|rfl|assumption|(simp;done)|(simp;omega)));(focus rfl))));(focus rfl)))
    exact ih ⟨i + 1, A6, c6⟩ w6 ⟨by show i + 1 ≤ 38; omega, hk6, hO6⟩ (by show 38 - (i + 1) < 38 - i; omega) _ (by repeat (first | exact SubB.nil | refine SubB.cons rfl ?_))
  repeat(first|refine o_nil ?_|(refine o_pass (wants_no rfl rfl rfl ?_) rfl ?_;(focus(first|rfl|assumption|(simp;done)|(simp;omega))))|refine o_pass (wants_not rfl rfl rfl) rfl ?_|(refine o_yes (wants_yes rfl rfl rfl ?_) ?_;(focus(first|rfl|assumption|(simp;done)|(simp;omega))))|refine k_region ?_|(apply k_go;(focus(constructor<;>rfl)))|refine d_nil ?_|(apply o_s;(focus(first|(constructor<;>first|rfl|omega)|(apply Ri.add3<;>first|rfl|omega)|(apply Ri.sub3<;>first|rfl|omega)|(apply Ri.conv3<;>first|rfl|omega)|(apply Ri.eqb<;>rfl)|(apply Ri.neb<;>rfl)|(apply Ri.pT;(focus rfl);(focus(first|rfl|assumption|(simp;done)|(simp;omega)));(focus rfl))|(apply Ri.pF;(focus rfl);(focus(first|rfl|assumption|(simp;done)|(simp;omega)));(focus rfl))));(focus rfl)))
  refine o_still (r_indexV rfl rfl (by omega) (by omega)) (wants_none rfl) rfl ?_
  rw [Int.toNat_natCast, hext]
  refine o_any (e_alloc) (wants_none rfl) rfl ?_
  rintro _ w2 ⟨g2, rfl, nb2⟩
  repeat(first|refine o_nil ?_|(refine o_pass (wants_no rfl rfl rfl ?_) rfl ?_;(focus(first|rfl|assumption|(simp;done)|(simp;omega))))|refine o_pass (wants_not rfl rfl rfl) rfl ?_|(refine o_yes (wants_yes rfl rfl rfl ?_) ?_;(focus(first|rfl|assumption|(simp;done)|(simp;omega))))|refine k_region ?_|(apply k_go;(focus(constructor<;>rfl)))|refine d_nil ?_|(apply o_s;(focus(first|(constructor<;>first|rfl|omega)|(apply Ri.add3<;>first|rfl|omega)|(apply Ri.sub3<;>first|rfl|omega)|(apply Ri.conv3<;>first|rfl|omega)|(apply Ri.eqb<;>rfl)|(apply Ri.neb<;>rfl)|(apply Ri.pT;(focus rfl);(focus(first|rfl|assumption|(simp;done)|(simp;omega)));(focus rfl))|(apply Ri.pF;(focus rfl);(focus(first|rfl|assumption|(simp;done)|(simp;omega)));(focus rfl))));(focus rfl)))
  refine o_unit (u_storeA rfl rfl rfl (by simp [Value.oneCell']) rfl nb2.at_ (Nat.le_refl 3)) (wants_none rfl) rfl ?_
  rintro w3 hw3
  have e2 := nb2.ge
  have zr := hkn.size
  have k3 : Kn wr w3 := Kp.then nb2.kn hw3.kp (fun _ h => h) (fun k hk he => by omega)
  have kw3 : Kn w w3 := hkn.trans k3
  have b3 := hw3.at_
  have f0 : w3.cell? ⟨g2, 0, none⟩ = some (.bool (slotAt m i).1) := blk_cell b3
  have f1 : w3.cell? ⟨g2, 1, none⟩ = some (.int .i64 (slotAt m i).2.1) := blk_cell b3
  have f2 : w3.cell? ⟨g2, 2, none⟩ = some (.slice Av (slotAt m i).2.2.length cv) := blk_cell b3
  have hO3 := Kn.ow k3 hO
  repeat(first|refine o_nil ?_|(refine o_pass (wants_no rfl rfl rfl ?_) rfl ?_;(focus(first|rfl|assumption|(simp;done)|(simp;omega))))|refine o_pass (wants_not rfl rfl rfl) rfl ?_|(refine o_yes (wants_yes rfl rfl rfl ?_) ?_;(focus(first|rfl|assumption|(simp;done)|(simp;omega))))|refine k_region ?_|(apply k_go;(focus(constructor<;>rfl)))|refine d_nil ?_|(apply o_s;(focus(first|(constructor<;>first|rfl|omega)|(apply Ri.add3<;>first|rfl|omega)|(apply Ri.sub3<;>first|rfl|omega)|(apply Ri.conv3<;>first|rfl|omega)|(apply Ri.eqb<;>rfl)|(apply Ri.neb<;>rfl)|(apply Ri.pT;(focus rfl);(focus(first|rfl|assumption|(simp;done)|(simp;omega)));(focus rfl))|(apply Ri.pF;(focus rfl);(focus(first|rfl|assumption|(simp;done)|(simp;omega)));(focus rfl))));(focus rfl)))
  refine o_still (r_load rfl f0) (wants_none rfl) rfl ?_
  cases hf : (slotAt m i).1 with
  | false =>
    repeat(first|refine o_nil ?_|(refine o_pass (wants_no rfl rfl rfl ?_) rfl ?_;(focus(first|rfl|assumption|(simp;done)|(simp;omega))))|refine o_pass (wants_not rfl rfl rfl) rfl ?_|(refine o_yes (wants_yes rfl rfl rfl ?_) ?_;(focus(first|rfl|assumption|(simp;done)|(simp;omega))))|refine k_region ?_|(apply k_go;(focus(constructor<;>rfl)))|refine d_nil ?_|(apply o_s;(focus(first|(constructor<;>first|rfl|omega)|(apply Ri.add3<;>first|rfl|omega)|(apply Ri.sub3<;>first|rfl|omega)|(apply Ri.conv3<;>first|rfl|omega)|(apply Ri.eqb<;>rfl)|(apply Ri.neb<;>rfl)|(apply Ri.pT;(focus rfl);(focus(first|rfl|assumption|(simp;done)|(simp;omega)));(focus rfl))|(apply Ri.pF;(focus rfl);(focus(first|rfl|assumption|(simp;done)|(simp;omega)));(focus rfl))));(focus rfl)))
    refine k_false rfl ?_
    refine k_skip ?_
    have he : allFrom m (i + 1) = allFrom m i := by rw [allFrom_succ, hf]; simp
    refine nxt w3 A c kw3 (by rw [he]; exact hO3) _ ?_
    rw [he]
    exact (by repeat (first | exact SubB.nil | refine SubB.cons rfl ?_))
  | true =>
    have he : allFrom m (i + 1) = allFrom m i ++ [(nameM i, (slotAt m i).2)] := by rw [allFrom_succ, hf]; simp
    repeat (first | refine o_nil ?_ | refine k_seq ?_ | refine k_region ?_ | refine k_block ?_ | refine k_inBlock ?_ | refine k_skip ?_)
    refine k_true rfl ?_
    refine k_draw [(0, 0), (1, 0), (3, 0), (4, 0), (2, 1), (5, 1), (6, 0), (7, 1), (8, 1), (9, 0)] (by kernel_rfl) (by kernel_rfl) rfl (by kernel_rfl) ?_
    repeat(first|refine d_nil ?_|(refine d_open rfl ?_;first|((first|refine x_pass (wants_no rfl rfl rfl ?_) rfl ?_ ?_|refine x_passNow (wants_no rfl rfl rfl ?_) rfl ?_ ?_);(focus(first|rfl|assumption|(simp;done)|(simp;omega)));(focus(first|exact St.refl _|assumption)))|((first|refine x_pass (wants_not rfl rfl rfl) rfl ?_ ?_|refine x_passNow (wants_not rfl rfl rfl) rfl ?_ ?_);(focus(first|exact St.refl _|assumption)))|((first|apply x_s|apply x_n);(focus(first|(constructor<;>first|rfl|omega)|(apply Ri.add3<;>first|rfl|omega)|(apply Ri.sub3<;>first|rfl|omega)|(apply Ri.conv3<;>first|rfl|omega)|(apply Ri.eqb<;>rfl)|(apply Ri.neb<;>rfl)|(apply Ri.pT;(focus rfl);(focus(first|rfl|assumption|(simp;done)|(simp;omega)));(focus rfl))|(apply Ri.pF;(focus rfl);(focus(first|rfl|assumption|(simp;done)|(simp;omega)));(focus rfl))));(focus(first|exact wants_none rfl|exact wants_yes rfl rfl rfl (by first|rfl|assumption|(simp;done)|(simp;omega))));(focus rfl);(focus(first|exact St.refl _|assumption)))))
    refine d_open rfl ?_; refine x_still (r_loadA (cs := [.int .i64 (slotAt m i).2.1, .slice Av (slotAt m i).2.2.length cv]) rfl rfl (by
      intro j u hu
      match j, hu with
      | 0, hu => cases hu; exact f1
      | 1, hu => cases hu; exact f2)) (wants_none rfl) rfl (by first | exact St.refl _ | assumption) ?_
    refine d_open rfl ?_; refine x_enter (n_call rfl) (wants_none rfl) rfl ((name_calls hlt').mono ?_)
    rintro _ w3 ⟨rfl, rfl⟩
    refine .inl ⟨St.refl _, ?_⟩
    refine d_open rfl ?_; refine x_enter (n_call rfl) (wants_none rfl) rfl ((twin_calls (kw3.sl hvs)).mono ?_)
    rintro _ w4 ⟨v4, rfl, k4, hO4⟩
    obtain ⟨A4, c4, rfl, _⟩ := hO4.form
    refine .inl ⟨k4.st, ?_⟩
    have hst4 := k4.st
    have z3 := k3.size
    have z4 := k4.size
    refine d_open rfl ?_; refine x_still (r_build (c := #[.int .i32 (nameM i), .int .i64 (slotAt m i).2.1, .slice A4 (slotAt m i).2.2.length c4]) rfl rfl) (wants_none rfl) rfl (by first | exact St.refl _ | assumption) ?_
    refine d_open rfl ?_; refine x_any (e_one (z := .agg #[.int .i32 0, .int .i64 0, .slice none 0 0]) (sz := 3) rfl rfl rfl (by decide)) (wants_none rfl) rfl ?_
    rintro _ w5 ⟨g5, rfl, nb5⟩
    have k5 : Kn w3 w5 := k4.trans nb5.kn
    refine .inl ⟨k5.st, ?_⟩
    have hst5 := k5.st
    have e5 := nb5.ge
    have hnb : -2147483648 ≤ nameM i ∧ nameM i ≤ 2147483647 := by unfold nameM; split <;> (try split) <;> (try split) <;> omega
    have hO5 := Kn.ow k5 hO3
    have hlast : Sl kNamed (noB w3) w5 (.slice (some ⟨g5, 0, none⟩) 1 1) [(nameM i, (slotAt m i).2)] := sl_blk (d := kNamed) (xs := [(nameM i, (slotAt m i).2)]) (cells := [.int .i32 (nameM i), .int .i64 (slotAt m i).2.1, .slice A4 (slotAt m i).2.2.length c4]) nb5.at_
      ⟨_, [], rfl, ⟨[.int .i32 (nameM i)], _, rfl, ⟨rfl, hnb.1, hnb.2⟩, [.int .i64 (slotAt m i).2.1], _, rfl, ⟨rfl, hlo, hhi⟩, _, rfl, (nb5.kn.sl (hO4.slF (F' := noB w3) (fun _ h => h) fun _ h => h))⟩, rfl⟩ (by simp only [noB]; omega) (show 1 * 40 ≤ 140737488355328 by decide)
    refine d_open rfl ?_; refine x_any (e_append2 (d := kNamed) rfl rfl hO5 hlast (by
      intro k hk hek
      have := (hO3.block k hek).2
      simp only [noB] at hk
      omega) (by show ((allFrom m i).length + 1) * 40 ≤ 140737488355328; omega) rfl rfl rfl) (wants_none rfl) rfl ?_
    rintro v6 w6 hA
    obtain ⟨A6, c6, rfl, _⟩ := hA.ow.form
    have kn6 : Kn w w6 := Kp.then (kw3.trans k5) hA.kp (fun _ h => h) fun k hk hek => by have := (hO3.block k hek).1; simp only [noB] at this; omega
    refine .inr ⟨(by kernel_rfl), ?_⟩
    repeat(first|refine d_nil ?_|(refine d_open rfl ?_;first|((first|refine x_pass (wants_no rfl rfl rfl ?_) rfl ?_ ?_|refine x_passNow (wants_no rfl rfl rfl ?_) rfl ?_ ?_);(focus(first|rfl|assumption|(simp;done)|(simp;omega)));(focus(first|exact St.refl _|assumption)))|((first|refine x_pass (wants_not rfl rfl rfl) rfl ?_ ?_|refine x_passNow (wants_not rfl rfl rfl) rfl ?_ ?_);(focus(first|exact St.refl _|assumption)))|((first|apply x_s|apply x_n);(focus(first|(constructor<;>first|rfl|omega)|(apply Ri.add3<;>first|rfl|omega)|(apply Ri.sub3<;>first|rfl|omega)|(apply Ri.conv3<;>first|rfl|omega)|(apply Ri.eqb<;>rfl)|(apply Ri.neb<;>rfl)|(apply Ri.pT;(focus rfl);(focus(first|rfl|assumption|(simp;done)|(simp;omega)));(focus rfl))|(apply Ri.pF;(focus rfl);(focus(first|rfl|assumption|(simp;done)|(simp;omega)));(focus rfl))));(focus(first|exact wants_none rfl|exact wants_yes rfl rfl rfl (by first|rfl|assumption|(simp;done)|(simp;omega))));(focus rfl);(focus(first|exact St.refl _|assumption)))))
    rw [← he] at *
    refine nxt w6 A6 c6 kn6 ?_ _ ?_
    · refine hA.ow.mono (fun k hk _ => ?_) (fun k hk _ => ?_)
      · rcases hk with hk | hk
        · exact hk
        · simp only [noB]; have := kw3.size; have := k5.size; omega
      · rcases hk with hk | hk
        · exact hk
        · simp only [noB] at hk ⊢; have := kw3.size; omega
    · exact (by repeat (first | exact SubB.nil | refine SubB.cons rfl ?_))
end Go.Ink
