/-
  The reference: run, words.
-/
import Derived.Test.YtabmggnljijhkaaP5
set_option linter.unusedVariables false
set_option linter.unusedSimpArgs false
namespace Go.Ink
open Go Go.Proofs

theorem runs_next {x : List Int} {big : Bool} {k : Nat} (hk : k < (runsTo x big x.length).length) : k + 1 < (runsTo x big x.length).length ↔ (runsTo x big x.length)[k] < x.length := by
  have hp := runs_pair x big x.length
  constructor
  · intro h
    have h1 := List.pairwise_iff_getElem.1 hp k (k + 1) hk h (by omega)
    obtain ⟨i, hi, he, _⟩ := runs_mem (List.getElem_mem h)
    omega
  · intro h
    have hx : 0 < x.length := by
      obtain ⟨i, hi, he, _⟩ := runs_mem (List.getElem_mem hk)
      omega
    obtain ⟨j, hj, hje⟩ := List.mem_iff_getElem.1 (runs_last (big := big) hx)
    refine Nat.not_le.1 fun hle => ?_
    by_cases he : j = k
    · subst he; omega
    · have := List.pairwise_iff_getElem.1 hp j k hj hk (by omega)
      omega
theorem words_false {x : List Int} {big : Bool} {c a b : Nat} (hc : c < x.length) (hr : IsRun x big a b) (h1 : a ≤ c) (h2 : c ≤ b) : wordsM (runsTo x big x.length) x big c false = some ((a : Int), (b : Int)) := by
  obtain ⟨hk, a', b', e1, e2, e3, e4, e5⟩ := idx_run (big := big) hc
  obtain ⟨rfl, rfl⟩ := hr.eq e3 h1 h2 e4 e5
  unfold wordsM
  rw [if_neg (by omega), if_pos rfl, e1, getD_int hk, e2, Int.add_sub_cancel]
theorem words_true {x : List Int} {big : Bool} {c a b a2 b2 a0 b0 : Nat} (hc : c < x.length) (hr : IsRun x big a b) (h1 : a ≤ c) (h2 : c ≤ b)
    (hn : b + 1 < x.length → IsRun x big a2 b2 ∧ a2 ≤ b + 1 ∧ b + 1 ≤ b2) (hp : 0 < a → IsRun x big a0 b0 ∧ a0 ≤ a - 1 ∧ a - 1 ≤ b0) :
    wordsM (runsTo x big x.length) x big c true =
      if b + 1 < x.length ∧ (clsAt x big c = 0 ∨ clsAt x big (b + 1) = 0) then some ((a : Int), (b2 : Int))
      else if clsAt x big c = 0 then none
      else if 0 < a ∧ clsAt x big (a - 1) = 0 then some ((a0 : Int), (b : Int)) else some ((a : Int), (b : Int)) := by
  obtain ⟨hk, a', b', e1, e2, e3, e4, e5⟩ := idx_run (big := big) hc
  obtain ⟨rfl, rfl⟩ := hr.eq e3 h1 h2 e4 e5
  unfold wordsM
  generalize idxM (runsTo x big x.length) c = k at *
  rw [if_neg (by omega), if_neg (by decide)]
  have hcc := hr.same c h1 h2
  have hnx := runs_next hk
  rw [e2] at hnx
  have b1 : (blankM (runsTo x big x.length) x big k = true) ↔ clsAt x big c = 0 := by
    unfold blankM
    rw [decide_eq_true_eq, Int.toNat_natCast, e1, Int.toNat_natCast, hcc]
    exact ⟨fun h => h.2.2, fun h => ⟨by omega, by omega, h⟩⟩
  have b2' : (blankM (runsTo x big x.length) x big ((k : Int) + 1) = true) ↔ b + 1 < x.length ∧ clsAt x big (b + 1) = 0 := by
    unfold blankM
    rw [decide_eq_true_eq, show ((k : Int) + 1).toNat = k + 1 by omega, begin_succ hk, e2, show ((b : Int) + 1).toNat = b + 1 by omega]
    exact ⟨fun h => ⟨by have := hnx.1 (by omega); omega, h.2.2⟩, fun h => ⟨by omega, by have := hnx.2 (by omega); omega, h.2⟩⟩
  have b0' : (blankM (runsTo x big x.length) x big ((k : Int) - 1) = true) ↔ 0 < a ∧ clsAt x big (a - 1) = 0 := by
    unfold blankM
    rw [decide_eq_true_eq]
    by_cases hk0 : k = 0
    · subst hk0
      have : a = 0 := by unfold beginM at e1; rw [if_pos rfl] at e1; omega
      constructor
      · intro h; omega
      · intro h; omega
    · obtain ⟨j, rfl⟩ : ∃ j, k = j + 1 := ⟨k - 1, by omega⟩
      obtain ⟨aj, bj, f1, f2, f3⟩ := seg_run (x := x) (big := big) (k := j) (by omega)
      rw [begin_succ (by omega), f2] at e1
      have hfl := f3.le
      have hs := f3.same bj hfl (Nat.le_refl _)
      rw [show (((j + 1 : Nat) : Int) - 1) = (j : Nat) by omega, Int.toNat_natCast, f1, Int.toNat_natCast, ← hs, show a - 1 = bj by omega]
      exact ⟨fun h => ⟨by omega, h.2.2⟩, fun h => ⟨by omega, by omega, h.2⟩⟩
  have nxt : b + 1 < x.length → (runsTo x big x.length).getD (k + 1) 0 - 1 = (b2 : Int) := by
    intro h
    obtain ⟨g1, g2, g3⟩ := hn h
    have hk1 := hnx.2 (by omega)
    obtain ⟨ak, bk, f1, f2, f3⟩ := seg_run hk1
    rw [begin_succ hk, e2] at f1
    have := f3.le
    obtain ⟨rfl, rfl⟩ := g1.eq f3 g2 g3 (by omega) (by omega)
    rw [getD_int hk1, f2, Int.add_sub_cancel]
  have prv : 0 < a → beginM (runsTo x big x.length) (k - 1) = (a0 : Int) := by
    intro h
    obtain ⟨g1, g2, g3⟩ := hp h
    have hk0 : k ≠ 0 := by
      rintro rfl
      unfold beginM at e1; rw [if_pos rfl] at e1; omega
    obtain ⟨j, rfl⟩ : ∃ j, k = j + 1 := ⟨k - 1, by omega⟩
    obtain ⟨aj, bj, f1, f2, f3⟩ := seg_run (x := x) (big := big) (k := j) (by omega)
    rw [begin_succ (by omega), f2] at e1
    have := f3.le
    obtain ⟨rfl, rfl⟩ := g1.eq f3 g2 g3 (by omega) (by omega)
    rw [Nat.add_sub_cancel, f1]
  have hlast : k + 1 = (runsTo x big x.length).length ↔ ¬ b + 1 < x.length := by omega
  rw [e1, getD_int hk, e2, Int.add_sub_cancel]
  by_cases c1 : b + 1 < x.length ∧ (clsAt x big c = 0 ∨ clsAt x big (b + 1) = 0)
  · rw [if_pos c1, if_neg (fun h => hlast.1 h.2 c1.1), if_pos (by rcases c1.2 with h | h; exact .inl (b1.2 h); exact .inr (b2'.2 ⟨c1.1, h⟩)), nxt c1.1]
  · rw [if_neg c1]
    by_cases c2 : clsAt x big c = 0
    · rw [if_pos c2, if_pos ⟨b1.2 c2, hlast.2 fun h => c1 ⟨h, .inl c2⟩⟩]
    · rw [if_neg c2, if_neg (fun h => c2 (b1.1 h.1)), if_neg (by
        rintro (h | h)
        · exact c2 (b1.1 h)
        · exact c1 ⟨(b2'.1 h).1, .inr (b2'.1 h).2⟩)]
      by_cases c3 : 0 < a ∧ clsAt x big (a - 1) = 0
      · rw [if_pos c3, if_pos (b0'.2 c3), prv c3.1]
      · rw [if_neg c3, if_neg (fun h => c3 (b0'.1 h))]
section
variable {F : Nat → Prop} {w : World} {v : Value} {x : List Int} {big : Bool}
set_option maxHeartbeats 2000000 in
theorem runR_calls {c : Nat} (h : Sl kRune F w v x) (hc : c < x.length) (hx : x.length ≤ 1099511627776) : CallsR Try.prog 39 #[v, .int .i64 c, .bool big] w fun u w' => w' = w ∧ ∃ a b : Nat, u = .tuple #[.int .i64 a, .int .i64 b] ∧ IsRun x big a b ∧ a ≤ c ∧ c ≤ b := by
  obtain ⟨A, cA, rfl, hcA, hlf⟩ := h.form
  obtain ⟨ad, cs, rfl, ⟨rfl, -⟩, hcell⟩ := h.at_ (List.getElem?_eq_getElem hc)
  have cell : ∀ j, (hj : j < x.length) → w.cell? (ad.add (j * 1)) = some (.int .i32 x[j]) := by
    intro j hj
    obtain ⟨ad', cs', hAd, ⟨rfl, -⟩, hc'⟩ := h.at_ (List.getElem?_eq_getElem hj)
    cases hAd
    exact hc' 0 _ rfl
  have hcls : ∀ j, (hj : j < x.length) → classM x[j] big = clsAt x big j := fun j hj => by unfold clsAt; rw [getD_int hj]
  refine calls_enter Try.func39 rfl rfl ?_
  repeat(first|refine o_nil ?_|(refine o_pass (wants_no rfl rfl rfl ?_) rfl ?_;(focus(first|rfl|assumption|(simp;done)|(simp;omega))))|refine o_pass (wants_not rfl rfl rfl) rfl ?_|(refine o_yes (wants_yes rfl rfl rfl ?_) ?_;(focus(first|rfl|assumption|(simp;done)|(simp;omega))))|refine k_region ?_|(apply k_go;(focus(constructor<;>rfl)))|refine d_nil ?_|(apply o_s;(focus(first|(constructor<;>first|rfl|omega)|(apply Ri.add3<;>first|rfl|omega)|(apply Ri.sub3<;>first|rfl|omega)|(apply Ri.conv3<;>first|rfl|omega)|(apply Ri.eqb<;>rfl)|(apply Ri.neb<;>rfl)|(apply Ri.pT;(focus rfl);(focus(first|rfl|assumption|(simp;done)|(simp;omega)));(focus rfl))|(apply Ri.pF;(focus rfl);(focus(first|rfl|assumption|(simp;done)|(simp;omega)));(focus rfl))));(focus rfl)))
  refine o_still (r_index rfl rfl rfl (by omega) (by omega)) (wants_none rfl) rfl ?_
  refine o_still (r_load rfl (by rw [Int.toNat_natCast]; exact cell c hc)) (wants_none rfl) rfl ?_
  repeat(first|refine o_nil ?_|(refine o_pass (wants_no rfl rfl rfl ?_) rfl ?_;(focus(first|rfl|assumption|(simp;done)|(simp;omega))))|refine o_pass (wants_not rfl rfl rfl) rfl ?_|(refine o_yes (wants_yes rfl rfl rfl ?_) ?_;(focus(first|rfl|assumption|(simp;done)|(simp;omega))))|refine k_region ?_|(apply k_go;(focus(constructor<;>rfl)))|refine d_nil ?_|(apply o_s;(focus(first|(constructor<;>first|rfl|omega)|(apply Ri.add3<;>first|rfl|omega)|(apply Ri.sub3<;>first|rfl|omega)|(apply Ri.conv3<;>first|rfl|omega)|(apply Ri.eqb<;>rfl)|(apply Ri.neb<;>rfl)|(apply Ri.pT;(focus rfl);(focus(first|rfl|assumption|(simp;done)|(simp;omega)));(focus rfl))|(apply Ri.pF;(focus rfl);(focus(first|rfl|assumption|(simp;done)|(simp;omega)));(focus rfl))));(focus rfl)))
  refine o_enter (n_call rfl) (wants_none rfl) rfl ((classR_calls).mono ?_)
  rintro _ w ⟨rfl, rfl⟩
  rw [hcls c hc]
  generalize hK : clsAt x big c = K
  repeat(first|refine o_nil ?_|(refine o_pass (wants_no rfl rfl rfl ?_) rfl ?_;(focus(first|rfl|assumption|(simp;done)|(simp;omega))))|refine o_pass (wants_not rfl rfl rfl) rfl ?_|(refine o_yes (wants_yes rfl rfl rfl ?_) ?_;(focus(first|rfl|assumption|(simp;done)|(simp;omega))))|refine k_region ?_|(apply k_go;(focus(constructor<;>rfl)))|refine d_nil ?_|(apply o_s;(focus(first|(constructor<;>first|rfl|omega)|(apply Ri.add3<;>first|rfl|omega)|(apply Ri.sub3<;>first|rfl|omega)|(apply Ri.conv3<;>first|rfl|omega)|(apply Ri.eqb<;>rfl)|(apply Ri.neb<;>rfl)|(apply Ri.pT;(focus rfl);(focus(first|rfl|assumption|(simp;done)|(simp;omega)));(focus rfl))|(apply Ri.pF;(focus rfl);(focus(first|rfl|assumption|(simp;done)|(simp;omega)));(focus rfl))));(focus rfl)))
  refine k_while (fun a => a) (fun a : Nat => [(0, .slice (some ad) x.length cA), (2, .bool big), (8, .int .i64 K), (9, .int .i64 a), (10, .int .i64 c)])
    (fun a wr => wr = w ∧ a ≤ c ∧ ∀ i, a ≤ i → i ≤ c → clsAt x big i = K) c (by repeat (first | exact SubB.nil | refine SubB.cons rfl ?_)) ⟨rfl, Nat.le_refl _, fun i h1 h2 => by rw [show i = c by omega, hK]⟩ ?_
  rintro a w ⟨rfl, hac, hsame⟩ ih
  have out : (a = 0 ∨ clsAt x big (a - 1) ≠ K) → ∀ σ', SubB σ' [(0, .slice (some ad) x.length cA), (2, .bool big), (8, .int .i64 K), (9, .int .i64 a), (10, .int .i64 c)] →
      WK Try.prog Try.f39 [.code (bodyC Try.f39 [1, 1, 1, 1])] σ' w fun u w' => w' = w ∧ ∃ a b : Nat, u = .tuple #[.int .i64 a, .int .i64 b] ∧ IsRun x big a b ∧ a ≤ c ∧ c ≤ b := by
    intro hlo σ' hs
    refine WK.sub (Sub.mk hs) ?_
    clear hs σ' ih
    repeat(first|refine o_nil ?_|(refine o_pass (wants_no rfl rfl rfl ?_) rfl ?_;(focus(first|rfl|assumption|(simp;done)|(simp;omega))))|refine o_pass (wants_not rfl rfl rfl) rfl ?_|(refine o_yes (wants_yes rfl rfl rfl ?_) ?_;(focus(first|rfl|assumption|(simp;done)|(simp;omega))))|refine k_region ?_|(apply k_go;(focus(constructor<;>rfl)))|refine d_nil ?_|(apply o_s;(focus(first|(constructor<;>first|rfl|omega)|(apply Ri.add3<;>first|rfl|omega)|(apply Ri.sub3<;>first|rfl|omega)|(apply Ri.conv3<;>first|rfl|omega)|(apply Ri.eqb<;>rfl)|(apply Ri.neb<;>rfl)|(apply Ri.pT;(focus rfl);(focus(first|rfl|assumption|(simp;done)|(simp;omega)));(focus rfl))|(apply Ri.pF;(focus rfl);(focus(first|rfl|assumption|(simp;done)|(simp;omega)));(focus rfl))));(focus rfl)))
    refine k_while (fun b => x.length - b) (fun b : Nat => [(0, .slice (some ad) x.length cA), (2, .bool big), (8, .int .i64 K), (9, .int .i64 a), (10, .int .i64 b)])
      (fun b wr => wr = w ∧ c ≤ b ∧ b < x.length ∧ ∀ i, c ≤ i → i ≤ b → clsAt x big i = K) c (by repeat (first | exact SubB.nil | refine SubB.cons rfl ?_)) ⟨rfl, Nat.le_refl _, hc, fun i h1 h2 => by rw [show i = c by omega, hK]⟩ ?_
    rintro b w ⟨rfl, hcb, hbl, hsame2⟩ ih
    have fin : (b + 1 = x.length ∨ clsAt x big (b + 1) ≠ K) → IsRun x big a b := fun hhi => by
      have ha : clsAt x big a = K := hsame a (Nat.le_refl _) hac
      refine ⟨by omega, hbl, fun i h1 h2 => ?_, by rw [ha]; exact hlo, by rw [ha]; exact hhi⟩
      rw [ha]
      by_cases h : i ≤ c
      · exact hsame i h1 h
      · exact hsame2 i (by omega) h2
    by_cases hlt : b + 1 < x.length
    · repeat(first|refine o_nil ?_|(refine o_pass (wants_no rfl rfl rfl ?_) rfl ?_;(focus(first|rfl|assumption|(simp;done)|(simp;omega))))|refine o_pass (wants_not rfl rfl rfl) rfl ?_|(refine o_yes (wants_yes rfl rfl rfl ?_) ?_;(focus(first|rfl|assumption|(simp;done)|(simp;omega))))|refine k_region ?_|(apply k_go;(focus(constructor<;>rfl)))|refine d_nil ?_|(apply o_s;(focus(first|(constructor<;>first|rfl|omega)|(apply Ri.add3<;>first|rfl|omega)|(apply Ri.sub3<;>first|rfl|omega)|(apply Ri.conv3<;>first|rfl|omega)|(apply Ri.eqb<;>rfl)|(apply Ri.neb<;>rfl)|(apply Ri.pT;(focus rfl);(focus(first|rfl|assumption|(simp;done)|(simp;omega)));(focus rfl))|(apply Ri.pF;(focus rfl);(focus(first|rfl|assumption|(simp;done)|(simp;omega)));(focus rfl))));(focus rfl)))
      refine o_still (r_index rfl rfl rfl (by omega) (by omega)) (wants_none rfl) rfl ?_
      refine o_still (r_load rfl (by rw [show ((b : Int) + 1).toNat = b + 1 by omega]; exact cell (b + 1) hlt)) (wants_yes rfl rfl rfl (by first | rfl | assumption | (simp; done) | (simp; omega))) rfl ?_
      repeat(first|refine o_nil ?_|(refine o_pass (wants_no rfl rfl rfl ?_) rfl ?_;(focus(first|rfl|assumption|(simp;done)|(simp;omega))))|refine o_pass (wants_not rfl rfl rfl) rfl ?_|(refine o_yes (wants_yes rfl rfl rfl ?_) ?_;(focus(first|rfl|assumption|(simp;done)|(simp;omega))))|refine k_region ?_|(apply k_go;(focus(constructor<;>rfl)))|refine d_nil ?_|(apply o_s;(focus(first|(constructor<;>first|rfl|omega)|(apply Ri.add3<;>first|rfl|omega)|(apply Ri.sub3<;>first|rfl|omega)|(apply Ri.conv3<;>first|rfl|omega)|(apply Ri.eqb<;>rfl)|(apply Ri.neb<;>rfl)|(apply Ri.pT;(focus rfl);(focus(first|rfl|assumption|(simp;done)|(simp;omega)));(focus rfl))|(apply Ri.pF;(focus rfl);(focus(first|rfl|assumption|(simp;done)|(simp;omega)));(focus rfl))));(focus rfl)))
      refine o_enter (n_call rfl) (wants_none rfl) rfl ((classR_calls).mono ?_)
      rintro _ w ⟨rfl, rfl⟩
      rw [hcls _ hlt]
      by_cases hk : clsAt x big (b + 1) = K
      · rw [hk]
        repeat(first|refine o_nil ?_|(refine o_pass (wants_no rfl rfl rfl ?_) rfl ?_;(focus(first|rfl|assumption|(simp;done)|(simp;omega))))|refine o_pass (wants_not rfl rfl rfl) rfl ?_|(refine o_yes (wants_yes rfl rfl rfl ?_) ?_;(focus(first|rfl|assumption|(simp;done)|(simp;omega))))|refine k_region ?_|(apply k_go;(focus(constructor<;>rfl)))|refine d_nil ?_|(apply o_s;(focus(first|(constructor<;>first|rfl|omega)|(apply Ri.add3<;>first|rfl|omega)|(apply Ri.sub3<;>first|rfl|omega)|(apply Ri.conv3<;>first|rfl|omega)|(apply Ri.eqb<;>rfl)|(apply Ri.neb<;>rfl)|(apply Ri.pT;(focus rfl);(focus(first|rfl|assumption|(simp;done)|(simp;omega)));(focus rfl))|(apply Ri.pF;(focus rfl);(focus(first|rfl|assumption|(simp;done)|(simp;omega)));(focus rfl))));(focus rfl)))
        refine k_yes rfl rfl ?_
        repeat(first|refine o_nil ?_|(refine o_pass (wants_no rfl rfl rfl ?_) rfl ?_;(focus(first|rfl|assumption|(simp;done)|(simp;omega))))|refine o_pass (wants_not rfl rfl rfl) rfl ?_|(refine o_yes (wants_yes rfl rfl rfl ?_) ?_;(focus(first|rfl|assumption|(simp;done)|(simp;omega))))|refine k_region ?_|(apply k_go;(focus(constructor<;>rfl)))|refine d_nil ?_|(apply o_s;(focus(first|(constructor<;>first|rfl|omega)|(apply Ri.add3<;>first|rfl|omega)|(apply Ri.sub3<;>first|rfl|omega)|(apply Ri.conv3<;>first|rfl|omega)|(apply Ri.eqb<;>rfl)|(apply Ri.neb<;>rfl)|(apply Ri.pT;(focus rfl);(focus(first|rfl|assumption|(simp;done)|(simp;omega)));(focus rfl))|(apply Ri.pF;(focus rfl);(focus(first|rfl|assumption|(simp;done)|(simp;omega)));(focus rfl))));(focus rfl)))
        exact ih (b + 1) w ⟨rfl, by omega, hlt, fun i h1 h2 => by
          by_cases he : i = b + 1
          · rw [he, hk]
          · exact hsame2 i h1 (by omega)⟩ (by omega) _ (by repeat (first | exact SubB.nil | refine SubB.cons rfl ?_))
      · repeat(first|refine o_nil ?_|(refine o_pass (wants_no rfl rfl rfl ?_) rfl ?_;(focus(first|rfl|assumption|(simp;done)|(simp;omega))))|refine o_pass (wants_not rfl rfl rfl) rfl ?_|(refine o_yes (wants_yes rfl rfl rfl ?_) ?_;(focus(first|rfl|assumption|(simp;done)|(simp;omega))))|refine k_region ?_|(apply k_go;(focus(constructor<;>rfl)))|refine d_nil ?_|(apply o_s;(focus(first|(constructor<;>first|rfl|omega)|(apply Ri.add3<;>first|rfl|omega)|(apply Ri.sub3<;>first|rfl|omega)|(apply Ri.conv3<;>first|rfl|omega)|(apply Ri.eqb<;>rfl)|(apply Ri.neb<;>rfl)|(apply Ri.pT;(focus rfl);(focus(first|rfl|assumption|(simp;done)|(simp;omega)));(focus rfl))|(apply Ri.pF;(focus rfl);(focus(first|rfl|assumption|(simp;done)|(simp;omega)));(focus rfl))));(focus rfl)))
        refine k_no rfl hk ?_
        repeat(first|refine o_nil ?_|(refine o_pass (wants_no rfl rfl rfl ?_) rfl ?_;(focus(first|rfl|assumption|(simp;done)|(simp;omega))))|refine o_pass (wants_not rfl rfl rfl) rfl ?_|(refine o_yes (wants_yes rfl rfl rfl ?_) ?_;(focus(first|rfl|assumption|(simp;done)|(simp;omega))))|refine k_region ?_|(apply k_go;(focus(constructor<;>rfl)))|refine d_nil ?_|(apply o_s;(focus(first|(constructor<;>first|rfl|omega)|(apply Ri.add3<;>first|rfl|omega)|(apply Ri.sub3<;>first|rfl|omega)|(apply Ri.conv3<;>first|rfl|omega)|(apply Ri.eqb<;>rfl)|(apply Ri.neb<;>rfl)|(apply Ri.pT;(focus rfl);(focus(first|rfl|assumption|(simp;done)|(simp;omega)));(focus rfl))|(apply Ri.pF;(focus rfl);(focus(first|rfl|assumption|(simp;done)|(simp;omega)));(focus rfl))));(focus rfl)))
        exact k_ret2 rfl rfl rfl ⟨rfl, a, b, rfl, fin (.inr hk), hac, hcb⟩
    · repeat(first|refine o_nil ?_|(refine o_pass (wants_no rfl rfl rfl ?_) rfl ?_;(focus(first|rfl|assumption|(simp;done)|(simp;omega))))|refine o_pass (wants_not rfl rfl rfl) rfl ?_|(refine o_yes (wants_yes rfl rfl rfl ?_) ?_;(focus(first|rfl|assumption|(simp;done)|(simp;omega))))|refine k_region ?_|(apply k_go;(focus(constructor<;>rfl)))|refine d_nil ?_|(apply o_s;(focus(first|(constructor<;>first|rfl|omega)|(apply Ri.add3<;>first|rfl|omega)|(apply Ri.sub3<;>first|rfl|omega)|(apply Ri.conv3<;>first|rfl|omega)|(apply Ri.eqb<;>rfl)|(apply Ri.neb<;>rfl)|(apply Ri.pT;(focus rfl);(focus(first|rfl|assumption|(simp;done)|(simp;omega)));(focus rfl))|(apply Ri.pF;(focus rfl);(focus(first|rfl|assumption|(simp;done)|(simp;omega)));(focus rfl))));(focus rfl)))
      refine k_false rfl ?_
      repeat(first|refine o_nil ?_|(refine o_pass (wants_no rfl rfl rfl ?_) rfl ?_;(focus(first|rfl|assumption|(simp;done)|(simp;omega))))|refine o_pass (wants_not rfl rfl rfl) rfl ?_|(refine o_yes (wants_yes rfl rfl rfl ?_) ?_;(focus(first|rfl|assumption|(simp;done)|(simp;omega))))|refine k_region ?_|(apply k_go;(focus(constructor<;>rfl)))|refine d_nil ?_|(apply o_s;(focus(first|(constructor<;>first|rfl|omega)|(apply Ri.add3<;>first|rfl|omega)|(apply Ri.sub3<;>first|rfl|omega)|(apply Ri.conv3<;>first|rfl|omega)|(apply Ri.eqb<;>rfl)|(apply Ri.neb<;>rfl)|(apply Ri.pT;(focus rfl);(focus(first|rfl|assumption|(simp;done)|(simp;omega)));(focus rfl))|(apply Ri.pF;(focus rfl);(focus(first|rfl|assumption|(simp;done)|(simp;omega)));(focus rfl))));(focus rfl)))
      exact k_ret2 rfl rfl rfl ⟨rfl, a, b, rfl, fin (.inl (by omega)), hac, hcb⟩
  by_cases ha : 0 < a
  · repeat(first|refine o_nil ?_|(refine o_pass (wants_no rfl rfl rfl ?_) rfl ?_;(focus(first|rfl|assumption|(simp;done)|(simp;omega))))|refine o_pass (wants_not rfl rfl rfl) rfl ?_|(refine o_yes (wants_yes rfl rfl rfl ?_) ?_;(focus(first|rfl|assumption|(simp;done)|(simp;omega))))|refine k_region ?_|(apply k_go;(focus(constructor<;>rfl)))|refine d_nil ?_|(apply o_s;(focus(first|(constructor<;>first|rfl|omega)|(apply Ri.add3<;>first|rfl|omega)|(apply Ri.sub3<;>first|rfl|omega)|(apply Ri.conv3<;>first|rfl|omega)|(apply Ri.eqb<;>rfl)|(apply Ri.neb<;>rfl)|(apply Ri.pT;(focus rfl);(focus(first|rfl|assumption|(simp;done)|(simp;omega)));(focus rfl))|(apply Ri.pF;(focus rfl);(focus(first|rfl|assumption|(simp;done)|(simp;omega)));(focus rfl))));(focus rfl)))
    refine o_still (r_index rfl rfl rfl (by omega) (by omega)) (wants_none rfl) rfl ?_
    refine o_still (r_load rfl (by rw [show ((a : Int) - 1).toNat = a - 1 by omega]; exact cell (a - 1) (by omega))) (wants_yes rfl rfl rfl (by first | rfl | assumption | (simp; done) | (simp; omega))) rfl ?_
    repeat(first|refine o_nil ?_|(refine o_pass (wants_no rfl rfl rfl ?_) rfl ?_;(focus(first|rfl|assumption|(simp;done)|(simp;omega))))|refine o_pass (wants_not rfl rfl rfl) rfl ?_|(refine o_yes (wants_yes rfl rfl rfl ?_) ?_;(focus(first|rfl|assumption|(simp;done)|(simp;omega))))|refine k_region ?_|(apply k_go;(focus(constructor<;>rfl)))|refine d_nil ?_|(apply o_s;(focus(first|(constructor<;>first|rfl|omega)|(apply Ri.add3<;>first|rfl|omega)|(apply Ri.sub3<;>first|rfl|omega)|(apply Ri.conv3<;>first|rfl|omega)|(apply Ri.eqb<;>rfl)|(apply Ri.neb<;>rfl)|(apply Ri.pT;(focus rfl);(focus(first|rfl|assumption|(simp;done)|(simp;omega)));(focus rfl))|(apply Ri.pF;(focus rfl);(focus(first|rfl|assumption|(simp;done)|(simp;omega)));(focus rfl))));(focus rfl)))
    refine o_enter (n_call rfl) (wants_none rfl) rfl ((classR_calls).mono ?_)
    rintro _ w ⟨rfl, rfl⟩
    rw [hcls _ (by omega)]
    by_cases hk : clsAt x big (a - 1) = K
    · rw [hk]
      repeat(first|refine o_nil ?_|(refine o_pass (wants_no rfl rfl rfl ?_) rfl ?_;(focus(first|rfl|assumption|(simp;done)|(simp;omega))))|refine o_pass (wants_not rfl rfl rfl) rfl ?_|(refine o_yes (wants_yes rfl rfl rfl ?_) ?_;(focus(first|rfl|assumption|(simp;done)|(simp;omega))))|refine k_region ?_|(apply k_go;(focus(constructor<;>rfl)))|refine d_nil ?_|(apply o_s;(focus(first|(constructor<;>first|rfl|omega)|(apply Ri.add3<;>first|rfl|omega)|(apply Ri.sub3<;>first|rfl|omega)|(apply Ri.conv3<;>first|rfl|omega)|(apply Ri.eqb<;>rfl)|(apply Ri.neb<;>rfl)|(apply Ri.pT;(focus rfl);(focus(first|rfl|assumption|(simp;done)|(simp;omega)));(focus rfl))|(apply Ri.pF;(focus rfl);(focus(first|rfl|assumption|(simp;done)|(simp;omega)));(focus rfl))));(focus rfl)))
      refine k_yes rfl rfl ?_
      repeat(first|refine o_nil ?_|(refine o_pass (wants_no rfl rfl rfl ?_) rfl ?_;(focus(first|rfl|assumption|(simp;done)|(simp;omega))))|refine o_pass (wants_not rfl rfl rfl) rfl ?_|(refine o_yes (wants_yes rfl rfl rfl ?_) ?_;(focus(first|rfl|assumption|(simp;done)|(simp;omega))))|refine k_region ?_|(apply k_go;(focus(constructor<;>rfl)))|refine d_nil ?_|(apply o_s;(focus(first|(constructor<;>first|rfl|omega)|(apply Ri.add3<;>first|rfl|omega)|(apply Ri.sub3<;>first|rfl|omega)|(apply Ri.conv3<;>first|rfl|omega)|(apply Ri.eqb<;>rfl)|(apply Ri.neb<;>rfl)|(apply Ri.pT;(focus rfl);(focus(first|rfl|assumption|(simp;done)|(simp;omega)));(focus rfl))|(apply Ri.pF;(focus rfl);(focus(first|rfl|assumption|(simp;done)|(simp;omega)));(focus rfl))));(focus rfl)))
      exact ih (a - 1) w ⟨rfl, by omega, fun i h1 h2 => by
        by_cases he : i = a - 1
        · rw [he, hk]
        · exact hsame i (by omega) h2⟩ (by omega) _ (by rw [show ((a - 1 : Nat) : Int) = (a : Int) - 1 by omega]; exact (by repeat (first | exact SubB.nil | refine SubB.cons rfl ?_)))
    · repeat(first|refine o_nil ?_|(refine o_pass (wants_no rfl rfl rfl ?_) rfl ?_;(focus(first|rfl|assumption|(simp;done)|(simp;omega))))|refine o_pass (wants_not rfl rfl rfl) rfl ?_|(refine o_yes (wants_yes rfl rfl rfl ?_) ?_;(focus(first|rfl|assumption|(simp;done)|(simp;omega))))|refine k_region ?_|(apply k_go;(focus(constructor<;>rfl)))|refine d_nil ?_|(apply o_s;(focus(first|(constructor<;>first|rfl|omega)|(apply Ri.add3<;>first|rfl|omega)|(apply Ri.sub3<;>first|rfl|omega)|(apply Ri.conv3<;>first|rfl|omega)|(apply Ri.eqb<;>rfl)|(apply Ri.neb<;>rfl)|(apply Ri.pT;(focus rfl);(focus(first|rfl|assumption|(simp;done)|(simp;omega)));(focus rfl))|(apply Ri.pF;(focus rfl);(focus(first|rfl|assumption|(simp;done)|(simp;omega)));(focus rfl))));(focus rfl)))
      refine k_no rfl hk ?_
      refine k_exit rfl ?_
      exact out (.inr hk) _ (by repeat (first | exact SubB.nil | refine SubB.cons rfl ?_))
  · repeat(first|refine o_nil ?_|(refine o_pass (wants_no rfl rfl rfl ?_) rfl ?_;(focus(first|rfl|assumption|(simp;done)|(simp;omega))))|refine o_pass (wants_not rfl rfl rfl) rfl ?_|(refine o_yes (wants_yes rfl rfl rfl ?_) ?_;(focus(first|rfl|assumption|(simp;done)|(simp;omega))))|refine k_region ?_|(apply k_go;(focus(constructor<;>rfl)))|refine d_nil ?_|(apply o_s;(focus(first|(constructor<;>first|rfl|omega)|(apply Ri.add3<;>first|rfl|omega)|(apply Ri.sub3<;>first|rfl|omega)|(apply Ri.conv3<;>first|rfl|omega)|(apply Ri.eqb<;>rfl)|(apply Ri.neb<;>rfl)|(apply Ri.pT;(focus rfl);(focus(first|rfl|assumption|(simp;done)|(simp;omega)));(focus rfl))|(apply Ri.pF;(focus rfl);(focus(first|rfl|assumption|(simp;done)|(simp;omega)));(focus rfl))));(focus rfl)))
    refine k_false rfl ?_
    refine k_exit rfl ?_
    exact out (.inl (by omega)) _ (by repeat (first | exact SubB.nil | refine SubB.cons rfl ?_))
end
end Go.Ink
