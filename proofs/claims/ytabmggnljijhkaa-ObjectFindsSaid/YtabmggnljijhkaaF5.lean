/-
  object.runs, words.
-/
import Derived.Test.YtabmggnljijhkaaF4
set_option linter.unusedVariables false
set_option linter.unusedSimpArgs false
namespace Go.Ink
open Go Go.Proofs

def clsAt (x : List Int) (big : Bool) (i : Nat) : Int := classM (x.getD i 0) big
def endAt (x : List Int) (big : Bool) (i : Nat) : Bool := decide (i + 1 = x.length ∨ clsAt x big i ≠ clsAt x big (i + 1))
def runsTo (x : List Int) (big : Bool) (n : Nat) : List Int := ((List.range n).filter (endAt x big)).map fun i : Nat => (i : Int) + 1
theorem runsTo_succ (x : List Int) (big : Bool) (n : Nat) : runsTo x big (n + 1) = runsTo x big n ++ (if endAt x big n = true then [(n : Int) + 1] else []) := by
  unfold runsTo
  rw [List.range_succ, List.filter_append, List.map_append]
  congr 1
  by_cases h : endAt x big n = true <;> simp [h]
theorem runsTo_le (x : List Int) (big : Bool) (n : Nat) : (runsTo x big n).length ≤ n := by
  unfold runsTo
  rw [List.length_map]
  exact Nat.le_trans (List.length_filter_le _ _) (by simp)
theorem runs_mem {x : List Int} {big : Bool} {n : Nat} {e : Int} (h : e ∈ runsTo x big n) : ∃ i : Nat, i < n ∧ e = (i : Int) + 1 ∧ endAt x big i = true := by
  unfold runsTo at h
  obtain ⟨i, hi, rfl⟩ := List.mem_map.1 h
  rw [List.mem_filter] at hi
  exact ⟨i, by simpa using hi.1, rfl, hi.2⟩
theorem runs_pair (x : List Int) (big : Bool) (n : Nat) : (runsTo x big n).Pairwise (· < ·) := by
  unfold runsTo
  rw [List.pairwise_map]
  exact (List.pairwise_lt_range.filter _).imp fun h => by omega
def beginM (E : List Int) (k : Nat) : Int := if k = 0 then 0 else E.getD (k - 1) 0
theorem getD_int {E : List Int} {k : Nat} (h : k < E.length) : E.getD k 0 = E[k] := by rw [List.getD_eq_getElem?_getD, List.getElem?_eq_getElem h]; rfl
theorem runs_begin {x : List Int} {big : Bool} {n k : Nat} (h : k < (runsTo x big n).length) : 0 ≤ beginM (runsTo x big n) k ∧ beginM (runsTo x big n) k < (runsTo x big n)[k] ∧ (runsTo x big n)[k] ≤ n := by
  obtain ⟨i, hi, he, _⟩ := runs_mem (List.getElem_mem h)
  unfold beginM
  by_cases h0 : k = 0
  · rw [if_pos h0]; omega
  · rw [if_neg h0, getD_int (by omega)]
    obtain ⟨j, hj, he', _⟩ := runs_mem (List.getElem_mem (show k - 1 < (runsTo x big n).length by omega))
    have := List.pairwise_iff_getElem.1 (runs_pair x big n) (k - 1) k (by omega) h (by omega)
    omega
section
variable {F : Nat → Prop} {w : World} {v : Value} {x : List Int} {big : Bool}
structure RuSt where
  i : Nat
  A : Option Addr
  c : Nat
set_option maxHeartbeats 1000000 in
theorem runs_calls (h : Sl kRune F w v x) (hx : x.length ≤ 1099511627776) : CallsR Try.prog 30 #[v, .bool big] w fun u w' => Kn w w' ∧ ∃ A c, u = .slice A (runsTo x big x.length).length c ∧ Ow kI64 (noB w) (fun _ => False) w' (.slice A (runsTo x big x.length).length c) (runsTo x big x.length) := by
  obtain ⟨A, c, rfl, hc, hlf⟩ := h.form
  refine calls_enter Try.func30 rfl rfl ?_
  repeat(first|refine o_nil ?_|(refine o_pass (wants_no rfl rfl rfl ?_) rfl ?_;(focus(first|rfl|assumption|(simp;done)|(simp;omega))))|refine o_pass (wants_not rfl rfl rfl) rfl ?_|(refine o_yes (wants_yes rfl rfl rfl ?_) ?_;(focus(first|rfl|assumption|(simp;done)|(simp;omega))))|refine k_region ?_|(apply k_go;(focus(constructor<;>rfl)))|refine d_nil ?_|(apply o_s;(focus(first|(constructor<;>first|rfl|omega)|(apply Ri.add3<;>first|rfl|omega)|(apply Ri.sub3<;>first|rfl|omega)|(apply Ri.conv3<;>first|rfl|omega)|(apply Ri.eqb<;>rfl)|(apply Ri.neb<;>rfl)|(apply Ri.pT;(focus rfl);(focus(first|rfl|assumption|(simp;done)|(simp;omega)));(focus rfl))|(apply Ri.pF;(focus rfl);(focus(first|rfl|assumption|(simp;done)|(simp;omega)));(focus rfl))));(focus rfl)))
  refine k_while (S := RuSt) (fun s => x.length - s.i) (fun s => [(0, .slice A x.length c), (1, .bool big), (5, .slice s.A (runsTo x big s.i).length s.c), (8, .int .i64 x.length), (9, .int .i64 s.i)])
    (fun s wr => s.i ≤ x.length ∧ Kn w wr ∧ Ow kI64 (noB w) (fun _ => False) wr (.slice s.A (runsTo x big s.i).length s.c) (runsTo x big s.i)) ⟨0, none, 0⟩ (by repeat (first | exact SubB.nil | refine SubB.cons rfl ?_)) ⟨Nat.zero_le _, Kp.refl _ _, Ow.nil _ _ _ _⟩ ?_
  rintro ⟨i, B, cB⟩ wr ⟨hi, hkn, hO⟩ ih
  simp only at hi hkn hO ih ⊢
  have hle := runsTo_le x big i
  have hsu := runsTo_succ x big i
  repeat(first|refine o_nil ?_|(refine o_pass (wants_no rfl rfl rfl ?_) rfl ?_;(focus(first|rfl|assumption|(simp;done)|(simp;omega))))|refine o_pass (wants_not rfl rfl rfl) rfl ?_|(refine o_yes (wants_yes rfl rfl rfl ?_) ?_;(focus(first|rfl|assumption|(simp;done)|(simp;omega))))|refine k_region ?_|(apply k_go;(focus(constructor<;>rfl)))|refine d_nil ?_|(apply o_s;(focus(first|(constructor<;>first|rfl|omega)|(apply Ri.add3<;>first|rfl|omega)|(apply Ri.sub3<;>first|rfl|omega)|(apply Ri.conv3<;>first|rfl|omega)|(apply Ri.eqb<;>rfl)|(apply Ri.neb<;>rfl)|(apply Ri.pT;(focus rfl);(focus(first|rfl|assumption|(simp;done)|(simp;omega)));(focus rfl))|(apply Ri.pF;(focus rfl);(focus(first|rfl|assumption|(simp;done)|(simp;omega)));(focus rfl))));(focus rfl)))
  refine k_ite rfl (fun hlt => ?_) (fun hge => ?_)
  case refine_2 =>
    obtain rfl : i = x.length := by omega
    repeat(first|refine o_nil ?_|(refine o_pass (wants_no rfl rfl rfl ?_) rfl ?_;(focus(first|rfl|assumption|(simp;done)|(simp;omega))))|refine o_pass (wants_not rfl rfl rfl) rfl ?_|(refine o_yes (wants_yes rfl rfl rfl ?_) ?_;(focus(first|rfl|assumption|(simp;done)|(simp;omega))))|refine k_region ?_|(apply k_go;(focus(constructor<;>rfl)))|refine d_nil ?_|(apply o_s;(focus(first|(constructor<;>first|rfl|omega)|(apply Ri.add3<;>first|rfl|omega)|(apply Ri.sub3<;>first|rfl|omega)|(apply Ri.conv3<;>first|rfl|omega)|(apply Ri.eqb<;>rfl)|(apply Ri.neb<;>rfl)|(apply Ri.pT;(focus rfl);(focus(first|rfl|assumption|(simp;done)|(simp;omega)));(focus rfl))|(apply Ri.pF;(focus rfl);(focus(first|rfl|assumption|(simp;done)|(simp;omega)));(focus rfl))));(focus rfl)))
    exact k_ret1 rfl rfl ⟨hkn, B, cB, rfl, hO⟩
  have hlt' : i < x.length := by omega
  obtain ⟨ad, cs, rfl, ⟨rfl, hr⟩, hcell⟩ := h.at_ (List.getElem?_eq_getElem hlt')
  have J : ∀ (B2 : Option Addr) (c2 : Nat) (w2 : World), Kn w w2 → Ow kI64 (noB w) (fun _ => False) w2 (.slice B2 (runsTo x big (i + 1)).length c2) (runsTo x big (i + 1)) →
      ∀ σ', SubB σ' [(0, .slice (some ad) x.length c), (1, .bool big), (5, .slice B2 (runsTo x big (i + 1)).length c2), (8, .int .i64 x.length), (9, .int .i64 i)] → WK Try.prog Try.f30 [.inBlock 1, .code (bodyC Try.f30 [1, 1, 0, 1, 0, 0, 1, 1, 1]), .inLoop (bodyC Try.f30 [1, 1, 0, 1, 0, 0]), .inBlock 0, .code (bodyC Try.f30 [1, 1, 1])] σ' w2 fun u w' => Kn w w' ∧ ∃ A c, u = .slice A (runsTo x big x.length).length c ∧ Ow kI64 (noB w) (fun _ => False) w' (.slice A (runsTo x big x.length).length c) (runsTo x big x.length) := by
    intro B2 c2 w2 k2 hO2 σ' hs
    refine WK.sub (Sub.mk hs) ?_
    repeat(first|refine o_nil ?_|(refine o_pass (wants_no rfl rfl rfl ?_) rfl ?_;(focus(first|rfl|assumption|(simp;done)|(simp;omega))))|refine o_pass (wants_not rfl rfl rfl) rfl ?_|(refine o_yes (wants_yes rfl rfl rfl ?_) ?_;(focus(first|rfl|assumption|(simp;done)|(simp;omega))))|refine k_region ?_|(apply k_go;(focus(constructor<;>rfl)))|refine d_nil ?_|(apply o_s;(focus(first|(constructor<;>first|rfl|omega)|(apply Ri.add3<;>first|rfl|omega)|(apply Ri.sub3<;>first|rfl|omega)|(apply Ri.conv3<;>first|rfl|omega)|(apply Ri.eqb<;>rfl)|(apply Ri.neb<;>rfl)|(apply Ri.pT;(focus rfl);(focus(first|rfl|assumption|(simp;done)|(simp;omega)));(focus rfl))|(apply Ri.pF;(focus rfl);(focus(first|rfl|assumption|(simp;done)|(simp;omega)));(focus rfl))));(focus rfl)))
    exact ih ⟨i + 1, B2, c2⟩ w2 ⟨by show i + 1 ≤ _; omega, k2, hO2⟩ (by show x.length - (i + 1) < x.length - i; omega) _ (by repeat (first | exact SubB.nil | refine SubB.cons rfl ?_))
  have c0 := hcell 0 _ rfl
  rw [Nat.add_zero] at c0
  repeat(first|refine o_nil ?_|(refine o_pass (wants_no rfl rfl rfl ?_) rfl ?_;(focus(first|rfl|assumption|(simp;done)|(simp;omega))))|refine o_pass (wants_not rfl rfl rfl) rfl ?_|(refine o_yes (wants_yes rfl rfl rfl ?_) ?_;(focus(first|rfl|assumption|(simp;done)|(simp;omega))))|refine k_region ?_|(apply k_go;(focus(constructor<;>rfl)))|refine d_nil ?_|(apply o_s;(focus(first|(constructor<;>first|rfl|omega)|(apply Ri.add3<;>first|rfl|omega)|(apply Ri.sub3<;>first|rfl|omega)|(apply Ri.conv3<;>first|rfl|omega)|(apply Ri.eqb<;>rfl)|(apply Ri.neb<;>rfl)|(apply Ri.pT;(focus rfl);(focus(first|rfl|assumption|(simp;done)|(simp;omega)));(focus rfl))|(apply Ri.pF;(focus rfl);(focus(first|rfl|assumption|(simp;done)|(simp;omega)));(focus rfl))));(focus rfl)))
  refine k_draw [(0, 0), (1, 0), (2, 0), (3, 0), (4, 0), (5, 0), (6, 0), (7, 0), (8, 0), (9, 0), (10, 0), (12, 0), (13, 0), (14, 0), (15, 0), (16, 0), (17, 0), (11, 1), (18, 1), (19, 0), (20, 0)] (by kernel_rfl) (by kernel_rfl) rfl (by kernel_rfl) ?_
  by_cases hl : i + 1 = x.length
  · have hen : endAt x big i = true := by unfold endAt; exact decide_eq_true (.inl hl)
    have hl' : (i : Int) + 1 = x.length := by omega
    repeat(first|refine d_nil ?_|(refine d_open rfl ?_;first|((first|refine x_pass (wants_no rfl rfl rfl ?_) rfl ?_ ?_|refine x_passNow (wants_no rfl rfl rfl ?_) rfl ?_ ?_);(focus(first|rfl|assumption|(simp;done)|(simp;omega)));(focus(first|exact St.refl _|assumption)))|((first|refine x_pass (wants_not rfl rfl rfl) rfl ?_ ?_|refine x_passNow (wants_not rfl rfl rfl) rfl ?_ ?_);(focus(first|exact St.refl _|assumption)))|((first|apply x_s|apply x_n);(focus(first|(constructor<;>first|rfl|omega)|(apply Ri.add3<;>first|rfl|omega)|(apply Ri.sub3<;>first|rfl|omega)|(apply Ri.conv3<;>first|rfl|omega)|(apply Ri.eqb<;>rfl)|(apply Ri.neb<;>rfl)|(apply Ri.pT;(focus rfl);(focus(first|rfl|assumption|(simp;done)|(simp;omega)));(focus rfl))|(apply Ri.pF;(focus rfl);(focus(first|rfl|assumption|(simp;done)|(simp;omega)));(focus rfl))));(focus(first|exact wants_none rfl|exact wants_yes rfl rfl rfl (by first|rfl|assumption|(simp;done)|(simp;omega))));(focus rfl);(focus(first|exact St.refl _|assumption)))))
    refine k_true rfl ?_
    refine k_region ?_
    refine o_still (r_move rfl) (wants_none rfl) rfl ?_
    refine o_still (r_move rfl) (wants_none rfl) rfl ?_
    refine o_still (r_add rfl rfl (by omega) (by omega)) (wants_none rfl) rfl ?_
    refine o_any (e_one (z := .int .i64 0) (sz := 1) rfl rfl rfl (by decide)) (wants_none rfl) rfl ?_
    rintro _ w4 ⟨g4, rfl, nb4⟩
    have hO4 := Kn.ow nb4.kn hO
    have k4 : Kn w w4 := hkn.trans nb4.kn
    have e4 := nb4.ge
    refine o_any (e_append2 (d := kI64) rfl rfl hO4 (sl_blk (F := fun k => k = g4) (xs := [(i : Int) + 1]) (cells := [.int .i64 ((i : Int) + 1)]) nb4.at_ ⟨_, [], rfl, ⟨rfl, by omega, by omega⟩, rfl⟩ rfl (show 1 * 8 ≤ 140737488355328 by decide)) (by
      rintro j rfl he
      have := (hO.block _ he).2
      omega) (by show ((runsTo x big i).length + 1) * 8 ≤ 140737488355328; omega) rfl rfl rfl) (wants_none rfl) rfl ?_
    rintro v5 w5 hA
    obtain ⟨k5, hO5⟩ := app_next k4 hO4 hA
    rw [hen, if_pos rfl] at hsu
    rw [← hsu] at hO5
    obtain ⟨A5, c5, hv5, _⟩ := hO5.form
    subst hv5
    refine o_still (r_assign rfl) (wants_none rfl) rfl ?_
    refine o_nil ?_
    exact J A5 c5 w5 k5 hO5 _ (by repeat (first | exact SubB.nil | refine SubB.cons rfl ?_))
  · have hl' : ¬ (i : Int) + 1 = x.length := by omega
    have hlt2 : i + 1 < x.length := by omega
    obtain ⟨ad', cs', hAd, ⟨rfl, hr'⟩, hcell'⟩ := h.at_ (List.getElem?_eq_getElem hlt2)
    cases hAd
    have c1 := hcell' 0 _ rfl
    rw [Nat.add_zero] at c1
    repeat(first|refine d_nil ?_|(refine d_open rfl ?_;first|((first|refine x_pass (wants_no rfl rfl rfl ?_) rfl ?_ ?_|refine x_passNow (wants_no rfl rfl rfl ?_) rfl ?_ ?_);(focus(first|rfl|assumption|(simp;done)|(simp;omega)));(focus(first|exact St.refl _|assumption)))|((first|refine x_pass (wants_not rfl rfl rfl) rfl ?_ ?_|refine x_passNow (wants_not rfl rfl rfl) rfl ?_ ?_);(focus(first|exact St.refl _|assumption)))|((first|apply x_s|apply x_n);(focus(first|(constructor<;>first|rfl|omega)|(apply Ri.add3<;>first|rfl|omega)|(apply Ri.sub3<;>first|rfl|omega)|(apply Ri.conv3<;>first|rfl|omega)|(apply Ri.eqb<;>rfl)|(apply Ri.neb<;>rfl)|(apply Ri.pT;(focus rfl);(focus(first|rfl|assumption|(simp;done)|(simp;omega)));(focus rfl))|(apply Ri.pF;(focus rfl);(focus(first|rfl|assumption|(simp;done)|(simp;omega)));(focus rfl))));(focus(first|exact wants_none rfl|exact wants_yes rfl rfl rfl (by first|rfl|assumption|(simp;done)|(simp;omega))));(focus rfl);(focus(first|exact St.refl _|assumption)))))
    refine d_open rfl ?_; refine x_still (r_index rfl rfl rfl (by omega) (by omega)) (wants_yes rfl rfl rfl (by first | rfl | assumption | (simp; done) | (simp; omega))) rfl (by first | exact St.refl _ | assumption) ?_
    refine d_open rfl ?_; refine x_still (r_load rfl (by rw [Int.toNat_natCast]; exact hkn.cell c0 id)) (wants_yes rfl rfl rfl (by first | rfl | assumption | (simp; done) | (simp; omega))) rfl (by first | exact St.refl _ | assumption) ?_
    repeat(first|refine d_nil ?_|(refine d_open rfl ?_;first|((first|refine x_pass (wants_no rfl rfl rfl ?_) rfl ?_ ?_|refine x_passNow (wants_no rfl rfl rfl ?_) rfl ?_ ?_);(focus(first|rfl|assumption|(simp;done)|(simp;omega)));(focus(first|exact St.refl _|assumption)))|((first|refine x_pass (wants_not rfl rfl rfl) rfl ?_ ?_|refine x_passNow (wants_not rfl rfl rfl) rfl ?_ ?_);(focus(first|exact St.refl _|assumption)))|((first|apply x_s|apply x_n);(focus(first|(constructor<;>first|rfl|omega)|(apply Ri.add3<;>first|rfl|omega)|(apply Ri.sub3<;>first|rfl|omega)|(apply Ri.conv3<;>first|rfl|omega)|(apply Ri.eqb<;>rfl)|(apply Ri.neb<;>rfl)|(apply Ri.pT;(focus rfl);(focus(first|rfl|assumption|(simp;done)|(simp;omega)));(focus rfl))|(apply Ri.pF;(focus rfl);(focus(first|rfl|assumption|(simp;done)|(simp;omega)));(focus rfl))));(focus(first|exact wants_none rfl|exact wants_yes rfl rfl rfl (by first|rfl|assumption|(simp;done)|(simp;omega))));(focus rfl);(focus(first|exact St.refl _|assumption)))))
    refine d_open rfl ?_; refine x_still (r_index rfl rfl rfl (by omega) (by omega)) (wants_yes rfl rfl rfl (by first | rfl | assumption | (simp; done) | (simp; omega))) rfl (by first | exact St.refl _ | assumption) ?_
    refine d_open rfl ?_; refine x_still (r_load rfl (by rw [show ((i : Int) + 1).toNat = i + 1 from by omega]; exact hkn.cell c1 id)) (wants_yes rfl rfl rfl (by first | rfl | assumption | (simp; done) | (simp; omega))) rfl (by first | exact St.refl _ | assumption) ?_
    repeat(first|refine d_nil ?_|(refine d_open rfl ?_;first|((first|refine x_pass (wants_no rfl rfl rfl ?_) rfl ?_ ?_|refine x_passNow (wants_no rfl rfl rfl ?_) rfl ?_ ?_);(focus(first|rfl|assumption|(simp;done)|(simp;omega)));(focus(first|exact St.refl _|assumption)))|((first|refine x_pass (wants_not rfl rfl rfl) rfl ?_ ?_|refine x_passNow (wants_not rfl rfl rfl) rfl ?_ ?_);(focus(first|exact St.refl _|assumption)))|((first|apply x_s|apply x_n);(focus(first|(constructor<;>first|rfl|omega)|(apply Ri.add3<;>first|rfl|omega)|(apply Ri.sub3<;>first|rfl|omega)|(apply Ri.conv3<;>first|rfl|omega)|(apply Ri.eqb<;>rfl)|(apply Ri.neb<;>rfl)|(apply Ri.pT;(focus rfl);(focus(first|rfl|assumption|(simp;done)|(simp;omega)));(focus rfl))|(apply Ri.pF;(focus rfl);(focus(first|rfl|assumption|(simp;done)|(simp;omega)));(focus rfl))));(focus(first|exact wants_none rfl|exact wants_yes rfl rfl rfl (by first|rfl|assumption|(simp;done)|(simp;omega))));(focus rfl);(focus(first|exact St.refl _|assumption)))))
    refine d_open rfl ?_; refine x_enter (n_call rfl) (wants_yes rfl rfl rfl (by first | rfl | assumption | (simp; done) | (simp; omega))) rfl ((classP_calls).mono ?_)
    rintro _ wr ⟨rfl, rfl⟩
    refine .inl ⟨St.refl _, ?_⟩
    refine d_open rfl ?_; refine x_enter (n_call rfl) (wants_yes rfl rfl rfl (by first | rfl | assumption | (simp; done) | (simp; omega))) rfl ((classP_calls).mono ?_)
    rintro _ wr ⟨rfl, rfl⟩
    refine .inl ⟨St.refl _, ?_⟩
    repeat(first|refine d_nil ?_|(refine d_open rfl ?_;first|((first|refine x_pass (wants_no rfl rfl rfl ?_) rfl ?_ ?_|refine x_passNow (wants_no rfl rfl rfl ?_) rfl ?_ ?_);(focus(first|rfl|assumption|(simp;done)|(simp;omega)));(focus(first|exact St.refl _|assumption)))|((first|refine x_pass (wants_not rfl rfl rfl) rfl ?_ ?_|refine x_passNow (wants_not rfl rfl rfl) rfl ?_ ?_);(focus(first|exact St.refl _|assumption)))|((first|apply x_s|apply x_n);(focus(first|(constructor<;>first|rfl|omega)|(apply Ri.add3<;>first|rfl|omega)|(apply Ri.sub3<;>first|rfl|omega)|(apply Ri.conv3<;>first|rfl|omega)|(apply Ri.eqb<;>rfl)|(apply Ri.neb<;>rfl)|(apply Ri.pT;(focus rfl);(focus(first|rfl|assumption|(simp;done)|(simp;omega)));(focus rfl))|(apply Ri.pF;(focus rfl);(focus(first|rfl|assumption|(simp;done)|(simp;omega)));(focus rfl))));(focus(first|exact wants_none rfl|exact wants_yes rfl rfl rfl (by first|rfl|assumption|(simp;done)|(simp;omega))));(focus rfl);(focus(first|exact St.refl _|assumption)))))
    have hg1 : clsAt x big i = classM x[i] big := by unfold clsAt; rw [getD_int hlt']
    have hg2 : clsAt x big (i + 1) = classM x[i + 1] big := by unfold clsAt; rw [getD_int hlt2]
    refine k_ite rfl (fun hne => ?_) (fun heq => ?_)
    · have hen : endAt x big i = true := by unfold endAt; rw [hg1, hg2]; exact decide_eq_true (.inr hne)
      refine k_region ?_
      refine o_still (r_move rfl) (wants_none rfl) rfl ?_
      refine o_still (r_move rfl) (wants_none rfl) rfl ?_
      refine o_still (r_add rfl rfl (by omega) (by omega)) (wants_none rfl) rfl ?_
      refine o_any (e_one (z := .int .i64 0) (sz := 1) rfl rfl rfl (by decide)) (wants_none rfl) rfl ?_
      rintro _ w4 ⟨g4, rfl, nb4⟩
      have hO4 := Kn.ow nb4.kn hO
      have k4 : Kn w w4 := hkn.trans nb4.kn
      have e4 := nb4.ge
      refine o_any (e_append2 (d := kI64) rfl rfl hO4 (sl_blk (F := fun k => k = g4) (xs := [(i : Int) + 1]) (cells := [.int .i64 ((i : Int) + 1)]) nb4.at_ ⟨_, [], rfl, ⟨rfl, by omega, by omega⟩, rfl⟩ rfl (show 1 * 8 ≤ 140737488355328 by decide)) (by
        rintro j rfl he
        have := (hO.block _ he).2
        omega) (by show ((runsTo x big i).length + 1) * 8 ≤ 140737488355328; omega) rfl rfl rfl) (wants_none rfl) rfl ?_
      rintro v5 w5 hA
      obtain ⟨k5, hO5⟩ := app_next k4 hO4 hA
      rw [hen, if_pos rfl] at hsu
      rw [← hsu] at hO5
      obtain ⟨A5, c5, hv5, _⟩ := hO5.form
      subst hv5
      refine o_still (r_assign rfl) (wants_none rfl) rfl ?_
      refine o_nil ?_
      exact J A5 c5 w5 k5 hO5 _ (by repeat (first | exact SubB.nil | refine SubB.cons rfl ?_))
    · have hen : endAt x big i = false := by unfold endAt; rw [hg1, hg2]; exact decide_eq_false fun h => h.elim hl heq
      rw [hen, if_neg (by simp), List.append_nil] at hsu
      refine k_skip ?_
      exact J B cB wr hkn (by rw [hsu]; exact hO) _ (by rw [hsu]; exact (by repeat (first | exact SubB.nil | refine SubB.cons rfl ?_)))
end
end Go.Ink
