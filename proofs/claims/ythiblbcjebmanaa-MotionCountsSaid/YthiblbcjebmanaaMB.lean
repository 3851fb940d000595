/-
  find: the walk.
  other.
  Pair (the same text as chapter 11's F7).
  Plain: brackets as sums along the places (out of chapter 11).
  bracket: the walk.
-/
import Derived.Test.YthiblbcjebmanaaMA
import Derived.Test.YthiblbcjebmanaaSr
set_option linter.unusedVariables false
set_option linter.unusedSimpArgs false
namespace Go.Ink
open Go Go.Proofs

def byF (key : Int) : Int := if key = 70 ∨ key = 84 then -1 else 1
def howM (key : Int) : Int := if key = 70 ∨ key = 84 then 0 else 1
def shortM (key : Int) : Int := if key = 116 then -1 else if key = 84 then 1 else 0
section
variable {F : Nat → Prop} {w : World} {A : Option Addr} {c cx : Nat} {x : List Int} {ad : Addr} {p : Ps} {m : Mo} {n : Int} {op : Bool} {v : Value}
set_option maxHeartbeats 4000000 in
theorem find_calls (hX : Rns F w A cx x ad) (hp0 : 0 ≤ p.2) (hp1 : p.2 ≤ x.length) (hp : P64 p) (hn : 1 ≤ n) (hnl : n ≤ 9223372036854775807) :
    CallsR Try.prog 23 #[atV v p m n op (.slice A x.length cx)] w fun u w' => Kn w w' ∧ ∃ r, u = mvV r ∧ FindM x p m.arg n (byF m.key) (howM m.key) (shortM m.key) r := by
  have hl := hX.len
  have hc := hX.cap
  obtain ⟨P1, P2⟩ := p
  obtain ⟨K, rfl⟩ : ∃ K : Nat, P2 = K := ⟨P2.toNat, by simp only at hp0; omega⟩
  simp only at hp0 hp1
  have hU : ∀ (short how : Int), -1 ≤ short → short ≤ 1 → ∀ g1 g2, ∀ σ', SubB σ' [(1, .pointer (some ⟨g1, 0, none⟩)), (2, .pointer (some ⟨g2, 0, none⟩)), (5, .int .i64 1), (6, .int .i64 how), (7, .int .i64 short)] → ∀ M', MSub [(g2, cb [.int .i64 0, .int .i64 0] 24), (g1, cb [v, .int .i64 P1, .int .i64 (K : Int), .int .i32 m.key, .int .i64 m.count, .int .i32 m.arg, .int .i64 m.want, .int .i64 n, .bool op, .slice A x.length cx] 40)] M' →
      WL Try.prog Try.f23 [.code (bodyC Try.f23 [1, 1, 1])] σ' w (fun _ => False) w (fun _ => False) M' fun u w' => Kn w w' ∧ ∃ r, u = mvV r ∧ FindM x (P1, (K : Int)) m.arg n 1 how short r := by
    intro short how hs1 hs2 g1 g2 σ' hsu M' hM
    refine WL.sub hsu hM ?_
    repeat(first|refine lrun_ ?_|(refine lo_boxA rfl rfl ?_;intro _ _ _)|(refine lo_box1 rfl rfl rfl ?_;intro _ _ _)|(refine lo_alloc rfl ?_;intro _ _ _))
    rw [show (K : Int) + 1 = ((K + 1 : Nat) : Int) from rfl]
    refine l_while (fun s : Nat × Int => x.length + 1 - s.1) (fun s => [(1, .pointer (some ⟨g1, 0, none⟩)), (2, .pointer (some ⟨g2, 0, none⟩)), (5, .int .i64 1), (6, .int .i64 how), (7, .int .i64 short), (8, .int .i64 s.2), (9, .int .i64 s.1)]) (fun _ => [(g2, cb [.int .i64 0, .int .i64 0] 24), (g1, cb [v, .int .i64 P1, .int .i64 (K : Int), .int .i32 m.key, .int .i64 m.count, .int .i32 m.arg, .int .i64 m.want, .int .i64 n, .bool op, .slice A x.length cx] 40)])
      (fun s => K + 1 ≤ s.1 ∧ (s.1 ≤ x.length ∨ s.1 = K + 1) ∧ s.2 = n - cntU x m.arg (K + 1) (s.1 - (K + 1)) ∧ 1 ≤ s.2) (K + 1, n) (by repeat (first | exact SubB.nil | refine SubB.cons rfl ?_)) (by repeat(first|exact MSub.refl|refine MSub.keep rfl ?_|exact MSub.nil|apply MSub.drop)) ⟨Nat.le_refl _, .inr rfl, by simp only; rw [Nat.sub_self]; show n = n - ((0 : Nat) : Int); omega, hn⟩ ?_
    rintro ⟨i, n'⟩ ⟨hi1, hi2, hi3, hi4⟩ ih
    simp only at hi1 hi2 hi3 hi4
    have hcl := cntU_le x m.arg (K + 1) (i - (K + 1))
    have hsu : cntU x m.arg (K + 1) (i + 1 - (K + 1)) = cntU x m.arg (K + 1) (i - (K + 1)) + if x.getD i 0 = m.arg then 1 else 0 := by
      rw [show i + 1 - (K + 1) = (i - (K + 1)) + 1 by omega, cntU_succ, show K + 1 + (i - (K + 1)) = i by omega]
    by_cases hlt : i < x.length
    · repeat(first|refine lrun_ ?_|(refine lo_boxA rfl rfl ?_;intro _ _ _)|(refine lo_box1 rfl rfl rfl ?_;intro _ _ _)|(refine lo_alloc rfl ?_;intro _ _ _))
      refine l_yes rfl (by omega) ?_
      repeat(first|refine lrun_ ?_|(refine lo_boxA rfl rfl ?_;intro _ _ _)|(refine lo_box1 rfl rfl rfl ?_;intro _ _ _)|(refine lo_alloc rfl ?_;intro _ _ _))
      refine l_draw [(0, 0), (1, 0), (2, 0), (3, 0), (4, 0), (5, 0), (6, 0), (7, 0), (8, 0)] (by kernel_rfl) (by kernel_rfl) rfl (by kernel_rfl) ?_
      repeat(first|refine lrund_ ?_|(refine ld_open rfl ?_;first|(refine ld_boxA rfl wy_ rfl ?_;intro _ _ _)|(refine ld_box1 rfl rfl wy_ rfl ?_;intro _ _ _)|(refine ld_alloc wy_ rfl ?_;intro _ _ _)))
      by_cases he : x.getD i 0 = m.arg
      · rw [if_pos he] at hsu
        refine l_no rfl (by simpa using he) ?_
        repeat(first|refine lrun_ ?_|(refine lo_boxA rfl rfl ?_;intro _ _ _)|(refine lo_box1 rfl rfl rfl ?_;intro _ _ _)|(refine lo_alloc rfl ?_;intro _ _ _))
        refine l_ite rfl (fun h0 => ?_) (fun h0 => ?_)
        · repeat(first|refine lrun_ ?_|(refine lo_boxA rfl rfl ?_;intro _ _ _)|(refine lo_box1 rfl rfl rfl ?_;intro _ _ _)|(refine lo_alloc rfl ?_;intro _ _ _))
          refine lo_call (n_call rfl) rfl (fun w hw => here_calls (p := (P1, (K : Int))) (m := m) (n := n) (op := op)) ?_
          repeat(first|refine lrun_ ?_|(refine lo_boxA rfl rfl ?_;intro _ _ _)|(refine lo_box1 rfl rfl rfl ?_;intro _ _ _)|(refine lo_alloc rfl ?_;intro _ _ _))
          exact l_retR3 rfl (by repeat(first|exact LRes.nil|refine LRes.tmp rfl ?_|refine LRes.agg rfl (by(repeat(first|exact MIn.hd|refine MIn.tl ?_));done) (by rfl) (by rfl) ?_|refine LRes.one rfl (by(repeat(first|exact MIn.hd|refine MIn.tl ?_));done) (by rfl) ?_)) fun w hw => ⟨hw.org, ((P1, (i : Int) + short), how, true), rfl, .up i rfl (by simp only; omega) hlt he (by simp only [Int.toNat_natCast]; rw [show i - K = i + 1 - (K + 1) by omega, hsu]; omega)⟩
        · repeat(first|refine lrun_ ?_|(refine lo_boxA rfl rfl ?_;intro _ _ _)|(refine lo_box1 rfl rfl rfl ?_;intro _ _ _)|(refine lo_alloc rfl ?_;intro _ _ _))
          exact ih (i + 1, n' - 1) ⟨by simp only; omega, by simp only; omega, by simp only; rw [hsu]; omega, by simp only; omega⟩ (by simp only; omega) _ _ (by repeat (first | exact SubB.nil | refine SubB.cons rfl ?_)) (by repeat(first|exact MSub.refl|refine MSub.keep rfl ?_|exact MSub.nil|apply MSub.drop))
      · rw [if_neg he] at hsu
        refine l_yes rfl he ?_
        repeat(first|refine lrun_ ?_|(refine lo_boxA rfl rfl ?_;intro _ _ _)|(refine lo_box1 rfl rfl rfl ?_;intro _ _ _)|(refine lo_alloc rfl ?_;intro _ _ _))
        exact ih (i + 1, n') ⟨by simp only; omega, by simp only; omega, by simp only; rw [hsu]; omega, by simp only; omega⟩ (by simp only; omega) _ _ (by repeat (first | exact SubB.nil | refine SubB.cons rfl ?_)) (by repeat(first|exact MSub.refl|refine MSub.keep rfl ?_|exact MSub.nil|apply MSub.drop))
    · repeat(first|refine lrun_ ?_|(refine lo_boxA rfl rfl ?_;intro _ _ _)|(refine lo_box1 rfl rfl rfl ?_;intro _ _ _)|(refine lo_alloc rfl ?_;intro _ _ _))
      refine l_no rfl (by omega) ?_
      repeat(first|refine lrun_ ?_|(refine lo_boxA rfl rfl ?_;intro _ _ _)|(refine lo_box1 rfl rfl rfl ?_;intro _ _ _)|(refine lo_alloc rfl ?_;intro _ _ _))
      exact l_retR3 rfl (by repeat(first|exact LRes.nil|refine LRes.tmp rfl ?_|refine LRes.agg rfl (by(repeat(first|exact MIn.hd|refine MIn.tl ?_));done) (by rfl) (by rfl) ?_|refine LRes.one rfl (by(repeat(first|exact MIn.hd|refine MIn.tl ?_));done) (by rfl) ?_)) fun w hw => ⟨hw.org, ((P1, (K : Int)), 0, false), rfl, .noUp rfl (by simp only [Int.toNat_natCast]; rw [show x.length - (K + 1) = i - (K + 1) by omega]; omega)⟩
  have hD : ∀ (short how : Int), -1 ≤ short → short ≤ 1 → ∀ g1 g2, ∀ σ', SubB σ' [(1, .pointer (some ⟨g1, 0, none⟩)), (2, .pointer (some ⟨g2, 0, none⟩)), (5, .int .i64 (-1)), (6, .int .i64 how), (7, .int .i64 short)] → ∀ M', MSub [(g2, cb [.int .i64 0, .int .i64 0] 24), (g1, cb [v, .int .i64 P1, .int .i64 (K : Int), .int .i32 m.key, .int .i64 m.count, .int .i32 m.arg, .int .i64 m.want, .int .i64 n, .bool op, .slice A x.length cx] 40)] M' →
      WL Try.prog Try.f23 [.code (bodyC Try.f23 [1, 1, 1])] σ' w (fun _ => False) w (fun _ => False) M' fun u w' => Kn w w' ∧ ∃ r, u = mvV r ∧ FindM x (P1, (K : Int)) m.arg n (-1) how short r := by
    intro short how hs1 hs2 g1 g2 σ' hsu M' hM
    refine WL.sub hsu hM ?_
    repeat(first|refine lrun_ ?_|(refine lo_boxA rfl rfl ?_;intro _ _ _)|(refine lo_box1 rfl rfl rfl ?_;intro _ _ _)|(refine lo_alloc rfl ?_;intro _ _ _))
    rw [show (K : Int) + -1 = (K : Int) - 1 from rfl]
    refine l_while (fun s : Nat × Int => s.1) (fun s => [(1, .pointer (some ⟨g1, 0, none⟩)), (2, .pointer (some ⟨g2, 0, none⟩)), (5, .int .i64 (-1)), (6, .int .i64 how), (7, .int .i64 short), (8, .int .i64 s.2), (9, .int .i64 ((s.1 : Int) - 1))]) (fun _ => [(g2, cb [.int .i64 0, .int .i64 0] 24), (g1, cb [v, .int .i64 P1, .int .i64 (K : Int), .int .i32 m.key, .int .i64 m.count, .int .i32 m.arg, .int .i64 m.want, .int .i64 n, .bool op, .slice A x.length cx] 40)])
      (fun s => s.1 ≤ K ∧ s.2 = n - cntD x m.arg K (K - s.1) ∧ 1 ≤ s.2) (K, n) (by repeat (first | exact SubB.nil | refine SubB.cons rfl ?_)) (by repeat(first|exact MSub.refl|refine MSub.keep rfl ?_|exact MSub.nil|apply MSub.drop)) ⟨Nat.le_refl _, by simp only; rw [Nat.sub_self]; show n = n - ((0 : Nat) : Int); omega, hn⟩ ?_
    rintro ⟨i, n'⟩ ⟨hi1, hi3, hi4⟩ ih
    simp only at hi1 hi3 hi4
    cases i with
    | zero =>
      repeat(first|refine lrun_ ?_|(refine lo_boxA rfl rfl ?_;intro _ _ _)|(refine lo_box1 rfl rfl rfl ?_;intro _ _ _)|(refine lo_alloc rfl ?_;intro _ _ _))
      refine l_false rfl ?_
      repeat(first|refine lrun_ ?_|(refine lo_boxA rfl rfl ?_;intro _ _ _)|(refine lo_box1 rfl rfl rfl ?_;intro _ _ _)|(refine lo_alloc rfl ?_;intro _ _ _))
      exact l_retR3 rfl (by repeat(first|exact LRes.nil|refine LRes.tmp rfl ?_|refine LRes.agg rfl (by(repeat(first|exact MIn.hd|refine MIn.tl ?_));done) (by rfl) (by rfl) ?_|refine LRes.one rfl (by(repeat(first|exact MIn.hd|refine MIn.tl ?_));done) (by rfl) ?_)) fun w hw => ⟨hw.org, ((P1, (K : Int)), 0, false), rfl, .noDown rfl (by simp only [Int.toNat_natCast]; rw [Nat.sub_zero] at hi3; omega)⟩
    | succ i =>
      have hsu : cntD x m.arg K (K - i) = cntD x m.arg K (K - (i + 1)) + if x.getD i 0 = m.arg then 1 else 0 := by
        rw [show K - i = (K - (i + 1)) + 1 by omega, cntD_succ, show K - 1 - (K - (i + 1)) = i by omega]
      rw [show (((i + 1 : Nat) : Int)) - 1 = (i : Nat) by omega]
      have hlt : i < x.length := by omega
      repeat(first|refine lrun_ ?_|(refine lo_boxA rfl rfl ?_;intro _ _ _)|(refine lo_box1 rfl rfl rfl ?_;intro _ _ _)|(refine lo_alloc rfl ?_;intro _ _ _))
      refine l_yes rfl (by omega) ?_
      repeat(first|refine lrun_ ?_|(refine lo_boxA rfl rfl ?_;intro _ _ _)|(refine lo_box1 rfl rfl rfl ?_;intro _ _ _)|(refine lo_alloc rfl ?_;intro _ _ _))
      refine l_draw [(0, 0), (1, 0), (2, 0), (3, 0), (4, 0), (5, 0), (6, 0), (7, 0), (8, 0)] (by kernel_rfl) (by kernel_rfl) rfl (by kernel_rfl) ?_
      repeat(first|refine lrund_ ?_|(refine ld_open rfl ?_;first|(refine ld_boxA rfl wy_ rfl ?_;intro _ _ _)|(refine ld_box1 rfl rfl wy_ rfl ?_;intro _ _ _)|(refine ld_alloc wy_ rfl ?_;intro _ _ _)))
      by_cases he : x.getD i 0 = m.arg
      · rw [if_pos he] at hsu
        refine l_no rfl (by simpa using he) ?_
        repeat(first|refine lrun_ ?_|(refine lo_boxA rfl rfl ?_;intro _ _ _)|(refine lo_box1 rfl rfl rfl ?_;intro _ _ _)|(refine lo_alloc rfl ?_;intro _ _ _))
        refine l_ite rfl (fun h0 => ?_) (fun h0 => ?_)
        · repeat(first|refine lrun_ ?_|(refine lo_boxA rfl rfl ?_;intro _ _ _)|(refine lo_box1 rfl rfl rfl ?_;intro _ _ _)|(refine lo_alloc rfl ?_;intro _ _ _))
          refine lo_call (n_call rfl) rfl (fun w hw => here_calls (p := (P1, (K : Int))) (m := m) (n := n) (op := op)) ?_
          repeat(first|refine lrun_ ?_|(refine lo_boxA rfl rfl ?_;intro _ _ _)|(refine lo_box1 rfl rfl rfl ?_;intro _ _ _)|(refine lo_alloc rfl ?_;intro _ _ _))
          exact l_retR3 rfl (by repeat(first|exact LRes.nil|refine LRes.tmp rfl ?_|refine LRes.agg rfl (by(repeat(first|exact MIn.hd|refine MIn.tl ?_));done) (by rfl) (by rfl) ?_|refine LRes.one rfl (by(repeat(first|exact MIn.hd|refine MIn.tl ?_));done) (by rfl) ?_)) fun w hw => ⟨hw.org, ((P1, (i : Int) + short), how, true), rfl, .down i rfl (by simp only; omega) he (by simp only [Int.toNat_natCast]; rw [hsu]; omega)⟩
        · repeat(first|refine lrun_ ?_|(refine lo_boxA rfl rfl ?_;intro _ _ _)|(refine lo_box1 rfl rfl rfl ?_;intro _ _ _)|(refine lo_alloc rfl ?_;intro _ _ _))
          exact ih (i, n' - 1) ⟨by simp only; omega, by simp only; rw [hsu]; omega, by simp only; omega⟩ (by simp only; omega) _ _ (by repeat (first | exact SubB.nil | refine SubB.cons rfl ?_)) (by repeat(first|exact MSub.refl|refine MSub.keep rfl ?_|exact MSub.nil|apply MSub.drop))
      · rw [if_neg he] at hsu
        refine l_yes rfl he ?_
        repeat(first|refine lrun_ ?_|(refine lo_boxA rfl rfl ?_;intro _ _ _)|(refine lo_box1 rfl rfl rfl ?_;intro _ _ _)|(refine lo_alloc rfl ?_;intro _ _ _))
        exact ih (i, n') ⟨by simp only; omega, by simp only; rw [hsu]; omega, by simp only; omega⟩ (by simp only; omega) _ _ (by repeat (first | exact SubB.nil | refine SubB.cons rfl ?_)) (by repeat(first|exact MSub.refl|refine MSub.keep rfl ?_|exact MSub.nil|apply MSub.drop))
  refine l_enter (fun _ => False) Try.func23 rfl rfl ?_
  repeat(first|refine lrun_ ?_|(refine lo_boxA rfl rfl ?_;intro _ _ _)|(refine lo_box1 rfl rfl rfl ?_;intro _ _ _)|(refine lo_alloc rfl ?_;intro _ _ _))
  refine l_ite rfl (fun hk => ?_) (fun hk => ?_)
  · rw [show byF m.key = 1 by unfold byF; rw [if_neg (by omega)], show howM m.key = 1 by unfold howM; rw [if_neg (by omega)], show shortM m.key = -1 by unfold shortM; rw [if_pos hk]]
    refine l_region ?_;(repeat(first|refine lops_ ?_|(refine lo_boxA rfl rfl ?_;intro _ _ _)|(refine lo_box1 rfl rfl rfl ?_;intro _ _ _)|(refine lo_alloc rfl ?_;intro _ _ _)));refine lo_nil ?_
    refine l_go .inBlock ?_
    exact hU (-1) 1 (by omega) (by omega) _ _ _ (by repeat (first | exact SubB.nil | refine SubB.cons rfl ?_)) _ (by repeat(first|exact MSub.refl|refine MSub.keep rfl ?_|exact MSub.nil|apply MSub.drop))
  · repeat(first|refine lrun_ ?_|(refine lo_boxA rfl rfl ?_;intro _ _ _)|(refine lo_box1 rfl rfl rfl ?_;intro _ _ _)|(refine lo_alloc rfl ?_;intro _ _ _))
    refine l_ite rfl (fun hk2 => ?_) (fun hk2 => ?_)
    · rw [show byF m.key = -1 by unfold byF; rw [if_pos (by omega)], show howM m.key = 0 by unfold howM; rw [if_pos (by omega)], show shortM m.key = 0 by unfold shortM; rw [if_neg (by omega), if_neg (by omega)]]
      refine l_region ?_;(repeat(first|refine lops_ ?_|(refine lo_boxA rfl rfl ?_;intro _ _ _)|(refine lo_box1 rfl rfl rfl ?_;intro _ _ _)|(refine lo_alloc rfl ?_;intro _ _ _)));refine lo_nil ?_
      refine l_go .inBlock ?_
      exact hD 0 0 (by omega) (by omega) _ _ _ (by repeat (first | exact SubB.nil | refine SubB.cons rfl ?_)) _ (by repeat(first|exact MSub.refl|refine MSub.keep rfl ?_|exact MSub.nil|apply MSub.drop))
    · repeat(first|refine lrun_ ?_|(refine lo_boxA rfl rfl ?_;intro _ _ _)|(refine lo_box1 rfl rfl rfl ?_;intro _ _ _)|(refine lo_alloc rfl ?_;intro _ _ _))
      refine l_ite rfl (fun hk3 => ?_) (fun hk3 => ?_)
      · rw [show byF m.key = -1 by unfold byF; rw [if_pos (by omega)], show howM m.key = 0 by unfold howM; rw [if_pos (by omega)], show shortM m.key = 1 by unfold shortM; rw [if_neg (by omega), if_pos (by omega)]]
        refine l_region ?_;(repeat(first|refine lops_ ?_|(refine lo_boxA rfl rfl ?_;intro _ _ _)|(refine lo_box1 rfl rfl rfl ?_;intro _ _ _)|(refine lo_alloc rfl ?_;intro _ _ _)));refine lo_nil ?_
        refine l_go .inBlock ?_
        exact hD 1 0 (by omega) (by omega) _ _ _ (by repeat (first | exact SubB.nil | refine SubB.cons rfl ?_)) _ (by repeat(first|exact MSub.refl|refine MSub.keep rfl ?_|exact MSub.nil|apply MSub.drop))
      · rw [show byF m.key = 1 by unfold byF; rw [if_neg (by omega)], show howM m.key = 1 by unfold howM; rw [if_neg (by omega)], show shortM m.key = 0 by unfold shortM; rw [if_neg (by omega), if_neg (by omega)]]
        refine l_go .skip ?_
        refine l_go .inBlock ?_
        exact hU 0 1 (by omega) (by omega) _ _ _ (by repeat (first | exact SubB.nil | refine SubB.cons rfl ?_)) _ (by repeat(first|exact MSub.refl|refine MSub.keep rfl ?_|exact MSub.nil|apply MSub.drop))
end
end Go.Ink

set_option linter.unusedVariables false
set_option linter.unusedSimpArgs false
namespace Go.Ink
open Go Go.Proofs

/-- The bracket that belongs to one, and whether it comes behind. -/
def otherM (r : Int) : Int × Bool := if r = 40 then (41, true) else if r = 41 then (40, false) else if r = 91 then (93, true) else if r = 93 then (91, false) else if r = 123 then (125, true) else if r = 125 then (123, false) else (0, false)
section
variable {w : World}
set_option maxHeartbeats 4000000 in
theorem other_calls {r : Int} : CallsR Try.prog 30 #[.int .i32 r] w fun u w' => Kn w w' ∧ u = .tuple #[.int .i32 (otherM r).1, .bool (otherM r).2] := by
  refine l_enter (fun _ => False) Try.func30 rfl rfl ?_
  repeat(first|refine lrun_ ?_|(refine lo_boxA rfl rfl ?_;intro _ _ _)|(refine lo_box1 rfl rfl rfl ?_;intro _ _ _)|(refine lo_alloc rfl ?_;intro _ _ _))
  refine lo_rangeS rfl rfl ?_
  intro g _ _
  repeat(first|refine lrun_ ?_|(refine lo_boxA rfl rfl ?_;intro _ _ _)|(refine lo_box1 rfl rfl rfl ?_;intro _ _ _)|(refine lo_alloc rfl ?_;intro _ _ _))
  refine l_while (fun i => 6 - i) (fun i : Nat => [(0, .int .i32 r), (6, .pointer (some ⟨g, 0, none⟩))]) (fun i => [(g, .stringIter ⟨#[40, 41, 91, 93, 123, 125]⟩ i)]) (fun i => i ≤ 6 ∧ (0 < i → r ≠ 40) ∧ (1 < i → r ≠ 41) ∧ (2 < i → r ≠ 91) ∧ (3 < i → r ≠ 93) ∧ (4 < i → r ≠ 123) ∧ (5 < i → r ≠ 125)) 0 (by repeat (first | exact SubB.nil | refine SubB.cons rfl ?_)) (by repeat(first|exact MSub.refl|refine MSub.keep rfl ?_|exact MSub.nil|apply MSub.drop)) ⟨by omega, by omega, by omega, by omega, by omega, by omega, by omega⟩ ?_
  rintro i ⟨hi, h0, h1, h2, h3, h4, h5⟩ ih
  rcases (by omega : i = 0 ∨ i = 1 ∨ i = 2 ∨ i = 3 ∨ i = 4 ∨ i = 5 ∨ i = 6) with rfl | rfl | rfl | rfl | rfl | rfl | rfl
  · repeat(first|refine lrun_ ?_|(refine lo_boxA rfl rfl ?_;intro _ _ _)|(refine lo_box1 rfl rfl rfl ?_;intro _ _ _)|(refine lo_alloc rfl ?_;intro _ _ _))
    refine lo_nextS (r := 40) (n := 1) rfl (by(repeat(first|exact MIn.hd|refine MIn.tl ?_));done) (by decide) (by kernel_rfl) (by first|exact .hd|exact .tl .hd|exact .tl (.tl .hd)|exact .tl (.tl (.tl .hd))|exact .tl (.tl (.tl (.tl .hd)))|exact .tl (.tl (.tl (.tl (.tl .hd))))|exact .tl (.tl (.tl (.tl (.tl (.tl .hd)))))|exact .tl (.tl (.tl (.tl (.tl (.tl (.tl .hd))))))|exact .tl (.tl (.tl (.tl (.tl (.tl (.tl (.tl .hd)))))))) rfl ?_
    repeat(first|refine lrun_ ?_|(refine lo_boxA rfl rfl ?_;intro _ _ _)|(refine lo_box1 rfl rfl rfl ?_;intro _ _ _)|(refine lo_alloc rfl ?_;intro _ _ _))
    refine l_true rfl ?_
    repeat(first|refine lrun_ ?_|(refine lo_boxA rfl rfl ?_;intro _ _ _)|(refine lo_box1 rfl rfl rfl ?_;intro _ _ _)|(refine lo_alloc rfl ?_;intro _ _ _))
    refine l_ite rfl (fun he => ?_) (fun he => ?_)
    · have he : r = 40 := he.symm
      subst he
      repeat(first|refine lrun_ ?_|(refine lo_boxA rfl rfl ?_;intro _ _ _)|(refine lo_box1 rfl rfl rfl ?_;intro _ _ _)|(refine lo_alloc rfl ?_;intro _ _ _))
      refine lo_rn (fun _ => r_xor (c := 1) rfl rfl (by kernel_rfl)) rfl ?_
      refine lo_rn (fun _ => r_indexS rfl rfl (by decide) (by decide)) rfl ?_
      refine lo_rn (fun _ => r_conv32 rfl (by decide) (by decide)) rfl ?_
      repeat(first|refine lrun_ ?_|(refine lo_boxA rfl rfl ?_;intro _ _ _)|(refine lo_box1 rfl rfl rfl ?_;intro _ _ _)|(refine lo_alloc rfl ?_;intro _ _ _))
      refine lo_rn (fun _ => r_rem (b := 2) rfl rfl (by decide)) rfl ?_
      repeat(first|refine lrun_ ?_|(refine lo_boxA rfl rfl ?_;intro _ _ _)|(refine lo_box1 rfl rfl rfl ?_;intro _ _ _)|(refine lo_alloc rfl ?_;intro _ _ _))
      exact l_retR2 rfl (by repeat(first|exact LRes.nil|refine LRes.tmp rfl ?_|refine LRes.agg rfl (by(repeat(first|exact MIn.hd|refine MIn.tl ?_));done) (by rfl) (by rfl) ?_|refine LRes.one rfl (by(repeat(first|exact MIn.hd|refine MIn.tl ?_));done) (by rfl) ?_)) fun w hw => ⟨hw.org, rfl⟩
    · have he : r ≠ 40 := fun e => he e.symm
      repeat(first|refine lrun_ ?_|(refine lo_boxA rfl rfl ?_;intro _ _ _)|(refine lo_box1 rfl rfl rfl ?_;intro _ _ _)|(refine lo_alloc rfl ?_;intro _ _ _))
      exact ih 1 ⟨by omega, by omega, by omega, by omega, by omega, by omega, by omega⟩ (by omega) _ _ (by repeat (first | exact SubB.nil | refine SubB.cons rfl ?_)) (by repeat(first|exact MSub.refl|refine MSub.keep rfl ?_|exact MSub.nil|apply MSub.drop))
  · repeat(first|refine lrun_ ?_|(refine lo_boxA rfl rfl ?_;intro _ _ _)|(refine lo_box1 rfl rfl rfl ?_;intro _ _ _)|(refine lo_alloc rfl ?_;intro _ _ _))
    refine lo_nextS (r := 41) (n := 1) rfl (by(repeat(first|exact MIn.hd|refine MIn.tl ?_));done) (by decide) (by kernel_rfl) (by first|exact .hd|exact .tl .hd|exact .tl (.tl .hd)|exact .tl (.tl (.tl .hd))|exact .tl (.tl (.tl (.tl .hd)))|exact .tl (.tl (.tl (.tl (.tl .hd))))|exact .tl (.tl (.tl (.tl (.tl (.tl .hd)))))|exact .tl (.tl (.tl (.tl (.tl (.tl (.tl .hd))))))|exact .tl (.tl (.tl (.tl (.tl (.tl (.tl (.tl .hd)))))))) rfl ?_
    repeat(first|refine lrun_ ?_|(refine lo_boxA rfl rfl ?_;intro _ _ _)|(refine lo_box1 rfl rfl rfl ?_;intro _ _ _)|(refine lo_alloc rfl ?_;intro _ _ _))
    refine l_true rfl ?_
    repeat(first|refine lrun_ ?_|(refine lo_boxA rfl rfl ?_;intro _ _ _)|(refine lo_box1 rfl rfl rfl ?_;intro _ _ _)|(refine lo_alloc rfl ?_;intro _ _ _))
    refine l_ite rfl (fun he => ?_) (fun he => ?_)
    · have he : r = 41 := he.symm
      subst he
      repeat(first|refine lrun_ ?_|(refine lo_boxA rfl rfl ?_;intro _ _ _)|(refine lo_box1 rfl rfl rfl ?_;intro _ _ _)|(refine lo_alloc rfl ?_;intro _ _ _))
      refine lo_rn (fun _ => r_xor (c := 0) rfl rfl (by kernel_rfl)) rfl ?_
      refine lo_rn (fun _ => r_indexS rfl rfl (by decide) (by decide)) rfl ?_
      refine lo_rn (fun _ => r_conv32 rfl (by decide) (by decide)) rfl ?_
      repeat(first|refine lrun_ ?_|(refine lo_boxA rfl rfl ?_;intro _ _ _)|(refine lo_box1 rfl rfl rfl ?_;intro _ _ _)|(refine lo_alloc rfl ?_;intro _ _ _))
      refine lo_rn (fun _ => r_rem (b := 2) rfl rfl (by decide)) rfl ?_
      repeat(first|refine lrun_ ?_|(refine lo_boxA rfl rfl ?_;intro _ _ _)|(refine lo_box1 rfl rfl rfl ?_;intro _ _ _)|(refine lo_alloc rfl ?_;intro _ _ _))
      exact l_retR2 rfl (by repeat(first|exact LRes.nil|refine LRes.tmp rfl ?_|refine LRes.agg rfl (by(repeat(first|exact MIn.hd|refine MIn.tl ?_));done) (by rfl) (by rfl) ?_|refine LRes.one rfl (by(repeat(first|exact MIn.hd|refine MIn.tl ?_));done) (by rfl) ?_)) fun w hw => ⟨hw.org, rfl⟩
    · have he : r ≠ 41 := fun e => he e.symm
      repeat(first|refine lrun_ ?_|(refine lo_boxA rfl rfl ?_;intro _ _ _)|(refine lo_box1 rfl rfl rfl ?_;intro _ _ _)|(refine lo_alloc rfl ?_;intro _ _ _))
      exact ih 2 ⟨by omega, by omega, by omega, by omega, by omega, by omega, by omega⟩ (by omega) _ _ (by repeat (first | exact SubB.nil | refine SubB.cons rfl ?_)) (by repeat(first|exact MSub.refl|refine MSub.keep rfl ?_|exact MSub.nil|apply MSub.drop))
  · repeat(first|refine lrun_ ?_|(refine lo_boxA rfl rfl ?_;intro _ _ _)|(refine lo_box1 rfl rfl rfl ?_;intro _ _ _)|(refine lo_alloc rfl ?_;intro _ _ _))
    refine lo_nextS (r := 91) (n := 1) rfl (by(repeat(first|exact MIn.hd|refine MIn.tl ?_));done) (by decide) (by kernel_rfl) (by first|exact .hd|exact .tl .hd|exact .tl (.tl .hd)|exact .tl (.tl (.tl .hd))|exact .tl (.tl (.tl (.tl .hd)))|exact .tl (.tl (.tl (.tl (.tl .hd))))|exact .tl (.tl (.tl (.tl (.tl (.tl .hd)))))|exact .tl (.tl (.tl (.tl (.tl (.tl (.tl .hd))))))|exact .tl (.tl (.tl (.tl (.tl (.tl (.tl (.tl .hd)))))))) rfl ?_
    repeat(first|refine lrun_ ?_|(refine lo_boxA rfl rfl ?_;intro _ _ _)|(refine lo_box1 rfl rfl rfl ?_;intro _ _ _)|(refine lo_alloc rfl ?_;intro _ _ _))
    refine l_true rfl ?_
    repeat(first|refine lrun_ ?_|(refine lo_boxA rfl rfl ?_;intro _ _ _)|(refine lo_box1 rfl rfl rfl ?_;intro _ _ _)|(refine lo_alloc rfl ?_;intro _ _ _))
    refine l_ite rfl (fun he => ?_) (fun he => ?_)
    · have he : r = 91 := he.symm
      subst he
      repeat(first|refine lrun_ ?_|(refine lo_boxA rfl rfl ?_;intro _ _ _)|(refine lo_box1 rfl rfl rfl ?_;intro _ _ _)|(refine lo_alloc rfl ?_;intro _ _ _))
      refine lo_rn (fun _ => r_xor (c := 3) rfl rfl (by kernel_rfl)) rfl ?_
      refine lo_rn (fun _ => r_indexS rfl rfl (by decide) (by decide)) rfl ?_
      refine lo_rn (fun _ => r_conv32 rfl (by decide) (by decide)) rfl ?_
      repeat(first|refine lrun_ ?_|(refine lo_boxA rfl rfl ?_;intro _ _ _)|(refine lo_box1 rfl rfl rfl ?_;intro _ _ _)|(refine lo_alloc rfl ?_;intro _ _ _))
      refine lo_rn (fun _ => r_rem (b := 2) rfl rfl (by decide)) rfl ?_
      repeat(first|refine lrun_ ?_|(refine lo_boxA rfl rfl ?_;intro _ _ _)|(refine lo_box1 rfl rfl rfl ?_;intro _ _ _)|(refine lo_alloc rfl ?_;intro _ _ _))
      exact l_retR2 rfl (by repeat(first|exact LRes.nil|refine LRes.tmp rfl ?_|refine LRes.agg rfl (by(repeat(first|exact MIn.hd|refine MIn.tl ?_));done) (by rfl) (by rfl) ?_|refine LRes.one rfl (by(repeat(first|exact MIn.hd|refine MIn.tl ?_));done) (by rfl) ?_)) fun w hw => ⟨hw.org, rfl⟩
    · have he : r ≠ 91 := fun e => he e.symm
      repeat(first|refine lrun_ ?_|(refine lo_boxA rfl rfl ?_;intro _ _ _)|(refine lo_box1 rfl rfl rfl ?_;intro _ _ _)|(refine lo_alloc rfl ?_;intro _ _ _))
      exact ih 3 ⟨by omega, by omega, by omega, by omega, by omega, by omega, by omega⟩ (by omega) _ _ (by repeat (first | exact SubB.nil | refine SubB.cons rfl ?_)) (by repeat(first|exact MSub.refl|refine MSub.keep rfl ?_|exact MSub.nil|apply MSub.drop))
  · repeat(first|refine lrun_ ?_|(refine lo_boxA rfl rfl ?_;intro _ _ _)|(refine lo_box1 rfl rfl rfl ?_;intro _ _ _)|(refine lo_alloc rfl ?_;intro _ _ _))
    refine lo_nextS (r := 93) (n := 1) rfl (by(repeat(first|exact MIn.hd|refine MIn.tl ?_));done) (by decide) (by kernel_rfl) (by first|exact .hd|exact .tl .hd|exact .tl (.tl .hd)|exact .tl (.tl (.tl .hd))|exact .tl (.tl (.tl (.tl .hd)))|exact .tl (.tl (.tl (.tl (.tl .hd))))|exact .tl (.tl (.tl (.tl (.tl (.tl .hd)))))|exact .tl (.tl (.tl (.tl (.tl (.tl (.tl .hd))))))|exact .tl (.tl (.tl (.tl (.tl (.tl (.tl (.tl .hd)))))))) rfl ?_
    repeat(first|refine lrun_ ?_|(refine lo_boxA rfl rfl ?_;intro _ _ _)|(refine lo_box1 rfl rfl rfl ?_;intro _ _ _)|(refine lo_alloc rfl ?_;intro _ _ _))
    refine l_true rfl ?_
    repeat(first|refine lrun_ ?_|(refine lo_boxA rfl rfl ?_;intro _ _ _)|(refine lo_box1 rfl rfl rfl ?_;intro _ _ _)|(refine lo_alloc rfl ?_;intro _ _ _))
    refine l_ite rfl (fun he => ?_) (fun he => ?_)
    · have he : r = 93 := he.symm
      subst he
      repeat(first|refine lrun_ ?_|(refine lo_boxA rfl rfl ?_;intro _ _ _)|(refine lo_box1 rfl rfl rfl ?_;intro _ _ _)|(refine lo_alloc rfl ?_;intro _ _ _))
      refine lo_rn (fun _ => r_xor (c := 2) rfl rfl (by kernel_rfl)) rfl ?_
      refine lo_rn (fun _ => r_indexS rfl rfl (by decide) (by decide)) rfl ?_
      refine lo_rn (fun _ => r_conv32 rfl (by decide) (by decide)) rfl ?_
      repeat(first|refine lrun_ ?_|(refine lo_boxA rfl rfl ?_;intro _ _ _)|(refine lo_box1 rfl rfl rfl ?_;intro _ _ _)|(refine lo_alloc rfl ?_;intro _ _ _))
      refine lo_rn (fun _ => r_rem (b := 2) rfl rfl (by decide)) rfl ?_
      repeat(first|refine lrun_ ?_|(refine lo_boxA rfl rfl ?_;intro _ _ _)|(refine lo_box1 rfl rfl rfl ?_;intro _ _ _)|(refine lo_alloc rfl ?_;intro _ _ _))
      exact l_retR2 rfl (by repeat(first|exact LRes.nil|refine LRes.tmp rfl ?_|refine LRes.agg rfl (by(repeat(first|exact MIn.hd|refine MIn.tl ?_));done) (by rfl) (by rfl) ?_|refine LRes.one rfl (by(repeat(first|exact MIn.hd|refine MIn.tl ?_));done) (by rfl) ?_)) fun w hw => ⟨hw.org, rfl⟩
    · have he : r ≠ 93 := fun e => he e.symm
      repeat(first|refine lrun_ ?_|(refine lo_boxA rfl rfl ?_;intro _ _ _)|(refine lo_box1 rfl rfl rfl ?_;intro _ _ _)|(refine lo_alloc rfl ?_;intro _ _ _))
      exact ih 4 ⟨by omega, by omega, by omega, by omega, by omega, by omega, by omega⟩ (by omega) _ _ (by repeat (first | exact SubB.nil | refine SubB.cons rfl ?_)) (by repeat(first|exact MSub.refl|refine MSub.keep rfl ?_|exact MSub.nil|apply MSub.drop))
  · repeat(first|refine lrun_ ?_|(refine lo_boxA rfl rfl ?_;intro _ _ _)|(refine lo_box1 rfl rfl rfl ?_;intro _ _ _)|(refine lo_alloc rfl ?_;intro _ _ _))
    refine lo_nextS (r := 123) (n := 1) rfl (by(repeat(first|exact MIn.hd|refine MIn.tl ?_));done) (by decide) (by kernel_rfl) (by first|exact .hd|exact .tl .hd|exact .tl (.tl .hd)|exact .tl (.tl (.tl .hd))|exact .tl (.tl (.tl (.tl .hd)))|exact .tl (.tl (.tl (.tl (.tl .hd))))|exact .tl (.tl (.tl (.tl (.tl (.tl .hd)))))|exact .tl (.tl (.tl (.tl (.tl (.tl (.tl .hd))))))|exact .tl (.tl (.tl (.tl (.tl (.tl (.tl (.tl .hd)))))))) rfl ?_
    repeat(first|refine lrun_ ?_|(refine lo_boxA rfl rfl ?_;intro _ _ _)|(refine lo_box1 rfl rfl rfl ?_;intro _ _ _)|(refine lo_alloc rfl ?_;intro _ _ _))
    refine l_true rfl ?_
    repeat(first|refine lrun_ ?_|(refine lo_boxA rfl rfl ?_;intro _ _ _)|(refine lo_box1 rfl rfl rfl ?_;intro _ _ _)|(refine lo_alloc rfl ?_;intro _ _ _))
    refine l_ite rfl (fun he => ?_) (fun he => ?_)
    · have he : r = 123 := he.symm
      subst he
      repeat(first|refine lrun_ ?_|(refine lo_boxA rfl rfl ?_;intro _ _ _)|(refine lo_box1 rfl rfl rfl ?_;intro _ _ _)|(refine lo_alloc rfl ?_;intro _ _ _))
      refine lo_rn (fun _ => r_xor (c := 5) rfl rfl (by kernel_rfl)) rfl ?_
      refine lo_rn (fun _ => r_indexS rfl rfl (by decide) (by decide)) rfl ?_
      refine lo_rn (fun _ => r_conv32 rfl (by decide) (by decide)) rfl ?_
      repeat(first|refine lrun_ ?_|(refine lo_boxA rfl rfl ?_;intro _ _ _)|(refine lo_box1 rfl rfl rfl ?_;intro _ _ _)|(refine lo_alloc rfl ?_;intro _ _ _))
      refine lo_rn (fun _ => r_rem (b := 2) rfl rfl (by decide)) rfl ?_
      repeat(first|refine lrun_ ?_|(refine lo_boxA rfl rfl ?_;intro _ _ _)|(refine lo_box1 rfl rfl rfl ?_;intro _ _ _)|(refine lo_alloc rfl ?_;intro _ _ _))
      exact l_retR2 rfl (by repeat(first|exact LRes.nil|refine LRes.tmp rfl ?_|refine LRes.agg rfl (by(repeat(first|exact MIn.hd|refine MIn.tl ?_));done) (by rfl) (by rfl) ?_|refine LRes.one rfl (by(repeat(first|exact MIn.hd|refine MIn.tl ?_));done) (by rfl) ?_)) fun w hw => ⟨hw.org, rfl⟩
    · have he : r ≠ 123 := fun e => he e.symm
      repeat(first|refine lrun_ ?_|(refine lo_boxA rfl rfl ?_;intro _ _ _)|(refine lo_box1 rfl rfl rfl ?_;intro _ _ _)|(refine lo_alloc rfl ?_;intro _ _ _))
      exact ih 5 ⟨by omega, by omega, by omega, by omega, by omega, by omega, by omega⟩ (by omega) _ _ (by repeat (first | exact SubB.nil | refine SubB.cons rfl ?_)) (by repeat(first|exact MSub.refl|refine MSub.keep rfl ?_|exact MSub.nil|apply MSub.drop))
  · repeat(first|refine lrun_ ?_|(refine lo_boxA rfl rfl ?_;intro _ _ _)|(refine lo_box1 rfl rfl rfl ?_;intro _ _ _)|(refine lo_alloc rfl ?_;intro _ _ _))
    refine lo_nextS (r := 125) (n := 1) rfl (by(repeat(first|exact MIn.hd|refine MIn.tl ?_));done) (by decide) (by kernel_rfl) (by first|exact .hd|exact .tl .hd|exact .tl (.tl .hd)|exact .tl (.tl (.tl .hd))|exact .tl (.tl (.tl (.tl .hd)))|exact .tl (.tl (.tl (.tl (.tl .hd))))|exact .tl (.tl (.tl (.tl (.tl (.tl .hd)))))|exact .tl (.tl (.tl (.tl (.tl (.tl (.tl .hd))))))|exact .tl (.tl (.tl (.tl (.tl (.tl (.tl (.tl .hd)))))))) rfl ?_
    repeat(first|refine lrun_ ?_|(refine lo_boxA rfl rfl ?_;intro _ _ _)|(refine lo_box1 rfl rfl rfl ?_;intro _ _ _)|(refine lo_alloc rfl ?_;intro _ _ _))
    refine l_true rfl ?_
    repeat(first|refine lrun_ ?_|(refine lo_boxA rfl rfl ?_;intro _ _ _)|(refine lo_box1 rfl rfl rfl ?_;intro _ _ _)|(refine lo_alloc rfl ?_;intro _ _ _))
    refine l_ite rfl (fun he => ?_) (fun he => ?_)
    · have he : r = 125 := he.symm
      subst he
      repeat(first|refine lrun_ ?_|(refine lo_boxA rfl rfl ?_;intro _ _ _)|(refine lo_box1 rfl rfl rfl ?_;intro _ _ _)|(refine lo_alloc rfl ?_;intro _ _ _))
      refine lo_rn (fun _ => r_xor (c := 4) rfl rfl (by kernel_rfl)) rfl ?_
      refine lo_rn (fun _ => r_indexS rfl rfl (by decide) (by decide)) rfl ?_
      refine lo_rn (fun _ => r_conv32 rfl (by decide) (by decide)) rfl ?_
      repeat(first|refine lrun_ ?_|(refine lo_boxA rfl rfl ?_;intro _ _ _)|(refine lo_box1 rfl rfl rfl ?_;intro _ _ _)|(refine lo_alloc rfl ?_;intro _ _ _))
      refine lo_rn (fun _ => r_rem (b := 2) rfl rfl (by decide)) rfl ?_
      repeat(first|refine lrun_ ?_|(refine lo_boxA rfl rfl ?_;intro _ _ _)|(refine lo_box1 rfl rfl rfl ?_;intro _ _ _)|(refine lo_alloc rfl ?_;intro _ _ _))
      exact l_retR2 rfl (by repeat(first|exact LRes.nil|refine LRes.tmp rfl ?_|refine LRes.agg rfl (by(repeat(first|exact MIn.hd|refine MIn.tl ?_));done) (by rfl) (by rfl) ?_|refine LRes.one rfl (by(repeat(first|exact MIn.hd|refine MIn.tl ?_));done) (by rfl) ?_)) fun w hw => ⟨hw.org, rfl⟩
    · have he : r ≠ 125 := fun e => he e.symm
      repeat(first|refine lrun_ ?_|(refine lo_boxA rfl rfl ?_;intro _ _ _)|(refine lo_box1 rfl rfl rfl ?_;intro _ _ _)|(refine lo_alloc rfl ?_;intro _ _ _))
      exact ih 6 ⟨by omega, by omega, by omega, by omega, by omega, by omega, by omega⟩ (by omega) _ _ (by repeat (first | exact SubB.nil | refine SubB.cons rfl ?_)) (by repeat(first|exact MSub.refl|refine MSub.keep rfl ?_|exact MSub.nil|apply MSub.drop))
  · repeat(first|refine lrun_ ?_|(refine lo_boxA rfl rfl ?_;intro _ _ _)|(refine lo_box1 rfl rfl rfl ?_;intro _ _ _)|(refine lo_alloc rfl ?_;intro _ _ _))
    refine lo_nextEnd rfl (by(repeat(first|exact MIn.hd|refine MIn.tl ?_));done) (by decide) rfl ?_
    repeat(first|refine lrun_ ?_|(refine lo_boxA rfl rfl ?_;intro _ _ _)|(refine lo_box1 rfl rfl rfl ?_;intro _ _ _)|(refine lo_alloc rfl ?_;intro _ _ _))
    refine l_false rfl ?_
    repeat(first|refine lrun_ ?_|(refine lo_boxA rfl rfl ?_;intro _ _ _)|(refine lo_box1 rfl rfl rfl ?_;intro _ _ _)|(refine lo_alloc rfl ?_;intro _ _ _))
    refine l_retR2 rfl (by repeat(first|exact LRes.nil|refine LRes.tmp rfl ?_|refine LRes.agg rfl (by(repeat(first|exact MIn.hd|refine MIn.tl ?_));done) (by rfl) (by rfl) ?_|refine LRes.one rfl (by(repeat(first|exact MIn.hd|refine MIn.tl ?_));done) (by rfl) ?_)) fun w hw => ⟨hw.org, ?_⟩
    have : otherM r = (0, false) := by unfold otherM; rw [if_neg (by omega), if_neg (by omega), if_neg (by omega), if_neg (by omega), if_neg (by omega), if_neg (by omega)]
    rw [this]
end
end Go.Ink

set_option linter.unusedVariables false
set_option linter.unusedSimpArgs false
namespace Go.Ink
open Go Go.Proofs

theorem getD_int {x : List Int} {i : Nat} (h : i < x.length) : x.getD i 0 = x[i] := by rw [List.getD_eq_getElem?_getD, List.getElem?_eq_getElem h]; rfl
def lineM (row : List Int) (x y by_ : Int) : Nat → Int → Int → Option Int × Int
  | 0, _, d => (none, d)
  | n + 1, k, d =>
    if 0 ≤ k ∧ k < row.length then
      if row.getD k.toNat 0 = x then (if d + 1 = 0 then (some k, d + 1) else lineM row x y by_ n (k + by_) (d + 1))
      else if row.getD k.toNat 0 = y then (if d - 1 = 0 then (some k, d - 1) else lineM row x y by_ n (k + by_) (d - 1))
      else lineM row x y by_ n (k + by_) d
    else (none, d)
def startM (l : List (List Int)) (p : Ps) (by_ i : Int) : Int := if i = p.1 then p.2 else if by_ < 0 then (l.getD i.toNat []).length - 1 else 0
def pairGo (l : List (List Int)) (p : Ps) (x y by_ : Int) : Nat → Int → Int → Option Ps
  | 0, _, _ => none
  | n + 1, i, d =>
    if 0 ≤ i ∧ i < l.length then
      match lineM (l.getD i.toNat []) x y by_ ((l.getD i.toNat []).length + 1) (startM l p by_ i) d with
      | (some k, _) => some (i, k)
      | (none, d') => pairGo l p x y by_ n (i + by_) d'
    else none
def byM (behind : Bool) : Int := if behind = true then 1 else -1
def pairM (l : List (List Int)) (p : Ps) (x y : Int) (behind : Bool) (want : Int) : Option Ps := pairGo l p x y (byM behind) (l.length + 1) p.1 (want - 1)
theorem lineM_d (row : List Int) (x y by_ : Int) : ∀ n k d, d - n ≤ (lineM row x y by_ n k d).2 ∧ (lineM row x y by_ n k d).2 ≤ d + n
  | 0, k, d => by simp [lineM]
  | n + 1, k, d => by
    unfold lineM
    have h1 := lineM_d row x y by_ n (k + by_) (d + 1)
    have h2 := lineM_d row x y by_ n (k + by_) (d - 1)
    have h3 := lineM_d row x y by_ n (k + by_) d
    split
    · split
      · split
        · simp only; omega
        · omega
      · split
        · split
          · simp only; omega
          · omega
        · omega
    · simp only; omega
def pairV (p : Ps) (r : Option Ps) : Value := match r with
  | some q => .tuple #[posV q, .bool true]
  | none => .tuple #[posV p, .bool false]
structure PrSt where
  n : Nat
  i : Int
  d : Int
structure PlnSt where
  n : Nat
  k : Int
  d : Int
section
variable {F : Nat → Prop} {w : World} {v : Value} {l : List (List Int)} {p : Ps} {x y want : Int} {behind : Bool}
set_option maxHeartbeats 4000000 in
theorem pair_calls (h : Sl kRow F w v l) (hrows : ∀ r ∈ l, r.length ≤ 4000) (hll : l.length ≤ 4000) (hp1 : 0 ≤ p.1 ∧ p.1 < l.length) (hp2 : 0 ≤ p.2 ∧ p.2 ≤ (l.getD p.1.toNat []).length) (hw : 0 ≤ want ∧ want ≤ 5) :
    CallsR Try.prog 31 #[v, posV p, .int .i32 x, .int .i32 y, .bool behind, .int .i64 want] w fun u w' => Kn w w' ∧ u = pairV p (pairM l p x y behind want) := by
  obtain ⟨A, c, rfl, hc, hlf⟩ := h.form
  refine calls_enter Try.func31 rfl rfl ?_
  repeat(refine run_ ?_)
  refine o_any (e_box rfl) (wants_none rfl) rfl ?_
  rintro _ w1 ⟨g1, rfl, nb1⟩
  refine o_any (e_alloc) (wants_none rfl) rfl ?_
  rintro _ w2 ⟨g2, rfl, nb2⟩
  have k2 : Kn w w2 := nb1.kn.trans nb2.kn
  have b1 := nb2.kn.blk nb1.at_ id
  have b2 := nb2.at_
  have e2 := nb2.ge
  have z1 := nb1.kn.size
  have p0 : w2.cell? ⟨g1, 0, none⟩ = some (.int .i64 p.1) := blk_cell b1
  have p1 : w2.cell? ⟨g1, 1, none⟩ = some (.int .i64 p.2) := blk_cell b1
  have hlen := hlf.len
  have hby : byM behind = 1 ∨ byM behind = -1 := by unfold byM; split <;> simp
  have J : ∀ σ', SubB σ' [(0, .slice A l.length c), (2, .int .i32 x), (3, .int .i32 y), (5, .int .i64 want), (7, .pointer (some ⟨g1, 0, none⟩)), (12, .pointer (some ⟨g2, 0, none⟩)), (14, .int .i64 (byM behind))] → WK Try.prog Try.f31 [.code (bodyC Try.f31 [1, 1, 1])] σ' w2 fun u w' => Kn w w' ∧ u = pairV p (pairM l p x y behind want) := by
    intro σ' hs
    refine WK.sub (Sub.mk hs) ?_
    clear hs σ'
    have hpm : pairM l p x y behind want = pairGo l p x y (byM behind) (l.length + 1) p.1 (want - 1) := rfl
    generalize byM behind = b at *
    repeat(refine run_ ?_)
    refine o_still (r_load rfl p0) (wants_none rfl) rfl ?_
    repeat(refine run_ ?_)
    refine k_while (S := PrSt) (fun s => s.n) (fun s => [(0, .slice A l.length c), (2, .int .i32 x), (3, .int .i32 y), (7, .pointer (some ⟨g1, 0, none⟩)), (12, .pointer (some ⟨g2, 0, none⟩)), (14, .int .i64 b), (15, .int .i64 s.d), (16, .int .i64 s.i)])
      (fun s wr => wr = w2 ∧ -1 ≤ s.i ∧ s.i ≤ l.length ∧ (b = 1 → (l.length : Int) ≤ s.i + s.n) ∧ (b = -1 → s.i + 1 ≤ s.n) ∧ s.n ≤ l.length + 1 ∧ (-10 : Int) - 4001 * ((l.length : Int) + 1 - s.n) ≤ s.d ∧ s.d ≤ 10 + 4001 * ((l.length : Int) + 1 - s.n) ∧ pairM l p x y behind want = pairGo l p x y b s.n s.i s.d)
      ⟨l.length + 1, p.1, want - 1⟩ (by repeat (first | exact SubB.nil | refine SubB.cons rfl ?_)) ⟨rfl, by show -1 ≤ p.1; omega, by show p.1 ≤ l.length; omega, fun _ => by show (l.length : Int) ≤ p.1 + ((l.length + 1 : Nat) : Int); omega, fun _ => by show p.1 + 1 ≤ ((l.length + 1 : Nat) : Int); omega, Nat.le_refl _, by show (-10 : Int) - 4001 * ((l.length : Int) + 1 - ((l.length + 1 : Nat) : Int)) ≤ want - 1; omega, by show want - 1 ≤ 10 + 4001 * ((l.length : Int) + 1 - ((l.length + 1 : Nat) : Int)); omega, hpm⟩ ?_
    rintro ⟨n, i, d⟩ w2 ⟨rfl, hi1, hi2, hn1, hn2, hnl, hd1, hd2, heq⟩ ih
    simp only at hi1 hi2 hn1 hn2 hnl hd1 hd2 heq ih ⊢
    have fin : pairM l p x y behind want = none → WK Try.prog Try.f31 [.code (bodyC Try.f31 [1, 1, 1, 1, 1])] [(7, .pointer (some ⟨g1, 0, none⟩)), (12, .pointer (some ⟨g2, 0, none⟩))] w2 fun u w' => Kn w w' ∧ u = pairV p (pairM l p x y behind want) := by
      intro he
      repeat(refine run_ ?_)
      refine o_still (r_loadA (cs := [.int .i64 p.1, .int .i64 p.2]) rfl rfl (by
        intro j u hu
        match j, hu with
        | 0, hu => cases hu; exact p0
        | 1, hu => cases hu; exact p1)) (wants_none rfl) rfl ?_
      refine o_unit (u_storeA rfl rfl rfl (by simp [Value.oneCell']) rfl b2 (Nat.le_refl 2)) (wants_none rfl) rfl ?_
      rintro w4 hw4
      repeat(refine run_ ?_)
      exact k_retR2 rfl (.agg rfl rfl (blk_all hw4.at_) (.tmp rfl .nil)) ⟨Kp.then k2 hw4.kp (fun _ h => h) fun i hi he => by omega, by rw [he]; rfl⟩
    by_cases hin : 0 ≤ i ∧ i < l.length
    case neg =>
      have he : pairM l p x y behind want = none := by
        rw [heq]
        cases n with
        | zero => rfl
        | succ m => unfold pairGo; rw [if_neg hin]
      by_cases hi0 : 0 ≤ i
      · have hnlt : ¬ i < l.length := fun h => hin ⟨hi0, h⟩
        repeat(refine run_ ?_)
        refine k_no rfl hnlt ?_
        refine k_exit rfl ?_
        exact WK.sub (Sub.mk (by repeat (first | exact SubB.nil | refine SubB.cons rfl ?_))) (fin he)
      · repeat(refine run_ ?_)
        refine k_false rfl ?_
        refine k_exit rfl ?_
        exact WK.sub (Sub.mk (by repeat (first | exact SubB.nil | refine SubB.cons rfl ?_))) (fin he)
    obtain ⟨hi0, hil⟩ := hin
    have hnpos : 0 < n := by
      rcases hby with hb | hb
      · have := hn1 hb; omega
      · have := hn2 hb; omega
    obtain ⟨m, rfl⟩ : ∃ m, n = m + 1 := ⟨n - 1, by omega⟩
    obtain ⟨j, rfl⟩ : ∃ j : Nat, i = j := ⟨i.toNat, by omega⟩
    have hj : j < l.length := by omega
    obtain ⟨ad, cs, rfl, ⟨v1, rfl, hrow⟩, hcell⟩ := h.at_ (List.getElem?_eq_getElem hj)
    obtain ⟨A1, c1, rfl, hc1, hf1⟩ := hrow.form
    have hrl := hrows l[j] (List.getElem_mem hj)
    have hgd : l.getD ((j : Nat) : Int).toNat [] = l[j] := by rw [Int.toNat_natCast]; exact getD_get hj
    have hst : startM l p b (j : Int) = if (j : Int) = p.1 then p.2 else if b < 0 then (l[j].length : Int) - 1 else 0 := by unfold startM; rw [hgd]
    have hsb : -1 ≤ startM l p b (j : Int) ∧ startM l p b (j : Int) ≤ l[j].length ∧ (b = 1 → 0 ≤ startM l p b (j : Int)) := by
      rw [hst]
      split
      · next he => rw [← he, hgd] at hp2; exact ⟨by omega, by omega, fun _ => by omega⟩
      · split
        · next hb => exact ⟨by omega, by omega, fun hb' => by omega⟩
        · exact ⟨by omega, by omega, fun _ => by omega⟩
    have hgo : pairM l p x y behind want = (match lineM l[j] x y b (l[j].length + 1) (startM l p b (j : Int)) d with | (some k, _) => some ((j : Int), k) | (none, d') => pairGo l p x y b m ((j : Int) + b) d') := by
      rw [heq]
      show (if 0 ≤ (j : Int) ∧ (j : Int) < l.length then _ else _) = _
      rw [if_pos ⟨hi0, hil⟩, hgd]
    have c0 : ad.add (j * 1) = ad.add (j * 1) := rfl
    have hld : w2.cell? (ad.add (j * 1)) = some (.slice A1 l[j].length c1) := k2.cell (p := ad.add (j * 1)) (hcell 0 _ rfl) id
    have hrow2 := k2.sl hrow
    have J1 : ∀ σ', SubB σ' [(0, .slice (some ad) l.length c), (2, .int .i32 x), (3, .int .i32 y), (7, .pointer (some ⟨g1, 0, none⟩)), (12, .pointer (some ⟨g2, 0, none⟩)), (14, .int .i64 b), (15, .int .i64 d), (16, .int .i64 j), (17, .int .i64 (startM l p b (j : Int)))] →
        WK Try.prog Try.f31 (.code (bodyC Try.f31 [1, 1, 1, 1, 0, 1, 0, 0, 1, 0, 0, 1, 1, 1]) :: [.inBlock 1, .code (bodyC Try.f31 [1, 1, 1, 1, 0, 1, 0, 0, 1, 1]), .inLoop (bodyC Try.f31 [1, 1, 1, 1, 0, 1, 0, 0]), .inBlock 0, .code (bodyC Try.f31 [1, 1, 1, 1, 1])]) σ' w2 fun u w' => Kn w w' ∧ u = pairV p (pairM l p x y behind want) := by
      intro σ' hs
      refine WK.sub (Sub.mk hs) ?_
      clear hs σ'
      generalize startM l p b (j : Int) = ks at *
      repeat(refine run_ ?_)
      refine k_while (S := PlnSt) (fun s => s.n) (fun s => [(0, .slice (some ad) l.length c), (2, .int .i32 x), (3, .int .i32 y), (7, .pointer (some ⟨g1, 0, none⟩)), (12, .pointer (some ⟨g2, 0, none⟩)), (14, .int .i64 b), (15, .int .i64 s.d), (16, .int .i64 j), (17, .int .i64 s.k)])
        (fun s wr => wr = w2 ∧ -1 ≤ s.k ∧ s.k ≤ l[j].length ∧ (b = 1 → (l[j].length : Int) ≤ s.k + s.n) ∧ (b = -1 → s.k + 1 ≤ s.n) ∧ s.n ≤ l[j].length + 1 ∧ d - ((l[j].length : Int) + 1 - s.n) ≤ s.d ∧ s.d ≤ d + ((l[j].length : Int) + 1 - s.n) ∧ lineM l[j] x y b (l[j].length + 1) ks d = lineM l[j] x y b s.n s.k s.d)
        ⟨l[j].length + 1, ks, d⟩ (by repeat (first | exact SubB.nil | refine SubB.cons rfl ?_)) ⟨rfl, hsb.1, hsb.2.1, fun hb => by have := hsb.2.2 hb; show (l[j].length : Int) ≤ ks + ((l[j].length + 1 : Nat) : Int); omega, fun _ => by have := hsb.2.1; show ks + 1 ≤ ((l[j].length + 1 : Nat) : Int); omega, Nat.le_refl _, by show d - ((l[j].length : Int) + 1 - ((l[j].length + 1 : Nat) : Int)) ≤ d; omega, by show d ≤ d + ((l[j].length : Int) + 1 - ((l[j].length + 1 : Nat) : Int)); omega, rfl⟩ ?_
      rintro ⟨q, k, e⟩ w2 ⟨rfl, hk1, hk2, hq1, hq2, hql, he1, he2, hleq⟩ ih2
      simp only at hk1 hk2 hq1 hq2 hql he1 he2 hleq ih2 ⊢
      have nxt : (0 ≤ k ∧ k < l[j].length → False) → WK Try.prog Try.f31 ([.inBlock 1, .code (bodyC Try.f31 [1, 1, 1, 1, 0, 1, 0, 0, 1, 1]), .inLoop (bodyC Try.f31 [1, 1, 1, 1, 0, 1, 0, 0]), .inBlock 0, .code (bodyC Try.f31 [1, 1, 1, 1, 1])]) [(0, .slice (some ad) l.length c), (2, .int .i32 x), (3, .int .i32 y), (7, .pointer (some ⟨g1, 0, none⟩)), (12, .pointer (some ⟨g2, 0, none⟩)), (14, .int .i64 b), (15, .int .i64 e), (16, .int .i64 j)] w2 fun u w' => Kn w w' ∧ u = pairV p (pairM l p x y behind want) := by
        intro hout
        have hl0 : lineM l[j] x y b q k e = (none, e) := by
          cases q with
          | zero => rfl
          | succ q => unfold lineM; rw [if_neg hout]
        rw [hleq, hl0] at hgo
        simp only at hgo
        have hjb : -1 ≤ (j : Int) + b ∧ (j : Int) + b ≤ l.length := by rcases hby with hb | hb <;> omega
        repeat(refine run_ ?_)
        exact ih ⟨m, (j : Int) + b, e⟩ w2 ⟨rfl, hjb.1, hjb.2, fun hb => by have := hn1 hb; show (l.length : Int) ≤ (j : Int) + b + m; omega, fun hb => by have := hn2 hb; show (j : Int) + b + 1 ≤ m; omega, by show m ≤ l.length + 1; omega, by show (-10 : Int) - 4001 * ((l.length : Int) + 1 - m) ≤ e; omega, by show e ≤ 10 + 4001 * ((l.length : Int) + 1 - m); omega, hgo⟩ (by show m < m + 1; omega) _ (by repeat (first | exact SubB.nil | refine SubB.cons rfl ?_))
      by_cases hk0 : 0 ≤ k
      case neg =>
        repeat(refine run_ ?_)
        refine k_false rfl ?_
        refine k_exit rfl ?_
        exact WK.sub (Sub.mk (by repeat (first | exact SubB.nil | refine SubB.cons rfl ?_))) (nxt fun hh => hk0 hh.1)
      repeat(refine run_ ?_)
      refine o_still (r_index rfl rfl rfl (by omega) (by omega)) (wants_none rfl) rfl ?_
      refine o_still (r_load rfl (by rw [Int.toNat_natCast]; exact hld)) (wants_yes rfl rfl rfl (by first | rfl | assumption | (simp; done) | (simp; omega))) rfl ?_
      repeat(refine run_ ?_)
      by_cases hkl : k < l[j].length
      case neg =>
        refine k_no rfl hkl ?_
        refine k_exit rfl ?_
        exact WK.sub (Sub.mk (by repeat (first | exact SubB.nil | refine SubB.cons rfl ?_))) (nxt fun hh => hkl hh.2)
      refine k_yes rfl hkl ?_
      have hqpos : 0 < q := by
        rcases hby with hb | hb
        · have := hq1 hb; omega
        · have := hq2 hb; omega
      obtain ⟨q, rfl⟩ : ∃ t, q = t + 1 := ⟨q - 1, by omega⟩
      obtain ⟨kk, rfl⟩ : ∃ t : Nat, k = t := ⟨k.toNat, by omega⟩
      have hkk : kk < l[j].length := by omega
      obtain ⟨ad2, cs2, hAd2, ⟨rfl, hr2⟩, hcell2⟩ := hrow2.at_ (List.getElem?_eq_getElem hkk)
      subst hAd2
      have hgk : l[j].getD ((kk : Nat) : Int).toNat 0 = l[j][kk] := by rw [Int.toNat_natCast]; exact getD_int hkk
      have hline : lineM l[j] x y b (q + 1) kk e = if l[j][kk] = x then (if e + 1 = 0 then (some (kk : Int), e + 1) else lineM l[j] x y b q (kk + b) (e + 1))
          else if l[j][kk] = y then (if e - 1 = 0 then (some (kk : Int), e - 1) else lineM l[j] x y b q (kk + b) (e - 1)) else lineM l[j] x y b q (kk + b) e := by
        show (if 0 ≤ (kk : Int) ∧ (kk : Int) < l[j].length then _ else _) = _
        rw [if_pos ⟨hk0, hkl⟩, hgk]
      rw [hline] at hleq
      have hkb : -1 ≤ (kk : Int) + b ∧ (kk : Int) + b ≤ l[j].length := by rcases hby with hb | hb <;> omega
      have go : ∀ e', d - ((l[j].length : Int) + 1 - q) ≤ e' → e' ≤ d + ((l[j].length : Int) + 1 - q) → lineM l[j] x y b (l[j].length + 1) ks d = lineM l[j] x y b q (kk + b) e' →
          ∀ σ', SubB σ' [(0, .slice (some ad) l.length c), (2, .int .i32 x), (3, .int .i32 y), (7, .pointer (some ⟨g1, 0, none⟩)), (12, .pointer (some ⟨g2, 0, none⟩)), (14, .int .i64 b), (15, .int .i64 e'), (16, .int .i64 j), (17, .int .i64 ((kk : Int) + b))] → _ :=
        fun e' h1 h2 h3 σ' hs => ih2 ⟨q, kk + b, e'⟩ w2 ⟨rfl, hkb.1, hkb.2, fun hb => by have := hq1 hb; show (l[j].length : Int) ≤ (kk : Int) + b + q; omega, fun hb => by have := hq2 hb; show (kk : Int) + b + 1 ≤ q; omega, by show q ≤ l[j].length + 1; omega, h1, h2, h3⟩ (by show q < q + 1; omega) σ' hs
      have found : lineM l[j] x y b (l[j].length + 1) ks d = (some (kk : Int), 0) → ∀ w4, Wr w2 w4 g2 (.cells #[.int .i64 j, .int .i64 kk] 24 (0, 0)) → Kn w w4 ∧ Value.tuple #[posV ((j : Int), (kk : Int)), .bool true] = pairV p (pairM l p x y behind want) := by
        intro hf w4 hw4
        rw [hf] at hgo
        simp only at hgo
        exact ⟨Kp.then k2 hw4.kp (fun _ h => h) fun i hi he => by omega, by rw [hgo]; rfl⟩
      repeat(refine run_ ?_)
      refine o_still (r_index rfl rfl rfl (by omega) (by omega)) (wants_none rfl) rfl ?_
      refine o_still (r_load rfl (by rw [Int.toNat_natCast]; exact hld)) (wants_none rfl) rfl ?_
      repeat(refine run_ ?_)
      refine o_still (r_index rfl rfl rfl (by omega) (by omega)) (wants_none rfl) rfl ?_
      refine o_still (r_load rfl (hcell2 0 _ rfl)) (wants_none rfl) rfl ?_
      repeat(refine run_ ?_)
      by_cases hcx : l[j][kk] = x
      · rw [if_pos hcx] at hleq
        refine k_yes rfl hcx ?_
        repeat(refine run_ ?_)
        by_cases hz : e + 1 = 0
        · rw [if_pos hz, hz] at hleq
          refine k_yes rfl hz ?_
          repeat (first | refine o_nil ?_ | refine k_seq ?_ | refine k_region ?_ | refine k_block ?_ | refine k_inBlock ?_ | refine k_skip ?_)
          refine o_still (r_move rfl) (wants_none rfl) rfl ?_
          refine o_still (r_move rfl) (wants_none rfl) rfl ?_
          refine o_still (r_build (c := #[.int .i64 j, .int .i64 kk]) rfl rfl) (wants_none rfl) rfl ?_
          refine o_unit (u_storeA rfl rfl rfl (by simp [Value.oneCell']) rfl b2 (Nat.le_refl 2)) (wants_none rfl) rfl ?_
          rintro w4 hw4
          repeat(refine run_ ?_)
          exact k_retR2 rfl (.agg rfl rfl (blk_all hw4.at_) (.tmp rfl .nil)) (found hleq w4 hw4)
        · rw [if_neg hz] at hleq
          refine k_no rfl hz ?_
          repeat(refine run_ ?_)
          exact go (e + 1) (by omega) (by omega) hleq _ (by repeat (first | exact SubB.nil | refine SubB.cons rfl ?_))
      rw [if_neg hcx] at hleq
      refine k_no rfl hcx ?_
      repeat(refine run_ ?_)
      by_cases hcy : l[j][kk] = y
      · rw [if_pos hcy] at hleq
        refine k_yes rfl hcy ?_
        repeat(refine run_ ?_)
        by_cases hz : e - 1 = 0
        · rw [if_pos hz, hz] at hleq
          refine k_yes rfl hz ?_
          repeat (first | refine o_nil ?_ | refine k_seq ?_ | refine k_region ?_ | refine k_block ?_ | refine k_inBlock ?_ | refine k_skip ?_)
          refine o_still (r_move rfl) (wants_none rfl) rfl ?_
          refine o_still (r_move rfl) (wants_none rfl) rfl ?_
          refine o_still (r_build (c := #[.int .i64 j, .int .i64 kk]) rfl rfl) (wants_none rfl) rfl ?_
          refine o_unit (u_storeA rfl rfl rfl (by simp [Value.oneCell']) rfl b2 (Nat.le_refl 2)) (wants_none rfl) rfl ?_
          rintro w4 hw4
          repeat(refine run_ ?_)
          exact k_retR2 rfl (.agg rfl rfl (blk_all hw4.at_) (.tmp rfl .nil)) (found hleq w4 hw4)
        · rw [if_neg hz] at hleq
          refine k_no rfl hz ?_
          repeat(refine run_ ?_)
          exact go (e - 1) (by omega) (by omega) hleq _ (by repeat (first | exact SubB.nil | refine SubB.cons rfl ?_))
      · rw [if_neg hcy] at hleq
        refine k_no rfl hcy ?_
        refine k_exit rfl ?_
        repeat(refine run_ ?_)
        exact go e (by omega) (by omega) hleq _ (by repeat (first | exact SubB.nil | refine SubB.cons rfl ?_))
    have J0 : ∀ z, (¬ (j : Int) = p.1 → z = startM l p b (j : Int)) → ∀ σ', SubB σ' [(0, .slice (some ad) l.length c), (2, .int .i32 x), (3, .int .i32 y), (7, .pointer (some ⟨g1, 0, none⟩)), (12, .pointer (some ⟨g2, 0, none⟩)), (14, .int .i64 b), (15, .int .i64 d), (16, .int .i64 j), (17, .int .i64 z)] →
        WK Try.prog Try.f31 (.code (bodyC Try.f31 [1, 1, 1, 1, 0, 1, 0, 0, 1, 0, 0, 1, 1]) :: [.inBlock 1, .code (bodyC Try.f31 [1, 1, 1, 1, 0, 1, 0, 0, 1, 1]), .inLoop (bodyC Try.f31 [1, 1, 1, 1, 0, 1, 0, 0]), .inBlock 0, .code (bodyC Try.f31 [1, 1, 1, 1, 1])]) σ' w2 fun u w' => Kn w w' ∧ u = pairV p (pairM l p x y behind want) := by
      intro z hz σ' hs
      refine WK.sub (Sub.mk hs) ?_
      clear hs σ'
      repeat(refine run_ ?_)
      refine o_still (r_load rfl p0) (wants_none rfl) rfl ?_
      by_cases hjp : (j : Int) = p.1
      · have hsv : startM l p b (j : Int) = p.2 := by rw [hst, if_pos hjp]
        repeat(refine run_ ?_)
        refine k_yes rfl hjp ?_
        repeat (first | refine o_nil ?_ | refine k_seq ?_ | refine k_region ?_ | refine k_block ?_ | refine k_inBlock ?_ | refine k_skip ?_)
        refine o_still (r_field rfl) (wants_none rfl) rfl ?_
        refine o_still (r_load rfl p1) (wants_none rfl) rfl ?_
        refine o_still (r_assign rfl) (wants_none rfl) rfl ?_
        refine o_nil ?_
        exact J1 _ (by rw [hsv]; exact (by repeat (first | exact SubB.nil | refine SubB.cons rfl ?_)))
      · repeat(refine run_ ?_)
        refine k_no rfl hjp ?_
        refine k_skip ?_
        exact J1 _ (by rw [← hz hjp]; exact (by repeat (first | exact SubB.nil | refine SubB.cons rfl ?_)))
    repeat(refine run_ ?_)
    refine k_yes rfl hil ?_
    repeat(refine run_ ?_)
    rcases hby with hb | hb
    · refine k_no rfl (by omega) ?_
      refine k_skip ?_
      exact J0 0 (fun hn => by rw [hst, if_neg hn, if_neg (by omega)]) _ (by repeat (first | exact SubB.nil | refine SubB.cons rfl ?_))
    · refine k_yes rfl (by omega) ?_
      repeat (first | refine o_nil ?_ | refine k_seq ?_ | refine k_region ?_ | refine k_block ?_ | refine k_inBlock ?_ | refine k_skip ?_)
      refine o_still (r_move rfl) (wants_none rfl) rfl ?_
      refine o_still (r_move rfl) (wants_none rfl) rfl ?_
      refine o_still (r_index rfl rfl rfl (by omega) (by omega)) (wants_none rfl) rfl ?_
      refine o_still (r_load rfl (by rw [Int.toNat_natCast]; exact hld)) (wants_none rfl) rfl ?_
      refine o_still (r_len rfl) (wants_none rfl) rfl ?_
      refine o_still (r_sub rfl rfl (by omega) (by omega)) (wants_none rfl) rfl ?_
      refine o_still (r_assign rfl) (wants_none rfl) rfl ?_
      refine o_nil ?_
      exact J0 ((l[j].length : Int) - 1) (fun hn => by rw [hst, if_neg hn, if_pos (by omega)]) _ (by repeat (first | exact SubB.nil | refine SubB.cons rfl ?_))
  cases behind with
  | true =>
    repeat(refine run_ ?_)
    refine k_false rfl ?_
    refine k_skip ?_
    exact J _ (by repeat (first | exact SubB.nil | refine SubB.cons rfl ?_))
  | false =>
    repeat(refine run_ ?_)
    refine k_true rfl ?_
    refine k_region ?_
    refine o_still (r_assign rfl) (wants_none rfl) rfl ?_
    refine o_nil ?_
    exact J _ (by repeat (first | exact SubB.nil | refine SubB.cons rfl ?_))
end
end Go.Ink

set_option linter.unusedVariables false
set_option linter.unusedSimpArgs false
namespace Go.Ink
open Go Go.Proofs

def valw (x y r : Int) : Int := if r = x then 1 else if r = y then -1 else 0
def vp (l : List (List Int)) (x y : Int) (q : Ps) : Int := if (rowOf l q).length = 0 then 0 else valw x y ((rowOf l q).getD q.2.toNat 0)
def scan (v : Ps → Int) : List Ps → Int → Option Ps × Int
  | [], d => (none, d)
  | q :: t, d => if v q ≠ 0 ∧ d + v q = 0 then (some q, 0) else scan v t (d + v q)
def pre (v : Ps → Int) (L : List Ps) (j : Nat) : Int := ((L.take j).map v).sum
theorem scan_cons (v : Ps → Int) (q : Ps) (t : List Ps) (d : Int) : scan v (q :: t) d = if v q ≠ 0 ∧ d + v q = 0 then (some q, 0) else scan v t (d + v q) := rfl
theorem scan_append (v : Ps → Int) : ∀ A B d, scan v (A ++ B) d = match scan v A d with | (some q, e) => (some q, e) | (none, e) => scan v B e
  | [], B, d => rfl
  | q :: A, B, d => by
    rw [List.cons_append, scan_cons, scan_cons]
    split
    · rfl
    · exact scan_append v A B _
theorem scan_pos {v : Ps → Int} (hv : ∀ q, -1 ≤ v q) : ∀ (L : List Ps) (d : Int), 1 ≤ d →
    (∀ q e, scan v L d = (some q, e) → ∃ r, ∃ h : r < L.length, L[r] = q ∧ d + pre v L (r + 1) = 0 ∧ ∀ j, j ≤ r → 1 ≤ d + pre v L j) ∧
    (∀ e, scan v L d = (none, e) → ∀ j, j ≤ L.length → 1 ≤ d + pre v L j)
  | [], d, hd => ⟨fun q e h => by simp [scan] at h, fun e h j hj => by simp [pre]; omega⟩
  | q :: t, d, hd => by
    have hq := hv q
    have p0 : pre v (q :: t) 0 = 0 := rfl
    have ps : ∀ j, pre v (q :: t) (j + 1) = v q + pre v t j := fun j => by simp [pre]
    unfold scan
    by_cases hc : v q ≠ 0 ∧ d + v q = 0
    · rw [if_pos hc]
      refine ⟨fun q' e h => ?_, fun e h => by simp at h⟩
      cases h
      refine ⟨0, by simp, rfl, ?_, fun j hj => ?_⟩
      · rw [ps]; show d + (v q + 0) = 0; omega
      · obtain rfl : j = 0 := by omega
        rw [p0]; omega
    · rw [if_neg hc]
      have hd' : 1 ≤ d + v q := by
        by_cases h0 : v q = 0
        · omega
        · have : ¬ d + v q = 0 := fun h => hc ⟨h0, h⟩
          omega
      obtain ⟨h1, h2⟩ := scan_pos hv t (d + v q) hd'
      refine ⟨fun q' e h => ?_, fun e h => ?_⟩
      · obtain ⟨r, hr, e1, e2, e3⟩ := h1 q' e h
        refine ⟨r + 1, by simp; omega, by simpa using e1, ?_, fun j hj => ?_⟩
        · rw [ps]; omega
        · match j with
          | 0 => rw [p0]; omega
          | j + 1 => rw [ps]; have := e3 j (by omega); omega
      · intro j hj
        have := h2 e h
        match j with
        | 0 => rw [p0]; omega
        | j + 1 => rw [ps]; have := this j (by simp at hj; omega); omega
theorem lineM_step {row : List Int} {x y by_ : Int} {n k : Nat} {d : Int} (h : k < row.length) : lineM row x y by_ (n + 1) k d =
    if valw x y (row.getD k 0) ≠ 0 ∧ d + valw x y (row.getD k 0) = 0 then (some (k : Int), 0) else lineM row x y by_ n (k + by_) (d + valw x y (row.getD k 0)) := by
  show (if 0 ≤ (k : Int) ∧ (k : Int) < row.length then _ else _) = _
  rw [if_pos ⟨by omega, by omega⟩, Int.toNat_natCast]
  unfold valw
  by_cases h1 : row.getD k 0 = x
  · simp only [if_pos h1]
    by_cases h2 : d + 1 = 0
    · rw [if_pos h2, if_pos ⟨by decide, h2⟩, h2]
    · rw [if_neg h2, if_neg (fun h => h2 h.2)]
  · simp only [if_neg h1]
    by_cases h3 : row.getD k 0 = y
    · simp only [if_pos h3]
      by_cases h2 : d - 1 = 0
      · rw [if_pos h2, if_pos ⟨by decide, by omega⟩, h2]
      · rw [if_neg h2, if_neg (fun h => h2 (by omega))]; rfl
    · simp only [if_neg h3]
      rw [if_neg (fun h => h.1 rfl), Int.add_zero]
theorem lineM_out {row : List Int} {x y by_ : Int} {n : Nat} {k d : Int} (h : ¬ (0 ≤ k ∧ k < row.length)) : lineM row x y by_ n k d = (none, d) := by
  cases n with
  | zero => rfl
  | succ n => unfold lineM; rw [if_neg h]
def resL : Option Ps × Int → Option Int × Int
  | (some q, e) => (some q.2, e)
  | (none, e) => (none, e)
theorem vp_get {l : List (List Int)} {x y : Int} {i k : Nat} (h : k < (l.getD i []).length) : vp l x y ((i : Int), (k : Int)) = valw x y ((l.getD i []).getD k 0) := by
  unfold vp
  rw [rowOf_at, if_neg (by omega)]
  rfl
theorem line_fwd {l : List (List Int)} {x y : Int} {i : Nat} : ∀ m k n d, k + m = (l.getD i []).length → m < n → lineM (l.getD i []) x y 1 n (k : Nat) d = resL (scan (vp l x y) (colsFrom i k m) d)
  | 0, k, n, d, hk, hn => by rw [lineM_out (by omega)]; rfl
  | m + 1, k, n, d, hk, hn => by
    obtain ⟨n, rfl⟩ : ∃ t, n = t + 1 := ⟨n - 1, by omega⟩
    rw [lineM_step (by omega)]
    have : colsFrom i k (m + 1) = ((i : Int), (k : Int)) :: colsFrom i (k + 1) m := by unfold colsFrom; rw [List.range'_succ]; rfl
    rw [this, scan_cons, vp_get (by omega)]
    split
    · rfl
    · have := line_fwd (l := l) (x := x) (y := y) (i := i) m (k + 1) n (d + valw x y ((l.getD i []).getD k 0)) (by omega) (by omega)
      rw [← this]; rfl
theorem line_bwd {l : List (List Int)} {x y : Int} {i : Nat} : ∀ k n d, k ≤ (l.getD i []).length → k < n → lineM (l.getD i []) x y (-1) n ((k : Int) - 1) d = resL (scan (vp l x y) (colsTo i k).reverse d)
  | 0, n, d, hk, hn => by rw [lineM_out (by omega)]; rfl
  | k + 1, n, d, hk, hn => by
    obtain ⟨n, rfl⟩ : ∃ t, n = t + 1 := ⟨n - 1, by omega⟩
    rw [show (((k + 1 : Nat) : Int) - 1) = (k : Nat) by omega, lineM_step (by omega), colsTo_succ, List.reverse_append]
    show _ = resL (scan (vp l x y) (((i : Int), (k : Int)) :: (colsTo i k).reverse) d)
    rw [scan_cons, vp_get (by omega)]
    split
    · rfl
    · have := line_bwd (l := l) (x := x) (y := y) (i := i) k n (d + valw x y ((l.getD i []).getD k 0)) (by omega) (by omega)
      rw [← this]; rfl
theorem scan_fst (v : Ps → Int) (i : Nat) : ∀ (A : List Ps) d q e, (∀ a ∈ A, a.1 = (i : Int)) → scan v A d = (some q, e) → q.1 = (i : Int)
  | [], d, q, e, h, hs => by simp [scan] at hs
  | a :: A, d, q, e, h, hs => by
    rw [scan_cons] at hs
    split at hs
    · cases hs; exact h a (by simp)
    · exact scan_fst v i A _ q e (fun x hx => h x (by simp [hx])) hs
theorem vp_empty {l : List (List Int)} {x y : Int} {i : Nat} (h : (l.getD i []).length = 0) (j : Int) : vp l x y ((i : Int), j) = 0 := by unfold vp; rw [rowOf_at, if_pos h]
theorem scan_zero {l : List (List Int)} {x y : Int} {i : Nat} (h : (l.getD i []).length = 0) (j d : Int) : scan (vp l x y) [((i : Int), j)] d = (none, d) := by
  rw [scan_cons, vp_empty h, if_neg (fun h => h.1 rfl), Int.add_zero]
  rfl
theorem pairGo_step {l : List (List Int)} {p : Ps} {x y by_ : Int} {n i : Nat} {d : Int} (h : i < l.length) {A : List Ps} (hA : lineM (l.getD i []) x y by_ ((l.getD i []).length + 1) (startM l p by_ i) d = resL (scan (vp l x y) A d)) (hf : ∀ a ∈ A, a.1 = (i : Int)) :
    pairGo l p x y by_ (n + 1) i d = match scan (vp l x y) A d with | (some q, _) => some q | (none, e) => pairGo l p x y by_ n (i + by_) e := by
  show (if 0 ≤ (i : Int) ∧ (i : Int) < l.length then _ else _) = _
  rw [if_pos ⟨by omega, by omega⟩, Int.toNat_natCast, hA]
  match hs : scan (vp l x y) A d with
  | (some q, e) =>
    have := scan_fst _ _ _ _ _ _ hf hs
    show some ((i : Int), q.2) = some q
    rw [← this]
  | (none, e) => rfl
theorem pairGo_end {l : List (List Int)} {p : Ps} {x y by_ : Int} {n : Nat} {i d : Int} (h : ¬ (0 ≤ i ∧ i < l.length)) : pairGo l p x y by_ n i d = none := by
  cases n with
  | zero => rfl
  | succ n => unfold pairGo; rw [if_neg h]
theorem go_fwd {l : List (List Int)} {p : Ps} {x y : Int} : ∀ m i n d, i + m = l.length → m < n → p.1 < (i : Int) → pairGo l p x y 1 n (i : Nat) d = (scan (vp l x y) (placesFrom l i) d).1
  | 0, i, n, d, hi, hn, hp => by
    rw [pairGo_end (by omega)]
    unfold placesFrom
    rw [show l.length - i = 0 by omega]
    rfl
  | m + 1, i, n, d, hi, hn, hp => by
    obtain ⟨n, rfl⟩ : ∃ t, n = t + 1 := ⟨n - 1, by omega⟩
    have hst : startM l p 1 (i : Int) = ((0 : Nat) : Int) := by unfold startM; rw [if_neg (by omega), if_neg (by omega)]; rfl
    have hl := line_fwd (l := l) (x := x) (y := y) (i := i) (l.getD i []).length 0 ((l.getD i []).length + 1) d (by omega) (by omega)
    rw [pairGo_step (A := colsFrom i 0 (l.getD i []).length) (by omega) (by rw [hst]; exact hl) cols_fst, placesFrom_cons (by omega), scan_append]
    have hpl : scan (vp l x y) (placesAt l i) d = scan (vp l x y) (colsFrom i 0 (l.getD i []).length) d := by
      unfold placesAt
      split
      · next h0 => rw [scan_zero h0, h0]; rfl
      · rw [colsTo_from]
    rw [hpl]
    have ih := go_fwd (l := l) (p := p) (x := x) (y := y) m (i + 1) n
    match scan (vp l x y) (colsFrom i 0 (l.getD i []).length) d with
    | (some q, e) => rfl
    | (none, e) => exact ih e (by omega) (by omega) (by omega)
theorem go_bwd {l : List (List Int)} {p : Ps} {x y : Int} : ∀ i n d, i ≤ l.length → i < n → (i : Int) ≤ p.1 → pairGo l p x y (-1) n ((i : Int) - 1) d = (scan (vp l x y) (placesTo l i).reverse d).1
  | 0, n, d, hi, hn, hp => by rw [pairGo_end (by omega)]; rfl
  | i + 1, n, d, hi, hn, hp => by
    obtain ⟨n, rfl⟩ : ∃ t, n = t + 1 := ⟨n - 1, by omega⟩
    rw [show (((i + 1 : Nat) : Int) - 1) = (i : Nat) by omega]
    have hst : startM l p (-1) (i : Int) = ((l.getD i []).length : Int) - 1 := by unfold startM; rw [if_neg (by omega), if_pos (by omega)]; rfl
    have hl := line_bwd (l := l) (x := x) (y := y) (i := i) (l.getD i []).length ((l.getD i []).length + 1) d (by omega) (by omega)
    rw [pairGo_step (A := (colsTo i (l.getD i []).length).reverse) (by omega) (by rw [hst]; exact hl) (fun a ha => cols_fst a (by rw [← colsTo_from]; exact List.mem_reverse.1 ha)), placesTo_succ, List.reverse_append, scan_append]
    have hpl : scan (vp l x y) (placesAt l i).reverse d = scan (vp l x y) (colsTo i (l.getD i []).length).reverse d := by
      unfold placesAt
      split
      · next h0 => rw [h0]; exact scan_zero h0 0 d
      · rfl
    rw [hpl]
    have ih := go_bwd (l := l) (p := p) (x := x) (y := y) i n
    match scan (vp l x y) (colsTo i (l.getD i []).length).reverse d with
    | (some q, e) => rfl
    | (none, e) =>
      have := ih e (by omega) (by omega) (by omega)
      show pairGo l p x y (-1) n ((i : Int) + -1) e = _
      rw [← this]; rfl
/-- Where a place lies in all places. -/
structure Lies (l : List (List Int)) (p : Ps) (X Y : List Ps) : Prop where
  all : placesTo l l.length = X ++ p :: Y
  fwd : ∀ x y want, pairM l p x y true want = (scan (vp l x y) (p :: Y) (want - 1)).1
  bwd : ∀ x y want, pairM l p x y false want = (scan (vp l x y) (p :: X.reverse) (want - 1)).1
theorem at_lies {l : List (List Int)} {p : Ps} (h : At l p) : ∃ X Y, Lies l p X Y := by
  obtain ⟨i, k, rfl, hi, hk, hP⟩ := at_index h
  refine ⟨_, _, hP, fun x y want => ?_, fun x y want => ?_⟩
  · show pairGo l ((i : Int), (k : Int)) x y 1 (l.length + 1) (i : Nat) (want - 1) = _
    have hst : startM l ((i : Int), (k : Int)) 1 (i : Int) = (k : Nat) := by unfold startM; rw [if_pos rfl]
    have hA : ∃ A, lineM (l.getD i []) x y 1 ((l.getD i []).length + 1) (startM l ((i : Int), (k : Int)) 1 (i : Int)) (want - 1) = resL (scan (vp l x y) A (want - 1)) ∧ (∀ a ∈ A, a.1 = (i : Int)) ∧ A = ((i : Int), (k : Int)) :: colsFrom i (k + 1) ((l.getD i []).length - (k + 1)) := by
      rcases hk with ⟨h0, rfl⟩ | hk
      · refine ⟨_, ?_, ?_, rfl⟩
        · rw [hst, lineM_out (by omega), h0]; exact congrArg resL (scan_zero h0 _ _).symm
        · intro a ha; rw [h0] at ha; simp [colsFrom] at ha; rw [ha]
      · have hc : colsFrom i k ((l.getD i []).length - k) = ((i : Int), (k : Int)) :: colsFrom i (k + 1) ((l.getD i []).length - (k + 1)) := by
          unfold colsFrom
          rw [show (l.getD i []).length - k = ((l.getD i []).length - (k + 1)) + 1 by omega, List.range'_succ]
          rfl
        exact ⟨_, by rw [hst]; exact line_fwd ((l.getD i []).length - k) k _ _ (by omega) (by omega), cols_fst, hc⟩
    obtain ⟨A, hA1, hA2, rfl⟩ := hA
    rw [pairGo_step hi hA1 hA2, ← List.cons_append, scan_append]
    match scan (vp l x y) (((i : Int), (k : Int)) :: colsFrom i (k + 1) ((l.getD i []).length - (k + 1))) (want - 1) with
    | (some q, e) => rfl
    | (none, e) => exact go_fwd (l.length - (i + 1)) (i + 1) l.length e (by omega) (by omega) (by show (i : Int) < ((i + 1 : Nat) : Int); omega)
  · show pairGo l ((i : Int), (k : Int)) x y (-1) (l.length + 1) (i : Nat) (want - 1) = _
    have hst : startM l ((i : Int), (k : Int)) (-1) (i : Int) = (k : Nat) := by unfold startM; rw [if_pos rfl]
    have hA : lineM (l.getD i []) x y (-1) ((l.getD i []).length + 1) (startM l ((i : Int), (k : Int)) (-1) (i : Int)) (want - 1) = resL (scan (vp l x y) (((i : Int), (k : Int)) :: (colsTo i k).reverse) (want - 1)) := by
      rcases hk with ⟨h0, rfl⟩ | hk
      · rw [hst, lineM_out (by omega)]; exact congrArg resL (scan_zero h0 _ _).symm
      · have := line_bwd (l := l) (x := x) (y := y) (i := i) (k + 1) ((l.getD i []).length + 1) (want - 1) (by omega) (by omega)
        rw [show (((k + 1 : Nat) : Int) - 1) = (k : Nat) by omega, colsTo_succ, List.reverse_append] at this
        rw [hst]
        exact this
    rw [pairGo_step hi hA (by
      intro a ha
      rcases List.mem_cons.1 ha with rfl | ha
      · rfl
      · exact cols_fst a (by rw [← colsTo_from]; exact List.mem_reverse.1 ha)), List.reverse_append, ← List.cons_append, scan_append]
    match scan (vp l x y) (((i : Int), (k : Int)) :: (colsTo i k).reverse) (want - 1) with
    | (some q, e) => rfl
    | (none, e) =>
      have := go_bwd (l := l) (p := ((i : Int), (k : Int))) (x := x) (y := y) i l.length e (by omega) (by omega) (Int.le_refl _)
      show pairGo l ((i : Int), (k : Int)) x y (-1) l.length ((i : Int) + -1) e = _
      rw [← this]; rfl
theorem vp_lo (l : List (List Int)) (x y : Int) (q : Ps) : -1 ≤ vp l x y q ∧ vp l x y q ≤ 1 := by
  unfold vp valw
  split
  · omega
  · split
    · omega
    · split <;> omega
theorem vp_neg {l : List (List Int)} {x y : Int} (h : x ≠ y) (q : Ps) : vp l y x q = - vp l x y q := by
  unfold vp valw
  split
  · rfl
  · split
    · next h1 => rw [if_neg (fun e => h (e.symm.trans h1))]; rfl
    · next h1 => split <;> rfl
theorem pre_append (v : Ps → Int) (X Y : List Ps) (j : Nat) : pre v (X ++ Y) (X.length + j) = pre v X X.length + pre v Y j := by
  unfold pre
  rw [List.take_append, List.take_of_length_le (Nat.le_add_right _ _), Nat.add_sub_cancel_left, List.map_append, List.sum_append, List.take_length]
theorem pre_left (v : Ps → Int) (X Y : List Ps) {j : Nat} (h : j ≤ X.length) : pre v (X ++ Y) j = pre v X j := by
  unfold pre
  rw [List.take_append_of_le_length h]
theorem sum_rev (v : Ps → Int) : ∀ L : List Ps, (L.reverse.map v).sum = (L.map v).sum
  | [] => rfl
  | q :: L => by rw [List.reverse_cons, List.map_append, List.sum_append, sum_rev v L]; simp; omega
theorem sum_neg (v w : Ps → Int) (h : ∀ q, w q = - v q) : ∀ L : List Ps, (L.map w).sum = - (L.map v).sum
  | [] => rfl
  | q :: L => by simp only [List.map_cons, List.sum_cons]; rw [sum_neg v w h L, h q]; omega
theorem pre_rev (v w : Ps → Int) (h : ∀ q, w q = - v q) (X : List Ps) {j : Nat} (hj : j ≤ X.length) : pre w X.reverse j = pre v X (X.length - j) - pre v X X.length := by
  unfold pre
  rw [List.take_reverse, sum_rev, sum_neg v w h]
  have : (X.map v).sum = ((X.take (X.length - j)).map v).sum + ((X.drop (X.length - j)).map v).sum := by rw [← List.sum_append, ← List.map_append, List.take_append_drop]
  rw [List.take_length, this]
  omega
/-- b is the match of a. -/
structure Mt (S : Nat → Int) (N a b : Nat) : Prop where
  ab : a < b
  bN : b < N
  end_ : S (b + 1) = S a
  in_ : ∀ i, a < i → i ≤ b → S a + 1 ≤ S i
def NoM (S : Nat → Int) (N a : Nat) : Prop := ∀ i, a < i → i ≤ N → S a + 1 ≤ S i
def sumP (l : List (List Int)) (o s : Int) (j : Nat) : Int := pre (vp l o s) (placesTo l l.length) j
theorem lies_get {l : List (List Int)} {p : Ps} {X Y : List Ps} (h : Lies l p X Y) : (placesTo l l.length)[X.length]? = some p := by rw [h.all]; simp
theorem sumP_succ {l : List (List Int)} {o s : Int} {p : Ps} {j : Nat} (h : (placesTo l l.length)[j]? = some p) : sumP l o s (j + 1) = sumP l o s j + vp l o s p := by
  obtain ⟨hj, he⟩ := List.getElem?_eq_some_iff.1 h
  unfold sumP pre
  rw [List.take_succ_eq_append_getElem hj, List.map_append, List.sum_append, he]
  simp
theorem fwd_pos {l : List (List Int)} {p : Ps} {X Y : List Ps} {o s : Int} (h : Lies l p X Y) (hv : vp l o s p = 1) :
    (∀ q, pairM l p o s true 1 = some q → ∃ b, (placesTo l l.length)[b]? = some q ∧ Mt (sumP l o s) (placesTo l l.length).length X.length b) ∧
    (pairM l p o s true 1 = none → NoM (sumP l o s) (placesTo l l.length).length X.length) := by
  have hs : pairM l p o s true 1 = (scan (vp l o s) Y 1).1 := by
    rw [h.fwd, scan_cons, hv, if_neg (by decide)]; rfl
  rw [hs]
  obtain ⟨h1, h2⟩ := scan_pos (fun q => (vp_lo l o s q).1) Y 1 (Int.le_refl _)
  have hS1 : sumP l o s (X.length + 1) = sumP l o s X.length + 1 := by rw [sumP_succ (lies_get h), hv]
  have hsum : ∀ j, sumP l o s (X.length + 1 + j) = sumP l o s (X.length + 1) + pre (vp l o s) Y j := by
    intro j
    have e : placesTo l l.length = (X ++ [p]) ++ Y := by rw [h.all]; simp
    unfold sumP
    rw [e, show X.length + 1 = (X ++ [p]).length by simp, pre_append, pre_left _ _ _ (Nat.le_refl _)]
  have hlen : (placesTo l l.length).length = X.length + 1 + Y.length := by rw [h.all]; simp; omega
  match hr : scan (vp l o s) Y 1 with
  | (some q, e) =>
    refine ⟨fun q' hq => ?_, fun hq => by cases hq⟩
    cases hq
    obtain ⟨r, hr1, hr2, hr3, hr4⟩ := h1 q e hr
    refine ⟨X.length + 1 + r, ?_, by omega, by omega, ?_, fun i hi1 hi2 => ?_⟩
    · rw [h.all, show X.length + 1 + r = X.length + (r + 1) by omega, List.getElem?_append_right (by omega), Nat.add_sub_cancel_left, List.getElem?_cons_succ, List.getElem?_eq_getElem hr1, hr2]
    · rw [Nat.add_assoc, hsum, hS1]; omega
    · obtain ⟨j, rfl⟩ : ∃ j, i = X.length + 1 + j := ⟨i - (X.length + 1), by omega⟩
      rw [hsum, hS1]
      have := hr4 j (by omega)
      omega
  | (none, e) =>
    refine ⟨fun q' hq => (by cases hq), fun _ i hi1 hi2 => ?_⟩
    obtain ⟨j, rfl⟩ : ∃ j, i = X.length + 1 + j := ⟨i - (X.length + 1), by omega⟩
    rw [hsum, hS1]
    have := h2 e hr j (by omega)
    omega
theorem bwd_pos {l : List (List Int)} {p : Ps} {X Y : List Ps} {o s want : Int} (hos : o ≠ s) (h : Lies l p X Y) (hv : want - 1 + vp l s o p = 1 ∧ 0 ≤ want - 1) :
    (∀ q, pairM l p s o false want = some q → ∃ a, a < X.length ∧ (placesTo l l.length)[a]? = some q ∧ sumP l o s a = sumP l o s X.length - 1 ∧ ∀ i, a < i → i ≤ X.length → sumP l o s X.length ≤ sumP l o s i) ∧
    (pairM l p s o false want = none → ∀ i, i ≤ X.length → sumP l o s X.length ≤ sumP l o s i) := by
  have hs : pairM l p s o false want = (scan (vp l s o) X.reverse 1).1 := by
    rw [h.bwd, scan_cons, hv.1, if_neg (by omega)]
  rw [hs]
  obtain ⟨h1, h2⟩ := scan_pos (fun q => (vp_lo l s o q).1) X.reverse 1 (Int.le_refl _)
  have hsum : ∀ j, j ≤ X.length → pre (vp l s o) X.reverse j = sumP l o s (X.length - j) - sumP l o s X.length := by
    intro j hj
    rw [pre_rev (vp l o s) (vp l s o) (fun q => vp_neg hos q) X hj]
    unfold sumP
    rw [h.all, pre_left _ _ _ (Nat.sub_le _ _), pre_left _ _ _ (Nat.le_refl _)]
  match hr : scan (vp l s o) X.reverse 1 with
  | (some q, e) =>
    refine ⟨fun q' hq => ?_, fun hq => by cases hq⟩
    cases hq
    obtain ⟨r, hr1, hr2, hr3, hr4⟩ := h1 q e hr
    rw [List.length_reverse] at hr1
    refine ⟨X.length - 1 - r, by omega, ?_, ?_, fun i hi1 hi2 => ?_⟩
    · rw [h.all, List.getElem?_append_left (by omega), List.getElem?_eq_getElem (by omega), ← hr2, List.getElem_reverse]
    · rw [hsum _ (by omega), show X.length - (r + 1) = X.length - 1 - r by omega] at hr3; omega
    · have := hr4 (X.length - i) (by omega)
      rw [hsum _ (by omega), show X.length - (X.length - i) = i by omega] at this
      omega
  | (none, e) =>
    refine ⟨fun q' hq => (by cases hq), fun _ i hi => ?_⟩
    have := h2 e hr (X.length - i) (by rw [List.length_reverse]; omega)
    rw [hsum _ (by omega), show X.length - (X.length - i) = i by omega] at this
    omega
end Go.Ink

set_option linter.unusedVariables false
set_option linter.unusedSimpArgs false
namespace Go.Ink
open Go Go.Proofs

def pairR (p : Ps) : Option Ps → Ps × Int × Bool
  | some q => (q, 1, true)
  | none => (p, 1, false)
/-- What % tells. -/
inductive BrM (l : List (List Int)) (p : Ps) : Ps × Int × Bool → Prop where
  | no : (∀ i : Nat, p.2 ≤ (i : Int) → i < (rowOf l p).length → (otherM ((rowOf l p).getD i 0)).1 = 0) → BrM l p (p, 0, false)
  | at_ (j : Nat) (r : Int) : p.2 ≤ (j : Int) → j < (rowOf l p).length → (∀ i : Nat, p.2 ≤ (i : Int) → i < j → (otherM ((rowOf l p).getD i 0)).1 = 0) → r = (rowOf l p).getD j 0 → (otherM r).1 ≠ 0 →
      BrM l p (pairR (p.1, (j : Int)) (pairM l (p.1, (j : Int)) r (otherM r).1 (otherM r).2 1))
theorem pairV_R (p : Ps) (r : Option Ps) : pairV p r = .tuple #[posV (pairR p r).1, .bool (pairR p r).2.2] := by cases r <;> rfl
theorem pairR_how (p : Ps) (r : Option Ps) : (pairR p r).2.1 = 1 := by cases r <;> rfl
section
variable {F : Nat → Prop} {w : World} {A : Option Addr} {c cx : Nat} {l : List (List Int)} {x : List Int} {ad : Addr} {p : Ps} {m : Mo} {n : Int} {op : Bool} {v : Value}
set_option maxHeartbeats 4000000 in
theorem bracket_calls (h : Sl kRow F w v l) (hrows : ∀ r ∈ l, r.length ≤ 4000) (hll : l.length ≤ 4000) (hX : Rns F w A cx (rowOf l p) ad) (hi : 0 ≤ p.1) (hi2 : p.1 < l.length) (hp0 : 0 ≤ p.2) :
    CallsR Try.prog 24 #[atV v p m n op (.slice A (rowOf l p).length cx)] w fun u w' => Kn w w' ∧ ∃ r, u = mvV r ∧ BrM l p r := by
  have hl := hX.len
  have hc := hX.cap
  obtain ⟨P1, P2⟩ := p
  obtain ⟨K, rfl⟩ : ∃ K : Nat, P2 = K := ⟨P2.toNat, by simp only at hp0; omega⟩
  simp only at hp0 hi hi2
  have hxr : rowOf l (P1, (K : Int)) = l.getD P1.toNat [] := rfl
  generalize hx : rowOf l (P1, (K : Int)) = x at *
  refine l_enter (fun _ => False) Try.func24 rfl rfl ?_
  repeat(first|refine lrun_ ?_|(refine lo_boxA rfl rfl ?_;intro _ _ _)|(refine lo_box1 rfl rfl rfl ?_;intro _ _ _)|(refine lo_alloc rfl ?_;intro _ _ _))
  rename_i g1 _ _ g2 _ _
  refine l_while (fun i : Nat => x.length + 1 + K - i) (fun i => [(1, .pointer (some ⟨g1, 0, none⟩)), (2, .pointer (some ⟨g2, 0, none⟩)), (5, .int .i64 (i : Int))]) (fun _ => [(g2, cb [.int .i64 0, .int .i64 0] 24), (g1, cb [v, .int .i64 P1, .int .i64 (K : Int), .int .i32 m.key, .int .i64 m.count, .int .i32 m.arg, .int .i64 m.want, .int .i64 n, .bool op, .slice A x.length cx] 40)])
    (fun i => K ≤ i ∧ (i = K ∨ i ≤ x.length) ∧ ∀ j : Nat, K ≤ j → j < i → (otherM (x.getD j 0)).1 = 0) K (by repeat (first | exact SubB.nil | refine SubB.cons rfl ?_)) (by repeat(first|exact MSub.refl|refine MSub.keep rfl ?_|exact MSub.nil|apply MSub.drop)) ⟨Nat.le_refl _, .inl rfl, fun j h1 h2 => by omega⟩ ?_
  rintro i ⟨hi1, hi3, hno⟩ ih
  by_cases hlt : i < x.length
  · repeat(first|refine lrun_ ?_|(refine lo_boxA rfl rfl ?_;intro _ _ _)|(refine lo_box1 rfl rfl rfl ?_;intro _ _ _)|(refine lo_alloc rfl ?_;intro _ _ _))
    refine l_yes rfl (by omega) ?_
    repeat(first|refine lrun_ ?_|(refine lo_boxA rfl rfl ?_;intro _ _ _)|(refine lo_box1 rfl rfl rfl ?_;intro _ _ _)|(refine lo_alloc rfl ?_;intro _ _ _))
    refine lo_call (n_call rfl) rfl (fun w hw => other_calls (r := x.getD i 0)) ?_
    repeat(first|refine lrun_ ?_|(refine lo_boxA rfl rfl ?_;intro _ _ _)|(refine lo_box1 rfl rfl rfl ?_;intro _ _ _)|(refine lo_alloc rfl ?_;intro _ _ _))
    by_cases ho : (otherM (x.getD i 0)).1 = 0
    · refine l_no rfl (by simpa using ho) ?_
      repeat(first|refine lrun_ ?_|(refine lo_boxA rfl rfl ?_;intro _ _ _)|(refine lo_box1 rfl rfl rfl ?_;intro _ _ _)|(refine lo_alloc rfl ?_;intro _ _ _))
      exact ih (i + 1) ⟨by omega, .inr (by omega), fun j h1 h2 => by
        by_cases e : j = i
        · subst e; exact ho
        · exact hno j h1 (by omega)⟩ (by omega) _ _ (by repeat (first | exact SubB.nil | refine SubB.cons rfl ?_)) (by repeat(first|exact MSub.refl|refine MSub.keep rfl ?_|exact MSub.nil|apply MSub.drop))
    · refine l_yes rfl ho ?_
      have hB : BrM l (P1, (K : Int)) (pairR (P1, (i : Int)) (pairM l (P1, (i : Int)) (x.getD i 0) (otherM (x.getD i 0)).1 (otherM (x.getD i 0)).2 1)) :=
        .at_ i _ (by simp only; omega) (by rw [hx]; exact hlt) (fun j h1 h2 => by rw [hx]; exact hno j (by simp only at h1; omega) h2) (by rw [hx]) ho
      have hpair : ∀ w', Kn w w' → CallsR Try.prog 31 #[v, posV (P1, (i : Int)), .int .i32 (x.getD i 0), .int .i32 (otherM (x.getD i 0)).1, .bool (otherM (x.getD i 0)).2, .int .i64 1] w' fun u w'' => Kn w' w'' ∧ u = .tuple #[posV (pairR (P1, (i : Int)) (pairM l (P1, (i : Int)) (x.getD i 0) (otherM (x.getD i 0)).1 (otherM (x.getD i 0)).2 1)).1, .bool (pairR (P1, (i : Int)) (pairM l (P1, (i : Int)) (x.getD i 0) (otherM (x.getD i 0)).1 (otherM (x.getD i 0)).2 1)).2.2] := fun w' hk =>
        (pair_calls (Kn.sl hk h) hrows hll ⟨hi, hi2⟩ ⟨by simp only; omega, by simp only; rw [← hxr]; omega⟩ ⟨by omega, by omega⟩).mono fun u w'' hu => ⟨hu.1, by rw [hu.2]; exact pairV_R _ _⟩
      have hhow := pairR_how (P1, (i : Int)) (pairM l (P1, (i : Int)) (x.getD i 0) (otherM (x.getD i 0)).1 (otherM (x.getD i 0)).2 1)
      generalize pairR (P1, (i : Int)) (pairM l (P1, (i : Int)) (x.getD i 0) (otherM (x.getD i 0)).1 (otherM (x.getD i 0)).2 1) = r at *
      have hgo : x.getD i 0 = x.getD i 0 := rfl
      refine l_go .seq ?_
      refine l_draw [(0, 0), (1, 0), (2, 0), (3, 0), (5, 0), (6, 0), (7, 0), (8, 0), (9, 0), (10, 0), (11, 0), (0, 2), (0, 0), (0, 0), (0, 0), (0, 0), (0, 0), (0, 0), (0, 0)] (by kernel_rfl) (by kernel_rfl) rfl (by kernel_rfl) ?_
      repeat(first|refine lrund_ ?_|(refine ld_open rfl ?_;first|(refine ld_boxA rfl wy_ rfl ?_;intro _ _ _)|(refine ld_box1 rfl rfl wy_ rfl ?_;intro _ _ _)|(refine ld_alloc wy_ rfl ?_;intro _ _ _)))
      refine ld_branch2 4 16 [(0, 2), (0, 0), (0, 0), (0, 0), (0, 0), (0, 0), (0, 0)] [(4, 1), (12, 1), (13, 0), (14, 0), (15, 0), (17, 1), (18, 0)] (by kernel_rfl) rfl rfl (by kernel_rfl) (by kernel_rfl) ?_ ?_
      · refine lb_open rfl ?_
        refine lb_call (n_call rfl) wy_ rfl (fun w hw => here_calls (p := (P1, (K : Int))) (m := m) (n := n) (op := op)) ?_
        refine ld_branch2 12 16 [(13, 0), (14, 0), (15, 0), (16, 1), (17, 1), (18, 0)] [(12, 1), (13, 0), (14, 0), (15, 0), (17, 1), (18, 0)] (by kernel_rfl) rfl rfl (by kernel_rfl) (by kernel_rfl) ?_ ?_
        · refine lb_open rfl ?_
          refine lb_call (n_call rfl) wy_ rfl (fun w hw => hpair w hw.org) ?_
          repeat(first|refine lrund_ ?_|(refine ld_open rfl ?_;first|(refine ld_boxA rfl wy_ rfl ?_;intro _ _ _)|(refine ld_box1 rfl rfl wy_ rfl ?_;intro _ _ _)|(refine ld_alloc wy_ rfl ?_;intro _ _ _)))
          repeat(first|refine lrun_ ?_|(refine lo_boxA rfl rfl ?_;intro _ _ _)|(refine lo_box1 rfl rfl rfl ?_;intro _ _ _)|(refine lo_alloc rfl ?_;intro _ _ _))
          exact l_retR3 rfl (by repeat(first|exact LRes.nil|refine LRes.tmp rfl ?_|refine LRes.agg rfl (by(repeat(first|exact MIn.hd|refine MIn.tl ?_));done) (by rfl) (by rfl) ?_|refine LRes.one rfl (by(repeat(first|exact MIn.hd|refine MIn.tl ?_));done) (by rfl) ?_)) fun w hw => ⟨hw.org, r, by unfold mvV; rw [hhow]; rfl, hB⟩
        · refine lb_open rfl ?_
          refine lb_alloc wy_ rfl ?_
          intro _ _ _
          refine ld_open rfl ?_
          refine ld_call (n_call rfl) wy_ rfl (fun w hw => hpair w hw.org) ?_
          repeat(first|refine lrund_ ?_|(refine ld_open rfl ?_;first|(refine ld_boxA rfl wy_ rfl ?_;intro _ _ _)|(refine ld_box1 rfl rfl wy_ rfl ?_;intro _ _ _)|(refine ld_alloc wy_ rfl ?_;intro _ _ _)))
          repeat(first|refine lrun_ ?_|(refine lo_boxA rfl rfl ?_;intro _ _ _)|(refine lo_box1 rfl rfl rfl ?_;intro _ _ _)|(refine lo_alloc rfl ?_;intro _ _ _))
          exact l_retR3 rfl (by repeat(first|exact LRes.nil|refine LRes.tmp rfl ?_|refine LRes.agg rfl (by(repeat(first|exact MIn.hd|refine MIn.tl ?_));done) (by rfl) (by rfl) ?_|refine LRes.one rfl (by(repeat(first|exact MIn.hd|refine MIn.tl ?_));done) (by rfl) ?_)) fun w hw => ⟨hw.org, r, by unfold mvV; rw [hhow]; rfl, hB⟩
      · refine lb_open rfl ?_
        refine lb_alloc wy_ rfl ?_
        intro _ _ _
        refine ld_open rfl ?_
        refine ld_call (n_call rfl) wy_ rfl (fun w hw => here_calls (p := (P1, (K : Int))) (m := m) (n := n) (op := op)) ?_
        refine ld_open rfl ?_
        refine ld_call (n_call rfl) wy_ rfl (fun w hw => hpair w hw.org) ?_
        repeat(first|refine lrund_ ?_|(refine ld_open rfl ?_;first|(refine ld_boxA rfl wy_ rfl ?_;intro _ _ _)|(refine ld_box1 rfl rfl wy_ rfl ?_;intro _ _ _)|(refine ld_alloc wy_ rfl ?_;intro _ _ _)))
        repeat(first|refine lrun_ ?_|(refine lo_boxA rfl rfl ?_;intro _ _ _)|(refine lo_box1 rfl rfl rfl ?_;intro _ _ _)|(refine lo_alloc rfl ?_;intro _ _ _))
        exact l_retR3 rfl (by repeat(first|exact LRes.nil|refine LRes.tmp rfl ?_|refine LRes.agg rfl (by(repeat(first|exact MIn.hd|refine MIn.tl ?_));done) (by rfl) (by rfl) ?_|refine LRes.one rfl (by(repeat(first|exact MIn.hd|refine MIn.tl ?_));done) (by rfl) ?_)) fun w hw => ⟨hw.org, r, by unfold mvV; rw [hhow]; rfl, hB⟩
  · repeat(first|refine lrun_ ?_|(refine lo_boxA rfl rfl ?_;intro _ _ _)|(refine lo_box1 rfl rfl rfl ?_;intro _ _ _)|(refine lo_alloc rfl ?_;intro _ _ _))
    refine l_no rfl (by omega) ?_
    repeat(first|refine lrun_ ?_|(refine lo_boxA rfl rfl ?_;intro _ _ _)|(refine lo_box1 rfl rfl rfl ?_;intro _ _ _)|(refine lo_alloc rfl ?_;intro _ _ _))
    exact l_retR3 rfl (by repeat(first|exact LRes.nil|refine LRes.tmp rfl ?_|refine LRes.agg rfl (by(repeat(first|exact MIn.hd|refine MIn.tl ?_));done) (by rfl) (by rfl) ?_|refine LRes.one rfl (by(repeat(first|exact MIn.hd|refine MIn.tl ?_));done) (by rfl) ?_)) fun w hw => ⟨hw.org, ((P1, (K : Int)), 0, false), rfl, .no fun j h1 h2 => by rw [hx] at h2 ⊢; exact hno j (by simp only at h1; omega) (by omega)⟩
end
end Go.Ink
