/-
  Blanks at a line's end; a sentence's end.
-/
import Derived.Test.YtcfbkoajhllcaaaW5
import Derived.Test.YtcfbkoajhllcaaaW3
import Derived.Test.YtcfbkoajhllcaaaW1r
import Derived.Test.YtcfbkoajhllcaaaW2r
import Derived.Test.YtcfbkoajhllcaaaRf
import Derived.Laws.Externs
set_option linter.unusedVariables false
set_option linter.unusedSimpArgs false
namespace Go.Ink
open Go Go.Proofs

theorem r_indexByte {N : Nat} {σ : Sig} {w : World} {d : Option Nat} {ty : TypeId} {pos : String} {af : Array Edge} {g : Option (Nat × Bool)} {x y : Operand} {ts : Array TypeId} {s : ByteArray} {c : Int} (hx : ev σ x = some (.string s)) (hy : ev σ y = some (.int .u8 c)) :
    Rn Try.prog N σ w ⟨d, .call { callee := .value (.func 49), args := #[x, y], argTypes := ts }, ty, pos, af, g⟩ (.int .i64 (firstIdx s c.toNat.toUInt8)) := by
  constructor; intro _ a w0 ha _
  have h := run_callFunc_extern (P := Try.prog) (f := 49) Try.func49 (by kernel_rfl) (by kernel_rfl) (by kernel_rfl) (e := Extern.BytealgIndexByte.indexByte) (by kernel_rfl) #[.string s, .int .u8 c] w0
  rw [run_indexByte_string] at h
  have hf : a.eval (.func 49) = .func (.func 49) #[] #[] := rfl
  simp [execOp, resolve, invoke, ha.ev hx, ha.ev hy, hf, Sem.run_bind, Sem.run_pure, Deferred.ofValue, Result.andThen_ok, h]
section
variable {w : World} {s : ByteArray} {c : Int}
theorem idx1_calls : CallsR Try.prog 48 #[.string s, .int .u8 c] w fun u w' => w' = w ∧ u = .int .i64 (firstIdx s c.toNat.toUInt8) := by
  refine calls_enter Try.func48 rfl rfl ?_
  repeat(refine run_ ?_)
  refine o_still (r_indexByte rfl rfl) (wants_none rfl) rfl ?_
  repeat(refine run_ ?_)
  exact k_ret1 rfl rfl ⟨rfl, rfl⟩
theorem idx2_calls : CallsR Try.prog 47 #[.string s, .int .u8 c] w fun u w' => w' = w ∧ u = .int .i64 (firstIdx s c.toNat.toUInt8) := by
  refine calls_enter Try.func47 rfl rfl ?_
  repeat(refine run_ ?_)
  refine o_enter (n_call rfl) (wants_none rfl) rfl ((idx1_calls).mono ?_)
  rintro _ _ ⟨rfl, rfl⟩
  repeat(refine run_ ?_)
  exact k_ret1 rfl rfl ⟨rfl, rfl⟩
theorem in_calls {r : Int} : CallsR Try.prog 46 #[.int .i32 r, .string s] w fun u w' => w' = w ∧ u = .bool (decide (0 < r ∧ r < 128 ∧ 0 ≤ firstIdx s r.toNat.toUInt8)) := by
  refine calls_enter Try.func46 rfl rfl ?_
  by_cases h1 : 0 < r
  · by_cases h2 : r < 128
    · repeat(refine run_ ?_)
      refine o_still (r_conv rfl) (wants_none rfl) rfl ?_
      repeat(refine run_ ?_)
      rw [show IntKind.u8.wrap r = r by simp [IntKind.wrap, IntKind.bits, IntKind.signed]; omega]
      refine o_enter (n_call rfl) (wants_none rfl) rfl ((idx2_calls).mono ?_)
      rintro _ _ ⟨rfl, rfl⟩
      repeat(refine run_ ?_)
      exact k_ret1 rfl rfl ⟨rfl, by congr 1; rw [decide_eq_decide]; exact ⟨fun h => ⟨h1, h2, h⟩, fun h => h.2.2⟩⟩
    · repeat(refine run_ ?_)
      exact k_ret1 rfl rfl ⟨rfl, by rw [decide_eq_false (fun h => h2 h.2.1)]⟩
  · repeat(refine run_ ?_)
    exact k_ret1 rfl rfl ⟨rfl, by rw [decide_eq_false (fun h => h1 h.1)]⟩
/-- So many runes are ahead of the blanks at the end. -/
def trimN (x : List Int) : Nat → Nat
  | 0 => 0
  | n + 1 => if classM (x.getD n 0) false = 0 then trimN x n else n + 1
def shutM (r : Int) : Prop := r = 41 ∨ r = 93 ∨ r = 34 ∨ r = 39
instance (r : Int) : Decidable (shutM r) := by unfold shutM; infer_instance
def stopM (r : Int) : Prop := r = 46 ∨ r = 33 ∨ r = 63
instance (r : Int) : Decidable (stopM r) := by unfold stopM; infer_instance
def endM (x : List Int) : Nat → Bool
  | 0 => false
  | n + 1 => if shutM (x.getD n 0) then endM x n else decide (stopM (x.getD n 0))
theorem trimN_succ (x : List Int) (n : Nat) : trimN x (n + 1) = if classM (x.getD n 0) false = 0 then trimN x n else n + 1 := rfl
theorem endM_succ (x : List Int) (n : Nat) : endM x (n + 1) = if shutM (x.getD n 0) then endM x n else decide (stopM (x.getD n 0)) := rfl
theorem idx_shut {r : Int} (h0 : 0 < r) (h1 : r < 128) : 0 ≤ firstIdx ⟨#[41, 93, 34, 39]⟩ r.toNat.toUInt8 ↔ shutM r := by
  obtain ⟨n, rfl⟩ := Int.eq_ofNat_of_zero_le (Int.le_of_lt h0)
  have hn : n < 128 := by omega
  have : ∀ n : Nat, n < 128 → (decide (0 ≤ firstIdx ⟨#[41, 93, 34, 39]⟩ (n : Int).toNat.toUInt8) = decide (shutM (n : Int))) := by decide +kernel
  exact decide_eq_decide.1 (this n hn)
theorem idx_stop {r : Int} (h0 : 0 < r) (h1 : r < 128) : 0 ≤ firstIdx ⟨#[46, 33, 63]⟩ r.toNat.toUInt8 ↔ stopM r := by
  obtain ⟨n, rfl⟩ := Int.eq_ofNat_of_zero_le (Int.le_of_lt h0)
  have hn : n < 128 := by omega
  have : ∀ n : Nat, n < 128 → (decide (0 ≤ firstIdx ⟨#[46, 33, 63]⟩ (n : Int).toNat.toUInt8) = decide (stopM (n : Int))) := by decide +kernel
  exact decide_eq_decide.1 (this n hn)
theorem inShut_calls {r : Int} : CallsR Try.prog 46 #[.int .i32 r, .string ⟨#[41, 93, 34, 39]⟩] w fun u w' => w' = w ∧ u = .bool (decide (shutM r)) :=
  in_calls.mono fun u w' ⟨h1, h2⟩ => ⟨h1, by
    rw [h2]; congr 1; rw [decide_eq_decide]
    constructor
    · rintro ⟨a, b, c⟩; exact (idx_shut a b).1 c
    · intro h
      have hr : 0 < r ∧ r < 128 := by unfold shutM at h; omega
      exact ⟨hr.1, hr.2, (idx_shut hr.1 hr.2).2 h⟩⟩
theorem inStop_calls {r : Int} : CallsR Try.prog 46 #[.int .i32 r, .string ⟨#[46, 33, 63]⟩] w fun u w' => w' = w ∧ u = .bool (decide (stopM r)) :=
  in_calls.mono fun u w' ⟨h1, h2⟩ => ⟨h1, by
    rw [h2]; congr 1; rw [decide_eq_decide]
    constructor
    · rintro ⟨a, b, c⟩; exact (idx_stop a b).1 c
    · intro h
      have hr : 0 < r ∧ r < 128 := by unfold stopM at h; omega
      exact ⟨hr.1, hr.2, (idx_stop hr.1 hr.2).2 h⟩⟩
variable {F : Nat → Prop} {A : Option Addr} {cx : Nat} {x : List Int} {ad : Addr} {n : Nat}
theorem trimN_le : ∀ n, trimN x n ≤ n
  | 0 => Nat.le_refl _
  | n + 1 => by unfold trimN; split; have := trimN_le n; omega; exact Nat.le_refl _
theorem trimmed_calls (hX : Rns F w A cx x ad) (hn : n ≤ x.length) : CallsR Try.prog 41 #[.slice A n cx] w fun u w' => Kn w w' ∧ u = .slice A (trimN x n) cx := by
  have hl := hX.len
  have hc := hX.cap
  refine l_enter (fun _ => False) Try.func41 rfl rfl ?_
  repeat(first|refine lrun_ ?_|(refine lo_boxA rfl rfl ?_;intro _ _ _)|(refine lo_box1 rfl rfl rfl ?_;intro _ _ _)|(refine lo_alloc rfl ?_;intro _ _ _))
  refine l_while (fun m => m) (fun m : Nat => [(0, .slice A m cx)]) (fun _ => []) (fun m => m ≤ n ∧ trimN x m = trimN x n) n (by repeat (first | exact SubB.nil | refine SubB.cons rfl ?_)) (by repeat(first|exact MSub.refl|refine MSub.keep rfl ?_|exact MSub.nil|apply MSub.drop)) ⟨Nat.le_refl _, rfl⟩ ?_
  rintro m ⟨hm, ht⟩ ih
  cases m with
  | zero =>
    repeat(first|refine lrun_ ?_|(refine lo_boxA rfl rfl ?_;intro _ _ _)|(refine lo_box1 rfl rfl rfl ?_;intro _ _ _)|(refine lo_alloc rfl ?_;intro _ _ _))
    refine l_false rfl ?_
    repeat(first|refine lrun_ ?_|(refine lo_boxA rfl rfl ?_;intro _ _ _)|(refine lo_box1 rfl rfl rfl ?_;intro _ _ _)|(refine lo_alloc rfl ?_;intro _ _ _))
    exact l_ret1 rfl rfl fun w hw => ⟨hw.org, by rw [← ht]; rfl⟩
  | succ m =>
    repeat(first|refine lrun_ ?_|(refine lo_boxA rfl rfl ?_;intro _ _ _)|(refine lo_box1 rfl rfl rfl ?_;intro _ _ _)|(refine lo_alloc rfl ?_;intro _ _ _))
    rw [show (((m + 1 : Nat) : Int) - 1) = (m : Nat) by omega]
    repeat(first|refine lrun_ ?_|(refine lo_boxA rfl rfl ?_;intro _ _ _)|(refine lo_box1 rfl rfl rfl ?_;intro _ _ _)|(refine lo_alloc rfl ?_;intro _ _ _))
    refine lo_callP (n_call rfl) rfl (fun w hw => classP_calls) ?_
    rw [trimN_succ] at ht
    by_cases hb : classM (x.getD m 0) false = 0
    · rw [if_pos hb] at ht
      rw [hb]
      repeat(first|refine lrun_ ?_|(refine lo_boxA rfl rfl ?_;intro _ _ _)|(refine lo_box1 rfl rfl rfl ?_;intro _ _ _)|(refine lo_alloc rfl ?_;intro _ _ _))
      refine l_yes rfl rfl ?_
      repeat(first|refine lrun_ ?_|(refine lo_boxA rfl rfl ?_;intro _ _ _)|(refine lo_box1 rfl rfl rfl ?_;intro _ _ _)|(refine lo_alloc rfl ?_;intro _ _ _))
      rw [show (((m + 1 : Nat) : Int) - 1) = (m : Nat) by omega]
      repeat(first|refine lrun_ ?_|(refine lo_boxA rfl rfl ?_;intro _ _ _)|(refine lo_box1 rfl rfl rfl ?_;intro _ _ _)|(refine lo_alloc rfl ?_;intro _ _ _))
      exact ih m ⟨by omega, ht⟩ (by omega) _ _ (by repeat (first | exact SubB.nil | refine SubB.cons rfl ?_)) (by repeat(first|exact MSub.refl|refine MSub.keep rfl ?_|exact MSub.nil|apply MSub.drop))
    · rw [if_neg hb] at ht
      repeat(first|refine lrun_ ?_|(refine lo_boxA rfl rfl ?_;intro _ _ _)|(refine lo_box1 rfl rfl rfl ?_;intro _ _ _)|(refine lo_alloc rfl ?_;intro _ _ _))
      refine l_no rfl hb ?_
      repeat(first|refine lrun_ ?_|(refine lo_boxA rfl rfl ?_;intro _ _ _)|(refine lo_box1 rfl rfl rfl ?_;intro _ _ _)|(refine lo_alloc rfl ?_;intro _ _ _))
      exact l_ret1 rfl rfl fun w hw => ⟨hw.org, by rw [← ht]⟩
theorem ended_calls (hX : Rns F w A cx x ad) (hn : n ≤ x.length) : CallsR Try.prog 42 #[.slice A n cx] w fun u w' => Kn w w' ∧ u = .bool (endM x n) := by
  have hl := hX.len
  have hc := hX.cap
  refine l_enter (fun _ => False) Try.func42 rfl rfl ?_
  repeat(first|refine lrun_ ?_|(refine lo_boxA rfl rfl ?_;intro _ _ _)|(refine lo_box1 rfl rfl rfl ?_;intro _ _ _)|(refine lo_alloc rfl ?_;intro _ _ _))
  refine l_while (fun m => m) (fun m : Nat => [(0, .slice A m cx)]) (fun _ => []) (fun m => m ≤ n ∧ endM x m = endM x n) n (by repeat (first | exact SubB.nil | refine SubB.cons rfl ?_)) (by repeat(first|exact MSub.refl|refine MSub.keep rfl ?_|exact MSub.nil|apply MSub.drop)) ⟨Nat.le_refl _, rfl⟩ ?_
  rintro m ⟨hm, ht⟩ ih
  cases m with
  | zero =>
    repeat(first|refine lrun_ ?_|(refine lo_boxA rfl rfl ?_;intro _ _ _)|(refine lo_box1 rfl rfl rfl ?_;intro _ _ _)|(refine lo_alloc rfl ?_;intro _ _ _))
    refine l_false rfl ?_
    repeat(first|refine lrun_ ?_|(refine lo_boxA rfl rfl ?_;intro _ _ _)|(refine lo_box1 rfl rfl rfl ?_;intro _ _ _)|(refine lo_alloc rfl ?_;intro _ _ _))
    exact l_ret1 rfl rfl fun w hw => ⟨hw.org, by rw [← ht]; rfl⟩
  | succ m =>
    repeat(first|refine lrun_ ?_|(refine lo_boxA rfl rfl ?_;intro _ _ _)|(refine lo_box1 rfl rfl rfl ?_;intro _ _ _)|(refine lo_alloc rfl ?_;intro _ _ _))
    rw [show (((m + 1 : Nat) : Int) - 1) = (m : Nat) by omega]
    repeat(first|refine lrun_ ?_|(refine lo_boxA rfl rfl ?_;intro _ _ _)|(refine lo_box1 rfl rfl rfl ?_;intro _ _ _)|(refine lo_alloc rfl ?_;intro _ _ _))
    refine lo_callP (n_call rfl) rfl (fun w hw => inShut_calls) ?_
    rw [endM_succ] at ht
    by_cases hb : shutM (x.getD m 0)
    · rw [if_pos hb] at ht
      rw [decide_eq_true hb]
      repeat(first|refine lrun_ ?_|(refine lo_boxA rfl rfl ?_;intro _ _ _)|(refine lo_box1 rfl rfl rfl ?_;intro _ _ _)|(refine lo_alloc rfl ?_;intro _ _ _))
      refine l_true rfl ?_
      repeat(first|refine lrun_ ?_|(refine lo_boxA rfl rfl ?_;intro _ _ _)|(refine lo_box1 rfl rfl rfl ?_;intro _ _ _)|(refine lo_alloc rfl ?_;intro _ _ _))
      rw [show (((m + 1 : Nat) : Int) - 1) = (m : Nat) by omega]
      repeat(first|refine lrun_ ?_|(refine lo_boxA rfl rfl ?_;intro _ _ _)|(refine lo_box1 rfl rfl rfl ?_;intro _ _ _)|(refine lo_alloc rfl ?_;intro _ _ _))
      exact ih m ⟨by omega, ht⟩ (by omega) _ _ (by repeat (first | exact SubB.nil | refine SubB.cons rfl ?_)) (by repeat(first|exact MSub.refl|refine MSub.keep rfl ?_|exact MSub.nil|apply MSub.drop))
    · rw [if_neg hb] at ht
      rw [decide_eq_false hb]
      repeat(first|refine lrun_ ?_|(refine lo_boxA rfl rfl ?_;intro _ _ _)|(refine lo_box1 rfl rfl rfl ?_;intro _ _ _)|(refine lo_alloc rfl ?_;intro _ _ _))
      refine l_false rfl ?_
      repeat(first|refine lrun_ ?_|(refine lo_boxA rfl rfl ?_;intro _ _ _)|(refine lo_box1 rfl rfl rfl ?_;intro _ _ _)|(refine lo_alloc rfl ?_;intro _ _ _))
      rw [show (((m + 1 : Nat) : Int) - 1) = (m : Nat) by omega]
      repeat(first|refine lrun_ ?_|(refine lo_boxA rfl rfl ?_;intro _ _ _)|(refine lo_box1 rfl rfl rfl ?_;intro _ _ _)|(refine lo_alloc rfl ?_;intro _ _ _))
      refine lo_callP (n_call rfl) rfl (fun w hw => inStop_calls) ?_
      repeat(first|refine lrun_ ?_|(refine lo_boxA rfl rfl ?_;intro _ _ _)|(refine lo_box1 rfl rfl rfl ?_;intro _ _ _)|(refine lo_alloc rfl ?_;intro _ _ _))
      exact l_ret1 rfl rfl fun w hw => ⟨hw.org, by rw [← ht]⟩
end
end Go.Ink
