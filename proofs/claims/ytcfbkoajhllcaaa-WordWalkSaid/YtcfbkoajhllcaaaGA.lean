/-
  Blanks at a line's end; a sentence's end.
  Which places are sought.
  word.places: one place behind the other.
  word.places$1: a place after the other is yielded.
  word.seek.
  Next, Prev, End, SentNext, SentPrev, ParaNext, ParaPrev.
  ParaNext, ParaPrev.
-/
import Derived.Test.YtcfbkoajhllcaaaW4
import Derived.Test.YtcfbkoajhllcaaaRf
import Derived.Laws.Externs
import Derived.Test.YtcfbkoajhllcaaaFv
set_option linter.unusedVariables false
set_option linter.unusedSimpArgs false
namespace Go.Ink
open Go Go.Proofs

theorem r_indexByte {N : Nat} {σ : Sig} {w : World} {d : Option Nat} {ty : TypeId} {pos : String} {af : Array Edge} {g : Option (Nat × Bool)} {x y : Operand} {ts : Array TypeId} {s : ByteArray} {c : Int} (hx : ev σ x = some (.string s)) (hy : ev σ y = some (.int .u8 c)) :
    Rn Try.prog N σ w ⟨d, .call { callee := .value (.func 49), args := #[x, y], argTypes := ts }, ty, pos, af, g⟩ (.int .i64 (firstIdx s c.toNat.toUInt8)) := by
  constructor; intro _ a w0 ha _
  have h := run_callFunc_extern (P := Try.prog) (f := 49) Try.func49 (by kernel_rfl) (by kernel_rfl) (by kernel_rfl) (e := Extern.BytealgIndexByte.indexByte) (by kernel_rfl) #[.string s, .int .u8 c] w0
  rw [run_indexByte_string] at h
  have hf : a.eval (.func 49) = .func (.func 49) #[] #[] := rfl
  simp [execOp, resolve, invoke, ha.ev hx, ha.ev hy, hf, Sem.run_bind, Sem.run_pure, Deferred.ofValue, Result.andThen_ok, h]
section
variable {w : World} {s : ByteArray} {c : Int}
theorem idx1_calls : CallsR Try.prog 48 #[.string s, .int .u8 c] w fun u w' => w' = w ∧ u = .int .i64 (firstIdx s c.toNat.toUInt8) := by
  refine calls_enter Try.func48 rfl rfl ?_
  repeat(refine run_ ?_)
  refine o_still (r_indexByte rfl rfl) (wants_none rfl) rfl ?_
  repeat(refine run_ ?_)
  exact k_ret1 rfl rfl ⟨rfl, rfl⟩
theorem idx2_calls : CallsR Try.prog 47 #[.string s, .int .u8 c] w fun u w' => w' = w ∧ u = .int .i64 (firstIdx s c.toNat.toUInt8) := by
  refine calls_enter Try.func47 rfl rfl ?_
  repeat(refine run_ ?_)
  refine o_enter (n_call rfl) (wants_none rfl) rfl ((idx1_calls).mono ?_)
  rintro _ _ ⟨rfl, rfl⟩
  repeat(refine run_ ?_)
  exact k_ret1 rfl rfl ⟨rfl, rfl⟩
theorem in_calls {r : Int} : CallsR Try.prog 46 #[.int .i32 r, .string s] w fun u w' => w' = w ∧ u = .bool (decide (0 < r ∧ r < 128 ∧ 0 ≤ firstIdx s r.toNat.toUInt8)) := by
  refine calls_enter Try.func46 rfl rfl ?_
  by_cases h1 : 0 < r
  · by_cases h2 : r < 128
    · repeat(refine run_ ?_)
      refine o_still (r_conv rfl) (wants_none rfl) rfl ?_
      repeat(refine run_ ?_)
      rw [show IntKind.u8.wrap r = r by simp [IntKind.wrap, IntKind.bits, IntKind.signed]; omega]
      refine o_enter (n_call rfl) (wants_none rfl) rfl ((idx2_calls).mono ?_)
      rintro _ _ ⟨rfl, rfl⟩
      repeat(refine run_ ?_)
      exact k_ret1 rfl rfl ⟨rfl, by congr 1; rw [decide_eq_decide]; exact ⟨fun h => ⟨h1, h2, h⟩, fun h => h.2.2⟩⟩
    · repeat(refine run_ ?_)
      exact k_ret1 rfl rfl ⟨rfl, by rw [decide_eq_false (fun h => h2 h.2.1)]⟩
  · repeat(refine run_ ?_)
    exact k_ret1 rfl rfl ⟨rfl, by rw [decide_eq_false (fun h => h1 h.1)]⟩
/-- So many runes are ahead of the blanks at the end. -/
def trimN (x : List Int) : Nat → Nat
  | 0 => 0
  | n + 1 => if classM (x.getD n 0) false = 0 then trimN x n else n + 1
def shutM (r : Int) : Prop := r = 41 ∨ r = 93 ∨ r = 34 ∨ r = 39
instance (r : Int) : Decidable (shutM r) := by unfold shutM; infer_instance
def stopM (r : Int) : Prop := r = 46 ∨ r = 33 ∨ r = 63
instance (r : Int) : Decidable (stopM r) := by unfold stopM; infer_instance
def endM (x : List Int) : Nat → Bool
  | 0 => false
  | n + 1 => if shutM (x.getD n 0) then endM x n else decide (stopM (x.getD n 0))
theorem trimN_succ (x : List Int) (n : Nat) : trimN x (n + 1) = if classM (x.getD n 0) false = 0 then trimN x n else n + 1 := rfl
theorem endM_succ (x : List Int) (n : Nat) : endM x (n + 1) = if shutM (x.getD n 0) then endM x n else decide (stopM (x.getD n 0)) := rfl
theorem idx_shut {r : Int} (h0 : 0 < r) (h1 : r < 128) : 0 ≤ firstIdx ⟨#[41, 93, 34, 39]⟩ r.toNat.toUInt8 ↔ shutM r := by
  obtain ⟨n, rfl⟩ := Int.eq_ofNat_of_zero_le (Int.le_of_lt h0)
  have hn : n < 128 := by omega
  have : ∀ n : Nat, n < 128 → (decide (0 ≤ firstIdx ⟨#[41, 93, 34, 39]⟩ (n : Int).toNat.toUInt8) = decide (shutM (n : Int))) := by decide +kernel
  exact decide_eq_decide.1 (this n hn)
theorem idx_stop {r : Int} (h0 : 0 < r) (h1 : r < 128) : 0 ≤ firstIdx ⟨#[46, 33, 63]⟩ r.toNat.toUInt8 ↔ stopM r := by
  obtain ⟨n, rfl⟩ := Int.eq_ofNat_of_zero_le (Int.le_of_lt h0)
  have hn : n < 128 := by omega
  have : ∀ n : Nat, n < 128 → (decide (0 ≤ firstIdx ⟨#[46, 33, 63]⟩ (n : Int).toNat.toUInt8) = decide (stopM (n : Int))) := by decide +kernel
  exact decide_eq_decide.1 (this n hn)
theorem inShut_calls {r : Int} : CallsR Try.prog 46 #[.int .i32 r, .string ⟨#[41, 93, 34, 39]⟩] w fun u w' => w' = w ∧ u = .bool (decide (shutM r)) :=
  in_calls.mono fun u w' ⟨h1, h2⟩ => ⟨h1, by
    rw [h2]; congr 1; rw [decide_eq_decide]
    constructor
    · rintro ⟨a, b, c⟩; exact (idx_shut a b).1 c
    · intro h
      have hr : 0 < r ∧ r < 128 := by unfold shutM at h; omega
      exact ⟨hr.1, hr.2, (idx_shut hr.1 hr.2).2 h⟩⟩
theorem inStop_calls {r : Int} : CallsR Try.prog 46 #[.int .i32 r, .string ⟨#[46, 33, 63]⟩] w fun u w' => w' = w ∧ u = .bool (decide (stopM r)) :=
  in_calls.mono fun u w' ⟨h1, h2⟩ => ⟨h1, by
    rw [h2]; congr 1; rw [decide_eq_decide]
    constructor
    · rintro ⟨a, b, c⟩; exact (idx_stop a b).1 c
    · intro h
      have hr : 0 < r ∧ r < 128 := by unfold stopM at h; omega
      exact ⟨hr.1, hr.2, (idx_stop hr.1 hr.2).2 h⟩⟩
variable {F : Nat → Prop} {A : Option Addr} {cx : Nat} {x : List Int} {ad : Addr} {n : Nat}
theorem trimN_le : ∀ n, trimN x n ≤ n
  | 0 => Nat.le_refl _
  | n + 1 => by unfold trimN; split; have := trimN_le n; omega; exact Nat.le_refl _
theorem trimmed_calls (hX : Rns F w A cx x ad) (hn : n ≤ x.length) : CallsR Try.prog 41 #[.slice A n cx] w fun u w' => Kn w w' ∧ u = .slice A (trimN x n) cx := by
  have hl := hX.len
  have hc := hX.cap
  refine l_enter (fun _ => False) Try.func41 rfl rfl ?_
  repeat(first|refine lrun_ ?_|(refine lo_boxA rfl rfl ?_;intro _ _ _)|(refine lo_box1 rfl rfl rfl ?_;intro _ _ _)|(refine lo_alloc rfl ?_;intro _ _ _))
  refine l_while (fun m => m) (fun m : Nat => [(0, .slice A m cx)]) (fun _ => []) (fun m => m ≤ n ∧ trimN x m = trimN x n) n (by repeat (first | exact SubB.nil | refine SubB.cons rfl ?_)) (by repeat(first|exact MSub.refl|refine MSub.keep rfl ?_|exact MSub.nil|apply MSub.drop)) ⟨Nat.le_refl _, rfl⟩ ?_
  rintro m ⟨hm, ht⟩ ih
  cases m with
  | zero =>
    repeat(first|refine lrun_ ?_|(refine lo_boxA rfl rfl ?_;intro _ _ _)|(refine lo_box1 rfl rfl rfl ?_;intro _ _ _)|(refine lo_alloc rfl ?_;intro _ _ _))
    refine l_false rfl ?_
    repeat(first|refine lrun_ ?_|(refine lo_boxA rfl rfl ?_;intro _ _ _)|(refine lo_box1 rfl rfl rfl ?_;intro _ _ _)|(refine lo_alloc rfl ?_;intro _ _ _))
    exact l_ret1 rfl rfl fun w hw => ⟨hw.org, by rw [← ht]; rfl⟩
  | succ m =>
    repeat(first|refine lrun_ ?_|(refine lo_boxA rfl rfl ?_;intro _ _ _)|(refine lo_box1 rfl rfl rfl ?_;intro _ _ _)|(refine lo_alloc rfl ?_;intro _ _ _))
    rw [show (((m + 1 : Nat) : Int) - 1) = (m : Nat) by omega]
    repeat(first|refine lrun_ ?_|(refine lo_boxA rfl rfl ?_;intro _ _ _)|(refine lo_box1 rfl rfl rfl ?_;intro _ _ _)|(refine lo_alloc rfl ?_;intro _ _ _))
    refine lo_callP (n_call rfl) rfl (fun w hw => classP_calls) ?_
    rw [trimN_succ] at ht
    by_cases hb : classM (x.getD m 0) false = 0
    · rw [if_pos hb] at ht
      rw [hb]
      repeat(first|refine lrun_ ?_|(refine lo_boxA rfl rfl ?_;intro _ _ _)|(refine lo_box1 rfl rfl rfl ?_;intro _ _ _)|(refine lo_alloc rfl ?_;intro _ _ _))
      refine l_yes rfl rfl ?_
      repeat(first|refine lrun_ ?_|(refine lo_boxA rfl rfl ?_;intro _ _ _)|(refine lo_box1 rfl rfl rfl ?_;intro _ _ _)|(refine lo_alloc rfl ?_;intro _ _ _))
      rw [show (((m + 1 : Nat) : Int) - 1) = (m : Nat) by omega]
      repeat(first|refine lrun_ ?_|(refine lo_boxA rfl rfl ?_;intro _ _ _)|(refine lo_box1 rfl rfl rfl ?_;intro _ _ _)|(refine lo_alloc rfl ?_;intro _ _ _))
      exact ih m ⟨by omega, ht⟩ (by omega) _ _ (by repeat (first | exact SubB.nil | refine SubB.cons rfl ?_)) (by repeat(first|exact MSub.refl|refine MSub.keep rfl ?_|exact MSub.nil|apply MSub.drop))
    · rw [if_neg hb] at ht
      repeat(first|refine lrun_ ?_|(refine lo_boxA rfl rfl ?_;intro _ _ _)|(refine lo_box1 rfl rfl rfl ?_;intro _ _ _)|(refine lo_alloc rfl ?_;intro _ _ _))
      refine l_no rfl hb ?_
      repeat(first|refine lrun_ ?_|(refine lo_boxA rfl rfl ?_;intro _ _ _)|(refine lo_box1 rfl rfl rfl ?_;intro _ _ _)|(refine lo_alloc rfl ?_;intro _ _ _))
      exact l_ret1 rfl rfl fun w hw => ⟨hw.org, by rw [← ht]⟩
theorem ended_calls (hX : Rns F w A cx x ad) (hn : n ≤ x.length) : CallsR Try.prog 42 #[.slice A n cx] w fun u w' => Kn w w' ∧ u = .bool (endM x n) := by
  have hl := hX.len
  have hc := hX.cap
  refine l_enter (fun _ => False) Try.func42 rfl rfl ?_
  repeat(first|refine lrun_ ?_|(refine lo_boxA rfl rfl ?_;intro _ _ _)|(refine lo_box1 rfl rfl rfl ?_;intro _ _ _)|(refine lo_alloc rfl ?_;intro _ _ _))
  refine l_while (fun m => m) (fun m : Nat => [(0, .slice A m cx)]) (fun _ => []) (fun m => m ≤ n ∧ endM x m = endM x n) n (by repeat (first | exact SubB.nil | refine SubB.cons rfl ?_)) (by repeat(first|exact MSub.refl|refine MSub.keep rfl ?_|exact MSub.nil|apply MSub.drop)) ⟨Nat.le_refl _, rfl⟩ ?_
  rintro m ⟨hm, ht⟩ ih
  cases m with
  | zero =>
    repeat(first|refine lrun_ ?_|(refine lo_boxA rfl rfl ?_;intro _ _ _)|(refine lo_box1 rfl rfl rfl ?_;intro _ _ _)|(refine lo_alloc rfl ?_;intro _ _ _))
    refine l_false rfl ?_
    repeat(first|refine lrun_ ?_|(refine lo_boxA rfl rfl ?_;intro _ _ _)|(refine lo_box1 rfl rfl rfl ?_;intro _ _ _)|(refine lo_alloc rfl ?_;intro _ _ _))
    exact l_ret1 rfl rfl fun w hw => ⟨hw.org, by rw [← ht]; rfl⟩
  | succ m =>
    repeat(first|refine lrun_ ?_|(refine lo_boxA rfl rfl ?_;intro _ _ _)|(refine lo_box1 rfl rfl rfl ?_;intro _ _ _)|(refine lo_alloc rfl ?_;intro _ _ _))
    rw [show (((m + 1 : Nat) : Int) - 1) = (m : Nat) by omega]
    repeat(first|refine lrun_ ?_|(refine lo_boxA rfl rfl ?_;intro _ _ _)|(refine lo_box1 rfl rfl rfl ?_;intro _ _ _)|(refine lo_alloc rfl ?_;intro _ _ _))
    refine lo_callP (n_call rfl) rfl (fun w hw => inShut_calls) ?_
    rw [endM_succ] at ht
    by_cases hb : shutM (x.getD m 0)
    · rw [if_pos hb] at ht
      rw [decide_eq_true hb]
      repeat(first|refine lrun_ ?_|(refine lo_boxA rfl rfl ?_;intro _ _ _)|(refine lo_box1 rfl rfl rfl ?_;intro _ _ _)|(refine lo_alloc rfl ?_;intro _ _ _))
      refine l_true rfl ?_
      repeat(first|refine lrun_ ?_|(refine lo_boxA rfl rfl ?_;intro _ _ _)|(refine lo_box1 rfl rfl rfl ?_;intro _ _ _)|(refine lo_alloc rfl ?_;intro _ _ _))
      rw [show (((m + 1 : Nat) : Int) - 1) = (m : Nat) by omega]
      repeat(first|refine lrun_ ?_|(refine lo_boxA rfl rfl ?_;intro _ _ _)|(refine lo_box1 rfl rfl rfl ?_;intro _ _ _)|(refine lo_alloc rfl ?_;intro _ _ _))
      exact ih m ⟨by omega, ht⟩ (by omega) _ _ (by repeat (first | exact SubB.nil | refine SubB.cons rfl ?_)) (by repeat(first|exact MSub.refl|refine MSub.keep rfl ?_|exact MSub.nil|apply MSub.drop))
    · rw [if_neg hb] at ht
      rw [decide_eq_false hb]
      repeat(first|refine lrun_ ?_|(refine lo_boxA rfl rfl ?_;intro _ _ _)|(refine lo_box1 rfl rfl rfl ?_;intro _ _ _)|(refine lo_alloc rfl ?_;intro _ _ _))
      refine l_false rfl ?_
      repeat(first|refine lrun_ ?_|(refine lo_boxA rfl rfl ?_;intro _ _ _)|(refine lo_box1 rfl rfl rfl ?_;intro _ _ _)|(refine lo_alloc rfl ?_;intro _ _ _))
      rw [show (((m + 1 : Nat) : Int) - 1) = (m : Nat) by omega]
      repeat(first|refine lrun_ ?_|(refine lo_boxA rfl rfl ?_;intro _ _ _)|(refine lo_box1 rfl rfl rfl ?_;intro _ _ _)|(refine lo_alloc rfl ?_;intro _ _ _))
      refine lo_callP (n_call rfl) rfl (fun w hw => inStop_calls) ?_
      repeat(first|refine lrun_ ?_|(refine lo_boxA rfl rfl ?_;intro _ _ _)|(refine lo_box1 rfl rfl rfl ?_;intro _ _ _)|(refine lo_alloc rfl ?_;intro _ _ _))
      exact l_ret1 rfl rfl fun w hw => ⟨hw.org, by rw [← ht]⟩
end
end Go.Ink

set_option linter.unusedVariables false
set_option linter.unusedSimpArgs false
namespace Go.Ink
open Go Go.Proofs

/-- A rune that is not blank, none of its class beside it. -/
def edgeM (l : List (List Int)) (big : Bool) (by_ : Int) (q : Ps) : Bool :=
  if (rowOf l q).length = 0 then decide (by_ < 0)
  else decide (classM ((rowOf l q).getD q.2.toNat 0) big ≠ 0 ∧ (q.2 + by_ < 0 ∨ ((rowOf l q).length : Int) ≤ q.2 + by_ ∨ classM ((rowOf l q).getD (q.2 + by_).toNat 0) big ≠ classM ((rowOf l q).getD q.2.toNat 0) big))
/-- A sentence begins. -/
def sentM (l : List (List Int)) (q : Ps) : Bool :=
  if (rowOf l q).length = 0 then decide (0 < q.1 ∧ 0 < (l.getD (q.1.toNat - 1) []).length)
  else if classM ((rowOf l q).getD q.2.toNat 0) false = 0 then false
  else if 0 < trimN (rowOf l q) q.2.toNat then decide (trimN (rowOf l q) q.2.toNat < q.2.toNat) && endM (rowOf l q) (trimN (rowOf l q) q.2.toNat)
  else if q.1 = 0 then true
  else decide (trimN (l.getD (q.1.toNat - 1) []) (l.getD (q.1.toNat - 1) []).length = 0) || endM (l.getD (q.1.toNat - 1) []) (trimN (l.getD (q.1.toNat - 1) []) (l.getD (q.1.toNat - 1) []).length)
theorem Kp.st_all {F : Nat → Prop} {w w' : World} (h : Kn w w') : ∀ k, F k → k < w.heap.size → w'.heap[k]? = w.heap[k]? := fun k _ hk => h.st k hk
section
variable {F : Nat → Prop} {w : World} {A : Option Addr} {c : Nat} {l : List (List Int)} {ad : Addr} {rV : Nat → Option Addr} {rc : Nat → Nat} {ra : Nat → Addr} {q : Ps} {g1 g2 g3 : Nat} {by_ : Int} {big : Bool}
theorem Rws.rns {i : Nat} (hR : Rws F w A c l ad rV rc ra) (hi : i < l.length) : Rns F w (rV i) (rc i) (l.getD i []) (ra i) :=
  ⟨hR.rs i hi, hR.rcap i hi, hR.rl i, fun h => hR.aa i hi h, fun k hk => hR.run i k hi hk, fun k => by
    obtain ⟨A', c', ad', e, hr⟩ := (hR.rs i hi).rns
    exact hr.lo k, fun h => hR.fr i hi h⟩
set_option maxHeartbeats 2000000 in
theorem edge1_calls (hR : Rws F w A c l ad rV rc ra) (hc1 : w.cell? ⟨g1, 0, none⟩ = some (.slice A l.length c)) (hc2 : w.cell? ⟨g2, 0, none⟩ = some (.int .i64 by_)) (hc3 : w.cell? ⟨g3, 0, none⟩ = some (.bool big)) (hq : At l q) (hby : by_ = 1 ∨ by_ = -1) :
    CallsR Try.prog 37 #[posV q, .pointer (some ⟨g1, 0, none⟩), .pointer (some ⟨g2, 0, none⟩), .pointer (some ⟨g3, 0, none⟩)] w fun u w' => Kn w w' ∧ u = .bool (edgeM l big by_ q) := by
  obtain ⟨i, k, rfl, hi, hk, -⟩ := at_index hq
  have hll := hR.len
  have hrl := hR.rl i
  have hem : edgeM l big by_ ((i : Int), (k : Int)) = if (l.getD i []).length = 0 then decide (by_ < 0)
      else decide (classM ((l.getD i []).getD k 0) big ≠ 0 ∧ ((k : Int) + by_ < 0 ∨ ((l.getD i []).length : Int) ≤ (k : Int) + by_ ∨ classM ((l.getD i []).getD ((k : Int) + by_).toNat 0) big ≠ classM ((l.getD i []).getD k 0) big)) := by
    unfold edgeM; rw [rowOf_at]; rfl
  rw [hem]
  refine l_enter (fun _ => False) Try.func37 rfl rfl ?_
  repeat(first|refine lrun_ ?_|(refine lo_boxA rfl rfl ?_;intro _ _ _)|(refine lo_box1 rfl rfl rfl ?_;intro _ _ _)|(refine lo_alloc rfl ?_;intro _ _ _))
  by_cases h0 : (l.getD i []).length = 0
  · rw [if_pos h0]
    refine l_yes rfl (by omega) ?_
    repeat(first|refine lrun_ ?_|(refine lo_boxA rfl rfl ?_;intro _ _ _)|(refine lo_box1 rfl rfl rfl ?_;intro _ _ _)|(refine lo_alloc rfl ?_;intro _ _ _))
    exact l_ret1 rfl rfl fun w hw => ⟨hw.org, rfl⟩
  rw [if_neg h0]
  have hkl : k < (l.getD i []).length := by omega
  refine l_no rfl (by omega) ?_
  repeat(first|refine lrun_ ?_|(refine lo_boxA rfl rfl ?_;intro _ _ _)|(refine lo_box1 rfl rfl rfl ?_;intro _ _ _)|(refine lo_alloc rfl ?_;intro _ _ _))
  refine l_draw [(0, 0), (1, 0), (2, 0), (3, 0), (4, 0), (5, 0), (6, 1), (7, 0)] (by kernel_rfl) (by kernel_rfl) rfl (by kernel_rfl) ?_
  repeat(first|refine lrund_ ?_|(refine ld_open rfl ?_;first|(refine ld_boxA rfl wy_ rfl ?_;intro _ _ _)|(refine ld_box1 rfl rfl wy_ rfl ?_;intro _ _ _)|(refine ld_alloc wy_ rfl ?_;intro _ _ _)))
  refine ld_open rfl ?_; refine ld_callP (n_call rfl) (wants_none rfl) rfl (fun w hw => classP_calls) ?_
  repeat(first|refine lrund_ ?_|(refine ld_open rfl ?_;first|(refine ld_boxA rfl wy_ rfl ?_;intro _ _ _)|(refine ld_box1 rfl rfl wy_ rfl ?_;intro _ _ _)|(refine ld_alloc wy_ rfl ?_;intro _ _ _)))
  generalize hC : classM ((l.getD i []).getD k 0) big = C
  repeat(first|refine lrun_ ?_|(refine lo_boxA rfl rfl ?_;intro _ _ _)|(refine lo_box1 rfl rfl rfl ?_;intro _ _ _)|(refine lo_alloc rfl ?_;intro _ _ _))
  refine l_draw [(0, 0), (1, 0), (2, 0), (3, 0), (4, 0), (5, 0), (6, 0), (7, 0), (8, 0), (9, 0), (10, 0), (11, 0), (12, 0), (13, 0), (14, 0), (15, 0), (16, 0), (18, 0), (17, 1), (19, 0), (20, 0), (21, 0), (22, 0)] (by kernel_rfl) (by kernel_rfl) rfl (by kernel_rfl) ?_
  repeat(first|refine lrund_ ?_|(refine ld_open rfl ?_;first|(refine ld_boxA rfl wy_ rfl ?_;intro _ _ _)|(refine ld_box1 rfl rfl wy_ rfl ?_;intro _ _ _)|(refine ld_alloc wy_ rfl ?_;intro _ _ _)))
  by_cases hC0 : C = 0
  · subst hC0
    repeat(first|refine lrund_ ?_|(refine ld_open rfl ?_;first|(refine ld_boxA rfl wy_ rfl ?_;intro _ _ _)|(refine ld_box1 rfl rfl wy_ rfl ?_;intro _ _ _)|(refine ld_alloc wy_ rfl ?_;intro _ _ _)))
    exact l_ret1 rfl rfl fun w hw => ⟨hw.org, by simp⟩
  repeat(first|refine lrund_ ?_|(refine ld_open rfl ?_;first|(refine ld_boxA rfl wy_ rfl ?_;intro _ _ _)|(refine ld_box1 rfl rfl wy_ rfl ?_;intro _ _ _)|(refine ld_alloc wy_ rfl ?_;intro _ _ _)))
  by_cases hlt : (k : Int) + by_ < 0
  · repeat(first|refine lrund_ ?_|(refine ld_open rfl ?_;first|(refine ld_boxA rfl wy_ rfl ?_;intro _ _ _)|(refine ld_box1 rfl rfl wy_ rfl ?_;intro _ _ _)|(refine ld_alloc wy_ rfl ?_;intro _ _ _)))
    exact l_ret1 rfl rfl fun w hw => ⟨hw.org, by rw [decide_eq_true (⟨hC0, .inl hlt⟩ : C ≠ 0 ∧ _)]⟩
  repeat(first|refine lrund_ ?_|(refine ld_open rfl ?_;first|(refine ld_boxA rfl wy_ rfl ?_;intro _ _ _)|(refine ld_box1 rfl rfl wy_ rfl ?_;intro _ _ _)|(refine ld_alloc wy_ rfl ?_;intro _ _ _)))
  by_cases hge : ((l.getD i []).length : Int) ≤ (k : Int) + by_
  · repeat(first|refine lrund_ ?_|(refine ld_open rfl ?_;first|(refine ld_boxA rfl wy_ rfl ?_;intro _ _ _)|(refine ld_box1 rfl rfl wy_ rfl ?_;intro _ _ _)|(refine ld_alloc wy_ rfl ?_;intro _ _ _)))
    exact l_ret1 rfl rfl fun w hw => ⟨hw.org, by rw [decide_eq_true (⟨hC0, .inr (.inl hge)⟩ : C ≠ 0 ∧ _)]⟩
  repeat(first|refine lrund_ ?_|(refine ld_open rfl ?_;first|(refine ld_boxA rfl wy_ rfl ?_;intro _ _ _)|(refine ld_box1 rfl rfl wy_ rfl ?_;intro _ _ _)|(refine ld_alloc wy_ rfl ?_;intro _ _ _)))
  obtain ⟨m, hm⟩ : ∃ m : Nat, (k : Int) + by_ = m := ⟨((k : Int) + by_).toNat, by omega⟩
  rw [hm]
  repeat(first|refine lrund_ ?_|(refine ld_open rfl ?_;first|(refine ld_boxA rfl wy_ rfl ?_;intro _ _ _)|(refine ld_box1 rfl rfl wy_ rfl ?_;intro _ _ _)|(refine ld_alloc wy_ rfl ?_;intro _ _ _)))
  refine ld_open rfl ?_; refine ld_callP (n_call rfl) wy_ rfl (fun w hw => classP_calls) ?_
  repeat(first|refine lrund_ ?_|(refine ld_open rfl ?_;first|(refine ld_boxA rfl wy_ rfl ?_;intro _ _ _)|(refine ld_box1 rfl rfl wy_ rfl ?_;intro _ _ _)|(refine ld_alloc wy_ rfl ?_;intro _ _ _)))
  exact l_ret1 rfl rfl fun w hw => ⟨hw.org, by rw [Int.toNat_natCast]; congr 1; rw [decide_eq_decide]; constructor; exact fun h => ⟨hC0, .inr (.inr h)⟩; exact fun h => h.2.elim (fun h => absurd h (by omega)) fun h => h.elim (fun h => absurd h (by omega)) id⟩
set_option maxHeartbeats 4000000 in
theorem sent1_calls (hR : Rws F w A c l ad rV rc ra) (hc1 : w.cell? ⟨g1, 0, none⟩ = some (.slice A l.length c)) (hq : At l q) :
    CallsR Try.prog 40 #[posV q, .pointer (some ⟨g1, 0, none⟩)] w fun u w' => Kn w w' ∧ u = .bool (sentM l q) := by
  obtain ⟨i, k, rfl, hi, hk, -⟩ := at_index hq
  have hll := hR.len
  have hrl := hR.rl i
  have hrc := hR.rcap i hi
  have hem : sentM l ((i : Int), (k : Int)) = if (l.getD i []).length = 0 then decide ((0 : Int) < i ∧ 0 < (l.getD (i - 1) []).length)
      else if classM ((l.getD i []).getD k 0) false = 0 then false
      else if 0 < trimN (l.getD i []) k then decide (trimN (l.getD i []) k < k) && endM (l.getD i []) (trimN (l.getD i []) k)
      else if (i : Int) = 0 then true
      else decide (trimN (l.getD (i - 1) []) (l.getD (i - 1) []).length = 0) || endM (l.getD (i - 1) []) (trimN (l.getD (i - 1) []) (l.getD (i - 1) []).length) := by
    unfold sentM; rw [rowOf_at]; rfl
  rw [hem]
  refine l_enter (fun _ => False) Try.func40 rfl rfl ?_
  repeat(first|refine lrun_ ?_|(refine lo_boxA rfl rfl ?_;intro _ _ _)|(refine lo_box1 rfl rfl rfl ?_;intro _ _ _)|(refine lo_alloc rfl ?_;intro _ _ _))
  by_cases h0 : (l.getD i []).length = 0
  · rw [if_pos h0]
    refine l_yes rfl (by omega) ?_
    by_cases hi0 : (0 : Int) < i
    · repeat(first|refine lrun_ ?_|(refine lo_boxA rfl rfl ?_;intro _ _ _)|(refine lo_box1 rfl rfl rfl ?_;intro _ _ _)|(refine lo_alloc rfl ?_;intro _ _ _))
      obtain ⟨j, rfl⟩ : ∃ j, i = j + 1 := ⟨i - 1, by omega⟩
      have hjl := hR.rl j
      rw [show (((j + 1 : Nat) : Int), (k : Int)).fst - 1 = (j : Nat) by show ((j + 1 : Nat) : Int) - 1 = (j : Nat); omega]
      repeat(first|refine lrun_ ?_|(refine lo_boxA rfl rfl ?_;intro _ _ _)|(refine lo_box1 rfl rfl rfl ?_;intro _ _ _)|(refine lo_alloc rfl ?_;intro _ _ _))
      exact l_ret1 rfl rfl fun w hw => ⟨hw.org, by congr 1; rw [decide_eq_decide, Nat.add_sub_cancel]; omega⟩
    · repeat(first|refine lrun_ ?_|(refine lo_boxA rfl rfl ?_;intro _ _ _)|(refine lo_box1 rfl rfl rfl ?_;intro _ _ _)|(refine lo_alloc rfl ?_;intro _ _ _))
      exact l_ret1 rfl rfl fun w hw => ⟨hw.org, by rw [decide_eq_false (fun h => hi0 h.1)]⟩
  rw [if_neg h0]
  have hkl : k < (l.getD i []).length := by omega
  refine l_no rfl (by omega) ?_
  repeat(first|refine lrun_ ?_|(refine lo_boxA rfl rfl ?_;intro _ _ _)|(refine lo_box1 rfl rfl rfl ?_;intro _ _ _)|(refine lo_alloc rfl ?_;intro _ _ _))
  refine lo_callP (n_call rfl) rfl (fun w hw => classP_calls) ?_
  by_cases hC : classM ((l.getD i []).getD k 0) false = 0
  · rw [if_pos hC, hC]
    repeat(first|refine lrun_ ?_|(refine lo_boxA rfl rfl ?_;intro _ _ _)|(refine lo_box1 rfl rfl rfl ?_;intro _ _ _)|(refine lo_alloc rfl ?_;intro _ _ _))
    refine l_yes rfl rfl ?_
    repeat(first|refine lrun_ ?_|(refine lo_boxA rfl rfl ?_;intro _ _ _)|(refine lo_box1 rfl rfl rfl ?_;intro _ _ _)|(refine lo_alloc rfl ?_;intro _ _ _))
    exact l_ret1 rfl rfl fun w hw => ⟨hw.org, rfl⟩
  rw [if_neg hC]
  repeat(first|refine lrun_ ?_|(refine lo_boxA rfl rfl ?_;intro _ _ _)|(refine lo_box1 rfl rfl rfl ?_;intro _ _ _)|(refine lo_alloc rfl ?_;intro _ _ _))
  refine l_no rfl hC ?_
  repeat(first|refine lrun_ ?_|(refine lo_boxA rfl rfl ?_;intro _ _ _)|(refine lo_box1 rfl rfl rfl ?_;intro _ _ _)|(refine lo_alloc rfl ?_;intro _ _ _))
  have hX := hR.rns hi
  refine lo_call (n_call rfl) rfl (fun w hw => by obtain ⟨ad', hX'⟩ := hX.move hw.org.st_all; exact trimmed_calls hX' (Nat.le_of_lt hkl)) ?_
  have htl := trimN_le (x := l.getD i []) k
  generalize hT : trimN (l.getD i []) k = T at *
  repeat(first|refine lrun_ ?_|(refine lo_boxA rfl rfl ?_;intro _ _ _)|(refine lo_box1 rfl rfl rfl ?_;intro _ _ _)|(refine lo_alloc rfl ?_;intro _ _ _))
  by_cases hT0 : 0 < T
  · rw [if_pos hT0]
    refine l_yes rfl (by omega) ?_
    by_cases hTk : T < k
    · repeat(first|refine lrun_ ?_|(refine lo_boxA rfl rfl ?_;intro _ _ _)|(refine lo_box1 rfl rfl rfl ?_;intro _ _ _)|(refine lo_alloc rfl ?_;intro _ _ _))
      refine lo_call (n_call rfl) rfl (fun w hw => by obtain ⟨ad', hX'⟩ := hX.move hw.org.st_all; exact ended_calls hX' (by omega)) ?_
      repeat(first|refine lrun_ ?_|(refine lo_boxA rfl rfl ?_;intro _ _ _)|(refine lo_box1 rfl rfl rfl ?_;intro _ _ _)|(refine lo_alloc rfl ?_;intro _ _ _))
      exact l_ret1 rfl rfl fun w hw => ⟨hw.org, by rw [decide_eq_true hTk, Bool.true_and]⟩
    · repeat(first|refine lrun_ ?_|(refine lo_boxA rfl rfl ?_;intro _ _ _)|(refine lo_box1 rfl rfl rfl ?_;intro _ _ _)|(refine lo_alloc rfl ?_;intro _ _ _))
      exact l_ret1 rfl rfl fun w hw => ⟨hw.org, by rw [decide_eq_false hTk, Bool.false_and]⟩
  rw [if_neg hT0]
  refine l_no rfl (by omega) ?_
  repeat(first|refine lrun_ ?_|(refine lo_boxA rfl rfl ?_;intro _ _ _)|(refine lo_box1 rfl rfl rfl ?_;intro _ _ _)|(refine lo_alloc rfl ?_;intro _ _ _))
  by_cases hi0 : (i : Int) = 0
  · rw [if_pos hi0]
    refine l_yes rfl hi0 ?_
    repeat(first|refine lrun_ ?_|(refine lo_boxA rfl rfl ?_;intro _ _ _)|(refine lo_box1 rfl rfl rfl ?_;intro _ _ _)|(refine lo_alloc rfl ?_;intro _ _ _))
    exact l_ret1 rfl rfl fun w hw => ⟨hw.org, rfl⟩
  rw [if_neg hi0]
  refine l_no rfl hi0 ?_
  repeat(first|refine lrun_ ?_|(refine lo_boxA rfl rfl ?_;intro _ _ _)|(refine lo_box1 rfl rfl rfl ?_;intro _ _ _)|(refine lo_alloc rfl ?_;intro _ _ _))
  obtain ⟨j, rfl⟩ : ∃ j, i = j + 1 := ⟨i - 1, by omega⟩
  have hjl := hR.rl j
  rw [show (((j + 1 : Nat) : Int), (k : Int)).fst - 1 = (j : Nat) by show ((j + 1 : Nat) : Int) - 1 = (j : Nat); omega]
  rw [Nat.add_sub_cancel]
  have hY := hR.rns (i := j) (by omega)
  repeat(first|refine lrun_ ?_|(refine lo_boxA rfl rfl ?_;intro _ _ _)|(refine lo_box1 rfl rfl rfl ?_;intro _ _ _)|(refine lo_alloc rfl ?_;intro _ _ _))
  refine lo_call (n_call rfl) rfl (fun w hw => by obtain ⟨ad', hX'⟩ := hY.move hw.org.st_all; exact trimmed_calls hX' (Nat.le_refl _)) ?_
  have htl2 := trimN_le (x := l.getD j []) (l.getD j []).length
  generalize hU : trimN (l.getD j []) (l.getD j []).length = U at *
  repeat(first|refine lrun_ ?_|(refine lo_boxA rfl rfl ?_;intro _ _ _)|(refine lo_box1 rfl rfl rfl ?_;intro _ _ _)|(refine lo_alloc rfl ?_;intro _ _ _))
  by_cases hU0 : U = 0
  · repeat(first|refine lrun_ ?_|(refine lo_boxA rfl rfl ?_;intro _ _ _)|(refine lo_box1 rfl rfl rfl ?_;intro _ _ _)|(refine lo_alloc rfl ?_;intro _ _ _))
    exact l_ret1 rfl rfl fun w hw => ⟨hw.org, by rw [decide_eq_true hU0, Bool.true_or]⟩
  · repeat(first|refine lrun_ ?_|(refine lo_boxA rfl rfl ?_;intro _ _ _)|(refine lo_box1 rfl rfl rfl ?_;intro _ _ _)|(refine lo_alloc rfl ?_;intro _ _ _))
    refine lo_call (n_call rfl) rfl (fun w hw => by obtain ⟨ad', hX'⟩ := hY.move hw.org.st_all; exact ended_calls hX' (by omega)) ?_
    repeat(first|refine lrun_ ?_|(refine lo_boxA rfl rfl ?_;intro _ _ _)|(refine lo_box1 rfl rfl rfl ?_;intro _ _ _)|(refine lo_alloc rfl ?_;intro _ _ _))
    exact l_ret1 rfl rfl fun w hw => ⟨hw.org, by rw [decide_eq_false hU0, Bool.false_or]⟩
end
end Go.Ink

set_option linter.unusedVariables false
set_option linter.unusedSimpArgs false
namespace Go.Ink
open Go Go.Proofs

/-- The place beside one. -/
def stepM (l : List (List Int)) (by_ : Int) (q : Ps) : Option Ps :=
  if q.2 + by_ < 0 ∨ ((rowOf l q).length : Int) ≤ q.2 + by_ then
    if q.1 + by_ < 0 ∨ (l.length : Int) ≤ q.1 + by_ then none
    else some (q.1 + by_, if by_ < 0 then (if 0 < ((l.getD (q.1 + by_).toNat []).length : Int) - 1 then ((l.getD (q.1 + by_).toNat []).length : Int) - 1 else 0) else 0)
  else some (q.1, q.2 + by_)
theorem at_get {l : List (List Int)} {q : Ps} (h : At l q) : ∃ t : Nat, (placesTo l l.length)[t]? = some q := by
  obtain ⟨i, k, rfl, hi, hk, hP⟩ := at_index h
  exact ⟨(placesTo l i ++ colsTo i k).length, by rw [hP]; simp⟩
theorem get_at {l : List (List Int)} {q : Ps} {t : Nat} (h : (placesTo l l.length)[t]? = some q) : At l q := by
  have h := List.mem_of_getElem? h
  unfold placesTo at h
  obtain ⟨i, hi, hq⟩ := List.mem_flatMap.1 h
  have hil := List.mem_range.1 hi
  unfold placesAt at hq
  split at hq
  · next h0 =>
    rw [List.mem_singleton] at hq
    subst hq
    exact ⟨⟨by simp only; omega, by simp only; omega⟩, .inl ⟨by rw [rowOf_at]; exact h0, rfl⟩⟩
  · next h0 =>
    unfold colsTo at hq
    obtain ⟨k, hk, rfl⟩ := List.mem_map.1 hq
    have := List.mem_range.1 hk
    exact ⟨⟨by simp only; omega, by simp only; omega⟩, .inr (by rw [rowOf_at]; simp only; omega)⟩
theorem ahead_t {p q : Ps} : aheadM p q = true ↔ (p.1 < q.1 ∨ (p.1 = q.1 ∧ p.2 < q.2)) := by unfold aheadM; exact decide_eq_true_iff
/-- Two places with none between them. -/
theorem adj {l : List (List Int)} {a b : Ps} {t u : Nat} (h1 : (placesTo l l.length)[t]? = some a) (h2 : (placesTo l l.length)[u]? = some b) (hab : aheadM a b = true) (hno : ∀ c, At l c → aheadM a c = true → aheadM c b = true → False) : u = t + 1 := by
  rw [places_ahead h1 h2] at hab
  have hlt := of_decide_eq_true hab
  have hul := (List.getElem?_eq_some_iff.1 h2).1
  by_cases h : t + 1 < u
  case neg => omega
  exfalso
  have h3 : (placesTo l l.length)[t + 1]? = some _ := List.getElem?_eq_getElem (by omega)
  refine hno _ (get_at h3) ?_ ?_
  · rw [places_ahead h1 h3]; exact decide_eq_true (by omega)
  · rw [places_ahead h3 h2]; exact decide_eq_true (by omega)
theorem at_of {l : List (List Int)} {i k : Nat} (hi : i < l.length) (hk : (l.getD i []).length = 0 ∧ k = 0 ∨ k < (l.getD i []).length) : At l ((i : Int), (k : Int)) :=
  ⟨⟨by simp only; omega, by simp only; omega⟩, by rw [rowOf_at]; simp only; omega⟩
theorem at_col {l : List (List Int)} {c : Ps} (h : At l c) : ∃ i k : Nat, c = ((i : Int), (k : Int)) ∧ i < l.length ∧ ((l.getD i []).length = 0 ∧ k = 0 ∨ k < (l.getD i []).length) := by
  obtain ⟨i, k, h1, h2, h3, -⟩ := at_index h
  exact ⟨i, k, h1, h2, h3⟩
theorem step_fwd {l : List (List Int)} {q : Ps} {t : Nat} (h : (placesTo l l.length)[t]? = some q) :
    (stepM l 1 q = none → t + 1 = (placesTo l l.length).length) ∧ ∀ q', stepM l 1 q = some q' → (placesTo l l.length)[t + 1]? = some q' := by
  obtain ⟨i, k, rfl, hi, hk⟩ := at_col (get_at h)
  have htl := (List.getElem?_eq_some_iff.1 h).1
  unfold stepM
  rw [rowOf_at]
  simp only
  have key : ∀ q', At l q' → aheadM ((i : Int), (k : Int)) q' = true → (∀ c, At l c → aheadM ((i : Int), (k : Int)) c = true → aheadM c q' = true → False) → (placesTo l l.length)[t + 1]? = some q' := by
    intro q' ha hb hc
    obtain ⟨u, hu⟩ := at_get ha
    rw [← adj h hu hb hc]; exact hu
  split
  · next h1 =>
    split
    · next h2 =>
      refine ⟨fun _ => ?_, (fun q' hq => by cases hq)⟩
      by_cases hlt : t + 1 < (placesTo l l.length).length
      case neg => omega
      exfalso
      have h3 : (placesTo l l.length)[t + 1]? = some _ := List.getElem?_eq_getElem hlt
      obtain ⟨i', k', he, hi', hk'⟩ := at_col (get_at h3)
      have ha := places_ahead h h3
      rw [decide_eq_true (by omega), he] at ha
      have ha := ahead_t.1 ha
      simp only at ha
      have : i' = i := by omega
      subst this
      omega
    · next h2 =>
      refine ⟨fun hq => by (split at hq <;> cases hq), fun q' hq => ?_⟩
      rw [if_neg (by decide)] at hq
      cases hq
      have e : (i : Int) + 1 = ((i + 1 : Nat) : Int) := by omega
      rw [e]
      refine key _ (at_of (k := 0) (by omega) (by omega)) (ahead_t.2 (.inl (by simp only; omega))) ?_
      intro c hc h4 h5
      obtain ⟨i', k', rfl, hi', hk'⟩ := at_col hc
      have h4 := ahead_t.1 h4
      have h5 := ahead_t.1 h5
      simp only at h4 h5
      have : i' = i := by omega
      subst this
      omega
  · next h1 =>
    refine ⟨(fun hq => by cases hq), fun q' hq => ?_⟩
    cases hq
    have e : (k : Int) + 1 = ((k + 1 : Nat) : Int) := by omega
    rw [e]
    refine key _ (at_of hi (by omega)) (ahead_t.2 (.inr ⟨rfl, by simp only; omega⟩)) ?_
    intro c hc h4 h5
    have h4 := ahead_t.1 h4
    have h5 := ahead_t.1 h5
    simp only at h4 h5
    omega
theorem step_bwd {l : List (List Int)} {q : Ps} {t : Nat} (h : (placesTo l l.length)[t]? = some q) :
    (stepM l (-1) q = none → t = 0) ∧ ∀ q', stepM l (-1) q = some q' → ∃ u, t = u + 1 ∧ (placesTo l l.length)[u]? = some q' := by
  obtain ⟨i, k, rfl, hi, hk⟩ := at_col (get_at h)
  have htl := (List.getElem?_eq_some_iff.1 h).1
  unfold stepM
  rw [rowOf_at]
  simp only
  have key : ∀ q', At l q' → aheadM q' ((i : Int), (k : Int)) = true → (∀ c, At l c → aheadM q' c = true → aheadM c ((i : Int), (k : Int)) = true → False) → ∃ u, t = u + 1 ∧ (placesTo l l.length)[u]? = some q' := by
    intro q' ha hb hc
    obtain ⟨u, hu⟩ := at_get ha
    exact ⟨u, adj hu h hb hc, hu⟩
  split
  · next h1 =>
    split
    · next h2 =>
      refine ⟨fun _ => ?_, (fun q' hq => by cases hq)⟩
      by_cases hlt : 0 < t
      case neg => omega
      exfalso
      have h3 : (placesTo l l.length)[t - 1]? = some _ := List.getElem?_eq_getElem (by omega)
      obtain ⟨i', k', he, hi', hk'⟩ := at_col (get_at h3)
      have ha := places_ahead h3 h
      rw [decide_eq_true (by omega), he] at ha
      have ha := ahead_t.1 ha
      simp only at ha
      have : i' = i := by omega
      subst this
      omega
    · next h2 =>
      refine ⟨fun hq => by (split at hq <;> cases hq), fun q' hq => ?_⟩
      rw [if_pos (by decide)] at hq
      obtain ⟨j, hj⟩ : ∃ j : Nat, (i : Int) + -1 = j := ⟨((i : Int) + -1).toNat, by omega⟩
      rw [hj, Int.toNat_natCast] at hq
      cases hq
      obtain ⟨m, hm⟩ : ∃ m : Nat, (if 0 < ((l.getD j []).length : Int) - 1 then ((l.getD j []).length : Int) - 1 else 0) = m ∧ ((l.getD j []).length = 0 ∧ m = 0 ∨ m + 1 = (l.getD j []).length) := by
        refine ⟨(l.getD j []).length - 1, ?_, by omega⟩
        split <;> omega
      rw [hm.1]
      refine key _ (at_of (by omega) (by omega)) (ahead_t.2 (.inl (by simp only; omega))) ?_
      intro c hc h4 h5
      obtain ⟨i', k', rfl, hi', hk'⟩ := at_col hc
      have h4 := ahead_t.1 h4
      have h5 := ahead_t.1 h5
      simp only at h4 h5
      have : i' = j := by omega
      subst this
      omega
  · next h1 =>
    refine ⟨(fun hq => by cases hq), fun q' hq => ?_⟩
    cases hq
    obtain ⟨m, hm⟩ : ∃ m : Nat, (k : Int) + -1 = m := ⟨((k : Int) + -1).toNat, by omega⟩
    rw [hm]
    refine key _ (at_of hi (by omega)) (ahead_t.2 (.inr ⟨rfl, by simp only; omega⟩)) ?_
    intro c hc h4 h5
    have h4 := ahead_t.1 h4
    have h5 := ahead_t.1 h5
    simp only at h4 h5
    omega
end Go.Ink

set_option linter.unusedVariables false
set_option linter.unusedSimpArgs false
namespace Go.Ink
open Go Go.Proofs

theorem runes_le : ∀ {l : List (List Int)}, ∀ r ∈ l, r.length ≤ runesM l
  | [], r, h => by simp at h
  | x :: xs, r, h => by
    have e : runesM (x :: xs) = x.length + runesM xs := by simp [runesM]
    rcases List.mem_cons.1 h with rfl | h
    · omega
    · have := runes_le r h; omega
section
variable {F : Nat → Prop} {w : World} {A : Option Addr} {c : Nat} {l : List (List Int)} {g1 g2 g3 lp t0 : Nat} {by_ : Int}
/-- What the walk over places needs of a world. -/
structure Pw (F : Nat → Prop) (A : Option Addr) (c : Nat) (l : List (List Int)) (g1 g2 g3 : Nat) (by_ : Int) (q : Ps) (w : World) : Prop where
  sl : Sl kRow F w (.slice A l.length c) l
  c1 : w.cell? ⟨g1, 0, none⟩ = some (.slice A l.length c)
  c2 : w.heap[g2]? = some (cb [.int .i64 q.1, .int .i64 q.2] 24)
  c3 : w.cell? ⟨g3, 0, none⟩ = some (.int .i64 by_)
set_option maxHeartbeats 8000000 in
theorem places1_calls (J : Nat → Ps → World → Prop) (Jx Je : World → Prop) (hs0 : l.length + runesM l ≤ 4000) (hby : by_ = 1 ∨ by_ = -1) (hF : ∀ k, F k → k ≠ g2) (h12 : g1 ≠ g2) (h32 : g3 ≠ g2)
    (hJ : ∀ t q w, J t q w → (placesTo l l.length)[t]? = some q ∧ Pw F A c l g1 g2 g3 by_ q w)
    (hround : ∀ (t : Nat) (q : Ps) (u : Nat) (q' : Ps) w w1, J t q w → (placesTo l l.length)[u]? = some q' → (u : Int) = t + by_ → Kp (fun k => k = g2) w w1 → w1.heap[g2]? = some (cb [.int .i64 q'.1, .int .i64 q'.2] 24) →
      RoundR Try.prog lp [posV q'] w1 fun v w' => (v = .bool true ∧ J u q' w') ∨ (v = .bool false ∧ Jx w'))
    (hend : ∀ t q w w1, J t q w → ((t : Int) + by_ < 0 ∨ ((placesTo l l.length).length : Int) ≤ t + by_) → Kp (fun k => k = g2) w w1 → Je w1) {q0 : Ps} (h0 : J t0 q0 w) :
    CallsR Try.prog 43 #[.func (.yield lp) #[] #[], .pointer (some ⟨g1, 0, none⟩), .pointer (some ⟨g2, 0, none⟩), .pointer (some ⟨g3, 0, none⟩)] w fun _ w' => Jx w' ∨ Je w' := by
  have hP4 : (placesTo l l.length).length ≤ 4000 := Nat.le_trans (placesTo_le l.length (Nat.le_refl _)) (by rw [List.take_length]; exact hs0)
  have hrl : ∀ i, i < l.length → (l.getD i []).length ≤ 4000 := fun i hi => by
    have : (l.getD i []).length ≤ runesM l := by
      rw [getD_get hi]
      exact runes_le _ (List.getElem_mem hi)
    omega
  obtain ⟨hp0, hw0⟩ := hJ _ _ _ h0
  have hpos : 0 < l.length := by have := (get_at hp0).i; omega
  refine calls_enter Try.func43 rfl rfl ?_
  repeat(refine run_ ?_)
  refine o_still (r_load rfl hw0.c1) (wants_none rfl) rfl ?_
  repeat(refine run_ ?_)
  refine k_no rfl (by omega) ?_
  repeat(refine run_ ?_)
  refine k_while (S := Nat) (fun t => if by_ = 1 then (placesTo l l.length).length - t else t) (fun _ => [(0, .func (.yield lp) #[] #[]), (1, .pointer (some ⟨g1, 0, none⟩)), (2, .pointer (some ⟨g2, 0, none⟩)), (3, .pointer (some ⟨g3, 0, none⟩))])
    (fun t w => ∃ q, J t q w) t0 (by repeat (first | exact SubB.nil | refine SubB.cons rfl ?_)) ⟨q0, h0⟩ ?_
  rintro t wr ⟨q, hj⟩ ih
  obtain ⟨hp, hw⟩ := hJ _ _ _ hj
  obtain ⟨A', c', ad, rV, rc, ra, he, hR⟩ := hw.sl.rws
  cases he
  have hc1 := hw.c1
  have hc3 := hw.c3
  have ht := (List.getElem?_eq_some_iff.1 hp).1
  have hlw : Lw wr (fun k => k = g2) wr (fun k => k = g2) [(g2, cb [.int .i64 q.1, .int .i64 q.2] 24)] wr := (Lw.init wr _ _).own hw.c2 (by simp) rfl rfl
  -- the place is told
  have tell : ∀ (u : Nat) (q' : Ps), (placesTo l l.length)[u]? = some q' → (u : Int) = t + by_ → ∀ σ', SubB σ' [(0, .func (.yield lp) #[] #[]), (1, .pointer (some ⟨g1, 0, none⟩)), (2, .pointer (some ⟨g2, 0, none⟩)), (3, .pointer (some ⟨g3, 0, none⟩))] →
      WL Try.prog Try.f43 [.code (bodyC Try.f43 [1, 0, 0, 0, 1, 1]), .inBlock 1, .inLoop (bodyC Try.f43 [1, 0, 0]), .inBlock 0] σ' wr (fun k => k = g2) wr (fun k => k = g2) [(g2, cb [.int .i64 q'.1, .int .i64 q'.2] 24)] fun _ w' => Jx w' ∨ Je w' := by
    intro u q' hu hut σ' hs
    refine WL.sub hs .refl ?_
    clear hs
    have hul := (List.getElem?_eq_some_iff.1 hu).1
    repeat(first|refine lrun_ ?_|(refine lo_boxA rfl rfl ?_;intro _ _ _)|(refine lo_box1 rfl rfl rfl ?_;intro _ _ _)|(refine lo_alloc rfl ?_;intro _ _ _))
    refine lo_yield (yd_call rfl rfl) rfl (fun w1 hw1 => (hround t q u q' wr w1 hj hu hut hw1.org (hw1.mem _ _ .hd)).mono ?_)
    rintro v w' (⟨rfl, hj'⟩ | ⟨rfl, hx⟩)
    · repeat(refine run_ ?_)
      refine k_false rfl ?_
      repeat(refine run_ ?_)
      exact ih u w' ⟨q', hj'⟩ (by split <;> omega) _ (by repeat (first | exact SubB.nil | refine SubB.cons rfl ?_))
    · repeat(refine run_ ?_)
      refine k_true rfl ?_
      repeat(refine run_ ?_)
      exact k_ret0 rfl (.inl hx)
  have key : (stepM l by_ q = none → ((t : Int) + by_ < 0 ∨ ((placesTo l l.length).length : Int) ≤ t + by_)) ∧ ∀ q', stepM l by_ q = some q' → ∃ u : Nat, (placesTo l l.length)[u]? = some q' ∧ (u : Int) = t + by_ := by
    rcases hby with rfl | rfl
    · obtain ⟨h1, h2⟩ := step_fwd hp
      exact ⟨fun h => by have := h1 h; omega, fun q' h => ⟨t + 1, h2 q' h, by omega⟩⟩
    · obtain ⟨h1, h2⟩ := step_bwd hp
      exact ⟨fun h => by have := h1 h; omega, fun q' h => by obtain ⟨u, e, h3⟩ := h2 q' h; exact ⟨u, h3, by omega⟩⟩
  obtain ⟨i, k, rfl, hi, hk⟩ := at_col (get_at hp)
  have hil := hrl i hi
  have hll : l.length ≤ 4000 := by omega
  have hNA : 0 < l.length → ¬ ad.block = g2 := fun h => hF _ (hR.fa h)
  have hNR : ∀ j, j < l.length → 0 < (l.getD j []).length → ¬ (ra j).block = g2 := fun j h h' => hF _ (hR.fr j h h')
  have hst : stepM l by_ ((i : Int), (k : Int)) = if (k : Int) + by_ < 0 ∨ ((l.getD i []).length : Int) ≤ (k : Int) + by_ then
      if (i : Int) + by_ < 0 ∨ (l.length : Int) ≤ (i : Int) + by_ then none
      else some ((i : Int) + by_, if by_ < 0 then (if 0 < ((l.getD ((i : Int) + by_).toNat []).length : Int) - 1 then ((l.getD ((i : Int) + by_).toNat []).length : Int) - 1 else 0) else 0)
      else some ((i : Int), (k : Int) + by_) := by unfold stepM; rw [rowOf_at]
  rw [hst] at key
  clear hst
  refine l_close hlw ?_
  repeat(first|refine lrun_ ?_|(refine lo_boxA rfl rfl ?_;intro _ _ _)|(refine lo_box1 rfl rfl rfl ?_;intro _ _ _)|(refine lo_alloc rfl ?_;intro _ _ _))
  refine l_draw [(0, 0), (1, 0), (2, 0), (3, 0), (4, 0), (5, 0), (6, 0), (7, 0), (8, 0), (9, 0), (10, 0), (11, 0), (12, 0), (13, 0)] (by kernel_rfl) (by kernel_rfl) rfl (by kernel_rfl) ?_
  by_cases hcol : (k : Int) + by_ < 0 ∨ ((l.getD i []).length : Int) ≤ (k : Int) + by_
  case neg =>
    rw [if_neg hcol] at key
    obtain ⟨u, hu, hut⟩ := key.2 _ rfl
    have hc0 : decide ((k : Int) + by_ < 0) = false := decide_eq_false (by omega)
    have hc4 : decide (((l.getD i []).length : Int) ≤ (k : Int) + by_) = false := decide_eq_false (by omega)
    repeat(first|refine lrund_ ?_|(refine ld_open rfl ?_;first|(refine ld_boxA rfl wy_ rfl ?_;intro _ _ _)|(refine ld_box1 rfl rfl wy_ rfl ?_;intro _ _ _)|(refine ld_alloc wy_ rfl ?_;intro _ _ _)))
    refine l_no rfl (by omega) ?_
    refine l_go .skip ?_
    exact tell u _ hu hut _ (by repeat (first | exact SubB.nil | refine SubB.cons rfl ?_))
  rw [if_pos hcol] at key
  have row2 : ∀ σ', SubB σ' [(0, .func (.yield lp) #[] #[]), (1, .pointer (some ⟨g1, 0, none⟩)), (2, .pointer (some ⟨g2, 0, none⟩)), (3, .pointer (some ⟨g3, 0, none⟩))] →
      WL Try.prog Try.f43 [.code (bodyC Try.f43 [1, 0, 0, 0, 1, 0, 1, 0]), .code (bodyC Try.f43 [1, 0, 0, 0, 1, 1]), .inBlock 1, .inLoop (bodyC Try.f43 [1, 0, 0]), .inBlock 0] σ' wr (fun k => k = g2) wr (fun k => k = g2) [(g2, cb [.int .i64 i, .int .i64 ((k : Int) + by_)] 24)] fun _ w' => Jx w' ∨ Je w' := by
    intro σ' hs
    refine WL.sub hs .refl ?_
    clear hs
    by_cases hrow : (i : Int) + by_ < 0 ∨ (l.length : Int) ≤ (i : Int) + by_
    · have hje := key.1 (if_pos hrow)
      by_cases hi0 : (i : Int) + by_ < 0
      · repeat(first|refine lrun_ ?_|(refine lo_boxA rfl rfl ?_;intro _ _ _)|(refine lo_box1 rfl rfl rfl ?_;intro _ _ _)|(refine lo_alloc rfl ?_;intro _ _ _))
        refine l_true rfl ?_
        repeat(first|refine lrun_ ?_|(refine lo_boxA rfl rfl ?_;intro _ _ _)|(refine lo_box1 rfl rfl rfl ?_;intro _ _ _)|(refine lo_alloc rfl ?_;intro _ _ _))
        exact l_ret0 rfl fun w hw => .inr (hend _ _ _ _ hj hje hw.org)
      · repeat(first|refine lrun_ ?_|(refine lo_boxA rfl rfl ?_;intro _ _ _)|(refine lo_box1 rfl rfl rfl ?_;intro _ _ _)|(refine lo_alloc rfl ?_;intro _ _ _))
        refine l_yes rfl (by omega) ?_
        repeat(first|refine lrun_ ?_|(refine lo_boxA rfl rfl ?_;intro _ _ _)|(refine lo_box1 rfl rfl rfl ?_;intro _ _ _)|(refine lo_alloc rfl ?_;intro _ _ _))
        exact l_ret0 rfl fun w hw => .inr (hend _ _ _ _ hj hje hw.org)
    obtain ⟨u, hu, hut⟩ := key.2 _ (if_neg hrow)
    have hi0 : decide ((i : Int) + by_ < 0) = false := decide_eq_false (by omega)
    obtain ⟨j, hj2⟩ : ∃ j : Nat, (i : Int) + by_ = j := ⟨((i : Int) + by_).toNat, by omega⟩
    have hjl := hrl j (by omega)
    rw [hj2, Int.toNat_natCast] at hu
    repeat(first|refine lrun_ ?_|(refine lo_boxA rfl rfl ?_;intro _ _ _)|(refine lo_box1 rfl rfl rfl ?_;intro _ _ _)|(refine lo_alloc rfl ?_;intro _ _ _))
    refine l_no rfl (by omega) ?_
    rw [hj2]
    repeat(first|refine lrun_ ?_|(refine lo_boxA rfl rfl ?_;intro _ _ _)|(refine lo_box1 rfl rfl rfl ?_;intro _ _ _)|(refine lo_alloc rfl ?_;intro _ _ _))
    by_cases hb0 : by_ < 0
    · rw [if_pos hb0] at hu
      refine l_yes rfl hb0 ?_
      refine l_region ?_;(repeat(first|refine lops_ ?_|(refine lo_boxA rfl rfl ?_;intro _ _ _)|(refine lo_box1 rfl rfl rfl ?_;intro _ _ _)|(refine lo_alloc rfl ?_;intro _ _ _)));refine lo_nil ?_
      exact tell u _ hu hut _ (by repeat (first | exact SubB.nil | refine SubB.cons rfl ?_))
    · rw [if_neg hb0] at hu
      refine l_no rfl hb0 ?_
      refine l_go .skip ?_
      exact tell u _ hu hut _ (by repeat (first | exact SubB.nil | refine SubB.cons rfl ?_))
  by_cases hc0 : (k : Int) + by_ < 0
  · repeat(first|refine lrund_ ?_|(refine ld_open rfl ?_;first|(refine ld_boxA rfl wy_ rfl ?_;intro _ _ _)|(refine ld_box1 rfl rfl wy_ rfl ?_;intro _ _ _)|(refine ld_alloc wy_ rfl ?_;intro _ _ _)))
    refine l_true rfl ?_
    exact row2 _ (by repeat (first | exact SubB.nil | refine SubB.cons rfl ?_))
  · repeat(first|refine lrund_ ?_|(refine ld_open rfl ?_;first|(refine ld_boxA rfl wy_ rfl ?_;intro _ _ _)|(refine ld_box1 rfl rfl wy_ rfl ?_;intro _ _ _)|(refine ld_alloc wy_ rfl ?_;intro _ _ _)))
    refine l_yes rfl (by omega) ?_
    exact row2 _ (by repeat (first | exact SubB.nil | refine SubB.cons rfl ?_))
end
end Go.Ink

set_option linter.unusedVariables false
set_option linter.unusedSimpArgs false
namespace Go.Ink
open Go Go.Proofs

/-- v is behind t (by 1), or ahead of it (-1). -/
def On (by_ : Int) (t v : Nat) : Prop := by_ = 1 ∧ t < v ∨ by_ = -1 ∧ v < t
/-- The nearest one that is such a one. -/
def Sk (f : Ps → Bool) (P : List Ps) (by_ : Int) (t : Nat) : Option Nat → Prop
  | some u => u < P.length ∧ On by_ t u ∧ f (P.getD u (0, 0)) = true ∧ ∀ v, On by_ t v → On by_ v u → f (P.getD v (0, 0)) = false
  | none => ∀ v, v < P.length → On by_ t v → f (P.getD v (0, 0)) = false
theorem Sk.eq {f : Ps → Bool} {P : List Ps} {by_ : Int} {t : Nat} {r r' : Option Nat} (h : Sk f P by_ t r) (h' : Sk f P by_ t r') : r = r' := by
  match r, r', h, h' with
  | none, none, _, _ => rfl
  | some u, none, h, h' => have := h' u h.1 h.2.1; rw [h.2.2.1] at this; cases this
  | none, some u, h, h' => have := h u h'.1 h'.2.1; rw [h'.2.2.1] at this; cases this
  | some u, some v, h, h' =>
    have h1 := h.2.2.2 v h'.2.1
    have h2 := h'.2.2.2 u h.2.1
    rw [h'.2.2.1] at h1
    rw [h.2.2.1] at h2
    have h3 := h.2.1
    have h4 := h'.2.1
    have : u = v := by
      rcases Nat.lt_trichotomy u v with h5 | h5 | h5
      · rcases h3 with ⟨h6, h7⟩ | ⟨h6, h7⟩
        · exact absurd (h2 (.inl ⟨h6, h5⟩)) (by simp)
        · rcases h4 with ⟨h8, h9⟩ | ⟨h8, h9⟩
          · omega
          · exact absurd (h1 (.inr ⟨h6, h5⟩)) (by simp)
      · exact h5
      · rcases h3 with ⟨h6, h7⟩ | ⟨h6, h7⟩
        · rcases h4 with ⟨h8, h9⟩ | ⟨h8, h9⟩
          · exact absurd (h1 (.inl ⟨h6, h5⟩)) (by simp)
          · omega
        · exact absurd (h2 (.inr ⟨h6, h5⟩)) (by simp)
    rw [this]
def lastM (l : List (List Int)) : Ps := if l = [] then (0, 0) else (((l.length - 1 : Nat) : Int), (((l.getD (l.length - 1) []).length - 1 : Nat) : Int))
/-- What is told. -/
def tellM (l : List (List Int)) (by_ : Int) : Option Nat → Ps
  | some u => (placesTo l l.length).getD u (0, 0)
  | none => if 0 < by_ then lastM l else (0, 0)
def SeekM (f : Ps → Bool) (l : List (List Int)) (by_ : Int) (p q : Ps) : Prop :=
  (l = [] ∧ q = (0, 0)) ∨ ∃ t r, (placesTo l l.length)[t]? = some (clipM l p) ∧ Sk f (placesTo l l.length) by_ t r ∧ q = tellM l by_ r
section
variable {F : Nat → Prop} {w : World} {v : Value} {l : List (List Int)} {p : Ps} {by_ : Int}
theorem lastP_calls (h : Sl kRow F w v l) : CallsR Try.prog 11 #[v] w fun u w' => Kn w w' ∧ u = posV (lastM l) := by
  obtain ⟨A, c, ad, rV, rc, ra, rfl, hR⟩ := h.rws
  have hlen := hR.len
  refine l_enter (fun _ => False) Try.func11 rfl rfl ?_
  repeat(first|refine lrun_ ?_|(refine lo_boxA rfl rfl ?_;intro _ _ _)|(refine lo_box1 rfl rfl rfl ?_;intro _ _ _)|(refine lo_alloc rfl ?_;intro _ _ _))
  by_cases h0 : l.length = 0
  · refine l_yes rfl (by omega) ?_
    repeat(first|refine lrun_ ?_|(refine lo_boxA rfl rfl ?_;intro _ _ _)|(refine lo_box1 rfl rfl rfl ?_;intro _ _ _)|(refine lo_alloc rfl ?_;intro _ _ _))
    exact l_retR1 rfl (by repeat(first|exact LRes.nil|refine LRes.tmp rfl ?_|refine LRes.agg rfl (by(repeat(first|exact MIn.hd|refine MIn.tl ?_));done) (by rfl) (by rfl) ?_|refine LRes.one rfl (by(repeat(first|exact MIn.hd|refine MIn.tl ?_));done) (by rfl) ?_)) fun w hw => ⟨hw.org, by unfold lastM; rw [if_pos (List.length_eq_zero_iff.1 h0)]; rfl⟩
  · refine l_no rfl (by omega) ?_
    obtain ⟨n, hn⟩ : ∃ n : Nat, (l.length : Int) - 1 = n ∧ l.length - 1 = n := ⟨l.length - 1, by omega, rfl⟩
    have hrl := hR.rl n
    repeat(first|refine lrun_ ?_|(refine lo_boxA rfl rfl ?_;intro _ _ _)|(refine lo_box1 rfl rfl rfl ?_;intro _ _ _)|(refine lo_alloc rfl ?_;intro _ _ _))
    rw [hn.1]
    repeat(first|refine lrun_ ?_|(refine lo_boxA rfl rfl ?_;intro _ _ _)|(refine lo_box1 rfl rfl rfl ?_;intro _ _ _)|(refine lo_alloc rfl ?_;intro _ _ _))
    refine l_retR1 rfl (by repeat(first|exact LRes.nil|refine LRes.tmp rfl ?_|refine LRes.agg rfl (by(repeat(first|exact MIn.hd|refine MIn.tl ?_));done) (by rfl) (by rfl) ?_|refine LRes.one rfl (by(repeat(first|exact MIn.hd|refine MIn.tl ?_));done) (by rfl) ?_)) fun w hw => ⟨hw.org, ?_⟩
    have e : lastM l = ((n : Int), if 0 < ((l.getD n []).length : Int) - 1 then ((l.getD n []).length : Int) - 1 else 0) := by
      unfold lastM
      rw [if_neg (fun h' : l = [] => h0 (by rw [h']; rfl)), hn.2]
      congr 1
      split <;> omega
    rw [e]; rfl
theorem placesF_calls {q : Ps} {A : Option Addr} {n c : Nat} : CallsR Try.prog 36 #[.slice A n c, posV q, .int .i64 by_] w fun u w' => Kn w w' ∧ ∃ g1 g2 g3, u = .func (.func 43) #[] #[.pointer (some ⟨g1, 0, none⟩), .pointer (some ⟨g2, 0, none⟩), .pointer (some ⟨g3, 0, none⟩)] ∧
    w'.heap[g1]? = some (cb [.slice A n c] 22) ∧ w'.heap[g2]? = some (cb [.int .i64 q.1, .int .i64 q.2] 24) ∧ w'.heap[g3]? = some (cb [.int .i64 by_] 3) ∧ w.heap.size ≤ g1 ∧ w.heap.size ≤ g2 ∧ w.heap.size ≤ g3 ∧ g1 ≠ g2 ∧ g3 ≠ g2 := by
  refine l_enter (fun _ => False) Try.func36 rfl rfl ?_
  repeat(first|refine lrun_ ?_|(refine lo_boxA rfl rfl ?_;intro _ _ _)|(refine lo_box1 rfl rfl rfl ?_;intro _ _ _)|(refine lo_alloc rfl ?_;intro _ _ _))
  rename_i g1 h1 _ g2 h2 _ g3 h3 _
  refine l_ret1 rfl rfl fun w hw => ⟨hw.org, g1, g2, g3, rfl, hw.mem _ _ (by(repeat(first|exact MIn.hd|refine MIn.tl ?_));done), hw.mem _ _ (by(repeat(first|exact MIn.hd|refine MIn.tl ?_));done), hw.mem _ _ (by(repeat(first|exact MIn.hd|refine MIn.tl ?_));done), h1, h2, h3, ?_⟩
  have := hw.nd
  simp at this
  omega
theorem places1_nil {A : Option Addr} {c g1 g2 g3 lp : Nat} (h : w.cell? ⟨g1, 0, none⟩ = some (.slice A 0 c)) :
    CallsR Try.prog 43 #[.func (.yield lp) #[] #[], .pointer (some ⟨g1, 0, none⟩), .pointer (some ⟨g2, 0, none⟩), .pointer (some ⟨g3, 0, none⟩)] w fun _ w' => w' = w := by
  refine calls_enter Try.func43 rfl rfl ?_
  repeat(refine run_ ?_)
  refine o_still (r_load rfl h) (wants_none rfl) rfl ?_
  repeat(refine run_ ?_)
  refine k_true rfl ?_
  repeat(refine run_ ?_)
  exact k_ret0 rfl rfl
def rfA : Code → Code
  | .rangeFunc _ _ a _ => a
  | c => c
def rfB : Code → Code
  | .rangeFunc _ _ _ b => b
  | c => c
/-- The record of a loop that is ready. -/
def mkRec (ps : Array Tmp) (as_ body : Code) (φ : FuncId) (τ : Array Value) (r : Nat) : Loop := { state := .ready, pending := none, fn := φ, tmps := τ, params := ps, assign := as_, body := body, defers := r }
/-- The round of seek's loop. -/
theorem seek_round {f : FuncId} [hFn : FnT Try.prog f] {cap : List Value} {φ : FuncId} {τ : Array Value} {r lp g7 g8 : Nat} {q : Ps} {b : Bool} (hτ : τ.size = Try.f32.ntmps) (hσ : ∀ t v, Sig.get [(7, .pointer (some ⟨g7, 0, none⟩)), (8, .pointer (some ⟨g8, 0, none⟩))] t = some v → τ[t]? = some v)
    (hl : w.heap[lp]? = some (.loop (mkRec #[16] (rfA (bodyC Try.f32 [1, 0, 1, 0])) (rfB (bodyC Try.f32 [1, 0, 1, 0])) φ τ r))) (h8 : w.heap[g8]? = some (cb [.int .i64 0, .int .i64 0] 24)) (h7 : w.cell? ⟨g7, 0, none⟩ = some (.func (.func f) #[] cap.toArray)) (n78 : g7 ≠ g8) (n7 : g7 ≠ lp) (n8 : g8 ≠ lp)
    (hcall : ∀ w', Kp (fun k => k = lp ∨ k = g8) w w' → CallsR Try.prog f (posV q :: cap).toArray w' fun u w'' => Kn w' w'' ∧ u = .bool b) :
    RoundR Try.prog lp [posV q] w fun v w' => (b = false ∧ v = .bool true ∧ Kp (fun k => k = lp) w w' ∧ w'.heap[lp]? = some (.loop (mkRec #[16] (rfA (bodyC Try.f32 [1, 0, 1, 0])) (rfB (bodyC Try.f32 [1, 0, 1, 0])) φ τ r))) ∨
      (b = true ∧ v = .bool false ∧ Kp (fun k => k = lp ∨ k = g8) w w' ∧ w'.heap[lp]? = some (.loop { mkRec #[16] (rfA (bodyC Try.f32 [1, 0, 1, 0])) (rfB (bodyC Try.f32 [1, 0, 1, 0])) φ τ r with state := .done, pending := some .ret }) ∧ w'.heap[g8]? = some (cb [.int .i64 q.1, .int .i64 q.2] 24)) := by
  refine round_enter (fn := Try.f32) (ps := [16]) (σ := [(7, .pointer (some ⟨g7, 0, none⟩)), (8, .pointer (some ⟨g8, 0, none⟩))]) hl rfl rfl hτ hσ rfl ?_
  cases b with
  | false =>
    have hlw : Lw w (fun k => k = lp) w (fun k => k = lp) [(lp, .loop (mkRec #[16] (rfA (bodyC Try.f32 [1, 0, 1, 0])) (rfB (bodyC Try.f32 [1, 0, 1, 0])) φ τ r))] w := (Lw.init w _ _).own hl (by simp) rfl rfl
    refine l_close hlw ?_
    show WLG Try.prog Try.f32 [.code (rfA (bodyC Try.f32 [1, 0, 1, 0])), .beginRound, .code (rfB (bodyC Try.f32 [1, 0, 1, 0]))] _ _ _ _ _ _ _
    repeat(first|refine lrun_ ?_|(refine lo_boxA rfl rfl ?_;intro _ _ _)|(refine lo_box1 rfl rfl rfl ?_;intro _ _ _)|(refine lo_alloc rfl ?_;intro _ _ _))
    refine l_beginRound rfl (by(repeat(first|exact MIn.hd|refine MIn.tl ?_));done) rfl (by first|exact .hd|exact .tl .hd|exact .tl (.tl .hd)|exact .tl (.tl (.tl .hd))|exact .tl (.tl (.tl (.tl .hd)))|exact .tl (.tl (.tl (.tl (.tl .hd))))|exact .tl (.tl (.tl (.tl (.tl (.tl .hd)))))|exact .tl (.tl (.tl (.tl (.tl (.tl (.tl .hd))))))|exact .tl (.tl (.tl (.tl (.tl (.tl (.tl (.tl .hd)))))))) ?_
    repeat(first|refine lrun_ ?_|(refine lo_boxA rfl rfl ?_;intro _ _ _)|(refine lo_box1 rfl rfl rfl ?_;intro _ _ _)|(refine lo_alloc rfl ?_;intro _ _ _))
    refine lo_call (n_callV rfl rfl) rfl (fun w hw => hcall w (hw.org.mono fun _ _ h => .inl h)) ?_
    repeat(first|refine lrun_ ?_|(refine lo_boxA rfl rfl ?_;intro _ _ _)|(refine lo_box1 rfl rfl rfl ?_;intro _ _ _)|(refine lo_alloc rfl ?_;intro _ _ _))
    refine l_false rfl ?_
    repeat(first|refine lrun_ ?_|(refine lo_boxA rfl rfl ?_;intro _ _ _)|(refine lo_box1 rfl rfl rfl ?_;intro _ _ _)|(refine lo_alloc rfl ?_;intro _ _ _))
    exact l_endRound (by(repeat(first|exact MIn.hd|refine MIn.tl ?_));done) (by first|exact .hd|exact .tl .hd|exact .tl (.tl .hd)|exact .tl (.tl (.tl .hd))|exact .tl (.tl (.tl (.tl .hd)))|exact .tl (.tl (.tl (.tl (.tl .hd))))|exact .tl (.tl (.tl (.tl (.tl (.tl .hd)))))|exact .tl (.tl (.tl (.tl (.tl (.tl (.tl .hd))))))|exact .tl (.tl (.tl (.tl (.tl (.tl (.tl (.tl .hd)))))))) fun w hw => .inl ⟨rfl, rfl, hw.org, hw.mem _ _ (by(repeat(first|exact MIn.hd|refine MIn.tl ?_));done)⟩
  | true =>
    have hlw : Lw w (fun k => k = lp ∨ k = g8) w (fun k => k = lp ∨ k = g8) [(g8, cb [.int .i64 0, .int .i64 0] 24), (lp, .loop (mkRec #[16] (rfA (bodyC Try.f32 [1, 0, 1, 0])) (rfB (bodyC Try.f32 [1, 0, 1, 0])) φ τ r))] w := ((Lw.init w _ _).own hl (by simp) (.inl rfl) (.inl rfl)).own h8 (by simpa using n8) (.inr rfl) (.inr rfl)
    have n7' : ¬ (g7 = lp ∨ g7 = g8) := by omega
    refine l_close hlw ?_
    show WLG Try.prog Try.f32 [.code (rfA (bodyC Try.f32 [1, 0, 1, 0])), .beginRound, .code (rfB (bodyC Try.f32 [1, 0, 1, 0]))] _ _ _ _ _ _ _
    repeat(first|refine lrun_ ?_|(refine lo_boxA rfl rfl ?_;intro _ _ _)|(refine lo_box1 rfl rfl rfl ?_;intro _ _ _)|(refine lo_alloc rfl ?_;intro _ _ _))
    refine l_beginRound rfl (by(repeat(first|exact MIn.hd|refine MIn.tl ?_));done) rfl (by first|exact .hd|exact .tl .hd|exact .tl (.tl .hd)|exact .tl (.tl (.tl .hd))|exact .tl (.tl (.tl (.tl .hd)))|exact .tl (.tl (.tl (.tl (.tl .hd))))|exact .tl (.tl (.tl (.tl (.tl (.tl .hd)))))|exact .tl (.tl (.tl (.tl (.tl (.tl (.tl .hd))))))|exact .tl (.tl (.tl (.tl (.tl (.tl (.tl (.tl .hd)))))))) ?_
    repeat(first|refine lrun_ ?_|(refine lo_boxA rfl rfl ?_;intro _ _ _)|(refine lo_box1 rfl rfl rfl ?_;intro _ _ _)|(refine lo_alloc rfl ?_;intro _ _ _))
    refine lo_call (n_callV rfl rfl) rfl (fun w hw => hcall w hw.org) ?_
    repeat(first|refine lrun_ ?_|(refine lo_boxA rfl rfl ?_;intro _ _ _)|(refine lo_box1 rfl rfl rfl ?_;intro _ _ _)|(refine lo_alloc rfl ?_;intro _ _ _))
    refine l_true rfl ?_
    repeat(first|refine lrun_ ?_|(refine lo_boxA rfl rfl ?_;intro _ _ _)|(refine lo_box1 rfl rfl rfl ?_;intro _ _ _)|(refine lo_alloc rfl ?_;intro _ _ _))
    exact l_retRound (by(repeat(first|exact MIn.hd|refine MIn.tl ?_));done) (by first|exact .hd|exact .tl .hd|exact .tl (.tl .hd)|exact .tl (.tl (.tl .hd))|exact .tl (.tl (.tl (.tl .hd)))|exact .tl (.tl (.tl (.tl (.tl .hd))))|exact .tl (.tl (.tl (.tl (.tl (.tl .hd)))))|exact .tl (.tl (.tl (.tl (.tl (.tl (.tl .hd))))))|exact .tl (.tl (.tl (.tl (.tl (.tl (.tl (.tl .hd)))))))) fun w hw => .inr ⟨rfl, rfl, hw.org, hw.mem _ _ (by(repeat(first|exact MIn.hd|refine MIn.tl ?_));done), hw.mem _ _ (by(repeat(first|exact MIn.hd|refine MIn.tl ?_));done)⟩
set_option maxHeartbeats 8000000 in
theorem seek_calls {f : FuncId} [hFn : FnT Try.prog f] {cap : List Value} {pred : Ps → Bool} (hs0 : l.length + runesM l ≤ 4000) (h : Sl kRow F w v l) (hp : P64 p) (hby : by_ = 1 ∨ by_ = -1)
    (hcall : ∀ q w', Kn w w' → At l q → CallsR Try.prog f (posV q :: cap).toArray w' fun u w'' => Kn w' w'' ∧ u = .bool (pred q)) :
    CallsR Try.prog 32 #[v, posV p, .int .i64 by_, .func (.func f) #[] cap.toArray] w fun u w' => Kn w w' ∧ ∃ q, u = posV q ∧ SeekM pred l by_ p q := by
  have h := h.old
  obtain ⟨A, c, ad, rV, rc, ra, rfl, hR⟩ := h.rws
  refine l_enter (fun _ => False) Try.func32 rfl rfl ?_
  repeat(first|refine lrun_ ?_|(refine lo_boxA rfl rfl ?_;intro _ _ _)|(refine lo_box1 rfl rfl rfl ?_;intro _ _ _)|(refine lo_alloc rfl ?_;intro _ _ _))
  rename_i g5 h5 _ g7 h7 _ g8 h8 _
  refine lo_call (n_call rfl) rfl (fun w hw => clipP_calls (Kn.sl hw.org h) hp) ?_
  repeat(first|refine lrun_ ?_|(refine lo_boxA rfl rfl ?_;intro _ _ _)|(refine lo_box1 rfl rfl rfl ?_;intro _ _ _)|(refine lo_alloc rfl ?_;intro _ _ _))
  refine lo_callB (n_call rfl) rfl (fun w hw => placesF_calls) ?_
  rintro wa _ wb K hwa kab kwb ⟨g1, g2, g3, rfl, b1, b2, b3, e1, e2, e3, n12, n32⟩ hK
  have nw : ∀ g, MK [(g8, Obj.cells (Value.cells (Value.agg #[Value.int IntKind.i64 0, Value.int IntKind.i64 0])) 24 (0, 0)), (g7, cb [.func (.func f) #[] cap.toArray] 44), (g5, cb [.int .i64 p.1, .int .i64 p.2] 24)] g → g < wa.heap.size := fun g hg => hwa.lt hg
  have l8 := nw g8 ⟨_, .hd⟩
  have l7 := nw g7 ⟨_, .tl .hd⟩
  have hnd := hwa.nd
  clear nw
  refine lo_nil ?_
  repeat(first|refine lrun_ ?_|(refine lo_boxA rfl rfl ?_;intro _ _ _)|(refine lo_box1 rfl rfl rfl ?_;intro _ _ _)|(refine lo_alloc rfl ?_;intro _ _ _))
  unfold WLG
  intro wc hwc
  have kbc := hwc.kp
  have c1 := kbc.blk b1 (fun h => by have := hK _ h; omega)
  have c2 := kbc.blk b2 (fun h => by have := hK _ h; omega)
  have c3 := kbc.blk b3 (fun h => by have := hK _ h; omega)
  have c8 := hwc.mem _ _ (.hd)
  have c7 := hwc.mem _ _ (.tl .hd)
  have kwc : Kn w wc := hwc.org
  have O1 := hwa.org.size
  clear b1 b2 b3 kbc kwb kab hwa hwc hK
  refine k_range rfl rfl ?_
  intro φ τ r lp w1 w2 hτ hσ nr nl
  have x1 := blk_lt c1
  have x2 := blk_lt c2
  have x3 := blk_lt c3
  have x7 := blk_lt c7
  have x8 := blk_lt c8
  have y1 := nr.ge
  have y2 := nl.ge
  have y3 := nr.lt
  have kc2 : Kn wc w2 := nr.kn.trans nl.kn
  have kw2 : Kn w w2 := kwc.trans kc2
  have d1 := kc2.blk c1 id
  have d2 := kc2.blk c2 id
  have d3 := kc2.blk c3 id
  have d7 := kc2.blk c7 id
  have d8 : w2.heap[g8]? = some (cb [.int .i64 0, .int .i64 0] 24) := kc2.blk c8 id
  have dr := nl.kn.blk nr.at_ id
  have dl : w2.heap[lp]? = some (.loop (mkRec #[16] (rfA (bodyC Try.f32 [1, 0, 1, 0])) (rfB (bodyC Try.f32 [1, 0, 1, 0])) φ τ r)) := nl.at_
  clear nr nl c1 c2 c3 c7 c8
  have hσ0 : ∀ t v, Sig.get [(7, .pointer (some ⟨g7, 0, none⟩)), (8, .pointer (some ⟨g8, 0, none⟩))] t = some v → τ[t]? = some v := fun t v hv => hσ t v (Sub.mk (by repeat (first | exact SubB.nil | refine SubB.cons rfl ?_)) t v hv)
  have hfin : ∀ w3 (rec : Loop), Kp (fun k => k = g2 ∨ k = lp ∨ k = g8) w2 w3 → w3.heap[lp]? = some (.loop rec) → rec.state ≠ .busy → (∀ w4, Wr w3 w4 lp (.loop { rec with state := .exhausted }) → Lw w (fun _ => False) w (fun _ => False) [(r, .deferred (some []))] w4) := by
    intro w3 rec k3 hl3 hb3 w4 hw4
    have hr4 := hw4.kp.blk (k3.blk dr (by omega)) (show ¬ r = lp by omega)
    have k4 : Kn w w4 := Kp.then (Kp.then kw2 k3 (fun _ h => h) fun i hi h => by omega) hw4.kp (fun _ h => h) fun i hi h => by omega
    exact (Lw.of_kp k4).more hr4 (by simp) ⟨.inl (by omega), .inl (by omega)⟩
  have n28 : g2 ≠ g8 := by omega
  -- the loop ended by itself
  have tail0 : ∀ r0 : Option Nat, SeekM pred l by_ p (tellM l by_ r0) ∨ (l = [] ∧ r0 = none) → r0 = none → ∀ w3, Kp (fun k => k = g2 ∨ k = lp) w2 w3 → w3.heap[lp]? = some (.loop (mkRec #[16] (rfA (bodyC Try.f32 [1, 0, 1, 0])) (rfB (bodyC Try.f32 [1, 0, 1, 0])) φ τ r)) → ∀ w4, Wr w3 w4 lp (.loop { (mkRec #[16] (rfA (bodyC Try.f32 [1, 0, 1, 0])) (rfB (bodyC Try.f32 [1, 0, 1, 0])) φ τ r) with state := .exhausted }) →
      ∀ σ', SubB σ' [(0, .slice A l.length c), (2, .int .i64 by_), (8, .pointer (some ⟨g8, 0, none⟩))] →
      WG Try.prog Try.f32 [.inBlock 0, .code (bodyC Try.f32 [1, 1])] σ' w4 ((Pt.fn Try.prog Try.f32 [] fun u w' => Kn w w' ∧ ∃ q, u = posV q ∧ SeekM pred l by_ p q).push { target := .collected r, args := #[] }) := by
    rintro r0 hsk rfl w3 k3 hl3 w4 hw4 σ' hs
    refine WK.sub (Sub.mk hs) ?_
    clear hs
    have hlw := hfin w3 _ (k3.mono fun _ _ h => h.elim .inl fun h => .inr (.inl h)) hl3 (by intro h; cases h) w4 hw4
    have e8 : w4.heap[g8]? = some (cb [.int .i64 0, .int .i64 0] 24) := hw4.kp.blk (k3.blk d8 (by omega)) (show ¬ g8 = lp by omega)
    have hlw2 : Lw w (fun _ => False) w (fun _ => False) [(g8, cb [.int .i64 0, .int .i64 0] 24), (r, .deferred (some []))] w4 := hlw.more e8 (by simp; omega) ⟨.inl h8, .inl h8⟩
    have hq : ∃ q, (if 0 < by_ then lastM l else (0, 0)) = q ∧ SeekM pred l by_ p q := by
      refine ⟨_, rfl, ?_⟩
      rcases hsk with h | ⟨h, -⟩
      · exact h
      · refine .inl ⟨h, ?_⟩
        unfold lastM
        rw [if_pos h]
        split <;> rfl
    obtain ⟨q, hq, hsm⟩ := hq
    refine l_close hlw2 ?_
    rcases hby with hb | hb
    · rw [if_pos (by omega)] at hq
      repeat(first|refine lrun_ ?_|(refine lo_boxA rfl rfl ?_;intro _ _ _)|(refine lo_box1 rfl rfl rfl ?_;intro _ _ _)|(refine lo_alloc rfl ?_;intro _ _ _))
      refine l_yes rfl (by omega) ?_
      repeat(first|refine lrun_ ?_|(refine lo_boxA rfl rfl ?_;intro _ _ _)|(refine lo_box1 rfl rfl rfl ?_;intro _ _ _)|(refine lo_alloc rfl ?_;intro _ _ _))
      refine lo_call (n_call rfl) rfl (fun w hw => lastP_calls (Kn.sl hw.org h)) ?_
      rw [hq]
      repeat(first|refine lrun_ ?_|(refine lo_boxA rfl rfl ?_;intro _ _ _)|(refine lo_box1 rfl rfl rfl ?_;intro _ _ _)|(refine lo_alloc rfl ?_;intro _ _ _))
      exact l_retM (rs := [_]) (vs := [_]) rfl (by(repeat(first|exact MIn.hd|refine MIn.tl ?_));done) (by first|exact .hd|exact .tl .hd|exact .tl (.tl .hd)|exact .tl (.tl (.tl .hd))|exact .tl (.tl (.tl (.tl .hd)))|exact .tl (.tl (.tl (.tl (.tl .hd))))|exact .tl (.tl (.tl (.tl (.tl (.tl .hd)))))|exact .tl (.tl (.tl (.tl (.tl (.tl (.tl .hd))))))|exact .tl (.tl (.tl (.tl (.tl (.tl (.tl (.tl .hd)))))))) (by repeat(first|exact LRes.nil|refine LRes.tmp rfl ?_|refine LRes.agg rfl (by(repeat(first|exact MIn.hd|refine MIn.tl ?_));done) (by rfl) (by rfl) ?_|refine LRes.one rfl (by(repeat(first|exact MIn.hd|refine MIn.tl ?_));done) (by rfl) ?_)) fun w hw => ⟨hw.org, q, rfl, hsm⟩
    · rw [if_neg (by omega)] at hq
      subst hq
      repeat(first|refine lrun_ ?_|(refine lo_boxA rfl rfl ?_;intro _ _ _)|(refine lo_box1 rfl rfl rfl ?_;intro _ _ _)|(refine lo_alloc rfl ?_;intro _ _ _))
      refine l_no rfl (by omega) ?_
      repeat(first|refine lrun_ ?_|(refine lo_boxA rfl rfl ?_;intro _ _ _)|(refine lo_box1 rfl rfl rfl ?_;intro _ _ _)|(refine lo_alloc rfl ?_;intro _ _ _))
      exact l_retM (rs := [_]) (vs := [_]) rfl (by(repeat(first|exact MIn.hd|refine MIn.tl ?_));done) (by first|exact .hd|exact .tl .hd|exact .tl (.tl .hd)|exact .tl (.tl (.tl .hd))|exact .tl (.tl (.tl (.tl .hd)))|exact .tl (.tl (.tl (.tl (.tl .hd))))|exact .tl (.tl (.tl (.tl (.tl (.tl .hd)))))|exact .tl (.tl (.tl (.tl (.tl (.tl (.tl .hd))))))|exact .tl (.tl (.tl (.tl (.tl (.tl (.tl (.tl .hd)))))))) (by repeat(first|exact LRes.nil|refine LRes.tmp rfl ?_|refine LRes.agg rfl (by(repeat(first|exact MIn.hd|refine MIn.tl ?_));done) (by rfl) (by rfl) ?_|refine LRes.one rfl (by(repeat(first|exact MIn.hd|refine MIn.tl ?_));done) (by rfl) ?_)) fun w hw => ⟨hw.org, _, rfl, hsm⟩
  by_cases hl0 : l = []
  · subst hl0
    refine (places1_nil (blk_cell d1)).mono ?_
    rintro _ w3 rfl
    refine ⟨_, dl, (by intro h; cases h), fun w4 hw4 => ?_⟩
    exact tail0 none (.inr ⟨rfl, rfl⟩) rfl w3 (Kp.refl _ _) dl w4 hw4 _ (by repeat (first | exact SubB.nil | refine SubB.cons rfl ?_))
  have hat := clip_at (p := p) hl0
  obtain ⟨t0, ht0⟩ := at_get hat
  have hby0 : by_ = 1 ∨ by_ = -1 := hby
  have hS0 : Sl kRow (fun k => k < w.heap.size) w2 (.slice A l.length c) l := Kn.sl kw2 h
  have lo : ∀ {wa wb : World} {S : Nat → Prop}, (∀ k, S k → w.heap.size ≤ k) → Kp S wa wb → Sl kRow (fun k => k < w.heap.size) wa (.slice A l.length c) l → Sl kRow (fun k => k < w.heap.size) wb (.slice A l.length c) l :=
    fun hS hk hsl => Kp.sl hk hsl fun k hk hs => by have := hS k hs; omega
  have kn2 : ∀ {wb : World}, Kp (fun k => k = g2 ∨ k = lp ∨ k = g8) w2 wb → Kn w wb := fun hk => Kp.then kw2 hk (fun _ h => h) fun i hi h => by omega
  refine (places1_calls (F := fun k => k < w.heap.size) (A := A) (c := c) (l := l) (by_ := by_) (t0 := t0) (q0 := clipM l p)
    (fun t q wx => (placesTo l l.length)[t]? = some q ∧ (t = t0 ∨ On by_ t0 t) ∧ (∀ v, On by_ t0 v → On by_ v t ∨ v = t → pred ((placesTo l l.length).getD v (0, 0)) = false) ∧ Kp (fun k => k = g2 ∨ k = lp) w2 wx ∧ wx.heap[lp]? = some (.loop (mkRec #[16] (rfA (bodyC Try.f32 [1, 0, 1, 0])) (rfB (bodyC Try.f32 [1, 0, 1, 0])) φ τ r)) ∧ wx.heap[g2]? = some (cb [.int .i64 q.1, .int .i64 q.2] 24))
    (fun wx => ∃ u q, (placesTo l l.length)[u]? = some q ∧ Sk pred (placesTo l l.length) by_ t0 (some u) ∧ Kp (fun k => k = g2 ∨ k = lp ∨ k = g8) w2 wx ∧ wx.heap[lp]? = some (.loop { (mkRec #[16] (rfA (bodyC Try.f32 [1, 0, 1, 0])) (rfB (bodyC Try.f32 [1, 0, 1, 0])) φ τ r) with state := .done, pending := some .ret }) ∧ wx.heap[g8]? = some (cb [.int .i64 q.1, .int .i64 q.2] 24))
    (fun wx => Sk pred (placesTo l l.length) by_ t0 none ∧ Kp (fun k => k = g2 ∨ k = lp) w2 wx ∧ wx.heap[lp]? = some (.loop (mkRec #[16] (rfA (bodyC Try.f32 [1, 0, 1, 0])) (rfB (bodyC Try.f32 [1, 0, 1, 0])) φ τ r)))
    hs0 hby (fun k hk => by omega) n12 n32 ?_ ?_ ?_ ⟨ht0, .inl rfl, fun v h1 h2 => ?_, Kp.refl _ _, dl, d2⟩).mono ?_
  · rintro t q wx ⟨h1, h2, h3, h4, h5, h6⟩
    exact ⟨h1, ⟨lo (fun k hk => by omega) h4 hS0, blk_cell (h4.blk d1 (by omega)), h6, blk_cell (h4.blk d3 (by omega))⟩⟩
  · rintro t q u q' wx wy ⟨h1, h2, h3, h4, h5, h6⟩ hu hut hk hg
    have hul := (List.getElem?_eq_some_iff.1 hu).1
    have hgd : (placesTo l l.length).getD u (0, 0) = q' := by rw [List.getD_eq_getElem?_getD, hu]; rfl
    have hon : On by_ t u := by unfold On; omega
    have hon0 : On by_ t0 u := by
      rcases h2 with rfl | h2
      · exact hon
      · unfold On at *; omega
    have k2y : Kp (fun k => k = g2 ∨ k = lp) w2 wy := h4.trans (hk.mono fun _ _ h => .inl h)
    have hlpy := hk.blk h5 (by omega)
    refine (seek_round (f := f) (cap := cap) (g7 := g7) (g8 := g8) (q := q') (b := pred q') hτ hσ0 hlpy (k2y.blk d8 (by omega)) (k2y.cell (blk_cell d7) (show ¬ (g7 = g2 ∨ g7 = lp) by omega)) (by simp at hnd; omega) (by omega) (by omega) fun w' hw' => hcall q' w' (kn2 ((k2y.mono fun _ _ h => h.elim .inl fun h => .inr (.inl h)).trans (hw'.mono fun _ _ h => h.elim (fun h => .inr (.inl h)) fun h => .inr (.inr h)))) (get_at hu)).mono ?_
    rintro v wz (⟨hb, hv, hkz, hlz⟩ | ⟨hb, hv, hkz, hlz, h8z⟩)
    · refine .inl ⟨hv, hu, .inr hon0, fun v h7 h8 => ?_, k2y.trans (hkz.mono fun _ _ h => .inr h), hlz, hkz.blk hg (show ¬ g2 = lp by omega)⟩
      rcases h8 with h8 | rfl
      · refine h3 v h7 ?_
        by_cases hvt : v = t
        · exact .inr hvt
        · refine .inl ?_
          unfold On at *; omega
      · rw [hgd]; exact hb
    · refine .inr ⟨hv, u, q', hu, ⟨hul, hon0, by rw [hgd]; exact hb, fun v h7 h8 => ?_⟩, (k2y.mono fun _ _ h => h.elim .inl fun h => .inr (.inl h)).trans (hkz.mono fun _ _ h => h.elim (fun h => .inr (.inl h)) fun h => .inr (.inr h)), hlz, h8z⟩
      refine h3 v h7 ?_
      by_cases hvt : v = t
      · exact .inr hvt
      · refine .inl ?_
        unfold On at *; omega
  · rintro t q wx wy ⟨h1, h2, h3, h4, h5, h6⟩ hout hk
    have htl := (List.getElem?_eq_some_iff.1 h1).1
    refine ⟨fun v hv1 hv2 => h3 v hv2 ?_, h4.trans (hk.mono fun _ _ h => .inl h), hk.blk h5 (by omega)⟩
    by_cases hvt : v = t
    · exact .inr hvt
    · refine .inl ?_
      unfold On at *; omega
  · exfalso
    rcases h2 with h2 | rfl
    · unfold On at *; omega
    · unfold On at h1; omega
  · rintro _ w3 (⟨u, q, hu, hsk, k3, hl3, h83⟩ | ⟨hsk, k3, hl3⟩)
    · refine ⟨_, hl3, (by intro h; cases h), fun w4 hw4 => ?_⟩
      have hlw := hfin w3 _ k3 hl3 (by intro h; cases h) w4 hw4
      have e8 := hw4.kp.blk h83 (show ¬ g8 = lp by omega)
      have hlw2 : Lw w (fun _ => False) w (fun _ => False) [(g8, cb [.int .i64 q.1, .int .i64 q.2] 24), (r, .deferred (some []))] w4 := hlw.more e8 (by simp; omega) ⟨.inl h8, .inl h8⟩
      refine l_close hlw2 ?_
      show WLG Try.prog Try.f32 (.code .ret :: _) _ _ _ _ _ _ _
      exact l_retM (rs := [_]) (vs := [_]) rfl (by(repeat(first|exact MIn.hd|refine MIn.tl ?_));done) (by first|exact .hd|exact .tl .hd|exact .tl (.tl .hd)|exact .tl (.tl (.tl .hd))|exact .tl (.tl (.tl (.tl .hd)))|exact .tl (.tl (.tl (.tl (.tl .hd))))|exact .tl (.tl (.tl (.tl (.tl (.tl .hd)))))|exact .tl (.tl (.tl (.tl (.tl (.tl (.tl .hd))))))|exact .tl (.tl (.tl (.tl (.tl (.tl (.tl (.tl .hd)))))))) (by repeat(first|exact LRes.nil|refine LRes.tmp rfl ?_|refine LRes.agg rfl (by(repeat(first|exact MIn.hd|refine MIn.tl ?_));done) (by rfl) (by rfl) ?_|refine LRes.one rfl (by(repeat(first|exact MIn.hd|refine MIn.tl ?_));done) (by rfl) ?_)) fun w hw => ⟨hw.org, q, rfl, .inr ⟨t0, some u, ht0, hsk, by unfold tellM; simp only [List.getD_eq_getElem?_getD, hu]; rfl⟩⟩
    · refine ⟨_, hl3, (by intro h; cases h), fun w4 hw4 => ?_⟩
      exact tail0 none (.inl (.inr ⟨t0, none, ht0, hsk, rfl⟩)) rfl w3 k3 hl3 w4 hw4 _ (by repeat (first | exact SubB.nil | refine SubB.cons rfl ?_))
end
end Go.Ink

set_option linter.unusedVariables false
set_option linter.unusedSimpArgs false
namespace Go.Ink
open Go Go.Proofs

section
variable {F : Nat → Prop} {w : World} {v : Value} {l : List (List Int)} {p : Ps} {by_ : Int} {big : Bool}
theorem edge_calls {A : Option Addr} {n c : Nat} : CallsR Try.prog 33 #[.slice A n c, .bool big, .int .i64 by_] w fun u w' => ∃ N, News w w' N ∧ ∃ g1 g2 g3, u = .func (.func 37) #[] #[.pointer (some ⟨g1, 0, none⟩), .pointer (some ⟨g2, 0, none⟩), .pointer (some ⟨g3, 0, none⟩)] ∧
    N = [(g2, cb [.int .i64 by_] 3), (g3, cb [.bool big] 4), (g1, cb [.slice A n c] 22)] := by
  refine l_enter (fun _ => False) Try.func33 rfl rfl ?_
  repeat(first|refine lrun_ ?_|(refine lo_boxA rfl rfl ?_;intro _ _ _)|(refine lo_box1 rfl rfl rfl ?_;intro _ _ _)|(refine lo_alloc rfl ?_;intro _ _ _))
  exact l_ret1 rfl rfl fun w hw => ⟨_, hw.toNews .refl, _, _, _, rfl, rfl⟩
theorem sentence_calls {A : Option Addr} {n c : Nat} : CallsR Try.prog 35 #[.slice A n c] w fun u w' => ∃ N, News w w' N ∧ ∃ g1, u = .func (.func 40) #[] #[.pointer (some ⟨g1, 0, none⟩)] ∧ N = [(g1, cb [.slice A n c] 22)] := by
  refine l_enter (fun _ => False) Try.func35 rfl rfl ?_
  repeat(first|refine lrun_ ?_|(refine lo_boxA rfl rfl ?_;intro _ _ _)|(refine lo_box1 rfl rfl rfl ?_;intro _ _ _)|(refine lo_alloc rfl ?_;intro _ _ _))
  exact l_ret1 rfl rfl fun w hw => ⟨_, hw.toNews .refl, _, rfl, rfl⟩
set_option maxHeartbeats 1000000 in
theorem next_calls (hs0 : l.length + runesM l ≤ 4000) (h : Sl kRow F w v l) (hp : P64 p) : CallsR Try.prog 18 #[v, posV p, .bool big] w fun u w' => Kn w w' ∧ ∃ q, u = posV q ∧ SeekM (edgeM l big (-1)) l 1 p q := by
  obtain ⟨A, c, ad, rV, rc, ra, rfl, hR⟩ := h.rws
  refine l_enter (fun _ => False) Try.func18 rfl rfl ?_
  repeat(first|refine lrun_ ?_|(refine lo_boxA rfl rfl ?_;intro _ _ _)|(refine lo_box1 rfl rfl rfl ?_;intro _ _ _)|(refine lo_alloc rfl ?_;intro _ _ _))
  refine l_draw [(0, 0), (1, 0), (2, 0), (3, 0), (4, 1), (5, 1), (6, 1)] (by kernel_rfl) (by kernel_rfl) rfl (by kernel_rfl) ?_
  repeat(first|refine lrund_ ?_|(refine ld_open rfl ?_;first|(refine ld_boxA rfl wy_ rfl ?_;intro _ _ _)|(refine ld_box1 rfl rfl wy_ rfl ?_;intro _ _ _)|(refine ld_alloc wy_ rfl ?_;intro _ _ _)))
  refine ld_open rfl ?_; refine ld_callX (n_call rfl) wy_ rfl (fun w hw => edge_calls) ?_
  rintro _ _ ⟨g1, g2, g3, rfl, rfl⟩
  dsimp only [List.cons_append, List.nil_append]
  repeat(first|refine lrund_ ?_|(refine ld_open rfl ?_;first|(refine ld_boxA rfl wy_ rfl ?_;intro _ _ _)|(refine ld_box1 rfl rfl wy_ rfl ?_;intro _ _ _)|(refine ld_alloc wy_ rfl ?_;intro _ _ _)))
  refine ld_open rfl ?_; refine ld_callV (n_call rfl) wy_ rfl (fun w hw => seek_calls (f := 37) (cap := [_, _, _]) (pred := edgeM l big (-1)) hs0 (Kn.sl hw.org h) hp (.inl rfl) fun q w' hk hq => by
    obtain ⟨A', c', ad', rV', rc', ra', he, hR'⟩ := (Kn.sl (hw.org.trans hk) h).rws
    cases he
    exact edge1_calls hR' (hk.cell (hw.cell (by(repeat(first|exact MIn.hd|refine MIn.tl ?_));done) rfl) id) (hk.cell (hw.cell (by(repeat(first|exact MIn.hd|refine MIn.tl ?_));done) rfl) id) (hk.cell (hw.cell (by(repeat(first|exact MIn.hd|refine MIn.tl ?_));done) rfl) id) hq (.inr rfl)) ?_
  rintro _ ⟨q, rfl, hsk⟩
  repeat(first|refine lrund_ ?_|(refine ld_open rfl ?_;first|(refine ld_boxA rfl wy_ rfl ?_;intro _ _ _)|(refine ld_box1 rfl rfl wy_ rfl ?_;intro _ _ _)|(refine ld_alloc wy_ rfl ?_;intro _ _ _)))
  exact l_retR1 rfl (by repeat(first|exact LRes.nil|refine LRes.tmp rfl ?_|refine LRes.agg rfl (by(repeat(first|exact MIn.hd|refine MIn.tl ?_));done) (by rfl) (by rfl) ?_|refine LRes.one rfl (by(repeat(first|exact MIn.hd|refine MIn.tl ?_));done) (by rfl) ?_)) fun w hw => ⟨hw.org, q, rfl, hsk⟩
set_option maxHeartbeats 1000000 in
theorem prev_calls (hs0 : l.length + runesM l ≤ 4000) (h : Sl kRow F w v l) (hp : P64 p) : CallsR Try.prog 19 #[v, posV p, .bool big] w fun u w' => Kn w w' ∧ ∃ q, u = posV q ∧ SeekM (edgeM l big (-1)) l (-1) p q := by
  obtain ⟨A, c, ad, rV, rc, ra, rfl, hR⟩ := h.rws
  refine l_enter (fun _ => False) Try.func19 rfl rfl ?_
  repeat(first|refine lrun_ ?_|(refine lo_boxA rfl rfl ?_;intro _ _ _)|(refine lo_box1 rfl rfl rfl ?_;intro _ _ _)|(refine lo_alloc rfl ?_;intro _ _ _))
  refine l_draw [(0, 0), (1, 0), (2, 0), (3, 0), (4, 1), (5, 1), (6, 1)] (by kernel_rfl) (by kernel_rfl) rfl (by kernel_rfl) ?_
  repeat(first|refine lrund_ ?_|(refine ld_open rfl ?_;first|(refine ld_boxA rfl wy_ rfl ?_;intro _ _ _)|(refine ld_box1 rfl rfl wy_ rfl ?_;intro _ _ _)|(refine ld_alloc wy_ rfl ?_;intro _ _ _)))
  refine ld_open rfl ?_; refine ld_callX (n_call rfl) wy_ rfl (fun w hw => edge_calls) ?_
  rintro _ _ ⟨g1, g2, g3, rfl, rfl⟩
  dsimp only [List.cons_append, List.nil_append]
  repeat(first|refine lrund_ ?_|(refine ld_open rfl ?_;first|(refine ld_boxA rfl wy_ rfl ?_;intro _ _ _)|(refine ld_box1 rfl rfl wy_ rfl ?_;intro _ _ _)|(refine ld_alloc wy_ rfl ?_;intro _ _ _)))
  refine ld_open rfl ?_; refine ld_callV (n_call rfl) wy_ rfl (fun w hw => seek_calls (f := 37) (cap := [_, _, _]) (pred := edgeM l big (-1)) hs0 (Kn.sl hw.org h) hp (.inr rfl) fun q w' hk hq => by
    obtain ⟨A', c', ad', rV', rc', ra', he, hR'⟩ := (Kn.sl (hw.org.trans hk) h).rws
    cases he
    exact edge1_calls hR' (hk.cell (hw.cell (by(repeat(first|exact MIn.hd|refine MIn.tl ?_));done) rfl) id) (hk.cell (hw.cell (by(repeat(first|exact MIn.hd|refine MIn.tl ?_));done) rfl) id) (hk.cell (hw.cell (by(repeat(first|exact MIn.hd|refine MIn.tl ?_));done) rfl) id) hq (.inr rfl)) ?_
  rintro _ ⟨q, rfl, hsk⟩
  repeat(first|refine lrund_ ?_|(refine ld_open rfl ?_;first|(refine ld_boxA rfl wy_ rfl ?_;intro _ _ _)|(refine ld_box1 rfl rfl wy_ rfl ?_;intro _ _ _)|(refine ld_alloc wy_ rfl ?_;intro _ _ _)))
  exact l_retR1 rfl (by repeat(first|exact LRes.nil|refine LRes.tmp rfl ?_|refine LRes.agg rfl (by(repeat(first|exact MIn.hd|refine MIn.tl ?_));done) (by rfl) (by rfl) ?_|refine LRes.one rfl (by(repeat(first|exact MIn.hd|refine MIn.tl ?_));done) (by rfl) ?_)) fun w hw => ⟨hw.org, q, rfl, hsk⟩
set_option maxHeartbeats 1000000 in
theorem end_calls (hs0 : l.length + runesM l ≤ 4000) (h : Sl kRow F w v l) (hp : P64 p) : CallsR Try.prog 22 #[v, posV p, .bool big] w fun u w' => Kn w w' ∧ ∃ q, u = posV q ∧ SeekM (edgeM l big 1) l 1 p q := by
  obtain ⟨A, c, ad, rV, rc, ra, rfl, hR⟩ := h.rws
  refine l_enter (fun _ => False) Try.func22 rfl rfl ?_
  repeat(first|refine lrun_ ?_|(refine lo_boxA rfl rfl ?_;intro _ _ _)|(refine lo_box1 rfl rfl rfl ?_;intro _ _ _)|(refine lo_alloc rfl ?_;intro _ _ _))
  refine l_draw [(0, 0), (1, 0), (2, 0), (3, 0), (4, 1), (5, 1), (6, 1)] (by kernel_rfl) (by kernel_rfl) rfl (by kernel_rfl) ?_
  repeat(first|refine lrund_ ?_|(refine ld_open rfl ?_;first|(refine ld_boxA rfl wy_ rfl ?_;intro _ _ _)|(refine ld_box1 rfl rfl wy_ rfl ?_;intro _ _ _)|(refine ld_alloc wy_ rfl ?_;intro _ _ _)))
  refine ld_open rfl ?_; refine ld_callX (n_call rfl) wy_ rfl (fun w hw => edge_calls) ?_
  rintro _ _ ⟨g1, g2, g3, rfl, rfl⟩
  dsimp only [List.cons_append, List.nil_append]
  repeat(first|refine lrund_ ?_|(refine ld_open rfl ?_;first|(refine ld_boxA rfl wy_ rfl ?_;intro _ _ _)|(refine ld_box1 rfl rfl wy_ rfl ?_;intro _ _ _)|(refine ld_alloc wy_ rfl ?_;intro _ _ _)))
  refine ld_open rfl ?_; refine ld_callV (n_call rfl) wy_ rfl (fun w hw => seek_calls (f := 37) (cap := [_, _, _]) (pred := edgeM l big 1) hs0 (Kn.sl hw.org h) hp (.inl rfl) fun q w' hk hq => by
    obtain ⟨A', c', ad', rV', rc', ra', he, hR'⟩ := (Kn.sl (hw.org.trans hk) h).rws
    cases he
    exact edge1_calls hR' (hk.cell (hw.cell (by(repeat(first|exact MIn.hd|refine MIn.tl ?_));done) rfl) id) (hk.cell (hw.cell (by(repeat(first|exact MIn.hd|refine MIn.tl ?_));done) rfl) id) (hk.cell (hw.cell (by(repeat(first|exact MIn.hd|refine MIn.tl ?_));done) rfl) id) hq (.inl rfl)) ?_
  rintro _ ⟨q, rfl, hsk⟩
  repeat(first|refine lrund_ ?_|(refine ld_open rfl ?_;first|(refine ld_boxA rfl wy_ rfl ?_;intro _ _ _)|(refine ld_box1 rfl rfl wy_ rfl ?_;intro _ _ _)|(refine ld_alloc wy_ rfl ?_;intro _ _ _)))
  exact l_retR1 rfl (by repeat(first|exact LRes.nil|refine LRes.tmp rfl ?_|refine LRes.agg rfl (by(repeat(first|exact MIn.hd|refine MIn.tl ?_));done) (by rfl) (by rfl) ?_|refine LRes.one rfl (by(repeat(first|exact MIn.hd|refine MIn.tl ?_));done) (by rfl) ?_)) fun w hw => ⟨hw.org, q, rfl, hsk⟩
set_option maxHeartbeats 1000000 in
theorem sentNext_calls (hs0 : l.length + runesM l ≤ 4000) (h : Sl kRow F w v l) (hp : P64 p) : CallsR Try.prog 25 #[v, posV p] w fun u w' => Kn w w' ∧ ∃ q, u = posV q ∧ SeekM (sentM l) l 1 p q := by
  obtain ⟨A, c, ad, rV, rc, ra, rfl, hR⟩ := h.rws
  refine l_enter (fun _ => False) Try.func25 rfl rfl ?_
  repeat(first|refine lrun_ ?_|(refine lo_boxA rfl rfl ?_;intro _ _ _)|(refine lo_box1 rfl rfl rfl ?_;intro _ _ _)|(refine lo_alloc rfl ?_;intro _ _ _))
  refine l_draw [(0, 0), (1, 0), (2, 0), (3, 1), (4, 1), (5, 1)] (by kernel_rfl) (by kernel_rfl) rfl (by kernel_rfl) ?_
  repeat(first|refine lrund_ ?_|(refine ld_open rfl ?_;first|(refine ld_boxA rfl wy_ rfl ?_;intro _ _ _)|(refine ld_box1 rfl rfl wy_ rfl ?_;intro _ _ _)|(refine ld_alloc wy_ rfl ?_;intro _ _ _)))
  refine ld_open rfl ?_; refine ld_callX (n_call rfl) wy_ rfl (fun w hw => sentence_calls) ?_
  rintro _ _ ⟨g1, rfl, rfl⟩
  dsimp only [List.cons_append, List.nil_append]
  repeat(first|refine lrund_ ?_|(refine ld_open rfl ?_;first|(refine ld_boxA rfl wy_ rfl ?_;intro _ _ _)|(refine ld_box1 rfl rfl wy_ rfl ?_;intro _ _ _)|(refine ld_alloc wy_ rfl ?_;intro _ _ _)))
  refine ld_open rfl ?_; refine ld_callV (n_call rfl) wy_ rfl (fun w hw => seek_calls (f := 40) (cap := [_]) (pred := sentM l) hs0 (Kn.sl hw.org h) hp (.inl rfl) fun q w' hk hq => by
    obtain ⟨A', c', ad', rV', rc', ra', he, hR'⟩ := (Kn.sl (hw.org.trans hk) h).rws
    cases he
    exact sent1_calls hR' (hk.cell (hw.cell (by(repeat(first|exact MIn.hd|refine MIn.tl ?_));done) rfl) id) hq) ?_
  rintro _ ⟨q, rfl, hsk⟩
  repeat(first|refine lrund_ ?_|(refine ld_open rfl ?_;first|(refine ld_boxA rfl wy_ rfl ?_;intro _ _ _)|(refine ld_box1 rfl rfl wy_ rfl ?_;intro _ _ _)|(refine ld_alloc wy_ rfl ?_;intro _ _ _)))
  exact l_retR1 rfl (by repeat(first|exact LRes.nil|refine LRes.tmp rfl ?_|refine LRes.agg rfl (by(repeat(first|exact MIn.hd|refine MIn.tl ?_));done) (by rfl) (by rfl) ?_|refine LRes.one rfl (by(repeat(first|exact MIn.hd|refine MIn.tl ?_));done) (by rfl) ?_)) fun w hw => ⟨hw.org, q, rfl, hsk⟩
set_option maxHeartbeats 1000000 in
theorem sentPrev_calls (hs0 : l.length + runesM l ≤ 4000) (h : Sl kRow F w v l) (hp : P64 p) : CallsR Try.prog 26 #[v, posV p] w fun u w' => Kn w w' ∧ ∃ q, u = posV q ∧ SeekM (sentM l) l (-1) p q := by
  obtain ⟨A, c, ad, rV, rc, ra, rfl, hR⟩ := h.rws
  refine l_enter (fun _ => False) Try.func26 rfl rfl ?_
  repeat(first|refine lrun_ ?_|(refine lo_boxA rfl rfl ?_;intro _ _ _)|(refine lo_box1 rfl rfl rfl ?_;intro _ _ _)|(refine lo_alloc rfl ?_;intro _ _ _))
  refine l_draw [(0, 0), (1, 0), (2, 0), (3, 1), (4, 1), (5, 1)] (by kernel_rfl) (by kernel_rfl) rfl (by kernel_rfl) ?_
  repeat(first|refine lrund_ ?_|(refine ld_open rfl ?_;first|(refine ld_boxA rfl wy_ rfl ?_;intro _ _ _)|(refine ld_box1 rfl rfl wy_ rfl ?_;intro _ _ _)|(refine ld_alloc wy_ rfl ?_;intro _ _ _)))
  refine ld_open rfl ?_; refine ld_callX (n_call rfl) wy_ rfl (fun w hw => sentence_calls) ?_
  rintro _ _ ⟨g1, rfl, rfl⟩
  dsimp only [List.cons_append, List.nil_append]
  repeat(first|refine lrund_ ?_|(refine ld_open rfl ?_;first|(refine ld_boxA rfl wy_ rfl ?_;intro _ _ _)|(refine ld_box1 rfl rfl wy_ rfl ?_;intro _ _ _)|(refine ld_alloc wy_ rfl ?_;intro _ _ _)))
  refine ld_open rfl ?_; refine ld_callV (n_call rfl) wy_ rfl (fun w hw => seek_calls (f := 40) (cap := [_]) (pred := sentM l) hs0 (Kn.sl hw.org h) hp (.inr rfl) fun q w' hk hq => by
    obtain ⟨A', c', ad', rV', rc', ra', he, hR'⟩ := (Kn.sl (hw.org.trans hk) h).rws
    cases he
    exact sent1_calls hR' (hk.cell (hw.cell (by(repeat(first|exact MIn.hd|refine MIn.tl ?_));done) rfl) id) hq) ?_
  rintro _ ⟨q, rfl, hsk⟩
  repeat(first|refine lrund_ ?_|(refine ld_open rfl ?_;first|(refine ld_boxA rfl wy_ rfl ?_;intro _ _ _)|(refine ld_box1 rfl rfl wy_ rfl ?_;intro _ _ _)|(refine ld_alloc wy_ rfl ?_;intro _ _ _)))
  exact l_retR1 rfl (by repeat(first|exact LRes.nil|refine LRes.tmp rfl ?_|refine LRes.agg rfl (by(repeat(first|exact MIn.hd|refine MIn.tl ?_));done) (by rfl) (by rfl) ?_|refine LRes.one rfl (by(repeat(first|exact MIn.hd|refine MIn.tl ?_));done) (by rfl) ?_)) fun w hw => ⟨hw.org, q, rfl, hsk⟩
end
end Go.Ink

set_option linter.unusedVariables false
set_option linter.unusedSimpArgs false
namespace Go.Ink
open Go Go.Proofs

/-- A paragraph's end; its beginning. -/
def parE (l : List (List Int)) (q : Ps) : Bool := decide ((rowOf l q).length = 0 ∧ 0 < q.1 ∧ 0 < (l.getD (q.1.toNat - 1) []).length)
def parB (l : List (List Int)) (q : Ps) : Bool := decide ((rowOf l q).length = 0 ∧ q.1 + 1 < l.length ∧ 0 < (l.getD (q.1.toNat + 1) []).length)
theorem on_ahead {l : List (List Int)} {a b : Ps} {t v : Nat} {by_ : Int} (h1 : (placesTo l l.length)[t]? = some a) (h2 : (placesTo l l.length)[v]? = some b) :
    On by_ t v ↔ (by_ = 1 ∧ (a.1 < b.1 ∨ (a.1 = b.1 ∧ a.2 < b.2))) ∨ (by_ = -1 ∧ (b.1 < a.1 ∨ (b.1 = a.1 ∧ b.2 < a.2))) := by
  have e1 := places_ahead h1 h2
  have e2 := places_ahead h2 h1
  have f1 : t < v ↔ (a.1 < b.1 ∨ (a.1 = b.1 ∧ a.2 < b.2)) := by rw [← ahead_t, e1, decide_eq_true_iff]
  have f2 : v < t ↔ (b.1 < a.1 ∨ (b.1 = a.1 ∧ b.2 < a.2)) := by rw [← ahead_t, e2, decide_eq_true_iff]
  unfold On
  rw [f1, f2]
/-- A place in an empty line. -/
theorem line_on {l : List (List Int)} {t v i0 k0 j : Nat} {by_ : Int} (h1 : (placesTo l l.length)[t]? = some ((i0 : Int), (k0 : Int))) (h2 : (placesTo l l.length)[v]? = some ((j : Int), 0)) (hj : (l.getD j []).length = 0) : On by_ t v ↔ On by_ i0 j := by
  rw [on_ahead h1 h2]
  have ha := get_at h1
  obtain ⟨i', k', he, hi', hk'⟩ := at_col ha
  simp only [Prod.mk.injEq] at he
  obtain ⟨e1, e2⟩ := he
  have : i' = i0 := by omega
  subst this
  unfold On
  simp only
  by_cases h : i' = j
  · subst h
    have : k' = 0 := by omega
    omega
  · omega
theorem sk_lines {l : List (List Int)} {f : Ps → Bool} {t i0 k0 : Nat} {by_ : Int} (hf : ∀ q, At l q → f q = true → (rowOf l q).length = 0) (h1 : (placesTo l l.length)[t]? = some ((i0 : Int), (k0 : Int))) :
    (∀ i, i < l.length → On by_ i0 i → (l.getD i []).length = 0 → f ((i : Int), 0) = true → (∀ j, On by_ i0 j → On by_ j i → j < l.length → (l.getD j []).length = 0 → f ((j : Int), 0) = false) → ∃ u, (placesTo l l.length)[u]? = some ((i : Int), 0) ∧ Sk f (placesTo l l.length) by_ t (some u)) ∧
    ((∀ j, On by_ i0 j → j < l.length → (l.getD j []).length = 0 → f ((j : Int), 0) = false) → Sk f (placesTo l l.length) by_ t none) := by
  have key : ∀ v q, (placesTo l l.length)[v]? = some q → On by_ t v → f q = true → ∃ j : Nat, q = ((j : Int), 0) ∧ j < l.length ∧ (l.getD j []).length = 0 ∧ On by_ i0 j := by
    intro v q hv hon hq
    have ha := get_at hv
    have he := hf q ha hq
    obtain ⟨j, k, rfl, hj, hk⟩ := at_col ha
    rw [rowOf_at] at he
    obtain rfl : k = 0 := by omega
    exact ⟨j, rfl, hj, he, (line_on h1 hv he).1 hon⟩
  constructor
  · intro i hi hon he hfi hno
    obtain ⟨u, hu⟩ := at_get (at_of (l := l) (i := i) (k := 0) hi (.inl ⟨he, rfl⟩))
    refine ⟨u, hu, (List.getElem?_eq_some_iff.1 hu).1, (line_on h1 hu he).2 hon, by rw [List.getD_eq_getElem?_getD, hu]; exact hfi, fun v hv1 hv2 => ?_⟩
    have hvl : v < (placesTo l l.length).length := by
      have := (List.getElem?_eq_some_iff.1 hu).1
      have := (List.getElem?_eq_some_iff.1 h1).1
      unfold On at hv1 hv2; omega
    have hv := List.getElem?_eq_getElem hvl
    rw [List.getD_eq_getElem?_getD, hv]
    by_cases hfv : f ((placesTo l l.length)[v]) = true
    · obtain ⟨j, hq, hj, hje, hoj⟩ := key v _ hv hv1 hfv
      rw [hq] at hv
      have h2 : On by_ j i := (line_on (k0 := 0) hv hu he).1 hv2
      have := hno j hoj h2 hj hje
      rw [hq] at hfv
      rw [this] at hfv
      cases hfv
    · exact Bool.eq_false_iff.2 hfv
  · intro hno v hvl hon
    have hv := List.getElem?_eq_getElem hvl
    rw [List.getD_eq_getElem?_getD, hv]
    by_cases hfv : f ((placesTo l l.length)[v]) = true
    · obtain ⟨j, hq, hj, hje, hoj⟩ := key v _ hv hon hfv
      have := hno j hoj hj hje
      rw [hq] at hfv
      rw [this] at hfv
      cases hfv
    · exact Bool.eq_false_iff.2 hfv
theorem parE_at {l : List (List Int)} {i : Nat} : parE l ((i : Int), 0) = decide ((l.getD i []).length = 0 ∧ 0 < i ∧ 0 < (l.getD (i - 1) []).length) := by
  unfold parE
  rw [decide_eq_decide, rowOf_at]
  simp only [Int.toNat_natCast]
  omega
theorem parB_at {l : List (List Int)} {i : Nat} : parB l ((i : Int), 0) = decide ((l.getD i []).length = 0 ∧ i + 1 < l.length ∧ 0 < (l.getD (i + 1) []).length) := by
  unfold parB
  rw [decide_eq_decide, rowOf_at]
  simp only [Int.toNat_natCast]
  omega
section
variable {F : Nat → Prop} {w : World} {v : Value} {l : List (List Int)} {p : Ps}
theorem clip_nat (l : List (List Int)) (p : Ps) : ∃ i0 k0 : Nat, clipM l p = ((i0 : Int), (k0 : Int)) ∧ (l ≠ [] → i0 < l.length) ∧ (l = [] → i0 = 0 ∧ k0 = 0) := by
  by_cases hl0 : l = []
  · subst hl0; exact ⟨0, 0, rfl, fun h => absurd rfl h, fun _ => ⟨rfl, rfl⟩⟩
  · obtain ⟨i0, k0, hcl, hi0, hk0⟩ := at_col (clip_at (p := p) hl0)
    exact ⟨i0, k0, hcl, fun _ => hi0, fun h => absurd h hl0⟩
/-- What a walk over lines finds. -/
theorem seek_lines {f : Ps → Bool} {by_ : Int} {i0 k0 : Nat} (hf : ∀ q, At l q → f q = true → (rowOf l q).length = 0) (hcl : clipM l p = ((i0 : Int), (k0 : Int))) (hl0 : l ≠ []) :
    (∀ i, i < l.length → On by_ i0 i → (l.getD i []).length = 0 → f ((i : Int), 0) = true → (∀ j, On by_ i0 j → On by_ j i → j < l.length → (l.getD j []).length = 0 → f ((j : Int), 0) = false) → SeekM f l by_ p ((i : Int), 0)) ∧
    ((∀ j, On by_ i0 j → j < l.length → (l.getD j []).length = 0 → f ((j : Int), 0) = false) → SeekM f l by_ p (if 0 < by_ then lastM l else (0, 0))) := by
  obtain ⟨t, ht⟩ := at_get (clip_at (p := p) hl0)
  have ht' := ht
  rw [hcl] at ht'
  obtain ⟨S1, S2⟩ := sk_lines (f := f) (by_ := by_) hf ht'
  constructor
  · intro i h1 h2 h3 h4 h5
    obtain ⟨u, hu, hs⟩ := S1 i h1 h2 h3 h4 h5
    exact .inr ⟨t, some u, ht, hs, by unfold tellM; simp only [List.getD_eq_getElem?_getD, hu]; rfl⟩
  · intro h1
    exact .inr ⟨t, none, ht, S2 h1, rfl⟩
set_option maxHeartbeats 1000000 in
theorem paraNext_calls (hs0 : l.length + runesM l ≤ 4000) (h : Sl kRow F w v l) (hp : P64 p) : CallsR Try.prog 23 #[v, posV p] w fun u w' => Kn w w' ∧ ∃ q, u = posV q ∧ SeekM (parE l) l 1 p q := by
  obtain ⟨A, c, ad, rV, rc, ra, rfl, hR⟩ := h.rws
  have hrl := hR.rl
  have hll := hR.len
  obtain ⟨i0, k0, hcl, hi0, hnil⟩ := clip_nat l p
  have hb : i0 < 140737488355328 + 1 := by
    by_cases hl0 : l = []
    · have := (hnil hl0).1; omega
    · have := hi0 hl0; omega
  have hS := fun hl0 : l ≠ [] => seek_lines (f := parE l) (by_ := 1) (p := p) (fun q _ hq => by unfold parE at hq; exact (of_decide_eq_true hq).1) hcl hl0
  refine l_enter (fun _ => False) Try.func23 rfl rfl ?_
  repeat(first|refine lrun_ ?_|(refine lo_boxA rfl rfl ?_;intro _ _ _)|(refine lo_box1 rfl rfl rfl ?_;intro _ _ _)|(refine lo_alloc rfl ?_;intro _ _ _))
  rename_i g3 _ _ g4 _ _
  refine lo_call (n_call rfl) rfl (fun w hw => clipP_calls (Kn.sl hw.org h) hp) ?_
  rw [hcl]
  repeat(first|refine lrun_ ?_|(refine lo_boxA rfl rfl ?_;intro _ _ _)|(refine lo_box1 rfl rfl rfl ?_;intro _ _ _)|(refine lo_alloc rfl ?_;intro _ _ _))
  rw [show ((i0 : Int), (k0 : Int)).1 + 1 = ((i0 + 1 : Nat) : Int) from rfl]
  refine l_while (fun m => l.length - m) (fun m : Nat => [(0, .slice A l.length c), (4, .pointer (some ⟨g4, 0, none⟩)), (5, .int .i64 m)]) (fun _ => [(g4, cb [.int .i64 0, .int .i64 0] 24)]) (fun m => i0 < m ∧ m < 140737488355328 + 2 ∧ ∀ j, i0 < j → j < m → (l.getD j []).length = 0 → parE l ((j : Int), 0) = false) (i0 + 1) (by repeat (first | exact SubB.nil | refine SubB.cons rfl ?_)) (by repeat(first|exact MSub.refl|refine MSub.keep rfl ?_|exact MSub.nil|apply MSub.drop)) ⟨by omega, by omega, fun j _ _ => by omega⟩ ?_
  rintro m ⟨hm0, hmb, hm⟩ ih
  repeat(first|refine lrun_ ?_|(refine lo_boxA rfl rfl ?_;intro _ _ _)|(refine lo_box1 rfl rfl rfl ?_;intro _ _ _)|(refine lo_alloc rfl ?_;intro _ _ _))
  by_cases hml : m < l.length
  · have hl0 : l ≠ [] := by rintro rfl; simp at hml
    have hrm := hrl m
    refine l_yes rfl (by omega) ?_
    have go : parE l ((m : Int), 0) = false ∨ (l.getD m []).length ≠ 0 → ∀ σ' M', SubB σ' [(0, .slice A l.length c), (4, .pointer (some ⟨g4, 0, none⟩)), (5, .int .i64 ((m + 1 : Nat) : Int))] →
      MSub [(g4, cb [.int .i64 0, .int .i64 0] 24)] M' → _ := fun hno σ' M' hs hM => ih (m + 1) ⟨by omega, by omega, fun j h1 h2 h3 => by
        by_cases e : j = m
        · subst e; exact hno.elim id fun h => absurd h3 h
        · exact hm j h1 (by omega) h3⟩ (by omega) σ' M' hs hM
    by_cases he : (l.getD m []).length = 0
    · obtain ⟨j, rfl⟩ : ∃ j, m = j + 1 := ⟨m - 1, by omega⟩
      have hrj := hrl j
      repeat(first|refine lrun_ ?_|(refine lo_boxA rfl rfl ?_;intro _ _ _)|(refine lo_box1 rfl rfl rfl ?_;intro _ _ _)|(refine lo_alloc rfl ?_;intro _ _ _))
      rw [show (((j + 1 : Nat) : Int)) - 1 = (j : Nat) by omega]
      repeat(first|refine lrun_ ?_|(refine lo_boxA rfl rfl ?_;intro _ _ _)|(refine lo_box1 rfl rfl rfl ?_;intro _ _ _)|(refine lo_alloc rfl ?_;intro _ _ _))
      refine l_ite rfl (fun hlt => ?_) (fun hge => ?_)
      · repeat(first|refine lrun_ ?_|(refine lo_boxA rfl rfl ?_;intro _ _ _)|(refine lo_box1 rfl rfl rfl ?_;intro _ _ _)|(refine lo_alloc rfl ?_;intro _ _ _))
        refine l_retR1 rfl (by repeat(first|exact LRes.nil|refine LRes.tmp rfl ?_|refine LRes.agg rfl (by(repeat(first|exact MIn.hd|refine MIn.tl ?_));done) (by rfl) (by rfl) ?_|refine LRes.one rfl (by(repeat(first|exact MIn.hd|refine MIn.tl ?_));done) (by rfl) ?_)) fun w hw => ⟨hw.org, _, rfl, (hS hl0).1 (j + 1) hml (.inl ⟨rfl, by omega⟩) he (by rw [parE_at, decide_eq_true_iff]; exact ⟨he, by omega, by rw [Nat.add_sub_cancel]; omega⟩) fun q h1 h2 h3 h4 => hm q ?_ ?_ h4⟩
        · unfold On at h1; omega
        · unfold On at h2; omega
      · refine l_go .skip ?_
        repeat(first|refine lrun_ ?_|(refine lo_boxA rfl rfl ?_;intro _ _ _)|(refine lo_box1 rfl rfl rfl ?_;intro _ _ _)|(refine lo_alloc rfl ?_;intro _ _ _))
        exact go (.inl (by rw [parE_at, decide_eq_false_iff_not]; rw [Nat.add_sub_cancel]; omega)) _ _ (by repeat (first | exact SubB.nil | refine SubB.cons rfl ?_)) (by repeat(first|exact MSub.refl|refine MSub.keep rfl ?_|exact MSub.nil|apply MSub.drop))
    · repeat(first|refine lrun_ ?_|(refine lo_boxA rfl rfl ?_;intro _ _ _)|(refine lo_box1 rfl rfl rfl ?_;intro _ _ _)|(refine lo_alloc rfl ?_;intro _ _ _))
      refine l_false rfl ?_
      refine l_go .skip ?_
      repeat(first|refine lrun_ ?_|(refine lo_boxA rfl rfl ?_;intro _ _ _)|(refine lo_box1 rfl rfl rfl ?_;intro _ _ _)|(refine lo_alloc rfl ?_;intro _ _ _))
      exact go (.inr he) _ _ (by repeat (first | exact SubB.nil | refine SubB.cons rfl ?_)) (by repeat(first|exact MSub.refl|refine MSub.keep rfl ?_|exact MSub.nil|apply MSub.drop))
  · refine l_no rfl (by omega) ?_
    repeat(first|refine lrun_ ?_|(refine lo_boxA rfl rfl ?_;intro _ _ _)|(refine lo_box1 rfl rfl rfl ?_;intro _ _ _)|(refine lo_alloc rfl ?_;intro _ _ _))
    refine lo_call (n_call rfl) rfl (fun w hw => lastP_calls (Kn.sl hw.org h)) ?_
    repeat(first|refine lrun_ ?_|(refine lo_boxA rfl rfl ?_;intro _ _ _)|(refine lo_box1 rfl rfl rfl ?_;intro _ _ _)|(refine lo_alloc rfl ?_;intro _ _ _))
    refine l_retR1 rfl (by repeat(first|exact LRes.nil|refine LRes.tmp rfl ?_|refine LRes.agg rfl (by(repeat(first|exact MIn.hd|refine MIn.tl ?_));done) (by rfl) (by rfl) ?_|refine LRes.one rfl (by(repeat(first|exact MIn.hd|refine MIn.tl ?_));done) (by rfl) ?_)) fun w hw => ⟨hw.org, _, rfl, ?_⟩
    by_cases hl0 : l = []
    · exact .inl ⟨hl0, by unfold lastM; rw [if_pos hl0]⟩
    · exact (hS hl0).2 fun j h1 h2 h3 => hm j (by unfold On at h1; omega) (by omega) h3
set_option maxHeartbeats 1000000 in
theorem paraPrev_calls (hs0 : l.length + runesM l ≤ 4000) (h : Sl kRow F w v l) (hp : P64 p) : CallsR Try.prog 24 #[v, posV p] w fun u w' => Kn w w' ∧ ∃ q, u = posV q ∧ SeekM (parB l) l (-1) p q := by
  obtain ⟨A, c, ad, rV, rc, ra, rfl, hR⟩ := h.rws
  have hrl := hR.rl
  have hll := hR.len
  obtain ⟨i0, k0, hcl, hi0, hnil⟩ := clip_nat l p
  have hb : i0 < 140737488355328 + 1 := by
    by_cases hl0 : l = []
    · have := (hnil hl0).1; omega
    · have := hi0 hl0; omega
  have hS := fun hl0 : l ≠ [] => seek_lines (f := parB l) (by_ := -1) (p := p) (fun q _ hq => by unfold parB at hq; exact (of_decide_eq_true hq).1) hcl hl0
  refine l_enter (fun _ => False) Try.func24 rfl rfl ?_
  repeat(first|refine lrun_ ?_|(refine lo_boxA rfl rfl ?_;intro _ _ _)|(refine lo_box1 rfl rfl rfl ?_;intro _ _ _)|(refine lo_alloc rfl ?_;intro _ _ _))
  rename_i g3 _ _ g4 _ _
  refine lo_call (n_call rfl) rfl (fun w hw => clipP_calls (Kn.sl hw.org h) hp) ?_
  rw [hcl]
  repeat(first|refine lrun_ ?_|(refine lo_boxA rfl rfl ?_;intro _ _ _)|(refine lo_box1 rfl rfl rfl ?_;intro _ _ _)|(refine lo_alloc rfl ?_;intro _ _ _))
  refine l_while (fun m => m) (fun m : Nat => [(0, .slice A l.length c), (4, .pointer (some ⟨g4, 0, none⟩)), (5, .int .i64 ((m : Int) - 1))]) (fun _ => [(g4, cb [.int .i64 0, .int .i64 0] 24)]) (fun m => m ≤ i0 ∧ ∀ j, m ≤ j → j < i0 → (l.getD j []).length = 0 → parB l ((j : Int), 0) = false) i0 (by repeat (first | exact SubB.nil | refine SubB.cons rfl ?_)) (by repeat(first|exact MSub.refl|refine MSub.keep rfl ?_|exact MSub.nil|apply MSub.drop)) ⟨by omega, fun j _ _ => by omega⟩ ?_
  rintro m ⟨hm0, hm⟩ ih
  repeat(first|refine lrun_ ?_|(refine lo_boxA rfl rfl ?_;intro _ _ _)|(refine lo_box1 rfl rfl rfl ?_;intro _ _ _)|(refine lo_alloc rfl ?_;intro _ _ _))
  cases m with
  | zero =>
    refine l_no rfl (by omega) ?_
    repeat(first|refine lrun_ ?_|(refine lo_boxA rfl rfl ?_;intro _ _ _)|(refine lo_box1 rfl rfl rfl ?_;intro _ _ _)|(refine lo_alloc rfl ?_;intro _ _ _))
    refine l_retR1 rfl (by repeat(first|exact LRes.nil|refine LRes.tmp rfl ?_|refine LRes.agg rfl (by(repeat(first|exact MIn.hd|refine MIn.tl ?_));done) (by rfl) (by rfl) ?_|refine LRes.one rfl (by(repeat(first|exact MIn.hd|refine MIn.tl ?_));done) (by rfl) ?_)) fun w hw => ⟨hw.org, ((0, 0) : Ps), rfl, ?_⟩
    by_cases hl0 : l = []
    · exact .inl ⟨hl0, rfl⟩
    · exact (hS hl0).2 fun j h1 h2 h3 => hm j (by omega) (by unfold On at h1; omega) h3
  | succ m =>
    have hl0 : l ≠ [] := by intro e; have := (hnil e).1; omega
    have hil := hi0 hl0
    have hrm := hrl m
    have hrn := hrl (m + 1)
    refine l_yes rfl (by omega) ?_
    rw [show (((m + 1 : Nat) : Int)) - 1 = (m : Nat) by omega]
    have go : parB l ((m : Int), 0) = false ∨ (l.getD m []).length ≠ 0 → ∀ σ' M', SubB σ' [(0, .slice A l.length c), (4, .pointer (some ⟨g4, 0, none⟩)), (5, .int .i64 ((m : Int) - 1))] →
      MSub [(g4, cb [.int .i64 0, .int .i64 0] 24)] M' → _ := fun hno σ' M' hs hM => ih m ⟨by omega, fun j h1 h2 h3 => by
        by_cases e : j = m
        · subst e; exact hno.elim id fun h => absurd h3 h
        · exact hm j (by omega) h2 h3⟩ (by omega) σ' M' hs hM
    by_cases he : (l.getD m []).length = 0
    · have hml : m + 1 < l.length := by omega
      repeat(first|refine lrun_ ?_|(refine lo_boxA rfl rfl ?_;intro _ _ _)|(refine lo_box1 rfl rfl rfl ?_;intro _ _ _)|(refine lo_alloc rfl ?_;intro _ _ _))
      rw [show (m : Int) + 1 = ((m + 1 : Nat) : Int) from rfl]
      repeat(first|refine lrun_ ?_|(refine lo_boxA rfl rfl ?_;intro _ _ _)|(refine lo_box1 rfl rfl rfl ?_;intro _ _ _)|(refine lo_alloc rfl ?_;intro _ _ _))
      refine l_ite rfl (fun hlt => ?_) (fun hge => ?_)
      · repeat(first|refine lrun_ ?_|(refine lo_boxA rfl rfl ?_;intro _ _ _)|(refine lo_box1 rfl rfl rfl ?_;intro _ _ _)|(refine lo_alloc rfl ?_;intro _ _ _))
        refine l_retR1 rfl (by repeat(first|exact LRes.nil|refine LRes.tmp rfl ?_|refine LRes.agg rfl (by(repeat(first|exact MIn.hd|refine MIn.tl ?_));done) (by rfl) (by rfl) ?_|refine LRes.one rfl (by(repeat(first|exact MIn.hd|refine MIn.tl ?_));done) (by rfl) ?_)) fun w hw => ⟨hw.org, _, rfl, (hS hl0).1 m (by omega) (.inr ⟨rfl, by omega⟩) he (by rw [parB_at, decide_eq_true_iff]; exact ⟨he, hml, Int.ofNat_lt.1 hlt⟩) fun q h1 h2 h3 h4 => hm q ?_ ?_ h4⟩
        · unfold On at h2; omega
        · unfold On at h1; omega
      · refine l_go .skip ?_
        repeat(first|refine lrun_ ?_|(refine lo_boxA rfl rfl ?_;intro _ _ _)|(refine lo_box1 rfl rfl rfl ?_;intro _ _ _)|(refine lo_alloc rfl ?_;intro _ _ _))
        exact go (.inl (by rw [parB_at, decide_eq_false_iff_not]; exact fun h => hge (Int.ofNat_lt.2 h.2.2))) _ _ (by repeat (first | exact SubB.nil | refine SubB.cons rfl ?_)) (by repeat(first|exact MSub.refl|refine MSub.keep rfl ?_|exact MSub.nil|apply MSub.drop))
    · repeat(first|refine lrun_ ?_|(refine lo_boxA rfl rfl ?_;intro _ _ _)|(refine lo_box1 rfl rfl rfl ?_;intro _ _ _)|(refine lo_alloc rfl ?_;intro _ _ _))
      refine l_false rfl ?_
      refine l_go .skip ?_
      repeat(first|refine lrun_ ?_|(refine lo_boxA rfl rfl ?_;intro _ _ _)|(refine lo_box1 rfl rfl rfl ?_;intro _ _ _)|(refine lo_alloc rfl ?_;intro _ _ _))
      exact go (.inr he) _ _ (by repeat (first | exact SubB.nil | refine SubB.cons rfl ?_)) (by repeat(first|exact MSub.refl|refine MSub.keep rfl ?_|exact MSub.nil|apply MSub.drop))
end
end Go.Ink
