/-
  KeysCounts.
-/
import Derived.Test.YtbmjcjlenbgpkaaK8
import Derived.Test.YtbmjcjlenbgpkaaRead
import Derived.Test.YtbmjcjlenbgpkaaTb
import Derived.Test.YtbmjcjlenbgpkaaIdx
set_option linter.unusedVariables false
set_option linter.unusedSimpArgs false
namespace Go.Ink
open Go Go.Proofs Go.RowKit

/-- A number's digits. -/
def decM (n : Nat) : List Int := if n < 10 then [48 + (n : Int)] else decM (n / 10) ++ [48 + ((n % 10 : Nat) : Int)]
theorem dec_lt {n : Nat} (h : n < 10) : decM n = [48 + (n : Int)] := by rw [decM, if_pos h]
theorem dec_ge {n : Nat} (h : ¬ n < 10) : decM n = decM (n / 10) ++ [48 + ((n % 10 : Nat) : Int)] := by rw [decM, if_neg h]
theorem dec_len : ∀ (k n : Nat), n < 10 ^ (k + 1) → (decM n).length ≤ k + 1
  | 0, n, h => by rw [dec_lt (by simpa using h)]; simp
  | k + 1, n, h => by
    by_cases h1 : n < 10
    · rw [dec_lt h1]; simp
    · rw [dec_ge h1, List.length_append, List.length_singleton]
      have := dec_len k (n / 10) (by rw [Nat.pow_succ] at h; omega)
      omega
theorem dec_20 {n : Nat} (h : n < 9223372036854775808) : (decM n).length ≤ 20 := dec_len 19 n (by omega)
theorem ow_litR {G F : Nat → Prop} {w : World} {g : Nat} {x : Int} {e : TypeId} (hb : w.heap[g]? = some (cb [.int .i32 x] e)) (hG : G g) (hx : -2147483648 ≤ x ∧ x ≤ 2147483647) : Ow kRune G F w (.slice (some ⟨g, 0, none⟩) 1 1) [x] :=
  ⟨[.int .i32 x], ⟨[.int .i32 x], [], rfl, ⟨rfl, hx.1, hx.2⟩, rfl⟩, by show 1 * 4 ≤ 140737488355328; decide, .inr ⟨g, 0, 1, _, e, rfl, hG, hb, Nat.le_refl _, by decide, by show 0 + 1 * 1 ≤ 1; decide, fun j u hu => by rw [Nat.zero_add]; simpa using hu⟩⟩
set_option maxHeartbeats 8000000 in
theorem decimal_calls (n : Nat) : n < 9223372036854775808 → ∀ w, CallsR Try.prog 22 #[.int .i64 (n : Int)] w fun u w' => Kn w w' ∧ Ow kRune (noB w) (fun _ => False) w' u (decM n) := by
  induction n using Nat.strongRecOn with
  | _ n ih =>
    intro hn w
    refine l_enter (args := [.int .i64 (n : Int)]) (fun _ => False) Try.func22 rfl rfl ?_
    repeat(first|refine lrun_ ?_|(refine lo_boxA rfl rfl ?_;intro _ _ _)|(refine lo_box1 rfl rfl rfl ?_;intro _ _ _)|(refine lo_alloc rfl ?_;intro _ _ _))
    by_cases h1 : n < 10
    · refine l_yes rfl (by omega) ?_
      repeat(first|refine lrun_ ?_|(refine lo_boxA rfl rfl ?_;intro _ _ _)|(refine lo_box1 rfl rfl rfl ?_;intro _ _ _)|(refine lo_alloc rfl ?_;intro _ _ _))
      refine lo_lit (cs := [.int .i32 (48 + (n : Int))]) rfl (by decide) (by kernel_rfl) rfl ?_
      intro g hg hg'
      repeat(first|refine lrun_ ?_|(refine lo_boxA rfl rfl ?_;intro _ _ _)|(refine lo_box1 rfl rfl rfl ?_;intro _ _ _)|(refine lo_alloc rfl ?_;intro _ _ _))
      rw [dec_lt h1]
      exact l_ret1 rfl rfl fun w' hw => ⟨hw.org, ow_litR (hw.mem g _ .hd) (by unfold noB; omega) (by omega)⟩
    · have hl := dec_20 (n := n / 10) (by omega)
      refine l_no rfl (by omega) ?_
      refine l_go .skip ?_
      repeat(first|refine lrun_ ?_|(refine lo_boxA rfl rfl ?_;intro _ _ _)|(refine lo_box1 rfl rfl rfl ?_;intro _ _ _)|(refine lo_alloc rfl ?_;intro _ _ _))
      refine lo_rn (v := .int .i64 ((n / 10 : Nat) : Int)) (fun _ => ?_) rfl ?_
      · have h2 : IntKind.wrap .i64 ((n : Int).tdiv 10) = ((n / 10 : Nat) : Int) := by
          rw [Int.tdiv_eq_ediv_of_nonneg (by omega)]
          rw [wrap_in64 (by omega) (by omega)]
          omega
        exact h2 ▸ r_quo rfl rfl (by decide)
      refine lo_callM (n_call rfl) rfl (fun w' hw => ih (n / 10) (by omega) (by omega) w') ?_
      intro w1 u w2 hw1 kn1 ko1 hO
      have hs1 := hw1.kp.size
      have hs0 := hw1.org.size
      have hO2 : Og kRune w w2 (MK []) (fun _ => False) u (decM (n / 10)) := hO.mono (fun k hk _ => ⟨by unfold noB at hk; omega, mk_nil⟩) fun _ h _ => h
      obtain ⟨Au, cu, rfl, _⟩ := hO.form
      repeat(first|refine lrun_ ?_|(refine lo_boxA rfl rfl ?_;intro _ _ _)|(refine lo_box1 rfl rfl rfl ?_;intro _ _ _)|(refine lo_alloc rfl ?_;intro _ _ _))
      refine lo_rn (v := .int .i64 ((n % 10 : Nat) : Int)) (fun _ => ?_) rfl ?_
      · have h2 : (n : Int).tmod 10 = ((n % 10 : Nat) : Int) := by
          rw [Int.tmod_eq_emod_of_nonneg (by omega)]
          omega
        exact h2 ▸ r_rem rfl rfl (by decide)
      repeat(first|refine lrun_ ?_|(refine lo_boxA rfl rfl ?_;intro _ _ _)|(refine lo_box1 rfl rfl rfl ?_;intro _ _ _)|(refine lo_alloc rfl ?_;intro _ _ _))
      refine lo_lit (cs := [.int .i32 (48 + ((n % 10 : Nat) : Int))]) rfl (by decide) (by kernel_rfl) rfl ?_
      intro g hg hg'
      refine lo_append1 (d := kRune) (F := fun _ => False) (q := 48 + ((n % 10 : Nat) : Int)) rfl rfl hO2 (fun _ h => h.elim) .hd (fun w' hw' => ⟨rfl, by omega, by omega⟩) (by show ((decM (n / 10)).length + 1) * 4 ≤ 140737488355328; omega) rfl rfl rfl rfl ?_
      intro w3 A3 n3 w4 hw3 ko3 kp3 hold hO4
      have hs3 := hw3.org.size
      repeat(first|refine lrun_ ?_|(refine lo_boxA rfl rfl ?_;intro _ _ _)|(refine lo_box1 rfl rfl rfl ?_;intro _ _ _)|(refine lo_alloc rfl ?_;intro _ _ _))
      rw [dec_ge h1]
      refine l_ret1 rfl rfl fun w' hw => ⟨hw.org, ?_⟩
      exact (hO4.keep fun k hk => hw.kp.block k (hO4.block k hk).2 (hO4.block k hk).1.2).mono (fun k hk _ => by have := hk.1; unfold noB; omega) fun _ h _ => h
theorem mul_max {a b : Int} (ha : 1 ≤ a) (hb : 1 ≤ b) (h : ¬ (2147483647 : Int).tdiv b < a) : 0 ≤ a * b ∧ a * b ≤ 2147483647 := times_le h (by omega) (by omega)
theorem product_calls {w : World} {a b : Int} (ha : 1 ≤ a ∧ a ≤ 2147483647) (hb : 1 ≤ b ∧ b ≤ 2147483647) : CallsR Try.prog 24 #[.int .i64 a, .int .i64 b] w fun u w' => Kn w w' ∧ u = .int .i64 (timesM a b) := by
  refine l_enter (args := [.int .i64 a, .int .i64 b]) (fun _ => False) Try.func24 rfl rfl ?_
  repeat(first|refine lrun_ ?_|(refine lo_boxA rfl rfl ?_;intro _ _ _)|(refine lo_box1 rfl rfl rfl ?_;intro _ _ _)|(refine lo_alloc rfl ?_;intro _ _ _))
  refine lo_rn (v := .int .i64 ((2147483647 : Int).tdiv b)) (fun _ => by have := quo_wrap (b := b) (by omega); exact this ▸ r_quo rfl rfl (by omega)) rfl ?_
  unfold timesM
  rw [if_neg (by omega)]
  by_cases h : (2147483647 : Int).tdiv b < a
  · rw [if_pos h]
    repeat(first|refine lrun_ ?_|(refine lo_boxA rfl rfl ?_;intro _ _ _)|(refine lo_box1 rfl rfl rfl ?_;intro _ _ _)|(refine lo_alloc rfl ?_;intro _ _ _))
    refine l_yes rfl h ?_
    repeat(first|refine lrun_ ?_|(refine lo_boxA rfl rfl ?_;intro _ _ _)|(refine lo_box1 rfl rfl rfl ?_;intro _ _ _)|(refine lo_alloc rfl ?_;intro _ _ _))
    exact l_ret1 rfl rfl fun w' hw => ⟨hw.org, rfl⟩
  · rw [if_neg h]
    have := mul_max ha.1 hb.1 h
    repeat(first|refine lrun_ ?_|(refine lo_boxA rfl rfl ?_;intro _ _ _)|(refine lo_box1 rfl rfl rfl ?_;intro _ _ _)|(refine lo_alloc rfl ?_;intro _ _ _))
    refine l_no rfl h ?_
    refine l_go .skip ?_
    repeat(first|refine lrun_ ?_|(refine lo_boxA rfl rfl ?_;intro _ _ _)|(refine lo_box1 rfl rfl rfl ?_;intro _ _ _)|(refine lo_alloc rfl ?_;intro _ _ _))
    exact l_ret1 rfl rfl fun w' hw => ⟨hw.org, rfl⟩
/-- Runes that are taken, one by one, with nothing told: what is left. -/
def goesM : List Int → Pst → Option Pst
  | [], s => some s
  | r :: t, s => if (feedM s r false).1.2 = 0 then goesM t (feedM s r false).2 else none
theorem goes_app : ∀ (a b : List Int) (s : Pst), goesM (a ++ b) s = (goesM a s).bind (goesM b)
  | [], _, _ => rfl
  | r :: t, b, s => by
    simp only [List.cons_append, goesM]
    split
    · exact goes_app t b _
    · rfl
theorem goes_run : ∀ (l : List Int) (x : (Cmd × Int) × Pst) (s' : Pst), goesM l x.2 = some s' → (runM false l x).2 = s' ∧ ∀ i, i < l.length → (runM false (l.take (i + 1)) x).1.2 = 0
  | [], x, s', h => ⟨Option.some.inj h, fun i hi => by simp at hi⟩
  | r :: t, x, s', h => by
    simp only [goesM] at h
    split at h
    · next h0 =>
      obtain ⟨h1, h2⟩ := goes_run t (feedM x.2 r false) s' h
      refine ⟨h1, fun i hi => ?_⟩
      cases i with
      | zero => exact h0
      | succ i => exact h2 i (by simpa using hi)
    · cases h
def afT (n : Wa) : Prop := n = .start ∨ n = .after
theorem feed_dig {h : List Int} {n : Wa} {c : Cmd} {cnt d : Int} (hn : afT n) (h0 : 0 ≤ d ∧ d ≤ 9) (h1 : ¬ (d = 0 ∧ cnt = 0)) : feedM ⟨h, n, c, cnt, false⟩ (48 + d) false = ((cmd0, 0), ⟨h ++ [48 + d], n, c, if 2147483647 < cnt * 10 + d then 2147483647 else cnt * 10 + d, false⟩) := by
  have hd : isDg (48 + d) cnt = true := by
    unfold isDg
    exact decide_eq_true ⟨by omega, by omega, fun h => h1 ⟨by omega, h.2⟩⟩
  have hg : dgN (48 + d) cnt = if 2147483647 < cnt * 10 + d then 2147483647 else cnt * 10 + d := by
    unfold dgN
    rw [if_pos hd, show 48 + d - 48 = d by omega]
  rcases hn with rfl | rfl
  · simp only [feedM, ite_self, take_start, hd, if_true, fedM, hg]
  · simp only [feedM, ite_self, take_after, hd, if_true, fedM, hg]
theorem goes_dec (w : Wa) (hw : afT w) (c : Cmd) (n : Nat) : 1 ≤ n → ∀ h, goesM (decM n) ⟨h, w, c, 0, false⟩ = some ⟨h ++ decM n, w, c, min (n : Int) 2147483647, false⟩ := by
  induction n using Nat.strongRecOn with
  | _ n ih =>
    intro h1 h
    by_cases h2 : n < 10
    · rw [dec_lt h2]
      have := feed_dig (h := h) (c := c) (cnt := 0) (d := (n : Int)) hw (by omega) (by omega)
      simp only [goesM, this, if_true]
      congr 2
      split <;> omega
    · rw [dec_ge h2, goes_app, ih (n / 10) (by omega) (by omega) h]
      have := feed_dig (h := h ++ decM (n / 10)) (c := c) (cnt := min ((n / 10 : Nat) : Int) 2147483647) (d := ((n % 10 : Nat) : Int)) hw (by omega) (by omega)
      simp only [Option.bind_some, goesM, this, if_true, List.append_assoc]
      congr 2
      split <;> omega
/-- What is told of n d m j. -/
theorem counts_goes {n m : Nat} (h1 : 1 ≤ n) (h2 : 1 ≤ m) : ∃ s, goesM (decM n ++ [100] ++ decM m) pst0 = some s ∧ feedM s 106 false = ((⟨0, timesM (min (n : Int) 2147483647) (min (m : Int) 2147483647), 100, 106, 0, 0, false⟩, 1), pst0) := by
  have e1 := goes_dec .start (.inl rfl) cmd0 n h1 []
  have hc : min (n : Int) 2147483647 ≠ 0 := by omega
  have hc2 : min (m : Int) 2147483647 ≠ 0 := by omega
  have e2 : ∀ h (x : Int), x ≠ 0 → feedM ⟨h, .start, cmd0, x, false⟩ 100 false = ((cmd0, 0), ⟨h ++ [100], .after, ⟨0, x, 100, 0, 0, 0, false⟩, 0, false⟩) := by
    intro h x hx
    have hd : isDg 100 x = false := by unfold isDg; exact decide_eq_false fun h => by omega
    have hcm : countedM cmd0 x = ⟨0, x, 0, 0, 0, 0, false⟩ := by unfold countedM; rw [if_neg hx]; rfl
    simp only [feedM, ite_self, take_start, hd, hcm]
    rfl
  have e3 := goes_dec .after (.inr rfl) ⟨0, min (n : Int) 2147483647, 100, 0, 0, 0, false⟩ m h2 ([] ++ decM n ++ [100])
  have e4 : ∀ h (x y : Int), x ≠ 0 → y ≠ 0 → feedM ⟨h, .after, ⟨0, x, 100, 0, 0, 0, false⟩, y, false⟩ 106 false = ((⟨0, timesM x y, 100, 106, 0, 0, false⟩, 1), pst0) := by
    intro h x y hx hy
    have hd : isDg 106 y = false := by unfold isDg; exact decide_eq_false fun h => by omega
    have hcm : countedM ⟨0, x, 100, 0, 0, 0, false⟩ y = ⟨0, timesM x y, 100, 0, 0, 0, false⟩ := by unfold countedM; rw [if_neg hy]
    simp only [feedM, ite_self, take_after, hd, hcm]
    rfl
  refine ⟨⟨[] ++ decM n ++ [100] ++ decM m, .after, _, _, false⟩, ?_, e4 ([] ++ decM n ++ [100] ++ decM m) _ _ hc hc2⟩
  · rw [goes_app, goes_app, e1]
    simp only [Option.bind_some, goesM, e2 _ _ hc, if_true]
    exact e3
set_option maxHeartbeats 16000000 in
theorem law_KeysCounts {W : World} {a b : Int} (ha : -9223372036854775808 ≤ a ∧ a ≤ 9223372036854775807) (hb : -9223372036854775808 ≤ b ∧ b ≤ 9223372036854775807) : CallsR Try.prog 5 #[.int .i64 a, .int .i64 b] W fun r w' => r = .bool true ∧ Kn W w' := by
  suffices h : CallsR Try.prog 5 #[.int .i64 a, .int .i64 b] W fun r w' => Kn W w' ∧ r = .bool true from h.mono fun _ _ ⟨a, b⟩ => ⟨b, a⟩
  refine l_enter (args := [.int .i64 a, .int .i64 b]) (fun _ => False) Try.func5 rfl rfl ?_
  by_cases h1 : a < 1
  · repeat(first|refine lrun_ ?_|(refine lo_boxA rfl rfl ?_;intro _ _ _)|(refine lo_box1 rfl rfl rfl ?_;intro _ _ _)|(refine lo_alloc rfl ?_;intro _ _ _))
    refine l_true rfl ?_
    repeat(first|refine lrun_ ?_|(refine lo_boxA rfl rfl ?_;intro _ _ _)|(refine lo_box1 rfl rfl rfl ?_;intro _ _ _)|(refine lo_alloc rfl ?_;intro _ _ _))
    refine lo_call (n_call (args := []) rfl) rfl (fun w' hw => awake_calls) ?_
    repeat(first|refine lrun_ ?_|(refine lo_boxA rfl rfl ?_;intro _ _ _)|(refine lo_box1 rfl rfl rfl ?_;intro _ _ _)|(refine lo_alloc rfl ?_;intro _ _ _))
    exact l_ret1 rfl rfl fun w' hw => ⟨hw.org, rfl⟩
  by_cases h2 : b < 1
  · repeat(first|refine lrun_ ?_|(refine lo_boxA rfl rfl ?_;intro _ _ _)|(refine lo_box1 rfl rfl rfl ?_;intro _ _ _)|(refine lo_alloc rfl ?_;intro _ _ _))
    refine l_yes rfl h2 ?_
    repeat(first|refine lrun_ ?_|(refine lo_boxA rfl rfl ?_;intro _ _ _)|(refine lo_box1 rfl rfl rfl ?_;intro _ _ _)|(refine lo_alloc rfl ?_;intro _ _ _))
    refine lo_call (n_call (args := []) rfl) rfl (fun w' hw => awake_calls) ?_
    repeat(first|refine lrun_ ?_|(refine lo_boxA rfl rfl ?_;intro _ _ _)|(refine lo_box1 rfl rfl rfl ?_;intro _ _ _)|(refine lo_alloc rfl ?_;intro _ _ _))
    exact l_ret1 rfl rfl fun w' hw => ⟨hw.org, rfl⟩
  obtain ⟨n, rfl⟩ : ∃ n : Nat, a = n := ⟨a.toNat, by omega⟩
  obtain ⟨m, rfl⟩ : ∃ n : Nat, b = n := ⟨b.toNat, by omega⟩
  have hl1 := dec_20 (n := n) (by omega)
  have hl2 := dec_20 (n := m) (by omega)
  obtain ⟨sE, hgo, hfin⟩ := counts_goes (n := n) (m := m) (by omega) (by omega)
  have hmin : ∀ x : Int, min x 2147483647 = if 2147483647 < x then 2147483647 else x := by intro x; split <;> omega
  rw [hmin, hmin] at hfin
  repeat(first|refine lrun_ ?_|(refine lo_boxA rfl rfl ?_;intro _ _ _)|(refine lo_box1 rfl rfl rfl ?_;intro _ _ _)|(refine lo_alloc rfl ?_;intro _ _ _))
  refine l_no rfl h2 ?_
  refine l_go .skip ?_
  repeat(first|refine lrun_ ?_|(refine lo_boxA rfl rfl ?_;intro _ _ _)|(refine lo_box1 rfl rfl rfl ?_;intro _ _ _)|(refine lo_alloc rfl ?_;intro _ _ _))
  refine lo_callM (n_call rfl) rfl (fun w' hw => decimal_calls n (by omega) w') ?_
  intro w1 u w2 hw1 kn1 ko1 hO
  have hs1 := hw1.org.size
  have hO2 : Og kRune W w2 (MK []) (fun _ => False) u (decM n) := hO.mono (fun k hk _ => ⟨by unfold noB at hk; omega, mk_nil⟩) fun _ h _ => h
  obtain ⟨Au, cu, rfl, _⟩ := hO.form
  clear hO
  repeat(first|refine lrun_ ?_|(refine lo_boxA rfl rfl ?_;intro _ _ _)|(refine lo_box1 rfl rfl rfl ?_;intro _ _ _)|(refine lo_alloc rfl ?_;intro _ _ _))
  refine lo_lit (cs := [.int .i32 100]) rfl (by decide) (by kernel_rfl) rfl ?_
  intro g21 hg21 hg21'
  refine lo_append1 (d := kRune) (F := fun _ => False) (q := 100) rfl rfl hO2 (fun _ h => h.elim) .hd (fun w' hw' => ⟨rfl, by decide, by decide⟩) (by show ((decM n).length + 1) * 4 ≤ 140737488355328; omega) rfl rfl rfl rfl ?_
  intro w3 A3 n3 w4 hw3 ko3 kp3 hold hO4
  have hs3 := hw3.org.size
  repeat(first|refine lrun_ ?_|(refine lo_boxA rfl rfl ?_;intro _ _ _)|(refine lo_box1 rfl rfl rfl ?_;intro _ _ _)|(refine lo_alloc rfl ?_;intro _ _ _))
  refine lo_callM (n_call rfl) rfl (fun w' hw => decimal_calls m (by omega) w') ?_
  intro w5 u w6 hw5 kn5 ko5 hO6
  have hs5 := hw5.org.size
  have hs5' := hw5.kp.size
  have hs6 := kn5.size
  have hO4' := (hO4.keep (F' := fun _ => False) fun k hk => hw5.kp.block k (hO4.block k hk).2 (hO4.block k hk).1.2)
  have hO5 : Og kRune W w6 (MK [(g21, cb [.int .i32 100] 21)]) (fun _ => False) (.slice A3 (decM n ++ [100]).length n3) (decM n ++ [100]) := (hO4'.keep fun k hk => kn5.block k (hO4'.block k hk).2 id).mono (fun k hk _ => ⟨hk.1, fun hm => hk.2 (mk_keys hm rfl)⟩) fun _ h _ => h
  obtain ⟨Ab, cb', rfl, _⟩ := hO6.form
  repeat(first|refine lrun_ ?_|(refine lo_boxA rfl rfl ?_;intro _ _ _)|(refine lo_box1 rfl rfl rfl ?_;intro _ _ _)|(refine lo_alloc rfl ?_;intro _ _ _))
  refine lo_appendS (d := kRune) rfl rfl hO5 (fun w' hw' => (Kp.ow hw'.kp hO6 (fun k hk hm => by have := hw5.lt hm; unfold noB at hk; omega) fun _ h => h.elim).slF (F' := fun k => noB w5 k) (fun _ h => h) fun _ h => h.elim) (fun k hk e => by have := (hO4'.block k e).2; unfold noB at hk; omega) (by show ((decM n ++ [100]).length + (decM m).length) * 4 ≤ 140737488355328; rw [List.length_append, List.length_singleton]; omega) rfl rfl rfl rfl ?_
  intro w7 A7 n7 w8 hw7 ko7 kp7 hold7 hO8
  have hs7 := hw7.org.size
  have hlen : (decM n ++ [100] ++ decM m).length ≤ 50 := by simp only [List.length_append, List.length_singleton]; omega
  generalize decM n ++ [100] ++ decM m = l at *
  have hrow : Sl kRune (fun k => (Value.slice A7 l.length n7).ownBlock = some k) w8 (.slice A7 l.length n7) l := hO8.nE.slF (fun k hk => hk.2) fun _ h => h.elim
  have hrb : ∀ k, (Value.slice A7 l.length n7).ownBlock = some k → k < w8.heap.size := fun k hk => (hO8.block k hk).2
  have hrk : ∀ k, (Value.slice A7 l.length n7).ownBlock = some k → ¬ MK [(g21, cb [.int .i32 100] 21)] k := fun k hk => (hO8.block k hk).1.2
  clear hO2 hO4 hO4' hO5 hO6 hO8
  repeat(first|refine lrun_ ?_|(refine lo_boxA rfl rfl ?_;intro _ _ _)|(refine lo_box1 rfl rfl rfl ?_;intro _ _ _)|(refine lo_alloc rfl ?_;intro _ _ _))
  refine lo_callM (n_call (args := []) rfl) rfl (fun w' hw => newP_calls) ?_
  rintro w9 _ w10 hw9 kn9 ko9 ⟨g, rfl, hP⟩
  have hs9 := hw9.org.size
  have hs9' := hw9.kp.size
  have hs10 := kn9.size
  have hP2 : PrB W w10 (MK [(g21, cb [.int .i32 100] 21)]) (fun k => noB w9 k ∧ k < w10.heap.size) g pst0 := ⟨hP.mono fun k hk hl => ⟨hk, hl⟩, fun k hk => ⟨by have := hk.1; unfold noB at this; omega, hk.2, fun hm => by have := hw9.lt hm; have := hk.1; unfold noB at this; omega⟩⟩
  have hrow2 : Sl kRune (fun k => (Value.slice A7 l.length n7).ownBlock = some k) w10 (.slice A7 l.length n7) l := Kn.sl kn9 (Kp.sl hw9.kp hrow hrk)
  clear hrow
  repeat(first|refine lrun_ ?_|(refine lo_boxA rfl rfl ?_;intro _ _ _)|(refine lo_box1 rfl rfl rfl ?_;intro _ _ _)|(refine lo_alloc rfl ?_;intro _ _ _))
  refine l_false rfl ?_
  refine l_go .skip ?_
  repeat(first|refine lrun_ ?_|(refine lo_boxA rfl rfl ?_;intro _ _ _)|(refine lo_box1 rfl rfl rfl ?_;intro _ _ _)|(refine lo_alloc rfl ?_;intro _ _ _))
  refine l_whileB (T := Nat) (fun i => l.length - i) (fun i => [(0, .int .i64 (n : Int)), (1, .int .i64 (m : Int)), (5, .slice A7 l.length n7), (6, .pointer (some ⟨g, 0, none⟩)), (7, .int .i64 (i : Int))]) (fun _ => [])
    (fun i b => i ≤ l.length ∧ ∃ D, PrB W b (MK []) D g (runM false (l.take i) fed0).2 ∧ Sl kRune (fun k => (Value.slice A7 l.length n7).ownBlock = some k) b (.slice A7 l.length n7) l ∧ ∀ k, (Value.slice A7 l.length n7).ownBlock = some k → ¬ D k ∧ k < b.heap.size) 0 (by repeat (first | exact SubB.nil | refine SubB.cons rfl ?_)) (by repeat(first|exact MSub.refl|refine MSub.keep rfl ?_|exact MSub.nil|apply MSub.drop)) (fun w' hw => ?_) ?_
  · have := hw.kp.size
    exact ⟨Nat.zero_le _, _, hP2.re hw .nil, Kp.sl hw.kp hrow2 fun k hk => hrk k hk, fun k hk => ⟨fun hd => by have := hrb k hk; have := hd.1; unfold noB at this; omega, by have := hrb k hk; omega⟩⟩
  rintro i b ⟨hi, D, hPb, hsl, hdj⟩ hkb ih
  have hok := run_ok false (l.take i) fed0 pst0_ok
  have hhl : (runM false (l.take i) fed0).2.held.length ≤ i := by
    have := run_held false (l.take i) fed0
    rw [List.length_take] at this
    simp at this
    omega
  by_cases hlt : i < l.length
  · have hti : l.take (i + 1) = l.take i ++ [l.getD i 0] := by
      rw [List.take_succ_eq_append_getElem hlt, List.getD_eq_getElem?_getD, List.getElem?_eq_getElem hlt]
      rfl
    have hrn : runM false (l.take (i + 1)) fed0 = feedM (runM false (l.take i) fed0).2 (l.getD i 0) false := by rw [hti, run_snoc]
    have hmore := (goes_run l fed0 sE hgo).2 i hlt
    have ih2 := ih (i + 1)
    rw [hrn] at ih2 hmore
    generalize runM false (l.take i) fed0 = x at *
    obtain ⟨A', c', ad, e, hX⟩ := hsl.rns
    simp only [Value.slice.injEq, true_and] at e
    obtain ⟨rfl, rfl⟩ := e
    repeat(first|refine lrun_ ?_|(refine lo_boxA rfl rfl ?_;intro _ _ _)|(refine lo_box1 rfl rfl rfl ?_;intro _ _ _)|(refine lo_alloc rfl ?_;intro _ _ _))
    refine l_yes rfl (by omega) ?_
    repeat(first|refine lrun_ ?_|(refine lo_boxA rfl rfl ?_;intro _ _ _)|(refine lo_box1 rfl rfl rfl ?_;intro _ _ _)|(refine lo_alloc rfl ?_;intro _ _ _))
    refine lo_loadB rfl (hX.run i hlt) (by rw [add_block]; exact mk_nil) rfl ?_
    refine lo_feed hPb hok (hX.lo i) (by omega) (n_call rfl) rfl ?_
    intro w5 w6 hw5 kp5 ko5 hP6
    repeat(first|refine lrun_ ?_|(refine lo_boxA rfl rfl ?_;intro _ _ _)|(refine lo_box1 rfl rfl rfl ?_;intro _ _ _)|(refine lo_alloc rfl ?_;intro _ _ _))
    refine l_no rfl (fun h => h hmore) ?_
    refine l_go .skip ?_
    repeat(first|refine lrun_ ?_|(refine lo_boxA rfl rfl ?_;intro _ _ _)|(refine lo_box1 rfl rfl rfl ?_;intro _ _ _)|(refine lo_alloc rfl ?_;intro _ _ _))
    have hsz5 := hw5.kp.size
    have hsz6 := kp5.size
    have hsl6 : Sl kRune (fun k => (Value.slice A7 l.length n7).ownBlock = some k) w6 (.slice A7 l.length n7) l := Kp.sl kp5 (Kp.sl hw5.kp hsl fun k hk => mk_nil) fun k hk => (hdj k hk).1
    have hdj6 : ∀ k, (Value.slice A7 l.length n7).ownBlock = some k → ¬ (gD D w5 k ∧ k < w6.heap.size) ∧ k < w6.heap.size := fun k hk => ⟨fun hd => hd.1.elim (hdj k hk).1 fun h => by have := (hdj k hk).2; omega, by have := (hdj k hk).2; omega⟩
    exact ih2 w6 _ ⟨hlt, _, hP6.less fun k hk => mk_keys hk rfl, hsl6, hdj6⟩ (by omega) _ _ (by repeat (first | exact SubB.nil | refine SubB.cons rfl ?_)) (by repeat(first|exact MSub.refl|refine MSub.keep rfl ?_|exact MSub.nil|apply MSub.drop)) fun w' hw' => ⟨hlt, _, hP6.re hw' (by repeat(first|exact MSub.refl|refine MSub.keep rfl ?_|exact MSub.nil|apply MSub.drop)), Kp.sl hw'.kp hsl6 fun k hk => mk_nil, fun k hk => ⟨(hdj6 k hk).1, by have := (hdj6 k hk).2; have := hw'.kp.size; omega⟩⟩
  · obtain rfl : i = l.length := by omega
    rw [List.take_of_length_le (Nat.le_refl _)] at *
    rw [(goes_run l fed0 sE hgo).1] at hPb hok hhl
    repeat(first|refine lrun_ ?_|(refine lo_boxA rfl rfl ?_;intro _ _ _)|(refine lo_box1 rfl rfl rfl ?_;intro _ _ _)|(refine lo_alloc rfl ?_;intro _ _ _))
    refine l_no rfl (by omega) ?_
    refine l_go (.exit rfl) ?_
    repeat(first|refine lrun_ ?_|(refine lo_boxA rfl rfl ?_;intro _ _ _)|(refine lo_box1 rfl rfl rfl ?_;intro _ _ _)|(refine lo_alloc rfl ?_;intro _ _ _))
    refine lo_feed hPb hok (by decide) (by omega) (n_call rfl) rfl ?_
    intro w5 w6 hw5 kp5 ko5 hP6
    rw [hfin]
    repeat(first|refine lrun_ ?_|(refine lo_boxA rfl rfl ?_;intro _ _ _)|(refine lo_box1 rfl rfl rfl ?_;intro _ _ _)|(refine lo_alloc rfl ?_;intro _ _ _))
    refine l_draw [(0, 0), (1, 0), (2, 0), (3, 0), (4, 0), (5, 0), (6, 0), (7, 0), (8, 1), (9, 0), (10, 0), (11, 0), (12, 0), (13, 1), (14, 0), (15, 0)] (by kernel_rfl) (by kernel_rfl) rfl (by kernel_rfl) ?_
    repeat(first|refine lrund_ ?_|(refine ld_open rfl ?_;first|(refine ld_boxA rfl wy_ rfl ?_;intro _ _ _)|(refine ld_box1 rfl rfl wy_ rfl ?_;intro _ _ _)|(refine ld_alloc wy_ rfl ?_;intro _ _ _)))
    refine ld_open rfl ?_; refine ld_call (n_call rfl) wy_ rfl (fun w' hw' => product_calls ⟨by omega, by omega⟩ ⟨by omega, by omega⟩) ?_
    repeat(first|refine lrund_ ?_|(refine ld_open rfl ?_;first|(refine ld_boxA rfl wy_ rfl ?_;intro _ _ _)|(refine ld_box1 rfl rfl wy_ rfl ?_;intro _ _ _)|(refine ld_alloc wy_ rfl ?_;intro _ _ _)))
    refine ld_open rfl ?_; refine ld_still (fun _ _ => r_eqC (vs := cmdL ⟨0, timesM (if 2147483647 < (n : Int) then 2147483647 else (n : Int)) (if 2147483647 < (m : Int) then 2147483647 else (m : Int)), 100, 106, 0, 0, false⟩) (us := cmdL ⟨0, timesM (if 2147483647 < (n : Int) then 2147483647 else (n : Int)) (if 2147483647 < (m : Int) then 2147483647 else (m : Int)), 100, 106, 0, 0, false⟩) rfl rfl (okv_cmd _) (okv_cmd _) (b := true) (by simp [vbs, vb])) wy_ rfl ?_
    repeat(first|refine lrund_ ?_|(refine ld_open rfl ?_;first|(refine ld_boxA rfl wy_ rfl ?_;intro _ _ _)|(refine ld_box1 rfl rfl wy_ rfl ?_;intro _ _ _)|(refine ld_alloc wy_ rfl ?_;intro _ _ _)))
    refine ld_open rfl ?_; refine ld_call (n_call (args := []) rfl) wy_ rfl (fun w' hw' => awake_calls) ?_
    repeat(first|refine lrund_ ?_|(refine ld_open rfl ?_;first|(refine ld_boxA rfl wy_ rfl ?_;intro _ _ _)|(refine ld_box1 rfl rfl wy_ rfl ?_;intro _ _ _)|(refine ld_alloc wy_ rfl ?_;intro _ _ _)))
    exact l_ret1 rfl rfl fun w' hw => ⟨hw.org, rfl⟩
end Go.Ink
