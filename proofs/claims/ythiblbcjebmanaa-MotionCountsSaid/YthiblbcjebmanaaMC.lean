/-
  Move.
  What Move tells, key by key; awake.
  Plain: where a motion leads.
-/
import Derived.Test.YthiblbcjebmanaaMB
import Derived.Test.YthiblbcjebmanaaFe
import Derived.Test.YthiblbcjebmanaaLm
import Derived.Test.YthiblbcjebmanaaStr
set_option linter.unusedVariables false
set_option linter.unusedSimpArgs false
namespace Go.Ink
open Go Go.Proofs

instance : FunT Try.prog 41 := ⟨by kernel_rfl⟩
/-- What a key's function tells from a cursor's place. -/
inductive KeyM (l : List (List Int)) (q : Ps) (m : Mo) (n : Int) (op : Bool) : Ps × Int × Bool → Prop where
  | left : m.key = 104 → KeyM l q m n op (leftM q n)
  | right : m.key = 108 → KeyM l q m n op (rightM l q n op)
  | column : m.key = 48 ∨ m.key = 124 → KeyM l q m n op (columnM l q m.key n)
  | first : m.key = 94 → KeyM l q m n op (firstM l q)
  | end_ : m.key = 36 → KeyM l q m n op (endsM l q n)
  | down : m.key = 106 ∨ m.key = 107 → KeyM l q m n op (downM l q m n)
  | lines : m.key = 43 ∨ m.key = 45 ∨ m.key = 95 → KeyM l q m n op (linesM l q m n)
  | number : m.key = 71 ∨ m.key = 103 → KeyM l q m n op (numberM l m n)
  | find (r : Ps × Int × Bool) : m.key = 102 ∨ m.key = 116 ∨ m.key = 70 ∨ m.key = 84 → FindM (rowOf l q) q m.arg n (byF m.key) (howM m.key) (shortM m.key) r → KeyM l q m n op r
  | bracket (r : Ps × Int × Bool) : m.key = 37 → BrM l q r → KeyM l q m n op r
  | words : m.key = 119 ∨ m.key = 87 ∨ m.key = 98 ∨ m.key = 66 ∨ m.key = 101 ∨ m.key = 69 → KeyM l q m n op (wordsV l (wordS l (decide (m.key < 97)) (lowK m.key)) (lowK m.key) q n op)
  | blocks : m.key = 125 ∨ m.key = 123 ∨ m.key = 41 ∨ m.key = 40 → KeyM l q m n op (repV (blockS l m.key) n q 0)
theorem ent_mem {a : Int} : ∀ {l : List (Int × Value)}, entFind a l = none ∨ ∃ v, (a, v) ∈ l ∧ entFind a l = some v
  | [] => .inl rfl
  | (b, v) :: r => by
    unfold entFind
    by_cases h : a = b
    · rw [if_pos h, h]; exact .inr ⟨v, by simp, rfl⟩
    · rw [if_neg h]
      rcases ent_mem (a := a) (l := r) with h1 | ⟨u, h1, h2⟩
      · exact .inl h1
      · exact .inr ⟨u, by simp [h1], h2⟩
theorem tab_cases (key : Int) (P : Int → Value → Prop) (h : ∀ e ∈ tabM, key = e.1 → P key e.2) : tabV key = .nilFunc ∨ P key (tabV key) := by
  rcases ent_mem (a := key) (l := tabM) with h1 | ⟨v, h1, h2⟩
  · unfold tabV; rw [h1]; exact .inl rfl
  · unfold tabV; rw [h2]; exact .inr (h _ h1 rfl)
def cntN (m : Mo) : Int := if 1 < m.count then m.count else 1
/-- What Move tells. -/
def MoveM (l : List (List Int)) (p : Ps) (m : Mo) (op : Bool) (r : Ps × Int × Bool) : Prop :=
  (tabV m.key = .nilFunc ∧ r = (clipM l p, 0, false)) ∨ ∃ r', KeyM l (clipM l p) m (cntN m) op r' ∧ r = if r'.2.2 = true then r' else (clipM l p, 0, false)
structure MoOk (m : Mo) : Prop where
  key : -2147483648 ≤ m.key ∧ m.key ≤ 2147483647
  count : -9223372036854775808 ≤ m.count ∧ m.count ≤ 9223372036854775807
  arg : -2147483648 ≤ m.arg ∧ m.arg ≤ 2147483647
  want : -9223372036854775808 ≤ m.want ∧ m.want ≤ 9223372036854775807
theorem MoOk.n {m : Mo} (h : MoOk m) : 1 ≤ cntN m ∧ cntN m ≤ 9223372036854775807 := by have := h.count; unfold cntN; split <;> omega
def moV (m : Mo) : Value := .agg #[.int .i32 m.key, .int .i64 m.count, .int .i32 m.arg, .int .i64 m.want]
section
variable {F : Nat → Prop} {w : World} {A : Option Addr} {c : Nat} {l : List (List Int)} {p q : Ps} {m : Mo} {n k : Int} {op : Bool} {v row : Value}
def KeyC (w : World) (v row : Value) (l : List (List Int)) (q : Ps) (m : Mo) (n : Int) (op : Bool) (fv : Value) : Prop :=
  ∃ f : FuncId, FnT Try.prog f ∧ fv = .func (.func f) #[] #[] ∧ ∀ w', Kn w w' → CallsR Try.prog f #[atV v q m n op row] w' fun u w'' => Kn w' w'' ∧ ∃ r, u = mvV r ∧ KeyM l q m n op r
theorem calls_key {f : FuncId} {args : Array Value} {w : World} {r : Ps × Int × Bool} {T : Ps × Int × Bool → Prop} (hr : T r) (h : CallsR Try.prog f args w fun u w' => Kn w w' ∧ u = mvV r) : CallsR Try.prog f args w fun u w' => Kn w w' ∧ ∃ r, u = mvV r ∧ T r :=
  h.mono fun _ _ ⟨h1, h2⟩ => ⟨h1, r, h2, hr⟩
theorem key_cases (hs0 : l.length + runesM l ≤ 4000) (h : Sl kRow F w v l) (hrow : Sl kRune F w row (rowOf l q)) (hq : At l q) (hm : MoOk m) (hn : 1 ≤ n) (hnl : n ≤ 9223372036854775807) : tabV m.key = .nilFunc ∨ KeyC w v row l q m n op (tabV m.key) := by
  obtain ⟨A1, c1, ad1, rfl, hX⟩ := hrow.rns
  have hl0 : l ≠ [] := by rintro rfl; have := hq.i; simp at this; omega
  have hR : ∃ A c ad rV rc ra, v = .slice A l.length c ∧ Rws F w A c l ad rV rc ra := h.rws
  obtain ⟨A, c, ad, rV, rc, ra, rfl, hR⟩ := hR
  have hP : P64 q := at_P64 hR.len hR.rl hq
  have hi := hq.i
  have hk0 : 0 ≤ q.2 ∧ q.2 ≤ (rowOf l q).length := by have := hq.k; omega
  have hrows : ∀ r ∈ l, r.length ≤ 4000 := fun r hr => by have := runes_le r hr; omega
  have hkey := hm.key
  have hwant := hm.want
  refine tab_cases m.key (fun _ fv => KeyC w _ _ l q m n op fv) fun e he hk => ?_
  simp only [tabM, List.mem_cons, List.mem_nil_iff, or_false] at he
  rcases he with rfl | rfl | rfl | rfl | rfl | rfl | rfl | rfl | rfl | rfl | rfl | rfl | rfl | rfl | rfl | rfl | rfl | rfl | rfl | rfl | rfl | rfl | rfl | rfl | rfl | rfl | rfl | rfl
  · exact ⟨_, inferInstance, rfl, fun w' hw => calls_key (.left hk) (left_calls hP (by omega) hk0.1 hnl)⟩
  · exact ⟨_, inferInstance, rfl, fun w' hw => calls_key (.right hk) (right_calls (c := c1) (rV := fun _ => A1) hP hX.len rfl hk0.1 hk0.2 (by omega) hnl)⟩
  · exact ⟨_, inferInstance, rfl, fun w' hw => calls_key (.column (by omega)) (column_calls (Kn.sl hw h) hP hn hnl)⟩
  · exact ⟨_, inferInstance, rfl, fun w' hw => calls_key (.column (by omega)) (column_calls (Kn.sl hw h) hP hn hnl)⟩
  · exact ⟨_, inferInstance, rfl, fun w' hw => calls_key (.first hk) (first_calls (Kn.sl hw hX.sl))⟩
  · exact ⟨_, inferInstance, rfl, fun w' hw => calls_key (.end_ hk) (end_calls' (Kn.sl hw h) hP hi.1 hi.2 hn hnl)⟩
  · exact ⟨_, inferInstance, rfl, fun w' hw => calls_key (.down (by omega)) (down_calls (Kn.sl hw h) hP hwant hi.1 hi.2 hn hnl)⟩
  · exact ⟨_, inferInstance, rfl, fun w' hw => calls_key (.down (by omega)) (down_calls (Kn.sl hw h) hP hwant hi.1 hi.2 hn hnl)⟩
  · exact ⟨_, inferInstance, rfl, fun w' hw => calls_key (.lines (by omega)) (lines_calls (Kn.sl hw h) hP hi.1 hi.2 hn hnl)⟩
  · exact ⟨_, inferInstance, rfl, fun w' hw => calls_key (.lines (by omega)) (lines_calls (Kn.sl hw h) hP hi.1 hi.2 hn hnl)⟩
  · exact ⟨_, inferInstance, rfl, fun w' hw => calls_key (.lines (by omega)) (lines_calls (Kn.sl hw h) hP hi.1 hi.2 hn hnl)⟩
  · exact ⟨_, inferInstance, rfl, fun w' hw => calls_key (.number (by omega)) (number_calls (Kn.sl hw h) (by omega) hn hnl)⟩
  · exact ⟨_, inferInstance, rfl, fun w' hw => calls_key (.number (by omega)) (number_calls (Kn.sl hw h) (by omega) hn hnl)⟩
  · exact ⟨_, inferInstance, rfl, fun w' hw => by obtain ⟨_, hX'⟩ := hX.move hw.st_all; exact (find_calls hX' hk0.1 hk0.2 hP hn hnl).mono fun _ _ ⟨h1, r, h2, h3⟩ => ⟨h1, r, h2, .find r (by omega) h3⟩⟩
  · exact ⟨_, inferInstance, rfl, fun w' hw => by obtain ⟨_, hX'⟩ := hX.move hw.st_all; exact (find_calls hX' hk0.1 hk0.2 hP hn hnl).mono fun _ _ ⟨h1, r, h2, h3⟩ => ⟨h1, r, h2, .find r (by omega) h3⟩⟩
  · exact ⟨_, inferInstance, rfl, fun w' hw => by obtain ⟨_, hX'⟩ := hX.move hw.st_all; exact (find_calls hX' hk0.1 hk0.2 hP hn hnl).mono fun _ _ ⟨h1, r, h2, h3⟩ => ⟨h1, r, h2, .find r (by omega) h3⟩⟩
  · exact ⟨_, inferInstance, rfl, fun w' hw => by obtain ⟨_, hX'⟩ := hX.move hw.st_all; exact (find_calls hX' hk0.1 hk0.2 hP hn hnl).mono fun _ _ ⟨h1, r, h2, h3⟩ => ⟨h1, r, h2, .find r (by omega) h3⟩⟩
  · exact ⟨_, inferInstance, rfl, fun w' hw => by obtain ⟨_, hX'⟩ := hX.move hw.st_all; exact (bracket_calls (Kn.sl hw h) hrows (by omega) hX' hi.1 hi.2 hk0.1).mono fun _ _ ⟨h1, r, h2, h3⟩ => ⟨h1, r, h2, .bracket r hk h3⟩⟩
  · exact ⟨_, inferInstance, rfl, fun w' hw => calls_key (.words (by omega)) (words_calls hs0 (Kn.sl hw h) hq hkey (by omega) hnl)⟩
  · exact ⟨_, inferInstance, rfl, fun w' hw => calls_key (.words (by omega)) (words_calls hs0 (Kn.sl hw h) hq hkey (by omega) hnl)⟩
  · exact ⟨_, inferInstance, rfl, fun w' hw => calls_key (.words (by omega)) (words_calls hs0 (Kn.sl hw h) hq hkey (by omega) hnl)⟩
  · exact ⟨_, inferInstance, rfl, fun w' hw => calls_key (.words (by omega)) (words_calls hs0 (Kn.sl hw h) hq hkey (by omega) hnl)⟩
  · exact ⟨_, inferInstance, rfl, fun w' hw => calls_key (.words (by omega)) (words_calls hs0 (Kn.sl hw h) hq hkey (by omega) hnl)⟩
  · exact ⟨_, inferInstance, rfl, fun w' hw => calls_key (.words (by omega)) (words_calls hs0 (Kn.sl hw h) hq hkey (by omega) hnl)⟩
  · exact ⟨_, inferInstance, rfl, fun w' hw => calls_key (.blocks (by omega)) (blocks_calls hs0 (Kn.sl hw h) hq (by omega) hnl)⟩
  · exact ⟨_, inferInstance, rfl, fun w' hw => calls_key (.blocks (by omega)) (blocks_calls hs0 (Kn.sl hw h) hq (by omega) hnl)⟩
  · exact ⟨_, inferInstance, rfl, fun w' hw => calls_key (.blocks (by omega)) (blocks_calls hs0 (Kn.sl hw h) hq (by omega) hnl)⟩
  · exact ⟨_, inferInstance, rfl, fun w' hw => calls_key (.blocks (by omega)) (blocks_calls hs0 (Kn.sl hw h) hq (by omega) hnl)⟩
set_option maxHeartbeats 4000000 in
theorem move_calls (hs0 : l.length + runesM l ≤ 4000) (h : Sl kRow F w v l) (hl0 : l ≠ []) (hp : P64 p) (hm : MoOk m) :
    CallsR Try.prog 10 #[v, posV p, moV m, .bool op] w fun u w' => Kn w w' ∧ ∃ r, u = mvV r ∧ MoveM l p m op r := by
  obtain ⟨A, c, ad, rV, rc, ra, rfl, hR⟩ := h.rws
  have hll := List.length_pos_iff.2 hl0
  have hat := clip_at (p := p) hl0
  have hmn := hm.n
  have hcl := fun w' (hk : Kn w w') => clipP_calls (p := p) (Kn.sl hk h) hp
  obtain ⟨i, k, hq, hi, hk, -⟩ := at_index hat
  have hrow : rowOf l (clipM l p) = l.getD i [] := by rw [hq]; rfl
  refine l_enter (fun _ => False) Try.func10 rfl rfl ?_
  repeat(first|refine lrun_ ?_|(refine lo_boxA rfl rfl ?_;intro _ _ _)|(refine lo_box1 rfl rfl rfl ?_;intro _ _ _)|(refine lo_alloc rfl ?_;intro _ _ _))
  rename_i g5 _ _ g6 _ _ g8 _ _
  refine l_no rfl (by omega) ?_
  repeat(first|refine lrun_ ?_|(refine lo_boxA rfl rfl ?_;intro _ _ _)|(refine lo_box1 rfl rfl rfl ?_;intro _ _ _)|(refine lo_alloc rfl ?_;intro _ _ _))
  refine lo_call (n_call rfl) rfl (fun w hw => hcl w hw.org) ?_
  repeat(first|refine lrun_ ?_|(refine lo_boxA rfl rfl ?_;intro _ _ _)|(refine lo_box1 rfl rfl rfl ?_;intro _ _ _)|(refine lo_alloc rfl ?_;intro _ _ _))
  have hM : ∀ r, MoveM l p m op r → MoveM l p m op r := fun _ h => h
  unfold MoveM
  rw [hq] at hat hrow hcl ⊢
  have hkc := fun w' (hk : Kn w w') => key_cases (op := op) hs0 (Kn.sl hk h) (by rw [rowOf_at]; exact Kn.sl hk (hR.rs i hi)) hat hm hmn.1 hmn.2
  refine l_draw [(0, 0), (1, 0), (2, 0), (3, 0), (4, 0), (5, 0), (6, 0), (7, 0), (8, 0), (9, 0), (10, 0), (11, 0), (12, 0), (13, 1), (14, 1)] (by kernel_rfl) (by kernel_rfl) rfl (by kernel_rfl) ?_
  repeat(first|refine lrund_ ?_|(refine ld_open rfl ?_;first|(refine ld_boxA rfl wy_ rfl ?_;intro _ _ _)|(refine ld_box1 rfl rfl wy_ rfl ?_;intro _ _ _)|(refine ld_alloc wy_ rfl ?_;intro _ _ _)))
  repeat(first|refine lrun_ ?_|(refine lo_boxA rfl rfl ?_;intro _ _ _)|(refine lo_box1 rfl rfl rfl ?_;intro _ _ _)|(refine lo_alloc rfl ?_;intro _ _ _))
  refine lo_call (n_call rfl) rfl (fun w hw => (table_calls).mono fun _ _ h => h) ?_
  rcases key_cases (op := op) hs0 h (by rw [rowOf_at]; exact hR.rs i hi) hat hm hmn.1 hmn.2 with hnil | hkey
  · rw [hnil]
    repeat(first|refine lrun_ ?_|(refine lo_boxA rfl rfl ?_;intro _ _ _)|(refine lo_box1 rfl rfl rfl ?_;intro _ _ _)|(refine lo_alloc rfl ?_;intro _ _ _))
    refine lo_rn (fun _ => r_eqNilF0 rfl) rfl ?_
    repeat(first|refine lrun_ ?_|(refine lo_boxA rfl rfl ?_;intro _ _ _)|(refine lo_box1 rfl rfl rfl ?_;intro _ _ _)|(refine lo_alloc rfl ?_;intro _ _ _))
    refine l_true rfl ?_
    repeat(first|refine lrun_ ?_|(refine lo_boxA rfl rfl ?_;intro _ _ _)|(refine lo_box1 rfl rfl rfl ?_;intro _ _ _)|(refine lo_alloc rfl ?_;intro _ _ _))
    exact l_retR3 rfl (by repeat(first|exact LRes.nil|refine LRes.tmp rfl ?_|refine LRes.agg rfl (by(repeat(first|exact MIn.hd|refine MIn.tl ?_));done) (by rfl) (by rfl) ?_|refine LRes.one rfl (by(repeat(first|exact MIn.hd|refine MIn.tl ?_));done) (by rfl) ?_)) fun w hw => ⟨hw.org, (((i : Int), (k : Int)), 0, false), rfl, .inl ⟨rfl, rfl⟩⟩
  · obtain ⟨f, hF, hfv, hcall⟩ := hkey
    rw [hfv]
    repeat(first|refine lrun_ ?_|(refine lo_boxA rfl rfl ?_;intro _ _ _)|(refine lo_box1 rfl rfl rfl ?_;intro _ _ _)|(refine lo_alloc rfl ?_;intro _ _ _))
    refine lo_rn (fun _ => r_eqNilF rfl) rfl ?_
    repeat(first|refine lrun_ ?_|(refine lo_boxA rfl rfl ?_;intro _ _ _)|(refine lo_box1 rfl rfl rfl ?_;intro _ _ _)|(refine lo_alloc rfl ?_;intro _ _ _))
    refine l_false rfl ?_
    repeat(first|refine lrun_ ?_|(refine lo_boxA rfl rfl ?_;intro _ _ _)|(refine lo_box1 rfl rfl rfl ?_;intro _ _ _)|(refine lo_alloc rfl ?_;intro _ _ _))
    refine lo_callV (n_callV (cap := []) rfl rfl) rfl (fun w hw => hcall w hw.org) ?_
    rintro _ ⟨r', rfl, hr'⟩
    obtain ⟨⟨q1, q2⟩, how, ok⟩ := r'
    cases ok with
    | false =>
      repeat(first|refine lrun_ ?_|(refine lo_boxA rfl rfl ?_;intro _ _ _)|(refine lo_box1 rfl rfl rfl ?_;intro _ _ _)|(refine lo_alloc rfl ?_;intro _ _ _))
      refine l_true rfl ?_
      repeat(first|refine lrun_ ?_|(refine lo_boxA rfl rfl ?_;intro _ _ _)|(refine lo_box1 rfl rfl rfl ?_;intro _ _ _)|(refine lo_alloc rfl ?_;intro _ _ _))
      exact l_retR3 rfl (by repeat(first|exact LRes.nil|refine LRes.tmp rfl ?_|refine LRes.agg rfl (by(repeat(first|exact MIn.hd|refine MIn.tl ?_));done) (by rfl) (by rfl) ?_|refine LRes.one rfl (by(repeat(first|exact MIn.hd|refine MIn.tl ?_));done) (by rfl) ?_)) fun w hw => ⟨hw.org, (((i : Int), (k : Int)), 0, false), rfl, .inr ⟨_, hr', rfl⟩⟩
    | true =>
      repeat(first|refine lrun_ ?_|(refine lo_boxA rfl rfl ?_;intro _ _ _)|(refine lo_box1 rfl rfl rfl ?_;intro _ _ _)|(refine lo_alloc rfl ?_;intro _ _ _))
      refine l_false rfl ?_
      repeat(first|refine lrun_ ?_|(refine lo_boxA rfl rfl ?_;intro _ _ _)|(refine lo_box1 rfl rfl rfl ?_;intro _ _ _)|(refine lo_alloc rfl ?_;intro _ _ _))
      exact l_retR3 rfl (by repeat(first|exact LRes.nil|refine LRes.tmp rfl ?_|refine LRes.agg rfl (by(repeat(first|exact MIn.hd|refine MIn.tl ?_));done) (by rfl) (by rfl) ?_|refine LRes.one rfl (by(repeat(first|exact MIn.hd|refine MIn.tl ?_));done) (by rfl) ?_)) fun w hw => ⟨hw.org, ((q1, q2), how, true), rfl, .inr ⟨_, hr', rfl⟩⟩
end
end Go.Ink

set_option linter.unusedVariables false
set_option linter.unusedSimpArgs false
namespace Go.Ink
open Go Go.Proofs

section
variable {l : List (List Int)} {p q : Ps} {m : Mo} {n : Int} {op : Bool} {r : Ps × Int × Bool}
theorem KeyM.inv_left (h : KeyM l q m n op r) (hk : m.key = 104) : r = leftM q n := by cases h <;> first | rfl | omega
theorem KeyM.inv_right (h : KeyM l q m n op r) (hk : m.key = 108) : r = rightM l q n op := by cases h <;> first | rfl | omega
theorem KeyM.inv_find (h : KeyM l q m n op r) (hk : m.key = 102 ∨ m.key = 116 ∨ m.key = 70 ∨ m.key = 84) : FindM (rowOf l q) q m.arg n (byF m.key) (howM m.key) (shortM m.key) r := by cases h <;> first | assumption | omega
theorem KeyM.inv_bracket (h : KeyM l q m n op r) (hk : m.key = 37) : BrM l q r := by cases h <;> first | assumption | omega
theorem KeyM.inv_words (h : KeyM l q m n op r) (hk : m.key = 119 ∨ m.key = 87 ∨ m.key = 98 ∨ m.key = 66 ∨ m.key = 101 ∨ m.key = 69) : r = wordsV l (wordS l (decide (m.key < 97)) (lowK m.key)) (lowK m.key) q n op := by cases h <;> first | rfl | omega
theorem KeyM.inv_blocks (h : KeyM l q m n op r) (hk : m.key = 125 ∨ m.key = 123 ∨ m.key = 41 ∨ m.key = 40) : r = repV (blockS l m.key) n q 0 := by cases h <;> first | rfl | omega
theorem tab_has {key : Int} (h : key = 104 ∨ key = 108 ∨ key = 102 ∨ key = 116 ∨ key = 70 ∨ key = 84 ∨ key = 37 ∨ key = 119 ∨ key = 87 ∨ key = 98 ∨ key = 66 ∨ key = 101 ∨ key = 69 ∨ key = 125 ∨ key = 123 ∨ key = 41 ∨ key = 40) : tabV key ≠ .nilFunc := by
  rcases h with rfl | rfl | rfl | rfl | rfl | rfl | rfl | rfl | rfl | rfl | rfl | rfl | rfl | rfl | rfl | rfl | rfl <;> (intro h; cases h)
theorem MoveM.key (h : MoveM l p m op r) (hk : tabV m.key ≠ .nilFunc) : ∃ r', KeyM l (clipM l p) m (cntN m) op r' ∧ r = if r'.2.2 = true then r' else (clipM l p, 0, false) := by
  rcases h with ⟨h, -⟩ | h
  · exact absurd h hk
  · exact h
end
theorem rs_1 : runesOf ⟨#[97, 98, 99]⟩ = [97, 98, 99] := by kernel_rfl
theorem rs_2 : runesOf ⟨#[97, 40, 98, 41, 99]⟩ = [97, 40, 98, 41, 99] := by kernel_rfl
theorem rs_3 : runesOf ⟨#[97, 98]⟩ = [97, 98] := by kernel_rfl
theorem rs_4 : runesOf ⟨#[99, 100]⟩ = [99, 100] := by kernel_rfl
theorem aw_1 {r : Ps × Int × Bool} (h : MoveM [[97, 98, 99]] (0, 0) ⟨108, 9, 0, 0⟩ false r) : r = ((0, 2), 0, true) := by
  obtain ⟨r', h1, rfl⟩ := h.key (tab_has (by simp))
  rw [h1.inv_right rfl]
  kernel_rfl
theorem aw_2 {r : Ps × Int × Bool} (h : MoveM [[97, 98, 99]] (0, 0) ⟨108, 9, 0, 0⟩ true r) : r = ((0, 3), 0, true) := by
  obtain ⟨r', h1, rfl⟩ := h.key (tab_has (by simp))
  rw [h1.inv_right rfl]
  kernel_rfl
theorem aw_3 {r : Ps × Int × Bool} (h : MoveM [[97, 98, 99]] (0, 0) ⟨102, 0, 99, 0⟩ false r) : r = ((0, 2), 1, true) := by
  obtain ⟨r', h1, rfl⟩ := h.key (tab_has (by simp))
  have h2 := h1.inv_find (by simp)
  have e : clipM [[97, 98, 99]] (0, 0) = (0, 0) := by kernel_rfl
  rw [e] at h2
  cases h2 with
  | up j h3 h4 h5 h6 h7 =>
    have h5 : j < 3 := h5
    rcases (by omega : j = 0 ∨ j = 1 ∨ j = 2) with rfl | rfl | rfl
    · exact absurd h6 (by decide)
    · exact absurd h6 (by decide)
    · rfl
  | noUp h3 h4 => exact absurd h4 (by decide)
  | down j h3 => exact absurd h3 (by decide)
  | noDown h3 => exact absurd h3 (by decide)
theorem aw_4 {r : Ps × Int × Bool} (h : MoveM [[97, 40, 98, 41, 99]] (0, 0) ⟨37, 0, 0, 0⟩ false r) : r = ((0, 3), 1, true) := by
  obtain ⟨r', h1, rfl⟩ := h.key (tab_has (by simp))
  have h2 := h1.inv_bracket rfl
  have e : clipM [[97, 40, 98, 41, 99]] (0, 0) = (0, 0) := by kernel_rfl
  rw [e] at h2
  cases h2 with
  | no h3 => exact absurd (h3 1 (by decide) (by decide)) (by decide)
  | at_ j r h3 h4 h5 h6 h7 =>
    subst h6
    have h4 : j < 5 := h4
    rcases (by omega : j = 0 ∨ j = 1 ∨ 1 < j) with rfl | rfl | h
    · exact absurd h7 (by decide)
    · rfl
    · exact absurd (h5 1 (by decide) h) (by decide)
/-- What is told, seen by counting. -/
def seekB (f : Ps → Bool) (l : List (List Int)) (p : Ps) (t u : Nat) (q : Ps) : Bool :=
  decide ((placesTo l l.length)[t]? = some (clipM l p)) && decide ((placesTo l l.length)[u]? = some q) && decide (t < u) && f q && (List.range u).all fun v => decide (v ≤ t) || !f ((placesTo l l.length).getD v (0, 0))
theorem seekB_eq {f : Ps → Bool} {l : List (List Int)} {p : Ps} {t u : Nat} {q : Ps} (hb : seekB f l p t u q = true) : seekC f l 1 p = q := by
  unfold seekB at hb
  simp only [Bool.and_eq_true, decide_eq_true_eq, List.all_eq_true, List.mem_range, Bool.or_eq_true, Bool.not_eq_true'] at hb
  obtain ⟨⟨⟨⟨h1, h2⟩, h3⟩, h4⟩, h5⟩ := hb
  have : SeekM f l 1 p q := .inr ⟨t, some u, h1, ⟨(List.getElem?_eq_some_iff.1 h2).1, .inl ⟨rfl, h3⟩, by rw [List.getD_eq_getElem?_getD, h2]; exact h4, fun v k1 k2 => by
    rcases h5 v (by unfold On at k2; omega) with h | h
    · unfold On at k1; omega
    · exact h⟩, by unfold tellM; simp only [List.getD_eq_getElem?_getD, h2]; rfl⟩
  exact (seekC_eq this).symm
theorem aw_5 {r : Ps × Int × Bool} (h : MoveM [[97, 98], [99, 100]] (0, 0) ⟨119, 0, 0, 0⟩ true r) : r = ((0, 2), 0, true) := by
  obtain ⟨r', h1, rfl⟩ := h.key (tab_has (by simp))
  rw [h1.inv_words (by simp)]
  have e : clipM [[97, 98], [99, 100]] (0, 0) = (0, 0) := by kernel_rfl
  have e1 : wordS [[97, 98], [99, 100]] (decide ((119 : Int) < 97)) (lowK 119) (0, 0) = (1, 0) := by
    have : wordS [[97, 98], [99, 100]] (decide ((119 : Int) < 97)) (lowK 119) = seekC (edgeM [[97, 98], [99, 100]] false (-1)) [[97, 98], [99, 100]] 1 := by unfold wordS; rw [if_neg (by decide), if_neg (by decide)]; rfl
    rw [this]
    exact seekB_eq (t := 0) (u := 2) (by kernel_rfl)
  have e2 : repM (wordS [[97, 98], [99, 100]] (decide ((119 : Int) < 97)) (lowK 119)) 1 (0, 0) (0, 0) = ((1, 0), (0, 0)) := by rw [repM_succ, e1, if_neg (by decide)]; rfl
  rw [e]
  unfold wordsV
  show (if _ then _ else _) = _
  rw [show (cntN ⟨119, 0, 0, 0⟩).toNat = 1 from rfl, e2]
  kernel_rfl
section
variable {F : Nat → Prop} {w : World} {v : Value} {l : List (List Int)} {p : Ps} {m : Mo} {op : Bool}
theorem row_calls {s : ByteArray} (hs : s.size ≤ 35184372088832) : CallsR Try.prog 11 #[.string s] w fun u w' => Kn w w' ∧ ∃ A c, u = .slice A (runesOf s).length c ∧ Ow kRune (noB w) (fun _ => False) w' (.slice A (runesOf s).length c) (runesOf s) := by
  refine calls_enter Try.func11 rfl rfl ?_
  repeat(refine run_ ?_)
  refine o_any (e_runes rfl hs) (wants_none rfl) rfl ?_
  rintro v2 w2 ⟨k2, hO⟩
  obtain ⟨A2, c2, rfl, _⟩ := hO.form
  repeat(refine run_ ?_)
  exact k_ret1 rfl rfl ⟨k2, A2, c2, rfl, hO⟩
theorem move_known {R : Ps × Int × Bool} (hr : ∀ r, MoveM l p m op r → r = R) (hs0 : l.length + runesM l ≤ 4000) (h : Sl kRow F w v l) (hl0 : l ≠ []) (hp : P64 p) (hm : MoOk m) :
    CallsR Try.prog 10 #[v, posV p, moV m, .bool op] w fun u w' => Kn w w' ∧ u = mvV R :=
  (move_calls hs0 h hl0 hp hm).mono fun _ _ ⟨h1, r, h2, h3⟩ => ⟨h1, by rw [h2, hr r h3]⟩
set_option maxHeartbeats 4000000 in
theorem awake_calls {w : World} : CallsR Try.prog 8 #[] w fun u w' => Kn w w' ∧ u = .bool true := by
  refine l_enter (args := []) (fun _ => False) Try.func8 rfl rfl ?_
  repeat(first|refine lrun_ ?_|(refine lo_boxA rfl rfl ?_;intro _ _ _)|(refine lo_box1 rfl rfl rfl ?_;intro _ _ _)|(refine lo_alloc rfl ?_;intro _ _ _))
  refine lo_callB (n_call rfl) rfl (fun w hw => row_calls (by decide)) ?_
  rintro w0 _ w1 K1 hw0 kn1 kp1 ⟨A1, c1, rfl, h1⟩ hK1
  rw [rs_1] at h1 ⊢
  refine lo_lit (cs := [.slice A1 3 c1]) rfl (by decide) (by kernel_rfl) rfl ?_
  intro g1 _ _
  refine lo_take (.drop .refl) fun w2 hw2 => ?_
  have s1 := one_rowL hw2 h1 hK1 (Nat.le_trans kn1.size (by assumption)) .hd
  clear h1 hK1 kn1 kp1
  repeat(first|refine lrun_ ?_|(refine lo_boxA rfl rfl ?_;intro _ _ _)|(refine lo_box1 rfl rfl rfl ?_;intro _ _ _)|(refine lo_alloc rfl ?_;intro _ _ _))
  refine lo_call (n_call rfl) rfl (fun w hw => move_known (p := (0, 0)) (m := ⟨108, 9, 0, 0⟩) (op := false) (fun _ => aw_1) (by decide) (hk4 (fun k h => absurd h mk_nil) s1 hw) (by decide) (by unfold P64; decide) ⟨by decide, by decide, by decide, by decide⟩) ?_
  repeat(first|refine lrun_ ?_|(refine lo_boxA rfl rfl ?_;intro _ _ _)|(refine lo_box1 rfl rfl rfl ?_;intro _ _ _)|(refine lo_alloc rfl ?_;intro _ _ _))
  refine lo_call (n_call rfl) rfl (fun w hw => move_known (p := (0, 0)) (m := ⟨108, 9, 0, 0⟩) (op := true) (fun _ => aw_2) (by decide) (hk4 (fun k h => absurd h mk_nil) s1 hw) (by decide) (by unfold P64; decide) ⟨by decide, by decide, by decide, by decide⟩) ?_
  repeat(first|refine lrun_ ?_|(refine lo_boxA rfl rfl ?_;intro _ _ _)|(refine lo_box1 rfl rfl rfl ?_;intro _ _ _)|(refine lo_alloc rfl ?_;intro _ _ _))
  refine lo_call (n_call rfl) rfl (fun w hw => move_known (p := (0, 0)) (m := ⟨102, 0, 99, 0⟩) (op := false) (fun _ => aw_3) (by decide) (hk4 (fun k h => absurd h mk_nil) s1 hw) (by decide) (by unfold P64; decide) ⟨by decide, by decide, by decide, by decide⟩) ?_
  repeat(first|refine lrun_ ?_|(refine lo_boxA rfl rfl ?_;intro _ _ _)|(refine lo_box1 rfl rfl rfl ?_;intro _ _ _)|(refine lo_alloc rfl ?_;intro _ _ _))
  refine lo_callB (n_call rfl) rfl (fun w hw => row_calls (by decide)) ?_
  rintro w3 _ w4 K4 hw3 kn4 kp4 ⟨A4, c4, rfl, h4⟩ hK4
  rw [rs_2] at h4 ⊢
  refine lo_lit (cs := [.slice A4 5 c4]) rfl (by decide) (by kernel_rfl) rfl ?_
  intro g4 _ _
  refine lo_take (.drop .refl) fun w5 hw5 => ?_
  have s4 := one_rowL hw5 h4 hK4 (Nat.le_trans kn4.size (by assumption)) .hd
  clear h4 hK4 kn4 kp4 s1
  repeat(first|refine lrun_ ?_|(refine lo_boxA rfl rfl ?_;intro _ _ _)|(refine lo_box1 rfl rfl rfl ?_;intro _ _ _)|(refine lo_alloc rfl ?_;intro _ _ _))
  refine lo_call (n_call rfl) rfl (fun w hw => move_known (p := (0, 0)) (m := ⟨37, 0, 0, 0⟩) (op := false) (fun _ => aw_4) (by decide) (hk4 (fun k h => hw3.lt h) s4 hw) (by decide) (by unfold P64; decide) ⟨by decide, by decide, by decide, by decide⟩) ?_
  repeat(first|refine lrun_ ?_|(refine lo_boxA rfl rfl ?_;intro _ _ _)|(refine lo_box1 rfl rfl rfl ?_;intro _ _ _)|(refine lo_alloc rfl ?_;intro _ _ _))
  clear s4 hw3 hw5
  refine lo_callM (n_call rfl) rfl (fun w hw => row_calls (by decide)) ?_
  rintro w6 _ w7 hw6 kn7 kp7 ⟨A7, c7, rfl, h7⟩
  rw [rs_3] at h7 ⊢
  repeat(first|refine lrun_ ?_|(refine lo_boxA rfl rfl ?_;intro _ _ _)|(refine lo_box1 rfl rfl rfl ?_;intro _ _ _)|(refine lo_alloc rfl ?_;intro _ _ _))
  refine lo_callM (n_call rfl) rfl (fun w hw => row_calls (by decide)) ?_
  rintro w8 _ w9 hw8 kn9 kp9 ⟨A9, c9, rfl, h9⟩
  rw [rs_4] at h9 ⊢
  refine lo_lit (cs := [.slice A7 2 c7, .slice A9 2 c9]) rfl (by decide) (by kernel_rfl) rfl ?_
  intro g9 _ hg9
  refine lo_take (.drop .refl) fun w10 hw10 => ?_
  have z8 := Nat.le_trans kn7.size hw8.kp.size
  have s9 := two_rowL (w0 := w6) hw10 (Kn.sl kn9 (Kp.sl hw8.kp (h7.slF (fun _ h => h) (fun _ h => h.elim)) fun k hk h => by have := hw6.lt h; unfold noB at hk; omega)) (h9.slF (fun k hk => by unfold noB at *; omega) (fun _ h => h.elim)) (fun k h => hw6.lt h) (Nat.le_trans (Nat.le_trans z8 kn9.size) hg9) .hd
  clear hw10 hw8 h7 h9
  repeat(first|refine lrun_ ?_|(refine lo_boxA rfl rfl ?_;intro _ _ _)|(refine lo_box1 rfl rfl rfl ?_;intro _ _ _)|(refine lo_alloc rfl ?_;intro _ _ _))
  refine lo_call (n_call rfl) rfl (fun w hw => move_known (p := (0, 0)) (m := ⟨119, 0, 0, 0⟩) (op := true) (fun _ => aw_5) (by decide) (hk4 (fun k h => hw6.lt h) s9 hw) (by decide) (by unfold P64; decide) ⟨by decide, by decide, by decide, by decide⟩) ?_
  repeat(first|refine lrun_ ?_|(refine lo_boxA rfl rfl ?_;intro _ _ _)|(refine lo_box1 rfl rfl rfl ?_;intro _ _ _)|(refine lo_alloc rfl ?_;intro _ _ _))
  exact l_ret1 rfl rfl fun w hw => ⟨hw.org, rfl⟩
end
end Go.Ink

set_option linter.unusedVariables false
set_option linter.unusedSimpArgs false
namespace Go.Ink
open Go Go.Proofs

theorem lineM_in {row : List Int} {x y by_ : Int} : ∀ n k d q e, lineM row x y by_ n k d = (some q, e) → 0 ≤ q ∧ q < row.length ∧ (row.getD q.toNat 0 = x ∨ row.getD q.toNat 0 = y)
  | 0, k, d, q, e, h => by simp [lineM] at h
  | n + 1, k, d, q, e, h => by
    unfold lineM at h
    split at h
    · next hin =>
      split at h
      · next hx =>
        split at h
        · simp only [Prod.mk.injEq, Option.some.injEq] at h; rw [← h.1]; exact ⟨hin.1, hin.2, .inl hx⟩
        · exact lineM_in n _ _ q e h
      · split at h
        · next hy =>
          split at h
          · simp only [Prod.mk.injEq, Option.some.injEq] at h; rw [← h.1]; exact ⟨hin.1, hin.2, .inr hy⟩
          · exact lineM_in n _ _ q e h
        · exact lineM_in n _ _ q e h
    · simp at h
theorem pairGo_in {l : List (List Int)} {p : Ps} {x y by_ : Int} : ∀ n i d q, pairGo l p x y by_ n i d = some q → 0 ≤ q.1 ∧ q.1 < l.length ∧ 0 ≤ q.2 ∧ q.2 < (l.getD q.1.toNat []).length
  | 0, i, d, q, h => by simp [pairGo] at h
  | n + 1, i, d, q, h => by
    unfold pairGo at h
    split at h
    · next hin =>
      split at h
      · next k e he =>
        cases h
        have := lineM_in _ _ _ _ _ he
        exact ⟨hin.1, hin.2, this.1, this.2.1⟩
      · next e he => exact pairGo_in n _ _ q h
    · simp at h
theorem firstI_lt {x : List Int} : firstI x < x.length ∨ x.length = 0 ∧ firstI x = 0 := by
  unfold firstI
  cases h : x.findIdx? fun r => decide (classM r false ≠ 0) with
  | none => show x.length - 1 < x.length ∨ _; rw [Option.getD_none]; omega
  | some i =>
    have := (List.findIdx?_eq_some_iff_getElem.1 h).1
    exact .inl this
theorem at_first {l : List (List Int)} {i : Int} (h0 : 0 ≤ i) (h1 : i < l.length) : At l (i, (firstI (l.getD i.toNat []) : Int)) := by
  refine ⟨⟨h0, h1⟩, ?_⟩
  show ((l.getD i.toNat []).length = 0 ∧ _) ∨ (_ ∧ _ < ((l.getD i.toNat []).length : Int))
  rcases firstI_lt (x := l.getD i.toNat []) with h | ⟨h, h'⟩
  · exact .inr ⟨by omega, by simp only; omega⟩
  · exact .inl ⟨h, by rw [h']; rfl⟩
theorem below_in {l : List (List Int)} {p : Ps} {k : Int} (h0 : 0 ≤ p.1) (h1 : p.1 < l.length) : 0 ≤ (belowM l p k).1 ∧ (belowM l p k).1 < l.length := by
  unfold belowM
  split
  · exact ⟨Int.le_refl _, by show (0 : Int) < _; omega⟩
  · exact ⟨by show 0 ≤ p.1 + k; omega, by show p.1 + k < _; omega⟩
section
variable {l : List (List Int)} {p q : Ps} {m : Mo} {n : Int} {op : Bool} {r : Ps × Int × Bool}
theorem at_colq (hq : At l q) {k : Int} (h0 : 0 ≤ k) (h1 : k < (rowOf l q).length) : At l (q.1, k) := ⟨hq.i, .inr ⟨h0, h1⟩⟩
theorem wordS_at {k : Int} {big : Bool} (h0 : l ≠ []) (q : Ps) : At l (wordS l big k q) := by
  unfold wordS
  split
  · exact seekC_at h0 (seek_exists _ _ h0 (.inr rfl))
  · split
    · exact seekC_at h0 (seek_exists _ _ h0 (.inl rfl))
    · exact seekC_at h0 (seek_exists _ _ h0 (.inl rfl))
theorem blockS_at {k : Int} (h0 : l ≠ []) (q : Ps) : At l (blockS l k q) := by
  unfold blockS
  split
  · exact seekC_at h0 (seek_exists _ _ h0 (.inr rfl))
  · split
    · exact seekC_at h0 (seek_exists _ _ h0 (.inl rfl))
    · split
      · exact seekC_at h0 (seek_exists _ _ h0 (.inr rfl))
      · exact seekC_at h0 (seek_exists _ _ h0 (.inl rfl))
def There (l : List (List Int)) (op : Bool) (r : Ps) : Prop := At l r ∨ (op = true ∧ 0 ≤ r.1 ∧ r.1 < l.length ∧ r.2 = ((rowOf l r).length : Int))
theorem FindM.there (hq : At l q) (hn : 1 ≤ n) (h : FindM (rowOf l q) q m.arg n (byF m.key) (howM m.key) (shortM m.key) r) (hok : r.2.2 = true) : At l r.1 := by
  have hk := hq.k
  have hs1 : byF m.key = 1 → -1 ≤ shortM m.key ∧ shortM m.key ≤ 0 := by unfold byF shortM; intro h; split at h <;> (try (split <;> (try split) <;> omega)) <;> omega
  have hs2 : byF m.key = -1 → 0 ≤ shortM m.key ∧ shortM m.key ≤ 1 := by unfold byF shortM; intro h; split at h <;> (try (split <;> (try split) <;> omega)) <;> omega
  cases h with
  | up j h1 h2 h3 h4 h5 => exact at_colq hq (by have := hs1 h1; omega) (by have := hs1 h1; omega)
  | noUp h1 h2 => cases hok
  | down j h1 h2 h3 h4 => exact at_colq hq (by have := hs2 h1; omega) (by have := hs2 h1; omega)
  | noDown h1 h2 => cases hok
theorem BrM.there (hq : At l q) (h : BrM l q r) (hok : r.2.2 = true) : At l r.1 ∧ r.2.1 = 1 := by
  cases h with
  | no h => cases hok
  | at_ j r h1 h2 h3 h4 h5 =>
    match hp : pairM l (q.1, (j : Int)) r (otherM r).1 (otherM r).2 1 with
    | none => rw [hp] at hok; cases hok
    | some b =>
      have := pairGo_in _ _ _ _ hp
      exact ⟨⟨⟨this.1, this.2.1⟩, .inr ⟨this.2.2.1, this.2.2.2⟩⟩, rfl⟩
theorem KeyM.there (hq : At l q) (hn : 1 ≤ n) (h : KeyM l q m n op r) (hok : r.2.2 = true) : There l op r.1 := by
  have hk := hq.k
  have hi := hq.i
  have hl0 : l ≠ [] := by rintro rfl; simp at hi; omega
  cases h with
  | left h =>
    unfold leftM at hok ⊢
    have hok := of_decide_eq_true hok
    exact .inl (at_colq hq (by split <;> omega) (by split <;> omega))
  | right h =>
    unfold rightM at hok ⊢
    have hok := of_decide_eq_true hok
    unfold roomM at hok ⊢
    cases op with
    | false =>
      simp only [Bool.false_eq_true, if_false, Int.add_zero] at hok ⊢
      exact .inl (at_colq hq (by split <;> omega) (by split <;> omega))
    | true =>
      simp only [if_true] at hok ⊢
      by_cases he : q.2 + (if ((rowOf l q).length : Int) - 1 - q.2 + 1 < n then ((rowOf l q).length : Int) - 1 - q.2 + 1 else n) = (rowOf l q).length
      · exact .inr ⟨rfl, hi.1, hi.2, he⟩
      · exact .inl (at_colq hq (by split <;> omega) (by split at he <;> split <;> omega))
  | column h =>
    unfold columnM
    split
    · exact .inl (by
        by_cases h0 : (rowOf l q).length = 0
        · exact ⟨hi, .inl ⟨h0, rfl⟩⟩
        · exact at_colq hq (Int.le_refl _) (by omega))
    · exact .inl (clip_at hl0)
  | first h => exact .inl (at_first hi.1 hi.2)
  | end_ h =>
    unfold endsM at hok ⊢
    split
    · next hb =>
      have hin := below_in (l := l) (k := n - 1) hi.1 hi.2
      refine .inl ⟨hin, ?_⟩
      show (l.getD (belowM l q (n - 1)).1.toNat []).length = 0 ∧ (((l.getD (belowM l q (n - 1)).1.toNat []).length - 1 : Nat) : Int) = 0 ∨ (0 : Int) ≤ (((l.getD (belowM l q (n - 1)).1.toNat []).length - 1 : Nat) : Int) ∧ (((l.getD (belowM l q (n - 1)).1.toNat []).length - 1 : Nat) : Int) < ((l.getD (belowM l q (n - 1)).1.toNat []).length : Int)
      omega
    · next hb => rw [if_neg hb] at hok; cases hok
  | down h => exact .inl (clip_at hl0)
  | lines h =>
    have hin := below_in (l := l) (k := if m.key = 45 then 0 - n else if m.key = 95 then n - 1 else n) hi.1 hi.2
    exact .inl (at_first hin.1 hin.2)
  | number h =>
    have hlt : numberI l m n < l.length := by
      unfold numberI
      split
      · omega
      · split <;> omega
    have := at_first (l := l) (i := (numberI l m n : Int)) (by omega) (by omega)
    rw [Int.toNat_natCast] at this
    exact .inl this
  | find r h h1 => exact .inl (h1.there hq hn hok)
  | bracket r h h1 => exact .inl (h1.there hq hok).1
  | words h =>
    obtain ⟨h1, h2⟩ := repM_I (I := At l) (s := wordS l (decide (m.key < 97)) (lowK m.key)) (fun q _ => wordS_at hl0 q) n.toNat q q hq hq
    unfold wordsV
    generalize repM (wordS l (decide (m.key < 97)) (lowK m.key)) n.toNat q q = e at *
    simp only
    split
    · next hc => exact .inr ⟨hc.1, h2.i.1, h2.i.2, rfl⟩
    · exact .inl h1
  | blocks h => exact .inl (repM_I (I := At l) (s := blockS l m.key) (fun q _ => blockS_at hl0 q) n.toNat q q hq hq).1
theorem MoveM.there (h0 : l ≠ []) (hm : MoOk m) (h : MoveM l p m op r) : (r.2.2 = true → There l op r.1) ∧ (r.2.2 = false → r.1 = clipM l p ∧ r.2.1 = 0) := by
  rcases h with ⟨-, rfl⟩ | ⟨r', h1, rfl⟩
  · exact ⟨fun h => (by cases h), fun _ => ⟨rfl, rfl⟩⟩
  · by_cases hr : r'.2.2 = true
    · rw [if_pos hr]
      exact ⟨fun _ => h1.there (clip_at h0) hm.n.1 hr, fun h => by rw [hr] at h; cases h⟩
    · rw [if_neg hr]
      exact ⟨fun h => (by cases h), fun _ => ⟨rfl, rfl⟩⟩
theorem There.clip (h0 : l ≠ []) {q : Ps} (h : There l op q) (hc : clipM l q ≠ q) : op = true ∧ 0 ≤ q.1 ∧ q.1 < l.length ∧ q.2 = ((rowOf l q).length : Int) := by
  rcases h with h | h
  · exact absurd (at_clip h) hc
  · exact h
end
end Go.Ink
