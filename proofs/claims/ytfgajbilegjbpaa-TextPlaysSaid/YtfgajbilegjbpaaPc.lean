/-
  A row of runes in pieces, in plain words.
  piece.Table in memory; New, Len, Pieces, fits.
  piece.Table's cut.
  piece.Table's Insert.
  piece.Table's Len, Pieces, fits, Delete.
  What deeds on a table do to what it tells.
  piece.Table's Delete.
  piece.Table's Slice.
-/
import Derived.Test.YtfgajbilegjbpaaLst
import Derived.Test.YtfgajbilegjbpaaSeat
import Derived.Test.YtfgajbilegjbpaaAct3
import Derived.Test.YtfgajbilegjbpaaApp
import Derived.Test.YtfgajbilegjbpaaBr
set_option linter.unusedVariables false
namespace Go.Ink
abbrev Span := Int × Int
structure PTab where
  store : List Int
  row : List Span
  saved : List (List Span)
/-- What a piece tells. -/
def spanOf (st : List Int) (s : Span) : List Int := (st.drop s.1.toNat).take s.2.toNat
def flat (st : List Int) (row : List Span) : List Int := (row.map (spanOf st)).flatten
def tot (row : List Span) : Int := (row.map (·.2)).sum
/-- Every piece is one, and lies in the store. -/
def SpOK (st : List Int) (row : List Span) : Prop := ∀ s ∈ row, 0 ≤ s.1 ∧ 0 < s.2 ∧ s.1 + s.2 ≤ st.length
theorem tot_nil : tot [] = 0 := rfl
theorem tot_cons (s : Span) (r : List Span) : tot (s :: r) = s.2 + tot r := by simp [tot]
theorem tot_append (a b : List Span) : tot (a ++ b) = tot a + tot b := by simp [tot]
theorem flat_append (st : List Int) (a b : List Span) : flat st (a ++ b) = flat st a ++ flat st b := by simp [flat]
theorem flat_cons (st : List Int) (s : Span) (r : List Span) : flat st (s :: r) = spanOf st s ++ flat st r := by simp [flat]
theorem span_len {st : List Int} {s : Span} (h : 0 ≤ s.1 ∧ 0 < s.2 ∧ s.1 + s.2 ≤ st.length) : ((spanOf st s).length : Int) = s.2 := by
  unfold spanOf
  rw [List.length_take, List.length_drop]
  omega
theorem flat_len {st : List Int} : ∀ {row : List Span}, SpOK st row → ((flat st row).length : Int) = tot row
  | [], _ => by simp [flat, tot]
  | s :: r, h => by
    rw [flat_cons, List.length_append, tot_cons]
    have h1 := span_len (h s (by simp))
    have h2 := flat_len (row := r) (fun x hx => h x (List.mem_cons_of_mem _ hx))
    omega
theorem SpOK.append {st : List Int} {a b : List Span} (h : SpOK st a) (k : SpOK st b) : SpOK st (a ++ b) := fun s hs => (List.mem_append.1 hs).elim (h s) (k s)
theorem SpOK.left {st : List Int} {a b : List Span} (h : SpOK st (a ++ b)) : SpOK st a := fun s hs => h s (List.mem_append.2 (.inl hs))
theorem SpOK.right {st : List Int} {a b : List Span} (h : SpOK st (a ++ b)) : SpOK st b := fun s hs => h s (List.mem_append.2 (.inr hs))
theorem SpOK.tot_nonneg {st : List Int} {a : List Span} (h : SpOK st a) : 0 ≤ tot a := by
  have := flat_len h; omega
/-- The store grows: what was told is told still. -/
theorem SpOK.grow {st more : List Int} {row : List Span} (h : SpOK st row) : SpOK (st ++ more) row := fun s hs => by
  have := h s hs
  rw [List.length_append]
  omega
theorem flat_grow {st more : List Int} : ∀ {row : List Span}, SpOK st row → flat (st ++ more) row = flat st row
  | [], _ => rfl
  | s :: r, h => by
    have h1 := h s (by simp)
    rw [flat_cons, flat_cons, flat_grow (fun x hx => h x (List.mem_cons_of_mem _ hx))]
    congr 1
    unfold spanOf
    rw [List.drop_append_of_le_length (by omega), List.take_append_of_le_length (by rw [List.length_drop]; omega)]
/-- A border of pieces. -/
def cutM : List Span → Int → List Span × Nat
  | [], _ => ([], 0)
  | s :: r, at_ => if at_ = 0 then (s :: r, 0) else if at_ < s.2 then ((s.1, at_) :: (s.1 + at_, s.2 - at_) :: r, 1) else (s :: (cutM r (at_ - s.2)).1, (cutM r (at_ - s.2)).2 + 1)
theorem cutM_le : ∀ (row : List Span) (at_ : Int), (cutM row at_).2 ≤ (cutM row at_).1.length ∧ row.length ≤ (cutM row at_).1.length ∧ (cutM row at_).1.length ≤ row.length + 1
  | [], _ => by simp [cutM]
  | s :: r, at_ => by
    unfold cutM
    split
    · simp
    · split
      · simp
      · have := cutM_le r (at_ - s.2)
        simp
        omega
theorem cut_ok {st : List Int} : ∀ {row : List Span} {at_ : Int}, SpOK st row → 0 ≤ at_ → SpOK st (cutM row at_).1
  | [], _, h, _ => h
  | s :: r, at_, h, h0 => by
    have h1 := h s (by simp)
    unfold cutM
    split
    · exact h
    · split
      · intro x hx
        simp only [List.mem_cons] at hx
        rcases hx with rfl | rfl | hx
        · exact ⟨h1.1, by simp only; omega, by simp only; omega⟩
        · exact ⟨by simp only; omega, by simp only; omega, by simp only; omega⟩
        · exact h x (List.mem_cons_of_mem _ hx)
      · intro x hx
        simp only [List.mem_cons] at hx
        rcases hx with rfl | hx
        · exact h1
        · exact cut_ok (fun y hy => h y (List.mem_cons_of_mem _ hy)) (by omega) x hx
theorem span_cut {st : List Int} {s : Span} {k : Int} (h0 : 0 ≤ s.1) (h1 : 0 ≤ k) (h2 : k ≤ s.2) : spanOf st (s.1, k) ++ spanOf st (s.1 + k, s.2 - k) = spanOf st s := by
  unfold spanOf
  simp only
  have e1 : (s.1 + k).toNat = s.1.toNat + k.toNat := by omega
  have e2 : s.2.toNat = k.toNat + (s.2 - k).toNat := by omega
  rw [e1, e2, ← List.drop_drop, List.take_add]
theorem cut_flat {st : List Int} : ∀ {row : List Span} {at_ : Int}, SpOK st row → 0 ≤ at_ → at_ ≤ tot row → flat st (cutM row at_).1 = flat st row ∧ flat st ((cutM row at_).1.take (cutM row at_).2) = (flat st row).take at_.toNat
  | [], at_, h, h0, hle => by simp [cutM, flat]
  | s :: r, at_, h, h0, hle => by
    have h1 := h s (by simp)
    have hr : SpOK st r := fun y hy => h y (List.mem_cons_of_mem _ hy)
    have hl := span_len h1
    unfold cutM
    split
    · next h2 => subst h2; simp [flat]
    · split
      · next h3 =>
        have hc := span_cut (st := st) (s := s) (k := at_) h1.1 h0 (by omega)
        simp only [flat_cons, List.take_succ_cons, List.take_zero]
        refine ⟨by rw [← List.append_assoc, hc], ?_⟩
        rw [List.take_append_of_le_length (by omega), ← hc]
        have hl2 : ((spanOf st (s.1, at_)).length : Int) = at_ := span_len ⟨h1.1, by simp only; omega, by simp only; omega⟩
        rw [List.take_append_of_le_length (by omega), List.take_of_length_le (by omega)]
        simp [flat]
      · rw [tot_cons] at hle
        obtain ⟨h4, h5⟩ := cut_flat (row := r) (at_ := at_ - s.2) hr (by omega) (by omega)
        simp only [flat_cons, List.take_succ_cons, h4, h5]
        refine ⟨trivial, ?_⟩
        rw [List.take_append]
        congr 1
        · rw [List.take_of_length_le (by omega)]
        · congr 1; omega
end Go.Ink

set_option linter.unusedVariables false
set_option linter.unusedSimpArgs false
namespace Go.Ink
open Go Go.Proofs

def kSpan : Kd Span := kPair kI64 kI64
theorem span_R {F : Nat → Prop} {w : World} {a b : Int} (h1 : -9223372036854775808 ≤ a ∧ a ≤ 9223372036854775807) (h2 : -9223372036854775808 ≤ b ∧ b ≤ 9223372036854775807) : kSpan.R F w (a, b) [.int .i64 a, .int .i64 b] :=
  ⟨[.int .i64 a], [.int .i64 b], rfl, ⟨rfl, h1.1, h1.2⟩, ⟨rfl, h2.1, h2.2⟩⟩
abbrev kSpans : Kd (List Span) := kSl kSpan
structure IsTabP (D : Nat → Prop) (g : Nat) (w : World) (T : PTab) (vs vr vv : Value) : Prop where
  ge : D g
  hb : w.heap[g]? = some (.cells #[vs, vr, vv, .int .i64 (tot T.row)] 85 (0, 0))
  st : Ow kRune (fun k => D k ∧ k ≠ g) (fun _ => False) w vs T.store
  sv : Ow kSpans (fun k => D k ∧ k ≠ g ∧ vs.ownBlock ≠ some k) (fun k => D k ∧ k ≠ g ∧ vs.ownBlock ≠ some k) w vv T.saved
  row : Sl kSpan (fun k => D k ∧ k ≠ g ∧ vs.ownBlock ≠ some k ∧ vv.ownBlock ≠ some k) w vr T.row
  ok : SpOK T.store T.row
  oks : ∀ r ∈ T.saved, SpOK T.store r
  small : T.store.length ≤ 1099511627776 ∧ T.saved.length ≤ 1099511627776 ∧ tot T.row ≤ 65536
/-- A table at block g; all that it leads to lies in D. -/
def IsTab (D : Nat → Prop) (g : Nat) (w : World) (T : PTab) : Prop := ∃ vs vr vv, IsTabP D g w T vs vr vv
section
variable {D D' : Nat → Prop} {g : Nat} {w w' : World} {T : PTab}
theorem IsTab.kp {S : Nat → Prop} (h : IsTab D g w T) (hk : Kp S w w') (hs : ∀ k, D k → ¬ S k) : IsTab D g w' T := by
  obtain ⟨vs, vr, vv, h1, h2, h3, h4, h5, h6, h7, h8⟩ := h
  exact ⟨vs, vr, vv, h1, hk.blk h2 (hs g h1), Kp.ow hk h3 (fun k hk => hs k hk.1) (fun _ h => h.elim), Kp.ow hk h4 (fun k hk => hs k hk.1) (fun k hk => hs k hk.1), Kp.sl hk h5 (fun k hk => hs k hk.1), h6, h7, h8⟩
theorem IsTab.kn (h : IsTab D g w T) (hk : Kn w w') : IsTab D g w' T := h.kp hk fun _ _ h => h
theorem IsTab.mono (h : IsTab D g w T) (hd : ∀ k, D k → k < w.heap.size → D' k) : IsTab D' g w T := by
  obtain ⟨vs, vr, vv, h1, h2, h3, h4, h5, h6, h7, h8⟩ := h
  exact ⟨vs, vr, vv, hd g h1 (blk_lt h2), h2, h3.mono (fun k hk hl => ⟨hd k hk.1 hl, hk.2⟩) (fun k hk _ => hk), h4.mono (fun k hk hl => ⟨hd k hk.1 hl, hk.2⟩) (fun k hk hl => ⟨hd k hk.1 hl, hk.2⟩), h5.mono (fun k hk hl => ⟨hd k hk.1 hl, hk.2⟩), h6, h7, h8⟩
theorem IsTab.lt (h : IsTab D g w T) : g < w.heap.size := by obtain ⟨vs, vr, vv, h⟩ := h; exact blk_lt h.hb
theorem IsTab.ge (h : IsTab D g w T) : D g := by obtain ⟨vs, vr, vv, h⟩ := h; exact h.ge
end
def newM (xs : List Int) : PTab := ⟨xs, if xs = [] then [] else [(0, xs.length)], []⟩
theorem row_len {st : List Int} : ∀ {row : List Span}, SpOK st row → (row.length : Int) ≤ tot row
  | [], _ => by simp [tot]
  | s :: r, h => by
    have h1 := h s (by simp)
    have h2 := row_len (row := r) fun x hx => h x (List.mem_cons_of_mem _ hx)
    rw [tot_cons, List.length_cons]
    omega
theorem new_calls {F : Nat → Prop} {w : World} {v : Value} {xs : List Int} (h : Sl kRune F w v xs) (hx : xs.length ≤ 65536) :
    CallsR Try.prog 33 #[v] w fun u w' => Kn w w' ∧ ∃ g, u = .pointer (some ⟨g, 0, none⟩) ∧ IsTab (noB w) g w' (newM xs) := by
  obtain ⟨A, c, rfl, hc, hl⟩ := h.form
  refine calls_enter Try.func33 rfl rfl ?_
  repeat(refine run_ ?_)
  refine k_no rfl (by omega) ?_
  repeat(refine run_ ?_)
  refine o_any (e_append2 (d := kRune) (F2 := F) rfl rfl (Ow.nil kRune (noB w) (fun _ => False) w) h (by intro k hk he; simp [Value.ownBlock] at he) (by show (0 + xs.length) * 4 ≤ 140737488355328; omega) rfl rfl rfl) (wants_none rfl) rfl ?_
  rintro v1 w1 hA
  obtain ⟨A1, c1, rfl, _⟩ := hA.ow.form
  have k1 : Kn w w1 := hA.kp.mono fun i hi he => by simp [Value.ownBlock] at he
  have ho1 : Ow kRune (noB w) (fun _ => False) w1 (.slice A1 xs.length c1) xs := (hA.ow.sc (F' := fun _ => False)).mono (fun k hk _ => hk.elim id id) (fun _ h _ => h)
  have hb1 := ho1.block
  have z1 := k1.size
  refine o_still (r_move rfl) (wants_none rfl) rfl ?_
  refine o_still (r_len rfl) (wants_none rfl) rfl ?_
  refine o_still (r_build (c := #[.slice A1 xs.length c1, .slice none 0 0, .slice none 0 0, .int .i64 xs.length]) rfl rfl) (wants_none rfl) rfl ?_
  refine o_any (e_box rfl) (wants_none rfl) rfl ?_
  rintro _ w2 ⟨g, rfl, nb2⟩
  have z2 := nb2.kn.size
  have e2 := nb2.ge
  have l2 := nb2.lt
  repeat(refine run_ ?_)
  by_cases hn : xs = []
  · subst hn
    refine k_no rfl (by simp) ?_
    repeat(refine run_ ?_)
    refine k_ret1 rfl rfl ⟨k1.trans nb2.kn, g, rfl, _, _, _, ?_, nb2.at_, ?_, Ow.nil _ _ _ _, Sl.nil _ _ _, ?_, ?_, ?_⟩
    · simp only [noB]; omega
    · exact Kn.ow nb2.kn (ho1.mono (fun k hk hl => ⟨hk, by omega⟩) fun _ h _ => h)
    · intro s hs; simp [newM] at hs
    · intro s hs; simp [newM] at hs
    · simp [newM, tot]
  · have hpos := List.length_pos_iff.2 hn
    refine k_yes rfl (by omega) ?_
    repeat (first | refine o_nil ?_ | refine k_seq ?_ | refine k_region ?_ | refine k_block ?_ | refine k_inBlock ?_ | refine k_skip ?_)
    refine o_still (r_move rfl) (wants_none rfl) rfl ?_
    refine o_still (r_move rfl) (wants_none rfl) rfl ?_
    refine o_still (r_len rfl) (wants_none rfl) rfl ?_
    refine o_still (r_build (c := #[.int .i64 0, .int .i64 xs.length]) rfl rfl) (wants_none rfl) rfl ?_
    refine o_any (e_one (z := .agg #[.int .i64 0, .int .i64 0]) (sz := 2) rfl rfl rfl (by decide)) (wants_none rfl) rfl ?_
    rintro _ w3 ⟨g3, rfl, nb3⟩
    have e3 := nb3.ge
    have b3 := nb3.kn.blk nb2.at_ id
    repeat(refine run_ ?_)
    refine o_unit (u_store (i := 1) rfl rfl rfl (by simp only [add_plain, Nat.zero_add, Nat.add_zero]) b3 (show 1 < 4 by decide)) (wants_none rfl) rfl ?_
    rintro w4 hw4
    have k3 : Kn w w3 := (k1.trans nb2.kn).trans nb3.kn
    have hne : ¬ g3 = g := by omega
    repeat(refine run_ ?_)
    have hm : newM xs = ⟨xs, [(0, xs.length)], []⟩ := by simp [newM, hn]
    have ht : tot [((0 : Int), (xs.length : Int))] = xs.length := by simp [tot]
    rw [hm]
    refine k_ret1 rfl rfl ⟨Kp.then k3 hw4.kp (fun _ h => h.elim) (fun i hi he => by omega), g, rfl, .slice A1 xs.length c1, .slice (some ⟨g3, 0, none⟩) 1 1, .slice none 0 0, ?_, ?_, ?_, Ow.nil _ _ _ _, ?_, ?_, ?_, ?_⟩
    · simp only [noB]; omega
    · show _ = some (Obj.cells #[_, _, _, .int .i64 (tot [((0 : Int), (xs.length : Int))])] _ _)
      rw [ht]
      exact hw4.at_
    · exact Kp.ow hw4.kp (Kn.ow nb3.kn (Kn.ow nb2.kn (ho1.mono (G' := fun k => noB w k ∧ k ≠ g) (F' := fun _ => False) (fun k hk hl => ⟨hk, by omega⟩) fun _ h _ => h))) (fun k hk => hk.2) (fun _ h => h.elim)
    · refine sl_blk (d := kSpan) (xs := [(0, (xs.length : Int))]) (cells := [.int .i64 0, .int .i64 xs.length]) (hw4.kp.blk nb3.at_ hne) ⟨_, [], rfl, span_R (by decide) ⟨by omega, by omega⟩, rfl⟩ ⟨?_, hne, ?_, by simp [Value.ownBlock]⟩ (show 1 * 16 ≤ 140737488355328 by decide)
      · simp only [noB]; omega
      · intro he
        have := (hb1 _ he).2
        omega
    · intro s hs
      obtain rfl : s = (0, (xs.length : Int)) := by simpa using hs
      exact ⟨by show (0 : Int) ≤ 0; decide, by show (0 : Int) < xs.length; omega, by show (0 : Int) + xs.length ≤ xs.length; omega⟩
    · intro s hs; simp at hs
    · exact ⟨by show xs.length ≤ _; omega, by show 0 ≤ 1099511627776; decide, by show tot [((0 : Int), (xs.length : Int))] ≤ _; rw [ht]; omega⟩
end Go.Ink

set_option linter.unusedVariables false
set_option linter.unusedSimpArgs false
namespace Go.Ink
open Go Go.Proofs

instance : ScK kSpan := inferInstanceAs (ScK (kPair kI64 kI64))
/-- An append to what was made here. -/
theorem app_next {α : Type} {d : Kd α} [ScK d] {F : Nat → Prop} {w w1 w2 : World} {v v2 : Value} {xs zs : List α} (hk : Kn w w1) (hO : Ow d (noB w) (fun _ => False) w1 v xs) (hA : App d (noB w) F w1 v zs v2 w2) :
    Kn w w2 ∧ Ow d (noB w) (fun _ => False) w2 v2 zs := by
  have hz := hk.size
  refine ⟨Kp.then hk hA.kp (fun _ h => h) (fun i hi he => ?_), (hA.ow.sc (F' := fun _ => False)).mono (fun k hk _ => hk.elim id (fun h => ?_)) (fun _ h _ => h)⟩
  · have := (hO.block i he).1
    simp only [noB] at this
    omega
  · simp only [noB]; omega
section
variable {D : Nat → Prop} {g : Nat} {w w' : World} {T : PTab} {vs vr vv : Value}
/-- Where a table lies behind a call on it. -/
def grownD (D : Nat → Prop) (w : World) : Nat → Prop := fun k => D k ∨ w.heap.size ≤ k
def rowD (D : Nat → Prop) (w : World) (g : Nat) (vs vv : Value) : Nat → Prop := fun k => grownD D w k ∧ k ≠ g ∧ vs.ownBlock ≠ some k ∧ vv.ownBlock ≠ some k
theorem IsTabP.fresh (h : IsTabP D g w T vs vr vv) : ∀ k, w.heap.size ≤ k → rowD D w g vs vv k := by
  intro k hk
  have h1 := blk_lt h.hb
  refine ⟨.inr hk, by omega, fun he => ?_, fun he => ?_⟩
  · have := (h.st.block k he).2; omega
  · have := (h.sv.block k he).2; omega
/-- The row is another one. -/
theorem IsTabP.turn (h : IsTabP D g w T vs vr vv) {w2 : World} {row : List Span} {vr2 : Value} (hk : Kp (fun k => k = g) w w2) (hb : w2.heap[g]? = some (.cells #[vs, vr2, vv, .int .i64 (tot row)] 85 (0, 0)))
    (hr : Sl kSpan (rowD D w g vs vv) w2 vr2 row) (hok : SpOK T.store row) (ht : tot row ≤ 65536) : Kp D w w2 ∧ IsTabP (grownD D w) g w2 { T with row := row } vs vr2 vv := by
  refine ⟨hk.mono fun i _ hi => hi ▸ h.ge, .inl h.ge, hb, ?_, ?_, hr, hok, h.oks, h.small.1, h.small.2.1, ht⟩
  · exact (Kp.ow hk h.st (fun k hk => hk.2) (fun _ h => h.elim)).mono (fun k hk _ => ⟨.inl hk.1, hk.2⟩) (fun _ h _ => h)
  · exact (Kp.ow hk h.sv (fun k hk => hk.2.1) (fun k hk => hk.2.1)).mono (fun k hk _ => ⟨.inl hk.1, hk.2⟩) (fun k hk _ => ⟨.inl hk.1, hk.2⟩)
theorem IsTab.grow (h : IsTab D g w T) : IsTab (grownD D w) g w T := h.mono fun k hk _ => .inl hk
structure CutSt where
  i : Nat
  a : Int
def TabQ (D : Nat → Prop) (g : Nat) (w : World) (T' : PTab) (x : Value) (u : Value) (w' : World) : Prop := Kp D w w' ∧ IsTab (grownD D w) g w' T' ∧ u = x
theorem tot_cutM {st : List Int} {row : List Span} {a : Int} (h : SpOK st row) (h0 : 0 ≤ a) (h1 : a ≤ tot row) : tot (cutM row a).1 = tot row := by
  have h2 := flat_len (cut_ok (at_ := a) h h0)
  have h3 := flat_len h
  rw [(cut_flat h h0 h1).1] at h2
  omega
set_option maxHeartbeats 1000000 in
theorem cut_calls {a : Int} (h : IsTab D g w T) (h0 : 0 ≤ a) (h1 : a ≤ tot T.row) :
    CallsR Try.prog 57 #[.pointer (some ⟨g, 0, none⟩), .int .i64 a] w (TabQ D g w { T with row := (cutM T.row a).1 } (.int .i64 (cutM T.row a).2)) := by
  have hT0 := h
  obtain ⟨vs, vr, vv, hT⟩ := h
  obtain ⟨A, c, rfl, hc, hl⟩ := hT.row.form
  have hlen := row_len hT.ok
  have hsm := hT.small
  have hgl := blk_lt hT.hb
  have c1 : w.cell? ⟨g, 1, none⟩ = some (.slice A T.row.length c) := blk_cell hT.hb
  have hold := hT.row.old
  refine calls_enter Try.func57 rfl rfl ?_
  repeat(refine run_ ?_)
  refine o_still (r_load rfl c1) (wants_none rfl) rfl ?_
  repeat(refine run_ ?_)
  refine k_while (S := CutSt) (fun s => T.row.length - s.i) (fun s => [(0, .pointer (some ⟨g, 0, none⟩)), (1, .int .i64 s.a), (11, .slice A T.row.length c), (12, .int .i64 T.row.length), (13, .int .i64 s.i)])
    (fun s wr => s.i ≤ T.row.length ∧ Kn w wr ∧ 0 ≤ s.a ∧ s.a ≤ tot (T.row.drop s.i) ∧ cutM T.row a = (T.row.take s.i ++ (cutM (T.row.drop s.i) s.a).1, s.i + (cutM (T.row.drop s.i) s.a).2)) ⟨0, a⟩ (by repeat (first | exact SubB.nil | refine SubB.cons rfl ?_)) ⟨Nat.zero_le _, Kp.refl _ _, h0, by simpa using h1, by simp⟩ ?_
  rintro ⟨i, b⟩ wr ⟨hi, hkn, hb0, hb1, heq⟩ ih
  simp only at hi hkn hb0 hb1 heq ih ⊢
  repeat(refine run_ ?_)
  refine k_ite rfl (fun hlt => ?_) (fun hge => ?_)
  · have hlt' : i < T.row.length := by omega
    have hd : T.row.drop i = T.row[i] :: T.row.drop (i + 1) := List.drop_eq_getElem_cons hlt'
    have hso := hT.ok T.row[i] (List.getElem_mem hlt')
    have htd : tot (T.row.drop (i + 1)) ≤ 65536 := by
      have h2 := hT.ok
      rw [← List.take_append_drop (i + 1) T.row] at h2
      have h3 := h2.left.tot_nonneg
      have h4 := tot_append (T.row.take (i + 1)) (T.row.drop (i + 1))
      rw [List.take_append_drop] at h4
      omega
    rw [hd, tot_cons] at hb1
    rw [hd] at heq
    obtain ⟨ad, cs, rfl, hR, hcell⟩ := hold.at_ (List.getElem?_eq_getElem hlt')
    obtain ⟨d1, d2, rfl, ⟨rfl, ha1, ha2⟩, ⟨rfl, ha3, ha4⟩⟩ := hR
    generalize hs : T.row[i] = s at *
    repeat(refine run_ ?_)
    refine o_still (r_index rfl rfl rfl (by omega) (by omega)) (wants_none rfl) rfl ?_
    refine o_still (r_loadA (cs := [.int .i64 s.1, .int .i64 s.2]) rfl rfl (by
      intro j u hu
      rw [Int.toNat_natCast, add_add]
      exact hkn.cell (hcell j u hu) id)) (wants_none rfl) rfl ?_
    refine o_any (e_alloc) (wants_none rfl) rfl ?_
    rintro _ w2 ⟨g2, rfl, nb2⟩
    repeat(refine run_ ?_)
    refine o_unit (u_storeA rfl rfl rfl (by simp [Value.oneCell']) rfl nb2.at_ (Nat.le_refl 2)) (wants_none rfl) rfl ?_
    rintro w3 hw3
    have e2 := nb2.ge
    have zr := hkn.size
    have k3 : Kn w w3 := Kp.then (hkn.trans nb2.kn) hw3.kp (fun _ h => h) (fun i hi he => by omega)
    have b3 := hw3.at_
    have f0 : w3.cell? ⟨g2, 0, none⟩ = some (.int .i64 s.1) := blk_cell b3
    have f1 : w3.cell? ⟨g2, 1, none⟩ = some (.int .i64 s.2) := blk_cell b3
    repeat(refine run_ ?_)
    refine k_ite rfl (fun hz => ?_) (fun hnz => ?_)
    · repeat(refine run_ ?_)
      refine k_ret1 rfl rfl ⟨Kn.kp k3, ?_, ?_⟩
      · have : (cutM T.row a).1 = T.row := by
          rw [heq, hz]
          simp only [cutM, if_true]
          rw [← hd, List.take_append_drop]
        rw [this]
        exact (hT0.kn k3).mono fun k hk _ => .inl hk
      · rw [heq, hz]; simp [cutM]
    · have hbs := hT.ok s (hs ▸ List.getElem_mem hlt')
      repeat(refine run_ ?_)
      refine o_still (r_load rfl f1) (wants_none rfl) rfl ?_
      repeat(refine run_ ?_)
      refine k_ite rfl (fun hlt2 => ?_) (fun hge2 => ?_)
      · have hce : cutM T.row a = (T.row.take i ++ (s.1, b) :: (s.1 + b, s.2 - b) :: T.row.drop (i + 1), i + 1) := by
          rw [heq]
          simp only [cutM]
          rw [if_neg hnz, if_pos hlt2]
        have c13 : w3.cell? ⟨g, 1, none⟩ = some (.slice (some ad) T.row.length c) := k3.cell c1 id
        repeat(refine run_ ?_)
        refine o_still (r_load rfl c13) (wants_none rfl) rfl ?_
        repeat(refine run_ ?_)
        refine o_any (e_make (l := 0) (c := T.row.length + 1) rfl (int_eq (by omega)) (by omega) (by omega) (by unfold maxLen; omega)) (wants_none rfl) rfl ?_
        rintro _ w4 ⟨g4, rfl, nb4⟩
        have k4 : Kn w w4 := k3.trans nb4.kn
        have z3 := k3.size
        have e4 := nb4.ge
        have hO4 : Ow kSpan (noB w) (fun _ => False) w4 (.slice (some ⟨g4, 0, none⟩) 0 (T.row.length + 1)) [] := ow_made (w := w3) (n := 0) (zx := (0, 0)) (span_R (by decide) (by decide)) nb4 (by omega) (by unfold maxLen; omega) (Fits.zero _) (by simp only [noB]; omega)
        have h4 := k4.sl hold
        have c14 := k4.cell c1 id
        repeat(refine run_ ?_)
        refine o_still (r_load rfl c14) (wants_none rfl) rfl ?_
        repeat(refine run_ ?_)
        refine o_still (r_slice rfl 0 i c rfl ⟨_, rfl⟩ rfl (by omega) (by omega) (by omega)) (wants_none rfl) rfl ?_
        refine o_any (e_append2 (d := kSpan) rfl rfl hO4 (h4.cutV (l := 0) (hi := i) (m := c) (by omega) (by omega) (by omega) (by omega)) (by
          intro k hk he
          have := (hO4.block k he).1
          simp only [noB] at this
          omega) (by show (0 + _) * 16 ≤ 140737488355328; simp; omega) rfl rfl rfl) (wants_none rfl) rfl ?_
        rintro v5 w5 hA5
        obtain ⟨k5, hO5⟩ := app_next k4 hO4 hA5
        rw [List.drop_zero, List.nil_append] at hO5
        obtain ⟨A5, cc5, rfl, _⟩ := hO5.form
        have l2 := nb2.lt
        have z23 := hw3.kp.size
        have z4 := nb4.kn.size
        have hne4 : ∀ n c, ¬ (Value.slice (some ⟨g4, 0, none⟩) n c).ownBlock = some g2 := fun n c he => by
          simp only [Value.ownBlock, Option.map_some, Option.some.injEq] at he
          omega
        have f05 := hA5.kp.cell (nb4.kn.cell f0 id) (hne4 _ _)
        have f15 := hA5.kp.cell (nb4.kn.cell f1 id) (hne4 _ _)
        repeat(refine run_ ?_)
        refine o_still (r_load rfl f05) (wants_none rfl) rfl ?_
        refine o_still (r_move rfl) (wants_none rfl) rfl ?_
        refine o_still (r_build (c := #[.int .i64 s.1, .int .i64 b]) rfl rfl) (wants_none rfl) rfl ?_
        repeat(refine run_ ?_)
        refine o_still (r_load rfl f05) (wants_none rfl) rfl ?_
        repeat(refine run_ ?_)
        refine o_still (r_load rfl f15) (wants_none rfl) rfl ?_
        refine o_still (r_move rfl) (wants_none rfl) rfl ?_
        refine o_still (r_sub rfl rfl (by omega) (by omega)) (wants_none rfl) rfl ?_
        refine o_still (r_build (c := #[.int .i64 (s.1 + b), .int .i64 (s.2 - b)]) rfl rfl) (wants_none rfl) rfl ?_
        refine o_any (e_lit (qs := [(0, .agg #[.int .i64 s.1, .int .i64 b]), (1, .agg #[.int .i64 (s.1 + b), .int .i64 (s.2 - b)])]) (cells := #[.int .i64 s.1, .int .i64 b, .int .i64 (s.1 + b), .int .i64 (s.2 - b)]) rfl (by decide) (by kernel_rfl)) (wants_none rfl) rfl ?_
        rintro _ w6 ⟨g6, rfl, nb6⟩
        have e6 := nb6.ge
        have z5 := k5.size
        have k6 := k5.trans nb6.kn
        have hO6 := Kn.ow nb6.kn hO5
        have hb5 := hO5.block
        refine o_any (e_append2 (d := kSpan) rfl rfl hO6 (sl_blk (F := fun k => k = g6) (xs := [(s.1, b), (s.1 + b, s.2 - b)]) nb6.at_ ⟨_, _, rfl, span_R (by omega) (by omega), _, _, rfl, span_R (by omega) (by omega), rfl⟩ rfl (show 2 * 16 ≤ 140737488355328 by decide)) (by
          rintro k rfl he
          have := (hb5 _ he).2
          omega) (by simp only [List.length_take]; show (min i T.row.length + 2) * 16 ≤ 140737488355328; omega) rfl rfl rfl) (wants_none rfl) rfl ?_
        rintro v7 w7 hA7
        obtain ⟨k7, hO7⟩ := app_next k6 hO6 hA7
        obtain ⟨A7, cc7, rfl, _⟩ := hO7.form
        have h7 := k7.sl hold
        repeat(refine run_ ?_)
        refine o_still (r_load rfl (k7.cell c1 id)) (wants_none rfl) rfl ?_
        repeat(refine run_ ?_)
        refine o_still (r_slice rfl (i + 1) T.row.length c rfl ⟨rfl, rfl⟩ ⟨_, rfl⟩ (by omega) (by omega) (by omega)) (wants_none rfl) rfl ?_
        refine o_any (e_append2 (d := kSpan) rfl rfl hO7 (h7.cutV (l := i + 1) (hi := T.row.length) (m := c) (by omega) (by omega) (by omega) (by omega)) (by
          intro k hk he
          have := (hO7.block k he).1
          simp only [noB] at this
          omega) (by simp only [List.length_append, List.length_drop, List.length_take]; show (min i T.row.length + 2 + _) * 16 ≤ 140737488355328; omega) rfl rfl rfl) (wants_none rfl) rfl ?_
        rintro v8 w8 hA8
        obtain ⟨k8, hO8⟩ := app_next k7 hO7 hA8
        obtain ⟨A8, cc8, rfl, _⟩ := hO8.form
        have hrow : (T.row.take i ++ [(s.1, b), (s.1 + b, s.2 - b)]) ++ (T.row.take T.row.length).drop (i + 1) = (cutM T.row a).1 := by
          rw [hce, List.take_length]; simp
        rw [hrow] at hO8 ⊢
        repeat(refine run_ ?_)
        refine o_unit (u_store (i := 1) rfl rfl rfl (by simp only [add_plain, Nat.zero_add, Nat.add_zero]) (k8.blk hT.hb id) (show 1 < 4 by decide)) (wants_none rfl) rfl ?_
        rintro w9 hw9
        repeat(refine run_ ?_)
        have hb9 := hw9.at_
        have hq := hT.turn (row := (cutM T.row a).1) (Kp.then k8 hw9.kp (fun _ h => h.elim) (fun i _ h => h)) (by rw [tot_cutM hT.ok h0 h1]; exact hb9) ((Kp.ow hw9.kp (hO8.mono (G' := rowD D w g vs vv) (F' := fun _ => False) (fun k hk _ => hT.fresh k hk) fun _ h _ => h) (fun k hk => hk.2.1) (fun _ h => h.elim)).slF (fun _ h => h) fun _ h => h.elim) (cut_ok hT.ok h0) (by rw [tot_cutM hT.ok h0 h1]; omega)
        exact k_ret1 rfl rfl ⟨hq.1, ⟨_, _, _, hq.2⟩, by rw [hce]; rfl⟩
      · repeat(refine run_ ?_)
        refine o_still (r_load rfl f1) (wants_none rfl) rfl ?_
        repeat(refine run_ ?_)
        refine ih ⟨i + 1, b - s.2⟩ w3 ⟨by show i + 1 ≤ _; omega, k3, by show 0 ≤ b - s.2; omega, by show b - s.2 ≤ tot (T.row.drop (i + 1)); omega, ?_⟩ (by show T.row.length - (i + 1) < T.row.length - i; omega) _ (by repeat (first | exact SubB.nil | refine SubB.cons rfl ?_))
        show _ = (T.row.take (i + 1) ++ _, i + 1 + _)
        rw [heq]
        simp only [cutM]
        rw [if_neg hnz, if_neg hge2, List.take_succ_eq_append_getElem hlt', hs]
        simp only [List.append_assoc, List.cons_append, List.nil_append, Prod.mk.injEq, true_and]
        omega
  · have hie : i = T.row.length := by omega
    repeat(refine run_ ?_)
    refine o_still (r_load rfl (hkn.cell c1 id)) (wants_none rfl) rfl ?_
    repeat(refine run_ ?_)
    rw [hie, List.drop_length, List.take_length] at heq
    simp only [cutM, List.append_nil, Nat.add_zero] at heq
    refine k_ret1 rfl rfl ⟨Kn.kp hkn, ?_, by rw [heq]⟩
    rw [heq]
    exact (hT0.kn hkn).mono fun k hk _ => .inl hk
end
end Go.Ink

set_option linter.unusedVariables false
set_option linter.unusedSimpArgs false
namespace Go.Ink
open Go Go.Proofs

section
variable {D : Nat → Prop} {g : Nat} {w w' : World} {T : PTab} {vs vr vv : Value}
/-- Store and row are others. -/
theorem IsTabP.put (h : IsTabP D g w T vs vr vv) {w2 : World} {st : List Int} {row : List Span} {vs2 vr2 : Value} (hk : Kp (fun k => k = g ∨ vs.ownBlock = some k) w w2) (hb : w2.heap[g]? = some (.cells #[vs2, vr2, vv, .int .i64 (tot row)] 85 (0, 0)))
    (hs : Ow kRune (fun k => grownD D w k ∧ k ≠ g) (fun _ => False) w2 vs2 st) (hsb : vs2.ownBlock = vs.ownBlock ∨ ∃ q, vs2.ownBlock = some q ∧ w.heap.size ≤ q)
    (hr : Sl kSpan (rowD D w g vs2 vv) w2 vr2 row) (hok : SpOK st row) (hoks : ∀ r ∈ T.saved, SpOK st r) (h1 : st.length ≤ 1099511627776) (h2 : tot row ≤ 65536) :
    Kp D w w2 ∧ IsTabP (grownD D w) g w2 { T with store := st, row := row } vs2 vr2 vv := by
  refine ⟨hk.mono fun i _ hi => ?_, .inl h.ge, hb, hs, ?_, hr, hok, hoks, h1, h.small.2.1, h2⟩
  · rcases hi with rfl | hi
    · exact h.ge
    · exact (h.st.block i hi).1.1
  · have hv : ∀ k, (D k ∧ k ≠ g ∧ vs.ownBlock ≠ some k) → k < w.heap.size → grownD D w k ∧ k ≠ g ∧ vs2.ownBlock ≠ some k := by
      rintro k ⟨h3, h4, h5⟩ hl
      refine ⟨.inl h3, h4, fun he => ?_⟩
      rcases hsb with hsb | ⟨q, hq, hge⟩
      · exact h5 (hsb ▸ he)
      · rw [hq] at he
        cases he
        omega
    exact Kp.ow hk (h.sv.mono (G' := fun k => (grownD D w k ∧ k ≠ g ∧ vs2.ownBlock ≠ some k) ∧ k ≠ g ∧ vs.ownBlock ≠ some k) (F' := fun k => (grownD D w k ∧ k ≠ g ∧ vs2.ownBlock ≠ some k) ∧ k ≠ g ∧ vs.ownBlock ≠ some k) (fun k hk hl => ⟨hv k hk hl, hk.2⟩) fun k hk hl => ⟨hv k hk hl, hk.2⟩) (fun k hk he => he.elim hk.2.1 hk.2.2) (fun k hk he => he.elim hk.2.1 hk.2.2) |>.mono (fun k hk _ => hk.1) fun k hk _ => hk.1
theorem IsTabP.kn (h : IsTabP D g w T vs vr vv) (hk : Kn w w') : IsTabP D g w' T vs vr vv :=
  ⟨h.ge, hk.blk h.hb id, Kn.ow hk h.st, Kn.ow hk h.sv, Kn.sl hk h.row, h.ok, h.oks, h.small⟩
theorem IsTabP.tab (h : IsTabP D g w T vs vr vv) : IsTab D g w T := ⟨vs, vr, vv, h⟩
def insM (T : PTab) (a : Int) (xs : List Int) : PTab × Int :=
  if a < 0 ∨ tot T.row < a then (T, 2) else if 65536 - tot T.row < xs.length then (T, 3) else if xs = [] then (T, 0)
  else ({ T with store := T.store ++ xs, row := ((cutM T.row a).1.take (cutM T.row a).2 ++ [((T.store.length : Int), (xs.length : Int))]) ++ (cutM T.row a).1.drop (cutM T.row a).2 }, 0)
theorem TabQ.then {w2 : World} {T2 : PTab} {x u : Value} (hk : Kp D w w2) (h : TabQ (grownD D w) g w2 T2 x u w') : TabQ D g w T2 x u w' := by
  obtain ⟨h1, h2, h3⟩ := h
  have hz := hk.size
  refine ⟨Kp.then hk h1 (fun _ h => h) (fun i hi h => h.elim id fun h => by omega), h2.mono fun k hk _ => ?_, h3⟩
  rcases hk with (hk | hk) | hk
  · exact .inl hk
  · exact .inr hk
  · exact .inr (by omega)
set_option maxHeartbeats 2000000 in
theorem ins_calls {F : Nat → Prop} {v : Value} {xs : List Int} {a : Int} (h : IsTab D g w T) (ha : -9223372036854775808 ≤ a ∧ a ≤ 9223372036854775807) (hv : Sl kRune F w v xs) (hF : ∀ k, F k → k < w.heap.size → ¬ D k) (hst : T.store.length + xs.length ≤ 1099511627776) :
    CallsR Try.prog 55 #[.pointer (some ⟨g, 0, none⟩), .int .i64 a, v] w (TabQ D g w (insM T a xs).1 (.int .i64 (insM T a xs).2)) := by
  have hT0 := h
  obtain ⟨vs, vr, vv, hT⟩ := h
  obtain ⟨A, c, rfl, hc, hl⟩ := hv.form
  have hlen := hl.len
  have hsm := hT.small
  have ht0 := hT.ok.tot_nonneg
  have c3 : w.cell? ⟨g, 3, none⟩ = some (.int .i64 (tot T.row)) := blk_cell hT.hb
  refine calls_enter Try.func55 rfl rfl ?_
  repeat(refine run_ ?_)
  refine k_false rfl ?_
  have same : ∀ e : Int, insM T a xs = (T, e) → TabQ D g w (insM T a xs).1 (.int .i64 (insM T a xs).2) (.int .i64 e) w := fun e he => ⟨Kp.refl _ _, by rw [he]; exact hT0.grow, by rw [he]⟩
  by_cases hr : a < 0 ∨ tot T.row < a
  · have he : insM T a xs = (T, 2) := by unfold insM; rw [if_pos hr]
    by_cases hr1 : a < 0
    · repeat(refine run_ ?_)
      refine k_true rfl ?_
      repeat(refine run_ ?_)
      exact k_ret1 rfl rfl (same 2 he)
    · repeat(refine run_ ?_)
      refine o_still (r_load rfl c3) (wants_none rfl) rfl ?_
      repeat(refine run_ ?_)
      refine k_yes rfl (by omega) ?_
      repeat(refine run_ ?_)
      exact k_ret1 rfl rfl (same 2 he)
  have h0 : 0 ≤ a := by omega
  have h1 : a ≤ tot T.row := by omega
  repeat(refine run_ ?_)
  refine o_still (r_load rfl c3) (wants_none rfl) rfl ?_
  repeat(refine run_ ?_)
  refine k_no rfl (by omega) ?_
  repeat(refine run_ ?_)
  refine o_still (r_load rfl c3) (wants_none rfl) rfl ?_
  repeat(refine run_ ?_)
  by_cases hf : 65536 - tot T.row < xs.length
  · have he : insM T a xs = (T, 3) := by unfold insM; rw [if_neg hr, if_pos hf]
    refine k_yes rfl (by omega) ?_
    repeat(refine run_ ?_)
    exact k_ret1 rfl rfl (same 3 he)
  refine k_no rfl (by omega) ?_
  repeat(refine run_ ?_)
  by_cases hn : xs = []
  · have he : insM T a xs = (T, 0) := by unfold insM; rw [if_neg hr, if_neg hf, if_pos hn]
    refine k_yes rfl (by rw [hn]; rfl) ?_
    repeat(refine run_ ?_)
    exact k_ret1 rfl rfl (same 0 he)
  refine k_no rfl (by have := List.length_pos_iff.2 hn; omega) ?_
  repeat(refine run_ ?_)
  refine o_enter (n_call rfl) (wants_none rfl) rfl ((cut_calls hT0 h0 h1).mono ?_)
  rintro _ w2 ⟨hk2, hT2, rfl⟩
  obtain ⟨hci, hc2, hc3⟩ := cutM_le T.row a
  have htot := tot_cutM hT.ok h0 h1
  have hok2 := cut_ok (at_ := a) hT.ok h0
  have hgoal : insM T a xs = ({ T with store := T.store ++ xs, row := ((cutM T.row a).1.take (cutM T.row a).2 ++ [((T.store.length : Int), (xs.length : Int))]) ++ (cutM T.row a).1.drop (cutM T.row a).2 }, 0) := by unfold insM; rw [if_neg hr, if_neg hf, if_neg hn]
  have hrl := row_len hT.ok
  rw [hgoal]
  clear hgoal same hr hT0
  generalize (cutM T.row a).1 = row2 at *
  generalize (cutM T.row a).2 = i at *
  have hv2 : Sl kRune (fun k => F k ∧ k < w.heap.size) w2 (.slice A xs.length c) xs := Kp.sl hk2 (hv.mono fun k hk hl => ⟨hk, hl⟩) fun k hk => hF k hk.1 hk.2
  obtain ⟨vs2, vr2, vv2, h2⟩ := hT2
  obtain ⟨B, cB, rfl, _⟩ := h2.st.form
  obtain ⟨R, cR, rfl, hcR, _⟩ := h2.row.form
  simp only at hcR
  have hg2 := blk_lt h2.hb
  have d0 : w2.cell? ⟨g, 0, none⟩ = some (.slice B T.store.length cB) := blk_cell h2.hb
  have d1 : w2.cell? ⟨g, 1, none⟩ = some (.slice R row2.length cR) := blk_cell h2.hb
  repeat(refine run_ ?_)
  refine o_still (r_load rfl d0) (wants_none rfl) rfl ?_
  refine o_still (r_len rfl) (wants_none rfl) rfl ?_
  refine o_still (r_move rfl) (wants_none rfl) rfl ?_
  refine o_still (r_len rfl) (wants_none rfl) rfl ?_
  refine o_still (r_build (c := #[.int .i64 T.store.length, .int .i64 xs.length]) rfl rfl) (wants_none rfl) rfl ?_
  refine o_any (e_alloc) (wants_none rfl) rfl ?_
  rintro _ w3 ⟨g3, rfl, nb3⟩
  refine o_unit (u_storeA rfl rfl rfl (by simp [Value.oneCell']) rfl nb3.at_ (Nat.le_refl 2)) (wants_none rfl) rfl ?_
  rintro w4 hw4
  have e3 := nb3.ge
  have l3 := nb3.lt
  have k4 : Kn w2 w4 := Kp.then nb3.kn hw4.kp (fun _ h => h) (fun k hk he => by omega)
  have z2 := hk2.size
  have z3 := nb3.kn.size
  have z34 := hw4.kp.size
  have z4 := k4.size
  have h4 := h2.kn k4
  have b4 := hw4.at_
  have f0 : w4.cell? ⟨g3, 0, none⟩ = some (.int .i64 T.store.length) := blk_cell b4
  have f1 : w4.cell? ⟨g3, 1, none⟩ = some (.int .i64 xs.length) := blk_cell b4
  repeat(refine run_ ?_)
  refine o_still (r_load rfl (k4.cell d0 id)) (wants_none rfl) rfl ?_
  repeat(refine run_ ?_)
  refine o_any (e_append2 (d := kRune) rfl rfl h4.st (k4.sl hv2) (by
    intro k hk he
    have h5 := (h4.st.block k he).1.1
    rcases h5 with h5 | h5
    · exact hF k hk.1 hk.2 h5
    · have := hk.2; omega) (by show (T.store.length + xs.length) * 4 ≤ 140737488355328; omega) rfl rfl rfl) (wants_none rfl) rfl ?_
  rintro v5 w5 hA
  obtain ⟨B5, c5, rfl, _⟩ := hA.ow.form
  have b5 := hA.kp.blk h4.hb (fun he => (h4.st.block g he).1.2 rfl)
  have z5 := hA.kp.size
  repeat(refine run_ ?_)
  refine o_unit (u_store (i := 0) rfl rfl rfl (by simp only [add_plain, Nat.zero_add, Nat.add_zero]) b5 (show 0 < 4 by decide)) (wants_none rfl) rfl ?_
  rintro w6 hw6
  have z6 := hw6.kp.size
  have hk6 : Kp (fun k => k = g ∨ (Value.slice B T.store.length cB).ownBlock = some k) w4 w6 := Kp.then hA.kp hw6.kp (fun _ h => .inr h) (fun _ _ h => .inl h)
  have hr6 := Kp.sl hk6 h4.row (fun k hk he => he.elim hk.2.1 hk.2.2.1)
  replace hr6 : Sl kSpan (fun k => grownD D w k ∧ k ≠ g ∧ (Value.slice B T.store.length cB).ownBlock ≠ some k ∧ vv2.ownBlock ≠ some k) w6 (.slice R row2.length cR) row2 := hr6
  have d16 : w6.cell? ⟨g, 1, none⟩ = some (.slice R row2.length cR) := blk_cell hw6.at_
  have hn3 : ¬ (g3 = g ∨ (Value.slice B T.store.length cB).ownBlock = some g3) := by
    rintro (he | he)
    · omega
    · have := (h2.st.block g3 he).2; omega
  have f06 := hk6.cell f0 hn3
  have f16 := hk6.cell f1 hn3
  repeat(refine run_ ?_)
  refine k_draw [(0, 0), (1, 0), (2, 0), (3, 0), (4, 0), (5, 0), (6, 0), (7, 0), (8, 1), (9, 1), (10, 0)] (by kernel_rfl) (by kernel_rfl) rfl (by kernel_rfl) ?_
  repeat(refine rund_ ?_)
  refine d_open rfl ?_; refine x_still (r_load rfl d16) (wants_none rfl) rfl (by first | exact St.refl _ | assumption) ?_
  repeat(refine rund_ ?_)
  refine d_open rfl ?_; refine x_still (r_slice rfl 0 i i ⟨_, rfl⟩ ⟨_, rfl⟩ rfl (by omega) (by omega) (by omega)) (wants_none rfl) rfl (by first | exact St.refl _ | assumption) ?_
  refine d_open rfl ?_; refine x_still (r_loadA (cs := [.int .i64 T.store.length, .int .i64 xs.length]) rfl rfl (by
    intro j u hu
    match j, hu with
    | 0, hu => cases hu; exact f06
    | 1, hu => cases hu; exact f16)) (wants_none rfl) rfl (by first | exact St.refl _ | assumption) ?_
  refine d_open rfl ?_; refine x_any (e_one (z := .agg #[.int .i64 0, .int .i64 0]) (sz := 2) rfl rfl rfl (by decide)) (wants_none rfl) rfl ?_
  rintro _ w7 ⟨g7, rfl, nb7⟩
  refine .inl ⟨nb7.kn.st, ?_⟩
  have hst7 := nb7.kn.st
  refine d_open rfl ?_; refine x_any (e_append_full (d := kSpan) rfl rfl (nb7.kn.sl (hr6.cutV (l := 0) (hi := i) (m := i) (by omega) (by omega) (by omega) (by omega))) (sl_blk (F := fun k => k = g7) (xs := [((T.store.length : Int), (xs.length : Int))]) (cells := [.int .i64 T.store.length, .int .i64 xs.length]) nb7.at_ ⟨_, [], rfl, span_R (by omega) (by omega), rfl⟩ rfl (show 1 * 16 ≤ 140737488355328 by decide)) (by simp only [List.length_take, List.length_drop]; show (min i _ - 0 + 1) * 16 ≤ 140737488355328; omega) rfl rfl rfl) (wants_none rfl) rfl ?_
  rintro v8 w8 ⟨k8, h8⟩
  replace h8 := h8.resolve_left (fun h => List.cons_ne_nil _ _ h.1)
  have k68 : Kn w6 w8 := nb7.kn.trans k8
  have z7 := nb7.kn.size
  rw [List.drop_zero] at h8
  have hO8 : Ow kSpan (noB w6) (fun _ => False) w8 v8 (row2.take i ++ [((T.store.length : Int), (xs.length : Int))]) := (h8.sc (F' := fun _ => False)).mono (fun k hk _ => by simp only [noB]; omega) (fun _ h _ => h)
  obtain ⟨A8, c8, rfl, _⟩ := hO8.form
  refine .inl ⟨k68.st, ?_⟩
  have hst8 := k68.st
  repeat(refine rund_ ?_)
  repeat(refine run_ ?_)
  refine o_still (r_load rfl (k68.cell d16 id)) (wants_none rfl) rfl ?_
  repeat(refine run_ ?_)
  refine o_still (r_slice rfl i row2.length cR rfl ⟨rfl, rfl⟩ ⟨_, rfl⟩ (by omega) (by omega) (by omega)) (wants_none rfl) rfl ?_
  refine o_any (e_append2 (d := kSpan) rfl rfl hO8 ((k68.sl hr6.old).cutV (l := i) (hi := row2.length) (m := cR) (by omega) (by omega) (by omega) (by omega)) (by
    intro k hk he
    have := (hO8.block k he).1
    simp only [noB] at this
    omega) (by simp only [List.length_append, List.length_take, List.length_drop]; show (min i _ + 1 + _) * 16 ≤ 140737488355328; omega) rfl rfl rfl) (wants_none rfl) rfl ?_
  rintro v9 w9 hA9
  obtain ⟨k9, hO9⟩ := app_next k68 hO8 hA9
  obtain ⟨A9, c9, rfl, _⟩ := hO9.form
  rw [List.take_length] at hO9 ⊢
  have z9 := k9.size
  repeat(refine run_ ?_)
  refine o_unit (u_store (i := 1) rfl rfl rfl (by simp only [add_plain, Nat.zero_add, Nat.add_zero]) (k9.blk hw6.at_ id) (show 1 < 4 by decide)) (wants_none rfl) rfl ?_
  rintro w10 hw10
  repeat(refine run_ ?_)
  have d310 : w10.cell? ⟨g, 3, none⟩ = some (.int .i64 (tot row2)) := blk_cell hw10.at_
  refine o_still (r_load rfl d310) (wants_none rfl) rfl ?_
  repeat(refine run_ ?_)
  refine o_unit (u_store (i := 3) rfl rfl rfl (by simp only [add_plain, Nat.zero_add, Nat.add_zero]) hw10.at_ (show 3 < 4 by decide)) (wants_none rfl) rfl ?_
  rintro w11 hw11
  repeat(refine run_ ?_)
  have htt : tot ((row2.take i ++ [((T.store.length : Int), (xs.length : Int))]) ++ row2.drop i) = tot row2 + xs.length := by
    have := tot_append (row2.take i) (row2.drop i)
    rw [List.take_append_drop] at this
    rw [tot_append, tot_append, tot_cons, tot_nil]
    simp only
    omega
  have hpos := List.length_pos_iff.2 hn
  have hq := h4.put (st := T.store ++ xs) (row := (row2.take i ++ [((T.store.length : Int), (xs.length : Int))]) ++ row2.drop i) (Kp.then (Kp.then (Kp.then hk6 k9 (fun _ h => h) (fun _ _ h => h.elim)) hw10.kp (fun _ h => h) (fun _ _ h => .inl h)) hw11.kp (fun _ h => h) (fun _ _ h => .inl h))
    (by rw [htt]; exact hw11.at_)
    (Kp.ow hw11.kp (Kp.ow hw10.kp (Kn.ow k9 (Kp.ow hw6.kp (((hA.ow.sc (F' := fun _ => False)).mono (G' := fun k => grownD (grownD D w) w4 k ∧ k ≠ g) (F' := fun _ => False) (fun k hk hl => ?_) fun _ h _ => h)) (fun k hk => hk.2) fun _ h => h.elim)) (fun k hk => hk.2) fun _ h => h.elim) (fun k hk => hk.2) fun _ h => h.elim)
    hA.blk
    ((Kp.ow hw11.kp (Kp.ow hw10.kp (hO9.mono (G' := rowD (grownD D w) w4 g _ vv2) (F' := fun _ => False) (fun k hk hl => ?_) fun _ h _ => h) (fun k hk => hk.2.1) fun _ h => h.elim) (fun k hk => hk.2.1) fun _ h => h.elim).slF (fun _ h => h) fun _ h => h.elim)
    ?_ ?_ ?_ ?_
  · have hkk := hk2
    refine k_ret1 rfl rfl (TabQ.then hk2 ⟨?_, ?_, rfl⟩)
    · exact Kp.then (k4.kp (S := grownD D w)) hq.1 (fun _ h => h) (fun _ _ h => h)
    · exact hq.2.tab.mono fun k hk _ => hk.elim .inl fun hk => .inr (by omega)
  · rcases hk with hk | hk
    · exact ⟨.inl hk.1, hk.2⟩
    · exact ⟨.inr hk, by omega⟩
  · simp only [noB] at hk
    refine ⟨.inr (by omega), by omega, fun he => ?_, fun he => ?_⟩
    · have := (hA.ow.block k he).2; omega
    · have := (h4.sv.block k he).2; omega
  · refine SpOK.append (SpOK.append (fun s hs => ?_) (fun s hs => ?_)) (fun s hs => ?_)
    · exact hok2.grow s (List.mem_of_mem_take hs)
    · obtain rfl : s = ((T.store.length : Int), (xs.length : Int)) := by simpa using hs
      simp only [List.length_append]
      omega
    · exact hok2.grow s (List.mem_of_mem_drop hs)
  · exact fun r hr => (hT.oks r hr).grow
  · rw [List.length_append]; exact hst
  · rw [htt]; omega
end
end Go.Ink

set_option linter.unusedVariables false
set_option linter.unusedSimpArgs false
namespace Go.Ink
open Go Go.Proofs

section
variable {D : Nat → Prop} {g : Nat} {w w' : World} {T : PTab} {vs vr vv : Value}
theorem len_calls (h : IsTab D g w T) : CallsR Try.prog 37 #[.pointer (some ⟨g, 0, none⟩)] w fun u w' => w' = w ∧ u = .int .i64 (tot T.row) := by
  obtain ⟨vs, vr, vv, hT⟩ := h
  have c3 : w.cell? ⟨g, 3, none⟩ = some (.int .i64 (tot T.row)) := blk_cell hT.hb
  refine calls_enter Try.func37 rfl rfl ?_
  repeat(refine run_ ?_)
  refine k_false rfl ?_
  repeat(refine run_ ?_)
  refine o_still (r_load rfl c3) (wants_none rfl) rfl ?_
  repeat(refine run_ ?_)
  exact k_ret1 rfl rfl ⟨rfl, rfl⟩
def fitM (T : PTab) (a n : Int) : Int := if a < 0 ∨ tot T.row < a ∨ n < 0 ∨ tot T.row - a < n then 2 else 0
theorem fits_calls {a n : Int} (h : IsTab D g w T) : CallsR Try.prog 53 #[.pointer (some ⟨g, 0, none⟩), .int .i64 a, .int .i64 n] w fun u w' => w' = w ∧ u = .int .i64 (fitM T a n) := by
  obtain ⟨vs, vr, vv, hT⟩ := h
  have c3 : w.cell? ⟨g, 3, none⟩ = some (.int .i64 (tot T.row)) := blk_cell hT.hb
  have hsm := hT.small
  have ht0 := hT.ok.tot_nonneg
  refine calls_enter Try.func53 rfl rfl ?_
  repeat(refine run_ ?_)
  refine k_false rfl ?_
  by_cases h1 : a < 0
  · have he : fitM T a n = 2 := by unfold fitM; rw [if_pos (.inl h1)]
    repeat(refine run_ ?_)
    refine k_true rfl ?_
    repeat(refine run_ ?_)
    exact k_ret1 rfl rfl ⟨rfl, by rw [he]⟩
  by_cases h2 : tot T.row < a
  · have he : fitM T a n = 2 := by unfold fitM; rw [if_pos (.inr (.inl h2))]
    repeat(refine run_ ?_)
    refine o_still (r_load rfl c3) (wants_none rfl) rfl ?_
    repeat(refine run_ ?_)
    refine k_true rfl ?_
    repeat(refine run_ ?_)
    exact k_ret1 rfl rfl ⟨rfl, by rw [he]⟩
  by_cases h3 : n < 0
  · have he : fitM T a n = 2 := by unfold fitM; rw [if_pos (.inr (.inr (.inl h3)))]
    repeat(refine run_ ?_)
    refine o_still (r_load rfl c3) (wants_none rfl) rfl ?_
    repeat(refine run_ ?_)
    refine k_true rfl ?_
    repeat(refine run_ ?_)
    exact k_ret1 rfl rfl ⟨rfl, by rw [he]⟩
  have he : fitM T a n = if tot T.row - a < n then 2 else 0 := by
    unfold fitM
    by_cases h4 : tot T.row - a < n
    · rw [if_pos (.inr (.inr (.inr h4))), if_pos h4]
    · rw [if_neg (by omega), if_neg h4]
  repeat(refine run_ ?_)
  refine o_still (r_load rfl c3) (wants_none rfl) rfl ?_
  repeat(refine run_ ?_)
  refine o_still (r_load rfl c3) (wants_none rfl) rfl ?_
  repeat(refine run_ ?_)
  refine k_ite rfl (fun h4 => ?_) (fun h4 => ?_)
  · repeat(refine run_ ?_)
    exact k_ret1 rfl rfl ⟨rfl, by rw [he, if_pos h4]⟩
  · repeat(refine run_ ?_)
    exact k_ret1 rfl rfl ⟨rfl, by rw [he, if_neg h4]⟩
def delM (T : PTab) (a n : Int) : PTab × Int :=
  if fitM T a n ≠ 0 then (T, fitM T a n) else if n = 0 then (T, 0)
  else ({ T with row := (cutM (cutM T.row a).1 (a + n)).1.take (cutM T.row a).2 ++ (cutM (cutM T.row a).1 (a + n)).1.drop (cutM (cutM T.row a).1 (a + n)).2 }, 0)
end
end Go.Ink

set_option linter.unusedVariables false
set_option linter.unusedSimpArgs false
namespace Go.Ink
theorem cutM_take {st : List Int} : ∀ {row : List Span} {b : Int} {i : Nat}, SpOK st row → i ≤ row.length → tot (row.take i) ≤ b → (cutM row b).1.take i = row.take i ∧ i ≤ (cutM row b).2
  | row, b, 0, _, _, _ => by simp
  | [], b, i + 1, _, h, _ => by simp at h
  | s :: r, b, i + 1, h, hi, hb => by
    rw [List.take_succ_cons, tot_cons] at hb
    have h1 := h s (by simp)
    have hr : SpOK st r := fun y hy => h y (List.mem_cons_of_mem _ hy)
    have h2 : 0 ≤ tot (r.take i) := SpOK.tot_nonneg (st := st) fun y hy => hr y (List.mem_of_mem_take hy)
    have ih := cutM_take (b := b - s.2) (i := i) hr (by simpa using hi) (by omega)
    unfold cutM
    rw [if_neg (by omega), if_neg (by omega)]
    simp only [List.take_succ_cons, ih.1, true_and]
    omega
section
variable {st : List Int} {row : List Span} {a : Int}
theorem cut_drop (h : SpOK st row) (h0 : 0 ≤ a) (h1 : a ≤ tot row) : flat st ((cutM row a).1.drop (cutM row a).2) = (flat st row).drop a.toNat := by
  obtain ⟨h2, h3⟩ := cut_flat h h0 h1
  have h4 := flat_append st ((cutM row a).1.take (cutM row a).2) ((cutM row a).1.drop (cutM row a).2)
  rw [List.take_append_drop, h2, h3] at h4
  have h5 := List.take_append_drop a.toNat (flat st row)
  exact (List.append_cancel_left (h5.trans h4)).symm
theorem cut_tot (h : SpOK st row) (h0 : 0 ≤ a) (h1 : a ≤ tot row) : tot ((cutM row a).1.take (cutM row a).2) = a := by
  have h2 := flat_len (st := st) (row := (cutM row a).1.take (cutM row a).2) fun y hy => cut_ok (at_ := a) h h0 y (List.mem_of_mem_take hy)
  rw [(cut_flat h h0 h1).2, List.length_take] at h2
  have h3 := flat_len h
  omega
end
theorem span_new (st xs : List Int) : spanOf (st ++ xs) ((st.length : Int), (xs.length : Int)) = xs := by
  unfold spanOf
  simp
section
variable {T : PTab} {a n : Int} {xs : List Int}
theorem ins_flat (h : SpOK T.store T.row) (h0 : 0 ≤ a) (h1 : a ≤ tot T.row) (h2 : ¬ 65536 - tot T.row < xs.length) :
    (insM T a xs).2 = 0 ∧ (insM T a xs).1.saved = T.saved ∧ (∀ r, SpOK T.store r → flat (insM T a xs).1.store r = flat T.store r) ∧ flat (insM T a xs).1.store (insM T a xs).1.row = (flat T.store T.row).take a.toNat ++ xs ++ (flat T.store T.row).drop a.toNat ∧
    (insM T a xs).1.row.length ≤ T.row.length + 2 ∧ tot (insM T a xs).1.row = tot T.row + xs.length ∧ (insM T a xs).1.store.length = T.store.length + xs.length := by
  unfold insM
  rw [if_neg (by omega), if_neg h2]
  split
  · next hx => subst hx; simp
  · obtain ⟨c1, c2, c3⟩ := cutM_le T.row a
    have hok := cut_ok (at_ := a) h h0
    refine ⟨rfl, rfl, fun r hr => flat_grow hr, ?_, ?_, ?_, ?_⟩
    · simp only [flat_append]
      rw [flat_grow fun y hy => hok y (List.mem_of_mem_take hy), flat_grow fun y hy => hok y (List.mem_of_mem_drop hy), (cut_flat h h0 h1).2, cut_drop h h0 h1]
      simp [flat, span_new]
    · simp only [List.length_append, List.length_take, List.length_drop, List.length_singleton]
      omega
    · have h3 := tot_append ((cutM T.row a).1.take (cutM T.row a).2) ((cutM T.row a).1.drop (cutM T.row a).2)
      rw [List.take_append_drop, tot_cutM h h0 h1] at h3
      simp only [tot_append, tot_cons, tot_nil]
      omega
    · simp
theorem ins_bad (h0 : a < 0 ∨ tot T.row < a) : insM T a xs = (T, 2) := by unfold insM; rw [if_pos h0]
theorem ins_full (h0 : 0 ≤ a) (h1 : a ≤ tot T.row) (h2 : 65536 - tot T.row < xs.length) : insM T a xs = (T, 3) := by unfold insM; rw [if_neg (by omega), if_pos h2]
theorem fit_zero : fitM T a n = 0 ↔ 0 ≤ a ∧ 0 ≤ n ∧ a + n ≤ tot T.row := by
  unfold fitM
  split
  · simp; omega
  · simp; omega
theorem del_flat (h : SpOK T.store T.row) (h0 : 0 ≤ a) (hn : 0 ≤ n) (h1 : a + n ≤ tot T.row) :
    (delM T a n).2 = 0 ∧ (delM T a n).1.saved = T.saved ∧ (delM T a n).1.store = T.store ∧ flat T.store (delM T a n).1.row = (flat T.store T.row).take a.toNat ++ (flat T.store T.row).drop (a + n).toNat ∧
    (delM T a n).1.row.length ≤ T.row.length + 2 ∧ tot (delM T a n).1.row = tot T.row - n := by
  have hf : fitM T a n = 0 := fit_zero.2 ⟨h0, hn, h1⟩
  unfold delM
  rw [hf, if_neg (by simp)]
  split
  · next hx => subst hx; simp
  · have hok := cut_ok (at_ := a) h h0
    have t1 := tot_cutM h h0 (show a ≤ tot T.row by omega)
    have hok2 := cut_ok (at_ := a + n) hok (by omega)
    have ct := cut_tot h h0 (show a ≤ tot T.row by omega)
    obtain ⟨c1, c2, c3⟩ := cutM_le T.row a
    obtain ⟨d1, d2, d3⟩ := cutM_le (cutM T.row a).1 (a + n)
    obtain ⟨e1, e2⟩ := cutM_take (b := a + n) (i := (cutM T.row a).2) hok c1 (by omega)
    have f1 := cut_drop hok (show 0 ≤ a + n by omega) (by omega)
    have f2 := (cut_flat h h0 (show a ≤ tot T.row by omega))
    have hfl : flat T.store ((cutM (cutM T.row a).1 (a + n)).1.take (cutM T.row a).2 ++ (cutM (cutM T.row a).1 (a + n)).1.drop (cutM (cutM T.row a).1 (a + n)).2) = (flat T.store T.row).take a.toNat ++ (flat T.store T.row).drop (a + n).toNat := by
      rw [flat_append, f1, e1, f2.1, f2.2]
    refine ⟨rfl, rfl, rfl, hfl, ?_, ?_⟩
    · simp only [List.length_append, List.length_take, List.length_drop]
      omega
    · have g1 := flat_len (st := T.store) (row := (cutM (cutM T.row a).1 (a + n)).1.take (cutM T.row a).2 ++ (cutM (cutM T.row a).1 (a + n)).1.drop (cutM (cutM T.row a).1 (a + n)).2) (SpOK.append (fun y hy => hok2 y (List.mem_of_mem_take hy)) fun y hy => hok2 y (List.mem_of_mem_drop hy))
      rw [hfl, List.length_append, List.length_take, List.length_drop] at g1
      have g2 := flat_len h
      show tot ((cutM (cutM T.row a).1 (a + n)).1.take (cutM T.row a).2 ++ (cutM (cutM T.row a).1 (a + n)).1.drop (cutM (cutM T.row a).1 (a + n)).2) = _
      omega
theorem del_bad (h0 : ¬ (0 ≤ a ∧ 0 ≤ n ∧ a + n ≤ tot T.row)) : delM T a n = (T, 2) := by
  have hf : fitM T a n ≠ 0 := fun h => h0 (fit_zero.1 h)
  have hf2 : fitM T a n = 2 := by unfold fitM at hf ⊢; split at hf <;> simp_all
  unfold delM
  rw [if_pos hf, hf2]
end
end Go.Ink

set_option linter.unusedVariables false
set_option linter.unusedSimpArgs false
namespace Go.Ink
open Go Go.Proofs

section
variable {D : Nat → Prop} {g : Nat} {w w' : World} {T : PTab} {vs vr vv : Value}
set_option maxHeartbeats 2000000 in
theorem del_calls {a n : Int} (h : IsTab D g w T) (ha : -9223372036854775808 ≤ a ∧ a ≤ 9223372036854775807) (hb : -9223372036854775808 ≤ n ∧ n ≤ 9223372036854775807) :
    CallsR Try.prog 54 #[.pointer (some ⟨g, 0, none⟩), .int .i64 a, .int .i64 n] w (TabQ D g w (delM T a n).1 (.int .i64 (delM T a n).2)) := by
  have hT0 := h
  obtain ⟨vs, vr, vv, hT⟩ := h
  have hsm := hT.small
  have ht0 := hT.ok.tot_nonneg
  refine calls_enter Try.func54 rfl rfl ?_
  repeat(refine run_ ?_)
  refine o_enter (n_call rfl) (wants_none rfl) rfl ((fits_calls (a := a) (n := n) hT0).mono ?_)
  rintro _ w ⟨rfl, rfl⟩
  repeat(refine run_ ?_)
  have same : ∀ e : Int, delM T a n = (T, e) → TabQ D g w (delM T a n).1 (.int .i64 (delM T a n).2) (.int .i64 e) w := fun e he => ⟨Kp.refl _ _, by rw [he]; exact hT0.grow, by rw [he]⟩
  by_cases hf : fitM T a n = 0
  case neg =>
    have he : delM T a n = (T, fitM T a n) := by unfold delM; rw [if_pos hf]
    repeat(refine run_ ?_)
    refine k_true rfl ?_
    repeat(refine run_ ?_)
    exact k_ret1 rfl rfl (same _ he)
  obtain ⟨h0, hn0, h1⟩ := fit_zero.1 hf
  by_cases hn : n = 0
  · have he : delM T a n = (T, fitM T a n) := by unfold delM; rw [if_neg (by simp [hf]), if_pos hn, hf]
    repeat(refine run_ ?_)
    refine k_yes rfl hn ?_
    repeat(refine run_ ?_)
    exact k_ret1 rfl rfl (same _ he)
  have hgoal : delM T a n = ({ T with row := (cutM (cutM T.row a).1 (a + n)).1.take (cutM T.row a).2 ++ (cutM (cutM T.row a).1 (a + n)).1.drop (cutM (cutM T.row a).1 (a + n)).2 }, 0) := by unfold delM; rw [if_neg (by simp [hf]), if_neg hn]
  have hdf := del_flat hT.ok h0 hn0 h1
  rw [hgoal] at hdf ⊢
  have hok := cut_ok (at_ := a) hT.ok h0
  have t1 := tot_cutM hT.ok h0 (show a ≤ tot T.row by omega)
  have hok2 := cut_ok (at_ := a + n) hok (by omega)
  have t2 := tot_cutM hok (show 0 ≤ a + n by omega) (by omega)
  have ct := cut_tot hT.ok h0 (show a ≤ tot T.row by omega)
  obtain ⟨c1, c2, c3⟩ := cutM_le T.row a
  obtain ⟨d1, d2, d3⟩ := cutM_le (cutM T.row a).1 (a + n)
  obtain ⟨e1, e2⟩ := cutM_take (b := a + n) (i := (cutM T.row a).2) hok c1 (by omega)
  have hrl := row_len hT.ok
  repeat(refine run_ ?_)
  refine k_no rfl hn ?_
  repeat(refine run_ ?_)
  refine o_enter (n_call rfl) (wants_none rfl) rfl ((cut_calls hT0 h0 (by omega)).mono ?_)
  rintro _ w2 ⟨hk2, hT2, rfl⟩
  repeat(refine run_ ?_)
  refine o_enter (n_call rfl) (wants_none rfl) rfl ((cut_calls (a := a + n) hT2 (by omega) (by show a + n ≤ tot (cutM T.row a).1; omega)).mono ?_)
  rintro _ w3 ⟨hk3, hT3, rfl⟩
  simp only at hT3 ⊢
  clear hgoal same hT0 hT2
  generalize (cutM (cutM T.row a).1 (a + n)).1 = r2 at *
  generalize (cutM (cutM T.row a).1 (a + n)).2 = k at *
  generalize (cutM T.row a).1 = r1 at *
  generalize (cutM T.row a).2 = i at *
  obtain ⟨vs3, vr3, vv3, h3⟩ := hT3
  obtain ⟨R, cR, rfl, hcR, _⟩ := h3.row.form
  simp only at hcR
  have hg3 := blk_lt h3.hb
  have m1 : w3.cell? ⟨g, 1, none⟩ = some (.slice R r2.length cR) := blk_cell h3.hb
  have hr3 : Sl kSpan (fun k => grownD (grownD D w) w2 k ∧ k ≠ g ∧ vs3.ownBlock ≠ some k ∧ vv3.ownBlock ≠ some k) w3 (.slice R r2.length cR) r2 := h3.row
  repeat(refine run_ ?_)
  refine k_draw [(0, 0), (1, 0), (2, 0), (3, 0), (4, 0), (5, 0), (6, 0), (7, 0), (8, 0), (9, 0), (10, 0), (11, 0), (12, 0), (13, 0), (14, 1), (15, 0), (16, 0), (17, 1)] (by kernel_rfl) (by kernel_rfl) rfl (by kernel_rfl) ?_
  repeat(refine rund_ ?_)
  refine d_open rfl ?_; refine x_still (r_load rfl m1) (wants_none rfl) rfl (by first | exact St.refl _ | assumption) ?_
  repeat(refine rund_ ?_)
  refine d_open rfl ?_; refine x_still (r_slice rfl 0 i i ⟨_, rfl⟩ ⟨_, rfl⟩ rfl (by omega) (by omega) (by omega)) (wants_none rfl) rfl (by first | exact St.refl _ | assumption) ?_
  repeat(refine rund_ ?_)
  refine d_open rfl ?_; refine x_still (r_load rfl m1) (wants_none rfl) rfl (by first | exact St.refl _ | assumption) ?_
  repeat(refine rund_ ?_)
  refine d_open rfl ?_; refine x_still (r_slice rfl k r2.length cR rfl ⟨rfl, rfl⟩ ⟨_, rfl⟩ (by omega) (by omega) (by omega)) (wants_none rfl) rfl (by first | exact St.refl _ | assumption) ?_
  repeat(refine rund_ ?_)
  have sA := hr3.cutV (l := 0) (hi := i) (m := i) (by omega) (by omega) (by omega) (by omega)
  have sB := hr3.cutV (l := k) (hi := r2.length) (m := cR) (by omega) (by omega) (by omega) (by omega)
  rw [List.drop_zero] at sA
  rw [List.take_length] at sB
  refine d_open rfl ?_; refine x_any (e_append_full (d := kSpan) rfl rfl sA sB (by simp only [List.length_take, List.length_drop]; show (min i _ + _) * 16 ≤ 140737488355328; omega) rfl rfl rfl) (wants_none rfl) rfl ?_
  rintro v4 w4 ⟨k4, h4⟩
  have s4 : Sl kSpan (rowD (grownD (grownD D w) w2) w3 g vs3 vv3) w4 v4 (r2.take i ++ r2.drop k) := by
    rcases h4 with ⟨h4, rfl⟩ | h4
    · rw [h4, List.append_nil]
      exact (k4.sl sA).mono fun j hj _ => ⟨.inl hj.1, hj.2⟩
    · refine h4.slF (fun j hj => h3.fresh j hj) fun j hj => ?_
      rcases hj with hj | hj
      · exact ⟨.inl hj.1, hj.2⟩
      · exact ⟨.inl hj.1, hj.2⟩
  obtain ⟨A4, cc4, hv4, _⟩ := s4.form
  clear h4
  subst hv4
  refine .inl ⟨k4.st, ?_⟩
  have hst4 := k4.st
  repeat(refine rund_ ?_)
  refine d_open rfl ?_; refine x_unit (u_store (i := 1) rfl rfl rfl (by simp only [add_plain, Nat.zero_add, Nat.add_zero]) (k4.blk h3.hb id) (show 1 < 4 by decide)) (wants_none rfl) rfl ?_
  rintro w5 hw5
  refine .inr ⟨(by kernel_rfl), ?_⟩
  repeat(refine rund_ ?_)
  repeat(refine run_ ?_)
  have d35 : w5.cell? ⟨g, 3, none⟩ = some (.int .i64 (tot r2)) := blk_cell hw5.at_
  refine o_still (r_load rfl d35) (wants_none rfl) rfl ?_
  repeat(refine run_ ?_)
  refine o_unit (u_store (i := 3) rfl rfl rfl (by simp only [add_plain, Nat.zero_add, Nat.add_zero]) hw5.at_ (show 3 < 4 by decide)) (wants_none rfl) rfl ?_
  rintro w6 hw6
  repeat(refine run_ ?_)
  have htt : tot (r2.take i ++ r2.drop k) = tot r2 - n := by
    have := hdf.2.2.2.2.2
    simp only at this
    omega
  have hq := h3.turn (row := r2.take i ++ r2.drop k) (Kp.then (Kp.then k4 hw5.kp (fun _ h => h.elim) (fun _ _ h => h)) hw6.kp (fun _ h => h) (fun _ _ h => h)) (by rw [htt]; exact hw6.at_)
    (Kp.sl hw6.kp (Kp.sl hw5.kp s4 fun j hj => hj.2.1) fun j hj => hj.2.1) (SpOK.append (fun s hs => hok2 s (List.mem_of_mem_take hs)) fun s hs => hok2 s (List.mem_of_mem_drop hs)) (by omega)
  exact k_ret1 rfl rfl (TabQ.then hk2 (TabQ.then hk3 ⟨hq.1, hq.2.tab, rfl⟩))
end
end Go.Ink

set_option linter.unusedVariables false
set_option linter.unusedSimpArgs false
namespace Go.Ink
open Go Go.Proofs

def sliceM (T : PTab) (a n : Int) : List Int × Int := if fitM T a n = 0 then (((flat T.store T.row).drop a.toNat).take n.toNat, 0) else ([], 2)
theorem slice_step1 {st : List Int} {s : Span} {rest : List Int} {a n : Int} (h : 0 ≤ s.1 ∧ 0 < s.2 ∧ s.1 + s.2 ≤ st.length) (ha : s.2 ≤ a) : ((spanOf st s ++ rest).drop a.toNat).take n.toNat = (rest.drop (a - s.2).toNat).take n.toNat := by
  have hl := span_len h
  rw [List.drop_append, List.drop_of_length_le (by omega), List.nil_append]
  congr 2
  omega
theorem slice_step2 {st : List Int} {s : Span} {rest : List Int} {a n k : Int} (h : 0 ≤ s.1 ∧ 0 < s.2 ∧ s.1 + s.2 ≤ st.length) (h0 : 0 ≤ a) (ha : a < s.2) (hn : 0 ≤ n) (hk : k = min n (s.2 - a)) :
    ((spanOf st s ++ rest).drop a.toNat).take n.toNat = (st.take (s.1 + a + k).toNat).drop (s.1 + a).toNat ++ (rest.drop (0 : Int).toNat).take (n - k).toNat := by
  have hl := span_len h
  have e1 : spanOf st s = (st.drop s.1.toNat).take s.2.toNat := rfl
  rw [List.drop_append, show a.toNat - (spanOf st s).length = 0 from by omega, List.drop_zero, List.take_append, List.length_drop]
  congr 1
  · rw [e1, List.drop_take, List.drop_drop, List.take_take, List.drop_take]
    congr 1
    · omega
    · congr 1; omega
  · rw [show (0 : Int).toNat = 0 from rfl, List.drop_zero]
    congr 1; omega
structure SlSt where
  i : Nat
  a : Int
  n : Int
  out : List Int
  A : Option Addr
  c : Nat
section
variable {D : Nat → Prop} {g : Nat} {w w' : World} {T : PTab} {vs vr vv : Value}
def SliceQ (w : World) (r : List Int × Int) (u : Value) (w' : World) : Prop := Kn w w' ∧ ∃ v, u = .tuple #[v, .int .i64 r.2] ∧ Ow kRune (noB w) (fun _ => False) w' v r.1
set_option maxHeartbeats 2000000 in
theorem slice_calls {a n : Int} (h : IsTab D g w T) (ha : -9223372036854775808 ≤ a ∧ a ≤ 9223372036854775807) (hb : -9223372036854775808 ≤ n ∧ n ≤ 9223372036854775807) :
    CallsR Try.prog 44 #[.pointer (some ⟨g, 0, none⟩), .int .i64 a, .int .i64 n] w (SliceQ w (sliceM T a n)) := by
  have hT0 := h
  obtain ⟨vs, vr, vv, hT⟩ := h
  have hsm := hT.small
  have ht0 := hT.ok.tot_nonneg
  refine calls_enter Try.func44 rfl rfl ?_
  repeat(refine run_ ?_)
  refine o_enter (n_call rfl) (wants_none rfl) rfl ((fits_calls (a := a) (n := n) hT0).mono ?_)
  rintro _ w ⟨rfl, rfl⟩
  repeat(refine run_ ?_)
  by_cases hf : fitM T a n = 0
  case neg =>
    have he : sliceM T a n = ([], 2) := by unfold sliceM; rw [if_neg hf]
    have hf2 : fitM T a n = 2 := by unfold fitM at hf ⊢; split at hf <;> simp_all
    refine k_yes rfl hf ?_
    repeat(refine run_ ?_)
    rw [he]
    exact k_ret2 rfl rfl rfl ⟨Kp.refl _ _, _, by rw [hf2], Ow.nil _ _ _ _⟩
  obtain ⟨h0, hn0, h1⟩ := fit_zero.1 hf
  have he : sliceM T a n = (((flat T.store T.row).drop a.toNat).take n.toNat, 0) := by unfold sliceM; rw [if_pos hf]
  rw [he]
  clear he
  refine k_no rfl (by simp [hf]) ?_
  obtain ⟨N, rfl⟩ : ∃ N : Nat, n = N := ⟨n.toNat, by omega⟩
  obtain ⟨B, cB, rfl, hcB, _⟩ := hT.st.form
  obtain ⟨R, cR, rfl, hcR, hlR⟩ := hT.row.form
  have hrl := row_len hT.ok
  have m0 : w.cell? ⟨g, 0, none⟩ = some (.slice B T.store.length cB) := blk_cell hT.hb
  have m1 : w.cell? ⟨g, 1, none⟩ = some (.slice R T.row.length cR) := blk_cell hT.hb
  have hr := hT.row.old
  have hst : Sl kRune (fun k => k < w.heap.size) w (.slice B T.store.length cB) T.store := hT.st.sl.old
  repeat(refine run_ ?_)
  refine o_any (e_make (l := 0) (c := N) rfl rfl (by omega) (by omega) (by unfold maxLen; omega)) (wants_none rfl) rfl ?_
  rintro _ w1 ⟨g1, rfl, nb1⟩
  have hO1 : Ow kRune (noB w) (fun _ => False) w1 (.slice (some ⟨g1, 0, none⟩) 0 N) [] := ow_made (w := w) (n := 0) (zx := 0) ⟨rfl, by decide, by decide⟩ nb1 (by omega) (by unfold maxLen; omega) (Fits.zero _) nb1.ge
  repeat(refine run_ ?_)
  refine o_still (r_load rfl (nb1.kn.cell m1 id)) (wants_none rfl) rfl ?_
  repeat(refine run_ ?_)
  refine k_while (S := SlSt) (fun s => T.row.length - s.i) (fun s => [(0, .pointer (some ⟨g, 0, none⟩)), (1, .int .i64 s.a), (2, .int .i64 s.n), (9, .slice s.A s.out.length s.c), (25, .slice R T.row.length cR), (26, .int .i64 T.row.length), (27, .int .i64 s.i)])
    (fun s wr => s.i ≤ T.row.length ∧ Kn w wr ∧ 0 ≤ s.a ∧ 0 ≤ s.n ∧ s.a + s.n ≤ tot (T.row.drop s.i) ∧ s.out.length + s.n ≤ 65536 ∧ Ow kRune (noB w) (fun _ => False) wr (.slice s.A s.out.length s.c) s.out ∧ s.out ++ ((flat T.store (T.row.drop s.i)).drop s.a.toNat).take s.n.toNat = ((flat T.store T.row).drop a.toNat).take (N : Int).toNat)
    ⟨0, a, N, [], some ⟨g1, 0, none⟩, N⟩ (by repeat (first | exact SubB.nil | refine SubB.cons rfl ?_)) ⟨Nat.zero_le _, nb1.kn, h0, hn0, by simpa using h1, by simp; omega, hO1, by simp⟩ ?_
  rintro ⟨i, b, n, out, A, c⟩ wr ⟨hi, hkn, hb0, hn1, hbn, hsz, hO, hout⟩ ih
  simp only at hi hkn hb0 hn1 hbn hsz hO hout ih ⊢
  have fin : n = 0 → ∀ w2, Kn wr w2 → SliceQ w (((flat T.store T.row).drop a.toNat).take (N : Int).toNat, 0) (.tuple #[.slice A out.length c, .int .i64 0]) w2 := by
    intro hz w2 hk
    subst hz
    refine ⟨hkn.trans hk, _, rfl, ?_⟩
    simp only [Int.toNat_zero, List.take_zero, List.append_nil] at hout
    rw [← hout]
    exact Kn.ow hk hO
  repeat(refine run_ ?_)
  refine k_ite rfl (fun hlt => ?_) (fun hge => ?_)
  · have hlt' : i < T.row.length := by omega
    have hd : T.row.drop i = T.row[i] :: T.row.drop (i + 1) := List.drop_eq_getElem_cons hlt'
    have hso := hT.ok T.row[i] (List.getElem_mem hlt')
    have htd0 : 0 ≤ tot (T.row.drop (i + 1)) := SpOK.tot_nonneg (st := T.store) fun y hy => hT.ok y (List.mem_of_mem_drop hy)
    have htd : tot (T.row.drop (i + 1)) ≤ 65536 := by
      have h2 := hT.ok
      rw [← List.take_append_drop (i + 1) T.row] at h2
      have h3 := h2.left.tot_nonneg
      have h4 := tot_append (T.row.take (i + 1)) (T.row.drop (i + 1))
      rw [List.take_append_drop] at h4
      omega
    rw [hd, tot_cons] at hbn
    rw [hd, flat_cons] at hout
    obtain ⟨ad, cs, rfl, hR, hcell⟩ := hr.at_ (List.getElem?_eq_getElem hlt')
    obtain ⟨d1, d2, rfl, ⟨rfl, ha1, ha2⟩, ⟨rfl, ha3, ha4⟩⟩ := hR
    generalize hs : T.row[i] = s at *
    repeat(refine run_ ?_)
    refine o_still (r_index rfl rfl rfl (by omega) (by omega)) (wants_none rfl) rfl ?_
    refine o_still (r_loadA (cs := [.int .i64 s.1, .int .i64 s.2]) rfl rfl (by
      intro j u hu
      rw [Int.toNat_natCast, add_add]
      exact hkn.cell (hcell j u hu) id)) (wants_none rfl) rfl ?_
    refine o_any (e_alloc) (wants_none rfl) rfl ?_
    rintro _ w2 ⟨g2, rfl, nb2⟩
    refine o_unit (u_storeA rfl rfl rfl (by simp [Value.oneCell']) rfl nb2.at_ (Nat.le_refl 2)) (wants_none rfl) rfl ?_
    rintro w3 hw3
    have e2 := nb2.ge
    have l2 := nb2.lt
    have zr := hkn.size
    have kr3 : Kn wr w3 := Kp.then nb2.kn hw3.kp (fun _ h => h) (fun i hi he => by omega)
    have k3 : Kn w w3 := hkn.trans kr3
    have b3 := hw3.at_
    have f0 : w3.cell? ⟨g2, 0, none⟩ = some (.int .i64 s.1) := blk_cell b3
    have f1 : w3.cell? ⟨g2, 1, none⟩ = some (.int .i64 s.2) := blk_cell b3
    have hO3 := Kn.ow kr3 hO
    repeat(refine run_ ?_)
    refine k_ite rfl (fun hz => ?_) (fun hnz => ?_)
    · repeat(refine run_ ?_)
      exact k_ret2 rfl rfl rfl (fin hz _ kr3)
    · repeat(refine run_ ?_)
      refine o_still (r_load rfl f1) (wants_none rfl) rfl ?_
      repeat(refine run_ ?_)
      refine k_ite rfl (fun hge2 => ?_) (fun hlt2 => ?_)
      · repeat(refine run_ ?_)
        refine o_still (r_load rfl f1) (wants_none rfl) rfl ?_
        repeat(refine run_ ?_)
        exact ih ⟨i + 1, b - s.2, n, out, A, c⟩ w3 ⟨by show i + 1 ≤ _; omega, k3, by show 0 ≤ b - s.2; omega, hn1, by show b - s.2 + n ≤ tot (T.row.drop (i + 1)); omega, hsz, hO3, by rw [slice_step1 hso (by omega)] at hout; exact hout⟩ (by show T.row.length - (i + 1) < T.row.length - i; omega) _ (by repeat (first | exact SubB.nil | refine SubB.cons rfl ?_))
      · repeat(refine run_ ?_)
        refine o_still (r_load rfl f1) (wants_none rfl) rfl ?_
        repeat(refine run_ ?_)
        obtain ⟨k, hmi⟩ : ∃ k : Nat, (if s.2 - b < n then s.2 - b else n) = (k : Int) := ⟨(if s.2 - b < n then s.2 - b else n).toNat, by split <;> omega⟩
        have hmk : (k : Int) = min n (s.2 - b) := by rw [← hmi]; split <;> omega
        rw [hmi]
        refine k_draw [(0, 0), (1, 0), (2, 0), (3, 0), (4, 0), (5, 0), (6, 0), (7, 0), (8, 0), (9, 0), (10, 0), (11, 0), (12, 0), (13, 0), (14, 0), (15, 0), (16, 1), (17, 0)] (by kernel_rfl) (by kernel_rfl) rfl (by kernel_rfl) ?_
        repeat(refine rund_ ?_)
        refine d_open rfl ?_; refine x_still (r_load rfl (k3.cell m0 id)) (wants_none rfl) rfl (by first | exact St.refl _ | assumption) ?_
        repeat(refine rund_ ?_)
        refine d_open rfl ?_; refine x_still (r_load rfl f0) (wants_none rfl) rfl (by first | exact St.refl _ | assumption) ?_
        repeat(refine rund_ ?_)
        refine d_open rfl ?_; refine x_still (r_load rfl f0) (wants_none rfl) rfl (by first | exact St.refl _ | assumption) ?_
        repeat(refine rund_ ?_)
        refine d_open rfl ?_; refine x_still (r_slice rfl (s.1 + b).toNat (s.1 + b + k).toNat cB rfl ⟨_, int_eq (by omega)⟩ ⟨_, int_eq (by omega)⟩ (by omega) (by omega) (by omega)) (wants_none rfl) rfl (by first | exact St.refl _ | assumption) ?_
        repeat(refine rund_ ?_)
        refine d_open rfl ?_; refine x_any (e_append2 (d := kRune) rfl rfl hO3 ((k3.sl hst).cutV (l := (s.1 + b).toNat) (hi := (s.1 + b + k).toNat) (m := cB) (by omega) (by omega) (by omega) (by omega)) (by
          intro j hj hej
          have := (hO3.block j hej).1
          simp only [noB] at this
          omega) (by simp only [List.length_drop, List.length_take]; show (out.length + (min (s.1 + b + k).toNat _ - (s.1 + b).toNat)) * 4 ≤ 140737488355328; omega) rfl rfl rfl) (wants_none rfl) rfl ?_
        rintro v4 w4 hA
        obtain ⟨k4, hO4⟩ := app_next k3 hO3 hA
        obtain ⟨A4, c4, rfl, _⟩ := hO4.form
        refine .inr ⟨(by kernel_rfl), ?_⟩
        repeat(refine rund_ ?_)
        repeat(refine run_ ?_)
        rw [slice_step2 hso hb0 (by omega) hn1 hmk, ← List.append_assoc] at hout
        exact ih ⟨i + 1, 0, n - k, out ++ (T.store.take (s.1 + b + k).toNat).drop (s.1 + b).toNat, A4, c4⟩ w4 ⟨by show i + 1 ≤ _; omega, k4, by show (0 : Int) ≤ 0; decide, by show 0 ≤ n - k; omega, by show 0 + (n - k) ≤ tot (T.row.drop (i + 1)); omega, by
          show ((out ++ (T.store.take (s.1 + b + k).toNat).drop (s.1 + b).toNat).length : Int) + (n - k) ≤ 65536
          rw [List.length_append, List.length_drop, List.length_take]; omega, hO4, hout⟩ (by show T.row.length - (i + 1) < T.row.length - i; omega) _ (by repeat (first | exact SubB.nil | refine SubB.cons rfl ?_))
  · have hie : i = T.row.length := by omega
    rw [hie, List.drop_length] at hbn
    have hz : n = 0 := by have : tot [] = 0 := rfl; omega
    repeat(refine run_ ?_)
    exact k_ret2 rfl rfl rfl (fin hz _ (Kp.refl _ _))
end
end Go.Ink
