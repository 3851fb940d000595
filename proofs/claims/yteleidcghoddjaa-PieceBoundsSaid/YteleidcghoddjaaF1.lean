/-
  piece.Table in memory; New, Len, Pieces, fits.
-/
import Derived.Test.YteleidcghoddjaaSeat
import Derived.Test.YteleidcghoddjaaAct3
import Derived.Test.YteleidcghoddjaaApp
import Derived.Test.YteleidcghoddjaaBr
import Derived.Test.YteleidcghoddjaaM1
set_option linter.unusedVariables false
set_option linter.unusedSimpArgs false
namespace Go.Ink
open Go Go.Proofs

def kSpan : Kd Span := kPair kI64 kI64
theorem span_R {F : Nat → Prop} {w : World} {a b : Int} (h1 : -9223372036854775808 ≤ a ∧ a ≤ 9223372036854775807) (h2 : -9223372036854775808 ≤ b ∧ b ≤ 9223372036854775807) : kSpan.R F w (a, b) [.int .i64 a, .int .i64 b] :=
  ⟨[.int .i64 a], [.int .i64 b], rfl, ⟨rfl, h1.1, h1.2⟩, ⟨rfl, h2.1, h2.2⟩⟩
abbrev kSpans : Kd (List Span) := kSl kSpan
structure IsTabP (D : Nat → Prop) (g : Nat) (w : World) (T : Tab) (vs vr vv : Value) : Prop where
  ge : D g
  hb : w.heap[g]? = some (.cells #[vs, vr, vv, .int .i64 (tot T.row)] 54 (0, 0))
  st : Ow kRune (fun k => D k ∧ k ≠ g) (fun _ => False) w vs T.store
  sv : Ow kSpans (fun k => D k ∧ k ≠ g ∧ vs.ownBlock ≠ some k) (fun k => D k ∧ k ≠ g ∧ vs.ownBlock ≠ some k) w vv T.saved
  row : Sl kSpan (fun k => D k ∧ k ≠ g ∧ vs.ownBlock ≠ some k ∧ vv.ownBlock ≠ some k) w vr T.row
  ok : SpOK T.store T.row
  oks : ∀ r ∈ T.saved, SpOK T.store r
  small : T.store.length ≤ 1099511627776 ∧ T.saved.length ≤ 1099511627776 ∧ tot T.row ≤ 65536
/-- A table at block g; all that it leads to lies in D. -/
def IsTab (D : Nat → Prop) (g : Nat) (w : World) (T : Tab) : Prop := ∃ vs vr vv, IsTabP D g w T vs vr vv
section
variable {D D' : Nat → Prop} {g : Nat} {w w' : World} {T : Tab}
theorem IsTab.kp {S : Nat → Prop} (h : IsTab D g w T) (hk : Kp S w w') (hs : ∀ k, D k → ¬ S k) : IsTab D g w' T := by
  obtain ⟨vs, vr, vv, h1, h2, h3, h4, h5, h6, h7, h8⟩ := h
  exact ⟨vs, vr, vv, h1, hk.blk h2 (hs g h1), Kp.ow hk h3 (fun k hk => hs k hk.1) (fun _ h => h.elim), Kp.ow hk h4 (fun k hk => hs k hk.1) (fun k hk => hs k hk.1), Kp.sl hk h5 (fun k hk => hs k hk.1), h6, h7, h8⟩
theorem IsTab.kn (h : IsTab D g w T) (hk : Kn w w') : IsTab D g w' T := h.kp hk fun _ _ h => h
theorem IsTab.mono (h : IsTab D g w T) (hd : ∀ k, D k → k < w.heap.size → D' k) : IsTab D' g w T := by
  obtain ⟨vs, vr, vv, h1, h2, h3, h4, h5, h6, h7, h8⟩ := h
  exact ⟨vs, vr, vv, hd g h1 (blk_lt h2), h2, h3.mono (fun k hk hl => ⟨hd k hk.1 hl, hk.2⟩) (fun k hk _ => hk), h4.mono (fun k hk hl => ⟨hd k hk.1 hl, hk.2⟩) (fun k hk hl => ⟨hd k hk.1 hl, hk.2⟩), h5.mono (fun k hk hl => ⟨hd k hk.1 hl, hk.2⟩), h6, h7, h8⟩
theorem IsTab.lt (h : IsTab D g w T) : g < w.heap.size := by obtain ⟨vs, vr, vv, h⟩ := h; exact blk_lt h.hb
theorem IsTab.ge (h : IsTab D g w T) : D g := by obtain ⟨vs, vr, vv, h⟩ := h; exact h.ge
end
def newM (xs : List Int) : Tab := ⟨xs, if xs = [] then [] else [(0, xs.length)], []⟩
theorem row_len {st : List Int} : ∀ {row : List Span}, SpOK st row → (row.length : Int) ≤ tot row
  | [], _ => by simp [tot]
  | s :: r, h => by
    have h1 := h s (by simp)
    have h2 := row_len (row := r) fun x hx => h x (List.mem_cons_of_mem _ hx)
    rw [tot_cons, List.length_cons]
    omega
theorem new_calls {F : Nat → Prop} {w : World} {v : Value} {xs : List Int} (h : Sl kRune F w v xs) (hx : xs.length ≤ 65536) :
    CallsR Try.prog 9 #[v] w fun u w' => Kn w w' ∧ ∃ g, u = .pointer (some ⟨g, 0, none⟩) ∧ IsTab (noB w) g w' (newM xs) := by
  obtain ⟨A, c, rfl, hc, hl⟩ := h.form
  refine calls_enter Try.func9 rfl rfl ?_
  repeat(first|refine o_nil ?_|(refine o_pass (wants_no rfl rfl rfl ?_) rfl ?_;(focus(first|rfl|assumption|(simp;done)|(simp;omega))))|refine o_pass (wants_not rfl rfl rfl) rfl ?_|(refine o_yes (wants_yes rfl rfl rfl ?_) ?_;(focus(first|rfl|assumption|(simp;done)|(simp;omega))))|refine k_region ?_|(apply k_go;(focus(constructor<;>rfl)))|refine d_nil ?_|(apply o_s;(focus(first|(constructor<;>first|rfl|omega)|(apply Ri.add3<;>first|rfl|omega)|(apply Ri.sub3<;>first|rfl|omega)|(apply Ri.eqb<;>rfl)|(apply Ri.neb<;>rfl)|(apply Ri.pT;(focus rfl);(focus(first|rfl|assumption|(simp;done)|(simp;omega)));(focus rfl))|(apply Ri.pF;(focus rfl);(focus(first|rfl|assumption|(simp;done)|(simp;omega)));(focus rfl))));(focus rfl)))
  refine k_no rfl (by omega) ?_
  repeat(first|refine o_nil ?_|(refine o_pass (wants_no rfl rfl rfl ?_) rfl ?_;(focus(first|rfl|assumption|(simp;done)|(simp;omega))))|refine o_pass (wants_not rfl rfl rfl) rfl ?_|(refine o_yes (wants_yes rfl rfl rfl ?_) ?_;(focus(first|rfl|assumption|(simp;done)|(simp;omega))))|refine k_region ?_|(apply k_go;(focus(constructor<;>rfl)))|refine d_nil ?_|(apply o_s;(focus(first|(constructor<;>first|rfl|omega)|(apply Ri.add3<;>first|rfl|omega)|(apply Ri.sub3<;>first|rfl|omega)|(apply Ri.eqb<;>rfl)|(apply Ri.neb<;>rfl)|(apply Ri.pT;(focus rfl);(focus(first|rfl|assumption|(simp;done)|(simp;omega)));(focus rfl))|(apply Ri.pF;(focus rfl);(focus(first|rfl|assumption|(simp;done)|(simp;omega)));(focus rfl))));(focus rfl)))
  refine o_any (e_append2 (d := kRune) (F2 := F) rfl rfl (Ow.nil kRune (noB w) (fun _ => False) w) h (by intro k hk he; simp [Value.ownBlock] at he) (by show (0 + xs.length) * 4 ≤ 140737488355328; omega) rfl rfl rfl) (wants_none rfl) rfl ?_
  rintro v1 w1 hA
  obtain ⟨A1, c1, rfl, _⟩ := hA.ow.form
  have k1 : Kn w w1 := hA.kp.mono fun i hi he => by simp [Value.ownBlock] at he
  have ho1 : Ow kRune (noB w) (fun _ => False) w1 (.slice A1 xs.length c1) xs := (hA.ow.sc (F' := fun _ => False)).mono (fun k hk _ => hk.elim id id) (fun _ h _ => h)
  have hb1 := ho1.block
  have z1 := k1.size
  refine o_still (r_move rfl) (wants_none rfl) rfl ?_
  refine o_still (r_len rfl) (wants_none rfl) rfl ?_
  refine o_still (r_build (c := #[.slice A1 xs.length c1, .slice none 0 0, .slice none 0 0, .int .i64 xs.length]) rfl rfl) (wants_none rfl) rfl ?_
  refine o_any (e_box rfl) (wants_none rfl) rfl ?_
  rintro _ w2 ⟨g, rfl, nb2⟩
  have z2 := nb2.kn.size
  have e2 := nb2.ge
  have l2 := nb2.lt
  repeat(first|refine o_nil ?_|(refine o_pass (wants_no rfl rfl rfl ?_) rfl ?_;(focus(first|rfl|assumption|(simp;done)|(simp;omega))))|refine o_pass (wants_not rfl rfl rfl) rfl ?_|(refine o_yes (wants_yes rfl rfl rfl ?_) ?_;(focus(first|rfl|assumption|(simp;done)|(simp;omega))))|refine k_region ?_|(apply k_go;(focus(constructor<;>rfl)))|refine d_nil ?_|(apply o_s;(focus(first|(constructor<;>first|rfl|omega)|(apply Ri.add3<;>first|rfl|omega)|(apply Ri.sub3<;>first|rfl|omega)|(apply Ri.eqb<;>rfl)|(apply Ri.neb<;>rfl)|(apply Ri.pT;(focus rfl);(focus(first|rfl|assumption|(simp;done)|(simp;omega)));(focus rfl))|(apply Ri.pF;(focus rfl);(focus(first|rfl|assumption|(simp;done)|(simp;omega)));(focus rfl))));(focus rfl)))
  by_cases hn : xs = []
  · subst hn
    refine k_no rfl (by simp) ?_
    repeat(first|refine o_nil ?_|(refine o_pass (wants_no rfl rfl rfl ?_) rfl ?_;(focus(first|rfl|assumption|(simp;done)|(simp;omega))))|refine o_pass (wants_not rfl rfl rfl) rfl ?_|(refine o_yes (wants_yes rfl rfl rfl ?_) ?_;(focus(first|rfl|assumption|(simp;done)|(simp;omega))))|refine k_region ?_|(apply k_go;(focus(constructor<;>rfl)))|refine d_nil ?_|(apply o_s;(focus(first|(constructor<;>first|rfl|omega)|(apply Ri.add3<;>first|rfl|omega)|(apply Ri.sub3<;>first|rfl|omega)|(apply Ri.eqb<;>rfl)|(apply Ri.neb<;>rfl)|(apply Ri.pT;(focus rfl);(focus(first|rfl|assumption|(simp;done)|(simp;omega)));(focus rfl))|(apply Ri.pF;(focus rfl);(focus(first|rfl|assumption|(simp;done)|(simp;omega)));(focus rfl))));(focus rfl)))
    refine k_ret1 rfl rfl ⟨k1.trans nb2.kn, g, rfl, _, _, _, ?_, nb2.at_, ?_, Ow.nil _ _ _ _, Sl.nil _ _ _, ?_, ?_, ?_⟩
    · simp only [noB]; omega
    · exact Kn.ow nb2.kn (ho1.mono (fun k hk hl => ⟨hk, by omega⟩) fun _ h _ => h)
    · intro s hs; simp [newM] at hs
    · intro s hs; simp [newM] at hs
    · simp [newM, tot]
  · have hpos := List.length_pos_iff.2 hn
    refine k_yes rfl (by omega) ?_
    repeat (first | refine o_nil ?_ | refine k_seq ?_ | refine k_region ?_ | refine k_block ?_ | refine k_inBlock ?_ | refine k_skip ?_)
    refine o_still (r_move rfl) (wants_none rfl) rfl ?_
    refine o_still (r_move rfl) (wants_none rfl) rfl ?_
    refine o_still (r_len rfl) (wants_none rfl) rfl ?_
    refine o_still (r_build (c := #[.int .i64 0, .int .i64 xs.length]) rfl rfl) (wants_none rfl) rfl ?_
    refine o_any (e_one (z := .agg #[.int .i64 0, .int .i64 0]) (sz := 2) rfl rfl rfl (by decide)) (wants_none rfl) rfl ?_
    rintro _ w3 ⟨g3, rfl, nb3⟩
    have e3 := nb3.ge
    have b3 := nb3.kn.blk nb2.at_ id
    repeat(first|refine o_nil ?_|(refine o_pass (wants_no rfl rfl rfl ?_) rfl ?_;(focus(first|rfl|assumption|(simp;done)|(simp;omega))))|refine o_pass (wants_not rfl rfl rfl) rfl ?_|(refine o_yes (wants_yes rfl rfl rfl ?_) ?_;(focus(first|rfl|assumption|(simp;done)|(simp;omega))))|refine k_region ?_|(apply k_go;(focus(constructor<;>rfl)))|refine d_nil ?_|(apply o_s;(focus(first|(constructor<;>first|rfl|omega)|(apply Ri.add3<;>first|rfl|omega)|(apply Ri.sub3<;>first|rfl|omega)|(apply Ri.eqb<;>rfl)|(apply Ri.neb<;>rfl)|(apply Ri.pT;(focus rfl);(focus(first|rfl|assumption|(simp;done)|(simp;omega)));(focus rfl))|(apply Ri.pF;(focus rfl);(focus(first|rfl|assumption|(simp;done)|(simp;omega)));(focus rfl))));(focus rfl)))
    refine o_unit (u_store (i := 1) rfl rfl rfl (by simp only [add_plain, Nat.zero_add, Nat.add_zero]) b3 (show 1 < 4 by decide)) (wants_none rfl) rfl ?_
    rintro w4 hw4
    have k3 : Kn w w3 := (k1.trans nb2.kn).trans nb3.kn
    have hne : ¬ g3 = g := by omega
    repeat(first|refine o_nil ?_|(refine o_pass (wants_no rfl rfl rfl ?_) rfl ?_;(focus(first|rfl|assumption|(simp;done)|(simp;omega))))|refine o_pass (wants_not rfl rfl rfl) rfl ?_|(refine o_yes (wants_yes rfl rfl rfl ?_) ?_;(focus(first|rfl|assumption|(simp;done)|(simp;omega))))|refine k_region ?_|(apply k_go;(focus(constructor<;>rfl)))|refine d_nil ?_|(apply o_s;(focus(first|(constructor<;>first|rfl|omega)|(apply Ri.add3<;>first|rfl|omega)|(apply Ri.sub3<;>first|rfl|omega)|(apply Ri.eqb<;>rfl)|(apply Ri.neb<;>rfl)|(apply Ri.pT;(focus rfl);(focus(first|rfl|assumption|(simp;done)|(simp;omega)));(focus rfl))|(apply Ri.pF;(focus rfl);(focus(first|rfl|assumption|(simp;done)|(simp;omega)));(focus rfl))));(focus rfl)))
    have hm : newM xs = ⟨xs, [(0, xs.length)], []⟩ := by simp [newM, hn]
    have ht : tot [((0 : Int), (xs.length : Int))] = xs.length := by simp [tot]
    rw [hm]
    refine k_ret1 rfl rfl ⟨Kp.then k3 hw4.kp (fun _ h => h.elim) (fun i hi he => by omega), g, rfl, .slice A1 xs.length c1, .slice (some ⟨g3, 0, none⟩) 1 1, .slice none 0 0, ?_, ?_, ?_, Ow.nil _ _ _ _, ?_, ?_, ?_, ?_⟩
    · simp only [noB]; omega
    · show _ = some (Obj.cells #[_, _, _, .int .i64 (tot [((0 : Int), (xs.length : Int))])] _ _)
      rw [ht]
      exact hw4.at_
    · exact Kp.ow hw4.kp (Kn.ow nb3.kn (Kn.ow nb2.kn (ho1.mono (G' := fun k => noB w k ∧ k ≠ g) (F' := fun _ => False) (fun k hk hl => ⟨hk, by omega⟩) fun _ h _ => h))) (fun k hk => hk.2) (fun _ h => h.elim)
    · refine sl_blk (d := kSpan) (xs := [(0, (xs.length : Int))]) (cells := [.int .i64 0, .int .i64 xs.length]) (hw4.kp.blk nb3.at_ hne) ⟨_, [], rfl, span_R (by decide) ⟨by omega, by omega⟩, rfl⟩ ⟨?_, hne, ?_, by simp [Value.ownBlock]⟩ (show 1 * 16 ≤ 140737488355328 by decide)
      · simp only [noB]; omega
      · intro he
        have := (hb1 _ he).2
        omega
    · intro s hs
      obtain rfl : s = (0, (xs.length : Int)) := by simpa using hs
      exact ⟨by show (0 : Int) ≤ 0; decide, by show (0 : Int) < xs.length; omega, by show (0 : Int) + xs.length ≤ xs.length; omega⟩
    · intro s hs; simp at hs
    · exact ⟨by show xs.length ≤ _; omega, by show 0 ≤ 1099511627776; decide, by show tot [((0 : Int), (xs.length : Int))] ≤ _; rw [ht]; omega⟩
end Go.Ink
