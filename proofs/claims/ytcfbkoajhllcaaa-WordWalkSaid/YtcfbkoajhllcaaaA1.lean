/-
  awake (9).
-/
import Derived.Test.YtcfbkoajhllcaaaG11
set_option linter.unusedVariables false
set_option linter.unusedSimpArgs false
namespace Go.Ink
open Go Go.Proofs

instance : Eq2T Try.prog 24 .i64 := eq2_struct (e := 3) (by kernel_rfl) (by kernel_rfl) (by kernel_rfl) (by kernel_rfl) (by kernel_rfl)
theorem SeekM.eq {f : Ps → Bool} {l : List (List Int)} {by_ : Int} {p q q' : Ps} (h : SeekM f l by_ p q) (h' : SeekM f l by_ p q') : q = q' := by
  rcases h with ⟨h1, h2⟩ | ⟨t, r, h1, h2, h3⟩
  · rcases h' with ⟨k1, k2⟩ | ⟨t', r', k1, k2, k3⟩
    · rw [h2, k2]
    · subst h1; simp [placesTo] at k1
  · rcases h' with ⟨k1, k2⟩ | ⟨t', r', k1, k2, k3⟩
    · subst k1; simp [placesTo] at h1
    · have := places_inj h1 k1
      subst this
      rw [h3, k3, h2.eq k2]
/-- What is told, seen by counting. -/
def seekB (f : Ps → Bool) (l : List (List Int)) (p : Ps) (t u : Nat) (q : Ps) : Bool :=
  decide ((placesTo l l.length)[t]? = some (clipM l p)) && decide ((placesTo l l.length)[u]? = some q) && decide (t < u) && f q && (List.range u).all fun v => decide (v ≤ t) || !f ((placesTo l l.length).getD v (0, 0))
theorem seekB_eq {f : Ps → Bool} {l : List (List Int)} {p : Ps} {t u : Nat} {q q' : Ps} (hb : seekB f l p t u q = true) (h : SeekM f l 1 p q') : q' = q := by
  unfold seekB at hb
  simp only [Bool.and_eq_true, decide_eq_true_eq, List.all_eq_true, List.mem_range, Bool.or_eq_true, Bool.not_eq_true'] at hb
  obtain ⟨⟨⟨⟨h1, h2⟩, h3⟩, h4⟩, h5⟩ := hb
  have : SeekM f l 1 p q := .inr ⟨t, some u, h1, ⟨(List.getElem?_eq_some_iff.1 h2).1, .inl ⟨rfl, h3⟩, by rw [List.getD_eq_getElem?_getD, h2]; exact h4, fun v k1 k2 => by
    rcases h5 v (by unfold On at k2; omega) with h | h
    · unfold On at k1; omega
    · exact h⟩, by unfold tellM; simp only [List.getD_eq_getElem?_getD, h2]; rfl⟩
  exact h.eq this
theorem rs_1 : runesOf ⟨#[97, 46, 98, 32, 99]⟩ = [97, 46, 98, 32, 99] := by kernel_rfl
theorem rs_2 : runesOf ⟨#[65, 46, 32, 66]⟩ = [65, 46, 32, 66] := by kernel_rfl
section
variable {F : Nat → Prop} {w : World} {v : Value} {l : List (List Int)} {p : Ps} {big : Bool}
theorem row_calls {s : ByteArray} (hs : s.size ≤ 35184372088832) : CallsR Try.prog 31 #[.string s] w fun u w' => Kn w w' ∧ ∃ A c, u = .slice A (runesOf s).length c ∧ Ow kRune (noB w) (fun _ => False) w' (.slice A (runesOf s).length c) (runesOf s) := by
  refine calls_enter Try.func31 rfl rfl ?_
  repeat(refine run_ ?_)
  refine o_any (e_runes rfl hs) (wants_none rfl) rfl ?_
  rintro v2 w2 ⟨k2, hO⟩
  obtain ⟨A2, c2, rfl, _⟩ := hO.form
  repeat(refine run_ ?_)
  exact k_ret1 rfl rfl ⟨k2, A2, c2, rfl, hO⟩
theorem one_row {w1 w2 : World} {A : Option Addr} {c g : Nat} {xs : List Int} {e : TypeId} (h : Sl kRune F w1 (.slice A xs.length c) xs) (nb : Nb w1 w2 g (.cells (Value.slice A xs.length c).cells e)) : Sl kRow (fun _ => True) w2 (.slice (some ⟨g, 0, none⟩) 1 1) [xs] :=
  sl_blk (d := kRow) (xs := [xs]) (cells := [.slice A xs.length c]) nb.at_ ⟨_, [], rfl, ⟨_, rfl, (nb.kn.sl h).mono fun _ _ _ => trivial⟩, rfl⟩ trivial (show 1 * 24 ≤ 140737488355328 by decide)
theorem next_known {t u : Nat} {q : Ps} (hb : seekB (edgeM l big (-1)) l p t u q = true) (hs0 : l.length + runesM l ≤ 4000) (h : Sl kRow F w v l) (hp : P64 p) : CallsR Try.prog 18 #[v, posV p, .bool big] w fun u w' => Kn w w' ∧ u = posV q :=
  (next_calls hs0 h hp).mono fun _ _ ⟨h1, q', h2, h3⟩ => ⟨h1, by rw [h2, seekB_eq hb h3]⟩
theorem para_known {t u : Nat} {q : Ps} (hb : seekB (parE l) l p t u q = true) (hs0 : l.length + runesM l ≤ 4000) (h : Sl kRow F w v l) (hp : P64 p) : CallsR Try.prog 23 #[v, posV p] w fun u w' => Kn w w' ∧ u = posV q :=
  (paraNext_calls hs0 h hp).mono fun _ _ ⟨h1, q', h2, h3⟩ => ⟨h1, by rw [h2, seekB_eq hb h3]⟩
theorem sent_known {t u : Nat} {q : Ps} (hb : seekB (sentM l) l p t u q = true) (hs0 : l.length + runesM l ≤ 4000) (h : Sl kRow F w v l) (hp : P64 p) : CallsR Try.prog 25 #[v, posV p] w fun u w' => Kn w w' ∧ u = posV q :=
  (sentNext_calls hs0 h hp).mono fun _ _ ⟨h1, q', h2, h3⟩ => ⟨h1, by rw [h2, seekB_eq hb h3]⟩
set_option maxHeartbeats 2000000 in
theorem awake_calls {w : World} : CallsR Try.prog 15 #[] w fun u w' => Kn w w' ∧ u = .bool true := by
  refine calls_enter (args := []) Try.func15 rfl rfl ?_
  repeat(refine run_ ?_)
  refine o_enter (n_call rfl) (wants_none rfl) rfl ((row_calls (by decide)).mono ?_)
  rintro _ w1 ⟨k1, A1, c1, rfl, h1⟩
  rw [rs_1] at h1
  repeat(refine run_ ?_)
  refine o_any (e_one (z := .slice none 0 0) (sz := 1) rfl rfl rfl (by decide)) (wants_none rfl) rfl ?_
  rintro _ w2 ⟨g2, rfl, n2⟩
  have s1 := one_row h1.sl n2
  have k2 := k1.trans n2.kn
  clear h1 n2 k1
  repeat(refine run_ ?_)
  refine o_any (e_lit (qs := [(0, .int .i32 97), (1, .int .i32 98)]) (cells := #[.int .i32 97, .int .i32 98]) rfl (by decide) (by kernel_rfl)) (wants_none rfl) rfl ?_
  rintro _ w3 ⟨g3, rfl, n3⟩
  repeat(refine run_ ?_)
  refine o_any (e_lit (qs := [(0, .int .i32 99)]) (cells := #[.int .i32 99]) rfl (by decide) (by kernel_rfl)) (wants_none rfl) rfl ?_
  rintro _ w4 ⟨g4, rfl, n4⟩
  repeat(refine run_ ?_)
  refine o_any (e_lit (qs := [(0, .slice (some ⟨g3, 0, none⟩) 2 2), (1, .slice none 0 0), (2, .slice (some ⟨g4, 0, none⟩) 1 1)]) (cells := #[.slice (some ⟨g3, 0, none⟩) 2 2, .slice none 0 0, .slice (some ⟨g4, 0, none⟩) 1 1]) rfl (by decide) (by kernel_rfl)) (wants_none rfl) rfl ?_
  rintro _ w5 ⟨g5, rfl, n5⟩
  have sm : Sl kRow (fun _ => True) w5 (.slice (some ⟨g5, 0, none⟩) 3 3) [[97, 98], [], [99]] := by
    refine sl_blk (d := kRow) (xs := [[97, 98], [], [99]]) (cells := [.slice (some ⟨g3, 0, none⟩) 2 2, .slice none 0 0, .slice (some ⟨g4, 0, none⟩) 1 1]) n5.at_ ⟨_, _, rfl, ⟨_, rfl, ?_⟩, _, _, rfl, ⟨_, rfl, ?_⟩, _, _, rfl, ⟨_, rfl, ?_⟩, rfl⟩ trivial (show 3 * 24 ≤ 140737488355328 by decide)
    · exact sl_blk (d := kRune) (xs := [97, 98]) (cells := [.int .i32 97, .int .i32 98]) (n5.kn.blk (n4.kn.blk n3.at_ id) id) ⟨_, _, rfl, ⟨rfl, by decide⟩, _, _, rfl, ⟨rfl, by decide⟩, rfl⟩ trivial (show 2 * 4 ≤ 140737488355328 by decide)
    · exact Sl.nil _ _ _
    · exact sl_blk (d := kRune) (xs := [99]) (cells := [.int .i32 99]) (n5.kn.blk n4.at_ id) ⟨_, _, rfl, ⟨rfl, by decide⟩, rfl⟩ trivial (show 1 * 4 ≤ 140737488355328 by decide)
  have k5 := ((k2.trans n3.kn).trans n4.kn).trans n5.kn
  have s1 := Kn.sl ((n3.kn.trans n4.kn).trans n5.kn) s1
  clear n3 n4 n5 k2
  repeat(refine run_ ?_)
  refine o_enter (n_call rfl) (wants_none rfl) rfl ((next_known (t := 0) (u := 1) (p := (0, 0)) (q := (0, 1)) (big := false) (by kernel_rfl) (by decide) s1 (by unfold P64; decide)).mono ?_)
  rintro _ w6 ⟨k6, rfl⟩
  repeat(refine run_ ?_)
  refine o_still (r_eq2 rfl rfl) (wants_none rfl) rfl ?_
  repeat(refine run_ ?_)
  refine o_enter (n_call rfl) (wants_none rfl) rfl ((next_known (t := 0) (u := 4) (p := (0, 0)) (q := (0, 4)) (big := true) (by kernel_rfl) (by decide) (Kn.sl k6 s1) (by unfold P64; decide)).mono ?_)
  rintro _ w7 ⟨k7, rfl⟩
  have k57 := k6.trans k7
  clear k6 k7 s1
  repeat(refine run_ ?_)
  refine o_still (r_eq2 rfl rfl) (wants_none rfl) rfl ?_
  repeat(refine run_ ?_)
  refine o_enter (n_call rfl) (wants_none rfl) rfl ((next_known (t := 0) (u := 2) (p := (0, 0)) (q := (1, 0)) (big := false) (by kernel_rfl) (by decide) (Kn.sl k57 sm) (by unfold P64; decide)).mono ?_)
  rintro _ w8 ⟨k8, rfl⟩
  have k58 := k57.trans k8
  repeat(refine run_ ?_)
  refine o_still (r_eq2 rfl rfl) (wants_none rfl) rfl ?_
  repeat(refine run_ ?_)
  refine o_enter (n_call rfl) (wants_none rfl) rfl ((para_known (t := 0) (u := 2) (p := (0, 0)) (q := (1, 0)) (by kernel_rfl) (by decide) (Kn.sl k58 sm) (by unfold P64; decide)).mono ?_)
  rintro _ w9 ⟨k9, rfl⟩
  have k09 := (k5.trans k58).trans k9
  clear k5 k57 k8 k58 k9 sm
  repeat(refine run_ ?_)
  refine o_still (r_eq2 rfl rfl) (wants_none rfl) rfl ?_
  repeat(refine run_ ?_)
  refine o_enter (n_call rfl) (wants_none rfl) rfl ((row_calls (by decide)).mono ?_)
  rintro _ wa ⟨ka, A2, c2, rfl, h2⟩
  rw [rs_2] at h2
  repeat(refine run_ ?_)
  refine o_any (e_one (z := .slice none 0 0) (sz := 1) rfl rfl rfl (by decide)) (wants_none rfl) rfl ?_
  rintro _ wb ⟨gb, rfl, nb⟩
  have s2 := one_row h2.sl nb
  have kb := (k09.trans ka).trans nb.kn
  clear h2 nb ka k09
  repeat(refine run_ ?_)
  refine o_enter (n_call rfl) (wants_none rfl) rfl ((sent_known (t := 0) (u := 3) (p := (0, 0)) (q := (0, 3)) (by kernel_rfl) (by decide) s2 (by unfold P64; decide)).mono ?_)
  rintro _ wc ⟨kc, rfl⟩
  repeat(refine run_ ?_)
  refine o_still (r_eq2 rfl rfl) (wants_none rfl) rfl ?_
  repeat(refine run_ ?_)
  exact k_ret1 rfl rfl ⟨kb.trans kc, rfl⟩
end
end Go.Ink
