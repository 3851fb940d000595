/-
  char, line; what Put leaves is well formed.
-/
import Derived.Test.YtlikhbhkodlaoaaF8
import Derived.Test.YtlikhbhkodlaoaaF9
import Derived.Test.YtlikhbhkodlaoaaBr
set_option linter.unusedVariables false
set_option linter.unusedSimpArgs false
namespace Go.Ink
open Go Go.Proofs

theorem char_calls {w : World} {s : ByteArray} (hs : s.size ≤ 35184372088832) : CallsR Try.prog 14 #[.string s] w fun u w' => Kn w w' ∧ ∃ A c, u = .agg #[.int .i64 0, .slice A 1 c] ∧ Sl kRow (noB w) w' (.slice A 1 c) [runesOf s] := by
  refine calls_enter Try.func14 rfl rfl ?_
  repeat(first|refine o_nil ?_|(refine o_pass (wants_no rfl rfl rfl ?_) rfl ?_;(focus(first|rfl|assumption|(simp;done)|(simp;omega))))|refine o_pass (wants_not rfl rfl rfl) rfl ?_|(refine o_yes (wants_yes rfl rfl rfl ?_) ?_;(focus(first|rfl|assumption|(simp;done)|(simp;omega))))|refine k_region ?_|(apply k_go;(focus(constructor<;>rfl)))|refine d_nil ?_|(apply o_s;(focus(first|(constructor<;>first|rfl|omega)|(apply Ri.add3<;>first|rfl|omega)|(apply Ri.sub3<;>first|rfl|omega)|(apply Ri.conv3<;>first|rfl|omega)|(apply Ri.eqb<;>rfl)|(apply Ri.neb<;>rfl)|(apply Ri.pT;(focus rfl);(focus(first|rfl|assumption|(simp;done)|(simp;omega)));(focus rfl))|(apply Ri.pF;(focus rfl);(focus(first|rfl|assumption|(simp;done)|(simp;omega)));(focus rfl))));(focus rfl)))
  refine o_any (e_alloc) (wants_none rfl) rfl ?_
  rintro _ w1 ⟨g1, rfl, nb1⟩
  repeat(first|refine o_nil ?_|(refine o_pass (wants_no rfl rfl rfl ?_) rfl ?_;(focus(first|rfl|assumption|(simp;done)|(simp;omega))))|refine o_pass (wants_not rfl rfl rfl) rfl ?_|(refine o_yes (wants_yes rfl rfl rfl ?_) ?_;(focus(first|rfl|assumption|(simp;done)|(simp;omega))))|refine k_region ?_|(apply k_go;(focus(constructor<;>rfl)))|refine d_nil ?_|(apply o_s;(focus(first|(constructor<;>first|rfl|omega)|(apply Ri.add3<;>first|rfl|omega)|(apply Ri.sub3<;>first|rfl|omega)|(apply Ri.conv3<;>first|rfl|omega)|(apply Ri.eqb<;>rfl)|(apply Ri.neb<;>rfl)|(apply Ri.pT;(focus rfl);(focus(first|rfl|assumption|(simp;done)|(simp;omega)));(focus rfl))|(apply Ri.pF;(focus rfl);(focus(first|rfl|assumption|(simp;done)|(simp;omega)));(focus rfl))));(focus rfl)))
  refine o_any (e_runes rfl hs) (wants_none rfl) rfl ?_
  rintro v2 w2 ⟨hk2, ho2⟩
  obtain ⟨A2, c2, rfl, _⟩ := ho2.form
  refine o_any (e_one (z := .slice none 0 0) (sz := 1) rfl rfl rfl (by decide)) (wants_none rfl) rfl ?_
  rintro _ w3 ⟨g3, rfl, nb3⟩
  have b1 := nb3.kn.blk (hk2.blk nb1.at_ id) id
  have hO := ow_new (d := kRow) (G := noB w1) (F := noB w1) (w := w2) (w' := w3) (xs := [runesOf s]) (cells := [.slice A2 (runesOf s).length c2]) (rest := []) (g := g3) (cap := 1)
    ⟨_, [], rfl, ⟨_, rfl, ho2.slF (fun k hk => hk) (fun _ h => h.elim)⟩, rfl⟩ nb3 (Nat.le_refl _) (by decide) (show 1 * 24 ≤ 140737488355328 by decide) (Nat.le_refl 1)
    (by have := nb3.ge; have := hk2.size; simp only [noB]; omega)
  refine o_still (r_build (c := #[.int .i64 0, .slice (some ⟨g3, 0, none⟩) 1 1]) rfl rfl) (wants_none rfl) rfl ?_
  refine o_unit (u_storeA rfl rfl rfl (by simp [Value.oneCell']) rfl b1 (Nat.le_refl 2)) (wants_none rfl) rfl ?_
  rintro w4 hw4
  have h1 := nb1.ge
  have h2 := nb1.lt
  have h3 := hk2.size
  have h4 := nb3.ge
  repeat(first|refine o_nil ?_|(refine o_pass (wants_no rfl rfl rfl ?_) rfl ?_;(focus(first|rfl|assumption|(simp;done)|(simp;omega))))|refine o_pass (wants_not rfl rfl rfl) rfl ?_|(refine o_yes (wants_yes rfl rfl rfl ?_) ?_;(focus(first|rfl|assumption|(simp;done)|(simp;omega))))|refine k_region ?_|(apply k_go;(focus(constructor<;>rfl)))|refine d_nil ?_|(apply o_s;(focus(first|(constructor<;>first|rfl|omega)|(apply Ri.add3<;>first|rfl|omega)|(apply Ri.sub3<;>first|rfl|omega)|(apply Ri.conv3<;>first|rfl|omega)|(apply Ri.eqb<;>rfl)|(apply Ri.neb<;>rfl)|(apply Ri.pT;(focus rfl);(focus(first|rfl|assumption|(simp;done)|(simp;omega)));(focus rfl))|(apply Ri.pF;(focus rfl);(focus(first|rfl|assumption|(simp;done)|(simp;omega)));(focus rfl))));(focus rfl)))
  refine k_retR1 rfl (.agg rfl rfl (blk_all hw4.at_) .nil) ⟨Kp.then ((nb1.kn.trans hk2).trans nb3.kn) hw4.kp (fun _ h => h.elim) (fun i hi he => by omega), _, _, rfl, ?_⟩
  refine (Kp.sl hw4.kp (hO.slF (F' := noB w1) (fun k hk => hk) (fun k hk => hk)) (fun k hk => ?_)).mono fun k hk _ => ?_
  · simp only [noB] at hk; omega
  · have := nb1.kn.size; simp only [noB] at hk ⊢; omega
theorem line_calls {w : World} {s : ByteArray} (hs : s.size ≤ 35184372088832) : CallsR Try.prog 27 #[.string s] w fun u w' => Kn w w' ∧ ∃ A c, u = .agg #[.int .i64 1, .slice A 1 c] ∧ Sl kRow (noB w) w' (.slice A 1 c) [runesOf s] := by
  refine calls_enter Try.func27 rfl rfl ?_
  repeat(first|refine o_nil ?_|(refine o_pass (wants_no rfl rfl rfl ?_) rfl ?_;(focus(first|rfl|assumption|(simp;done)|(simp;omega))))|refine o_pass (wants_not rfl rfl rfl) rfl ?_|(refine o_yes (wants_yes rfl rfl rfl ?_) ?_;(focus(first|rfl|assumption|(simp;done)|(simp;omega))))|refine k_region ?_|(apply k_go;(focus(constructor<;>rfl)))|refine d_nil ?_|(apply o_s;(focus(first|(constructor<;>first|rfl|omega)|(apply Ri.add3<;>first|rfl|omega)|(apply Ri.sub3<;>first|rfl|omega)|(apply Ri.conv3<;>first|rfl|omega)|(apply Ri.eqb<;>rfl)|(apply Ri.neb<;>rfl)|(apply Ri.pT;(focus rfl);(focus(first|rfl|assumption|(simp;done)|(simp;omega)));(focus rfl))|(apply Ri.pF;(focus rfl);(focus(first|rfl|assumption|(simp;done)|(simp;omega)));(focus rfl))));(focus rfl)))
  refine o_any (e_alloc) (wants_none rfl) rfl ?_
  rintro _ w1 ⟨g1, rfl, nb1⟩
  repeat(first|refine o_nil ?_|(refine o_pass (wants_no rfl rfl rfl ?_) rfl ?_;(focus(first|rfl|assumption|(simp;done)|(simp;omega))))|refine o_pass (wants_not rfl rfl rfl) rfl ?_|(refine o_yes (wants_yes rfl rfl rfl ?_) ?_;(focus(first|rfl|assumption|(simp;done)|(simp;omega))))|refine k_region ?_|(apply k_go;(focus(constructor<;>rfl)))|refine d_nil ?_|(apply o_s;(focus(first|(constructor<;>first|rfl|omega)|(apply Ri.add3<;>first|rfl|omega)|(apply Ri.sub3<;>first|rfl|omega)|(apply Ri.conv3<;>first|rfl|omega)|(apply Ri.eqb<;>rfl)|(apply Ri.neb<;>rfl)|(apply Ri.pT;(focus rfl);(focus(first|rfl|assumption|(simp;done)|(simp;omega)));(focus rfl))|(apply Ri.pF;(focus rfl);(focus(first|rfl|assumption|(simp;done)|(simp;omega)));(focus rfl))));(focus rfl)))
  refine o_any (e_runes rfl hs) (wants_none rfl) rfl ?_
  rintro v2 w2 ⟨hk2, ho2⟩
  obtain ⟨A2, c2, rfl, _⟩ := ho2.form
  refine o_any (e_one (z := .slice none 0 0) (sz := 1) rfl rfl rfl (by decide)) (wants_none rfl) rfl ?_
  rintro _ w3 ⟨g3, rfl, nb3⟩
  have b1 := nb3.kn.blk (hk2.blk nb1.at_ id) id
  have hO := ow_new (d := kRow) (G := noB w1) (F := noB w1) (w := w2) (w' := w3) (xs := [runesOf s]) (cells := [.slice A2 (runesOf s).length c2]) (rest := []) (g := g3) (cap := 1)
    ⟨_, [], rfl, ⟨_, rfl, ho2.slF (fun k hk => hk) (fun _ h => h.elim)⟩, rfl⟩ nb3 (Nat.le_refl _) (by decide) (show 1 * 24 ≤ 140737488355328 by decide) (Nat.le_refl 1)
    (by have := nb3.ge; have := hk2.size; simp only [noB]; omega)
  refine o_still (r_build (c := #[.int .i64 1, .slice (some ⟨g3, 0, none⟩) 1 1]) rfl rfl) (wants_none rfl) rfl ?_
  refine o_unit (u_storeA rfl rfl rfl (by simp [Value.oneCell']) rfl b1 (Nat.le_refl 2)) (wants_none rfl) rfl ?_
  rintro w4 hw4
  have h1 := nb1.ge
  have h2 := nb1.lt
  have h3 := hk2.size
  have h4 := nb3.ge
  repeat(first|refine o_nil ?_|(refine o_pass (wants_no rfl rfl rfl ?_) rfl ?_;(focus(first|rfl|assumption|(simp;done)|(simp;omega))))|refine o_pass (wants_not rfl rfl rfl) rfl ?_|(refine o_yes (wants_yes rfl rfl rfl ?_) ?_;(focus(first|rfl|assumption|(simp;done)|(simp;omega))))|refine k_region ?_|(apply k_go;(focus(constructor<;>rfl)))|refine d_nil ?_|(apply o_s;(focus(first|(constructor<;>first|rfl|omega)|(apply Ri.add3<;>first|rfl|omega)|(apply Ri.sub3<;>first|rfl|omega)|(apply Ri.conv3<;>first|rfl|omega)|(apply Ri.eqb<;>rfl)|(apply Ri.neb<;>rfl)|(apply Ri.pT;(focus rfl);(focus(first|rfl|assumption|(simp;done)|(simp;omega)));(focus rfl))|(apply Ri.pF;(focus rfl);(focus(first|rfl|assumption|(simp;done)|(simp;omega)));(focus rfl))));(focus rfl)))
  refine k_retR1 rfl (.agg rfl rfl (blk_all hw4.at_) .nil) ⟨Kp.then ((nb1.kn.trans hk2).trans nb3.kn) hw4.kp (fun _ h => h.elim) (fun i hi he => by omega), _, _, rfl, ?_⟩
  refine (Kp.sl hw4.kp (hO.slF (F' := noB w1) (fun k hk => hk) (fun k hk => hk)) (fun k hk => ?_)).mono fun k hk _ => ?_
  · simp only [noB] at hk; omega
  · have := nb1.kn.size; simp only [noB] at hk ⊢; omega

theorem finM_ok {m : List Slot} (h : SetOK m) (hl : m.length = 38) {i : Nat} (hi : i < 38) {r : Reg} (hr : r.2 ≠ []) (hz : sizeM r.2 ≤ 65536) (name : Int) : SetOK (finM m i name r).1 ∧ (finM m i name r).1.length = 38 := by
  have key : ∀ q : Reg, q.2 ≠ [] → sizeM q.2 ≤ 65536 → SetOK ((m.set i (true, q)).set 0 (true, q)) ∧ ((m.set i (true, q)).set 0 (true, q)).length = 38 := fun q h1 h2 =>
    ⟨(h.set hl hi (fun _ => h1) h2).set (by simpa using hl) (by decide) (fun _ => h1) h2, by simpa using hl⟩
  by_cases hc : 65 ≤ name ∧ name ≤ 90
  · by_cases hb : 65536 < sizeM (moreM (slotAt m i) r).2
    · rw [show finM m i name r = (m, 3) by simp [finM, hc, hb]]
      exact ⟨h, hl⟩
    · rw [show finM m i name r = ((m.set i (true, moreM (slotAt m i) r)).set 0 (true, moreM (slotAt m i) r), 0) by simp [finM, hc, hb]]
      exact key _ (more_ne hr) (by omega)
  · rw [show finM m i name r = ((m.set i (true, r)).set 0 (true, r), 0) by simp [finM, hc]]
    exact key _ hr hz
theorem shiftFrom_len : ∀ (n : Nat) (m : List Slot), (shiftFrom n m).length = m.length
  | 0, m => rfl
  | n + 1, m => by rw [shiftFrom, shiftFrom_len n, shiftStep_len]
theorem putM_ok {m : List Slot} (h : SetOK m) (hl : m.length = 38) (name : Int) (r : Reg) (del : Bool) : SetOK (putM m name r del).1 ∧ (putM m name r del).1.length = 38 := by
  have hpr := place_range name
  unfold putM
  split
  · exact ⟨h, hl⟩
  · next hno =>
    split
    · exact ⟨h, hl⟩
    · next hn =>
      have hr : (filledM r).2 ≠ [] := by
        unfold filledM; split
        · simp
        · assumption
      have hz : sizeM (filledM r).2 ≤ 65536 := by
        unfold filledM; split
        · simp [sizeM]
        · omega
      have hm : SetOK (midM m name (filledM r) del).1 ∧ (midM m name (filledM r) del).1.length = 38 ∧ (midM m name (filledM r) del).2 < 38 := by
        unfold midM
        split
        · split
          · refine ⟨h.shift hl _, ?_, ?_⟩
            · unfold shiftM; split
              · exact hl
              · show (shiftFrom 8 m).length = 38
                rw [shiftFrom_len, hl]
            · rcases shiftM_snd m (filledM r) with h | h <;> rw [h] <;> decide
          · exact ⟨h, hl, by show 2 < 38; decide⟩
        · exact ⟨h, hl, by show (placeM name).toNat < 38; omega⟩
      exact finM_ok hm.1 hm.2.1 hm.2.2 hr hz name
theorem emptySet_ok : SetOK emptySet := by
  intro i hi
  have : slotAt emptySet i = (false, (0, [])) := by
    unfold slotAt emptySet
    rw [List.getD_eq_getElem?_getD, List.getElem?_replicate]
    split <;> rfl
  rw [this]
  exact ⟨fun h => by simp at h, by simp [sizeM]⟩
end Go.Ink
