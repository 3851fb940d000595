/-
  (*Set).Put.
-/
import Derived.Test.YtlikhbhkodlaoaaF6
set_option linter.unusedVariables false
set_option linter.unusedSimpArgs false
namespace Go.Ink
open Go Go.Proofs

theorem slotAt_set {m : List Slot} {k i : Nat} {x : Slot} (hk : k < m.length) : slotAt (m.set k x) i = if i = k then x else slotAt m i := by
  unfold slotAt
  rw [List.getD_eq_getElem?_getD, List.getD_eq_getElem?_getD, List.getElem?_set]
  by_cases h : k = i
  · subst h; simp [hk]
  · rw [if_neg h, if_neg (Ne.symm h)]
theorem SetOK.set {m : List Slot} (h : SetOK m) (hl : m.length = 38) {k : Nat} (hk : k < 38) {x : Slot} (h1 : x.1 = true → x.2.2 ≠ []) (h2 : sizeM x.2.2 ≤ 65536) : SetOK (m.set k x) := by
  intro i hi
  rw [slotAt_set (by omega)]
  split
  · exact ⟨h1, h2⟩
  · exact h i hi
theorem SetOK.step {m : List Slot} (h : SetOK m) (hl : m.length = 38) {k : Nat} (hk : k < 38) (h0 : 0 < k) : SetOK (shiftStep m k) := by
  unfold shiftStep
  split
  · next hf => exact h.set hl hk (fun _ => (h (k - 1) (by omega)).1 hf) (h (k - 1) (by omega)).2
  · exact h
theorem SetOK.from {m : List Slot} (h : SetOK m) (hl : m.length = 38) : ∀ n, n ≤ 8 → SetOK (shiftFrom n m) := by
  intro n
  induction n generalizing m with
  | zero => intro _; exact h
  | succ n ih => intro hn; exact ih (h.step hl (by omega) (by omega)) (by rw [shiftStep_len, hl]) (by omega)
theorem SetOK.shift {m : List Slot} (h : SetOK m) (hl : m.length = 38) (r : Reg) : SetOK (shiftM m r).1 := by
  unfold shiftM
  split
  · exact h
  · exact h.from hl 8 (by decide)
theorem shiftM_snd (m : List Slot) (r : Reg) : (shiftM m r).2 = 1 ∨ (shiftM m r).2 = 3 := by
  unfold shiftM; split <;> simp
section
variable {D : Nat → Prop} {g gb : Nat} {w w' : World} {m : List Slot} {name : Int} {r : Reg} {A : Option Addr} {c : Nat} {del : Bool}
set_option maxHeartbeats 1000000 in
theorem put_mid (hok : SetOK m) (hr : r.2 ≠ []) (hz : sizeM r.2 ≤ 4294967296) (hn : -2147483648 ≤ name ∧ name ≤ 2147483647) (hp : placeM name = 0 ∨ 12 ≤ placeM name) (s : PutS D g gb w w' m r A c) :
    ∀ σ', SubB σ' [(0, .pointer (some ⟨g, 0, none⟩)), (1, .int .i32 name), (3, .bool del), (6, .pointer (some ⟨gb, 0, none⟩)), (9, .int .i64 (placeM name))] →
    WK Try.prog Try.f10 [.code (bodyC Try.f10 [1, 1, 1, 1, 1, 1])] σ' w' fun u w2 => Kp (fun k => k = g) w w2 ∧ IsSet (fun k => D k ∧ k ≠ gb) g w2 (finM (midM m name r del).1 (midM m name r del).2 name r).1 ∧ u = .int .i64 (finM (midM m name r del).1 (midM m name r del).2 name r).2 := by
  intro σ' hs
  refine WK.sub (Sub.mk hs) ?_
  clear hs σ'
  have hpr := place_range name
  repeat(first|refine o_nil ?_|(refine o_pass (wants_no rfl rfl rfl ?_) rfl ?_;(focus(first|rfl|assumption|(simp;done)|(simp;omega))))|refine o_pass (wants_not rfl rfl rfl) rfl ?_|(refine o_yes (wants_yes rfl rfl rfl ?_) ?_;(focus(first|rfl|assumption|(simp;done)|(simp;omega))))|refine k_region ?_|(apply k_go;(focus(constructor<;>rfl)))|refine d_nil ?_|(apply o_s;(focus(first|(constructor<;>first|rfl|omega)|(apply Ri.add3<;>first|rfl|omega)|(apply Ri.sub3<;>first|rfl|omega)|(apply Ri.conv3<;>first|rfl|omega)|(apply Ri.eqb<;>rfl)|(apply Ri.neb<;>rfl)|(apply Ri.pT;(focus rfl);(focus(first|rfl|assumption|(simp;done)|(simp;omega)));(focus rfl))|(apply Ri.pF;(focus rfl);(focus(first|rfl|assumption|(simp;done)|(simp;omega)));(focus rfl))));(focus rfl)))
  by_cases h0 : placeM name = 0
  · refine k_yes rfl h0 ?_
    repeat(first|refine o_nil ?_|(refine o_pass (wants_no rfl rfl rfl ?_) rfl ?_;(focus(first|rfl|assumption|(simp;done)|(simp;omega))))|refine o_pass (wants_not rfl rfl rfl) rfl ?_|(refine o_yes (wants_yes rfl rfl rfl ?_) ?_;(focus(first|rfl|assumption|(simp;done)|(simp;omega))))|refine k_region ?_|(apply k_go;(focus(constructor<;>rfl)))|refine d_nil ?_|(apply o_s;(focus(first|(constructor<;>first|rfl|omega)|(apply Ri.add3<;>first|rfl|omega)|(apply Ri.sub3<;>first|rfl|omega)|(apply Ri.conv3<;>first|rfl|omega)|(apply Ri.eqb<;>rfl)|(apply Ri.neb<;>rfl)|(apply Ri.pT;(focus rfl);(focus(first|rfl|assumption|(simp;done)|(simp;omega)));(focus rfl))|(apply Ri.pF;(focus rfl);(focus(first|rfl|assumption|(simp;done)|(simp;omega)));(focus rfl))));(focus rfl)))
    cases del with
    | true =>
      have hm : midM m name r true = shiftM m r := by simp [midM, h0]
      rw [hm]
      refine k_true rfl ?_
      repeat(first|refine o_nil ?_|(refine o_pass (wants_no rfl rfl rfl ?_) rfl ?_;(focus(first|rfl|assumption|(simp;done)|(simp;omega))))|refine o_pass (wants_not rfl rfl rfl) rfl ?_|(refine o_yes (wants_yes rfl rfl rfl ?_) ?_;(focus(first|rfl|assumption|(simp;done)|(simp;omega))))|refine k_region ?_|(apply k_go;(focus(constructor<;>rfl)))|refine d_nil ?_|(apply o_s;(focus(first|(constructor<;>first|rfl|omega)|(apply Ri.add3<;>first|rfl|omega)|(apply Ri.sub3<;>first|rfl|omega)|(apply Ri.conv3<;>first|rfl|omega)|(apply Ri.eqb<;>rfl)|(apply Ri.neb<;>rfl)|(apply Ri.pT;(focus rfl);(focus(first|rfl|assumption|(simp;done)|(simp;omega)));(focus rfl))|(apply Ri.pF;(focus rfl);(focus(first|rfl|assumption|(simp;done)|(simp;omega)));(focus rfl))));(focus rfl)))
      have c0 : w'.cell? ⟨gb, 0, none⟩ = some (.int .i64 r.1) := blk_cell s.hb
      have c1 : w'.cell? ⟨gb, 1, none⟩ = some (.slice A r.2.length c) := blk_cell s.hb
      have hgl := blk_lt s.hb
      refine o_still (r_loadA (cs := [.int .i64 r.1, .slice A r.2.length c]) rfl rfl (by
        intro j u hu
        match j, hu with
        | 0, hu => cases hu; exact c0
        | 1, hu => cases hu; exact c1)) (wants_none rfl) rfl ?_
      have s0 := s.kp.size
      refine o_enter (n_call rfl) (wants_none rfl) rfl ((shift_calls s.set (fun k hk => ⟨s.hB k (by omega), by omega⟩) rfl).mono ?_)
      rintro _ w5 ⟨hk5, hS5, rfl⟩
      have hge := s.ge
      have hlt := s.lt
      have hP5 : PutS D g gb w w5 (shiftM m r).1 r A c := ⟨hS5, s.kp.trans hk5, hk5.blk s.hb (by omega), Kp.sl hk5 s.sl (fun k hk => hk.2.2), hge, hlt, s.hB, s.lo, s.hi⟩
      refine o_still (r_assign rfl) (wants_none rfl) rfl ?_
      refine o_nil ?_
      refine put_more ?_ (hok.shift s.set.1 r) hr hz hn hP5 _ ?_
      · rcases shiftM_snd m r with h | h <;> rw [h] <;> decide
      · repeat (first | exact SubB.nil | refine SubB.cons rfl ?_)
    | false =>
      have hm : midM m name r false = (m, 2) := by simp [midM, h0]
      rw [hm]
      refine k_false rfl ?_
      refine k_skip ?_
      refine put_more (i := 2) (by decide) hok hr hz hn s _ ?_
      repeat (first | exact SubB.nil | refine SubB.cons rfl ?_)
  · have hm : midM m name r del = (m, (placeM name).toNat) := by simp [midM, h0]
    rw [hm]
    refine k_no rfl h0 ?_
    refine k_skip ?_
    refine put_more (by show (placeM name).toNat < 38; omega) hok hr hz hn s _ ?_
    exact .cons rfl (.cons rfl (.cons rfl (.cons (int_eq (by omega)) .nil)))
end
end Go.Ink
