/-
  (*Set).Put.
-/
import Derived.Test.YtlikhbhkodlaoaaF7
set_option linter.unusedVariables false
set_option linter.unusedSimpArgs false
namespace Go.Ink
open Go Go.Proofs

theorem wrap_u64 {a : Int} (h1 : -9223372036854775808 ≤ a) (h2 : a ≤ 9223372036854775807) : IntKind.u64.wrap a = if a < 0 then a + 18446744073709551616 else a := by
  simp only [IntKind.wrap, IntKind.bits, IntKind.signed, Bool.false_and, Bool.false_eq_true, if_false]
  split <;> omega
section
variable {D : Nat → Prop} {g gb : Nat} {F : Nat → Prop} {w w' : World} {m : List Slot} {name : Int} {r : Reg} {v : Value} {A : Option Addr} {c : Nat} {del : Bool}
def PutQ (D : Nat → Prop) (g : Nat) (w : World) (m : List Slot) (name : Int) (r : Reg) (del : Bool) (u : Value) (w' : World) : Prop :=
  Kp (fun k => k = g) w w' ∧ IsSet D g w' (putM m name r del).1 ∧ u = .int .i64 (putM m name r del).2
theorem put_rest (hset : IsSet (fun k => D k ∧ k ≠ gb) g w' m) (hkn : Kn w w') (hb : w'.heap[gb]? = some (.cells #[.int .i64 r.1, .slice A r.2.length c] 29 (0, 0))) (hv : Sl kRow F w' (.slice A r.2.length c) r.2)
    (hge : w.heap.size ≤ gb) (hlt : g < w.heap.size) (hB : ∀ k, w.heap.size ≤ k → D k) (hlo : -9223372036854775808 ≤ r.1) (hhi : r.1 ≤ 9223372036854775807) (hok : SetOK m) (hn : -2147483648 ≤ name ∧ name ≤ 2147483647)
    (hno : ¬ ((name ≠ 95 ∧ placeM name ≠ 0 ∧ placeM name < 12) ∨ r.1 < 0 ∨ 2 < r.1 ∨ 65536 < sizeM r.2)) :
    ∀ σ', SubB σ' [(0, .pointer (some ⟨g, 0, none⟩)), (1, .int .i32 name), (3, .bool del), (6, .pointer (some ⟨gb, 0, none⟩)), (9, .int .i64 (placeM name))] →
    WK Try.prog Try.f10 [.code (bodyC Try.f10 [1, 1, 1])] σ' w' (PutQ D g w m name r del) := by
  intro σ' hs
  refine WK.sub (Sub.mk hs) ?_
  clear hs σ'
  have hpr := place_range name
  repeat(first|refine o_nil ?_|(refine o_pass (wants_no rfl rfl rfl ?_) rfl ?_;(focus(first|rfl|assumption|(simp;done)|(simp;omega))))|refine o_pass (wants_not rfl rfl rfl) rfl ?_|(refine o_yes (wants_yes rfl rfl rfl ?_) ?_;(focus(first|rfl|assumption|(simp;done)|(simp;omega))))|refine k_region ?_|(apply k_go;(focus(constructor<;>rfl)))|refine d_nil ?_|(apply o_s;(focus(first|(constructor<;>first|rfl|omega)|(apply Ri.add3<;>first|rfl|omega)|(apply Ri.sub3<;>first|rfl|omega)|(apply Ri.conv3<;>first|rfl|omega)|(apply Ri.eqb<;>rfl)|(apply Ri.neb<;>rfl)|(apply Ri.pT;(focus rfl);(focus(first|rfl|assumption|(simp;done)|(simp;omega)));(focus rfl))|(apply Ri.pF;(focus rfl);(focus(first|rfl|assumption|(simp;done)|(simp;omega)));(focus rfl))));(focus rfl)))
  by_cases hn95 : name = 95
  · have hq : putM m name r del = (m, 0) := by unfold putM; rw [if_neg hno, if_pos hn95]
    refine k_yes rfl hn95 ?_
    repeat(first|refine o_nil ?_|(refine o_pass (wants_no rfl rfl rfl ?_) rfl ?_;(focus(first|rfl|assumption|(simp;done)|(simp;omega))))|refine o_pass (wants_not rfl rfl rfl) rfl ?_|(refine o_yes (wants_yes rfl rfl rfl ?_) ?_;(focus(first|rfl|assumption|(simp;done)|(simp;omega))))|refine k_region ?_|(apply k_go;(focus(constructor<;>rfl)))|refine d_nil ?_|(apply o_s;(focus(first|(constructor<;>first|rfl|omega)|(apply Ri.add3<;>first|rfl|omega)|(apply Ri.sub3<;>first|rfl|omega)|(apply Ri.conv3<;>first|rfl|omega)|(apply Ri.eqb<;>rfl)|(apply Ri.neb<;>rfl)|(apply Ri.pT;(focus rfl);(focus(first|rfl|assumption|(simp;done)|(simp;omega)));(focus rfl))|(apply Ri.pF;(focus rfl);(focus(first|rfl|assumption|(simp;done)|(simp;omega)));(focus rfl))));(focus rfl)))
    refine k_ret1 rfl rfl ⟨hkn.kp, ?_, ?_⟩
    · rw [hq]; exact hset.mono fun k hk _ => hk.1
    · rw [hq]
  · have hq : putM m name r del = finM (midM m name (filledM r) del).1 (midM m name (filledM r) del).2 name (filledM r) := by unfold putM; rw [if_neg hno, if_neg hn95]
    have c0 : w'.cell? ⟨gb, 0, none⟩ = some (.int .i64 r.1) := blk_cell hb
    have c1 : w'.cell? ⟨gb, 1, none⟩ = some (.slice A r.2.length c) := blk_cell hb
    have hgl := blk_lt hb
    have hz : sizeM r.2 ≤ 65536 := by omega
    have J : ∀ w5 σ' A5 c5, SubB σ' [(0, .pointer (some ⟨g, 0, none⟩)), (1, .int .i32 name), (3, .bool del), (6, .pointer (some ⟨gb, 0, none⟩)), (9, .int .i64 (placeM name))] → PutS D g gb w w5 m (filledM r) A5 c5 →
        WK Try.prog Try.f10 [.code (bodyC Try.f10 [1, 1, 1, 1, 1, 1])] σ' w5 (PutQ D g w m name r del) := by
      intro w5 σ' A5 c5 hs5 hP
      unfold PutQ
      rw [hq]
      refine WK.mono (put_mid hok ?_ ?_ hn (by omega) hP σ' hs5) fun u w2 ⟨h1, h2, h3⟩ => ⟨h1, h2.mono fun k hk _ => hk.1, h3⟩
      · unfold filledM; split
        · simp
        · assumption
      · unfold filledM; split
        · simp [sizeM]
        · omega
    refine k_no rfl hn95 ?_
    repeat(first|refine o_nil ?_|(refine o_pass (wants_no rfl rfl rfl ?_) rfl ?_;(focus(first|rfl|assumption|(simp;done)|(simp;omega))))|refine o_pass (wants_not rfl rfl rfl) rfl ?_|(refine o_yes (wants_yes rfl rfl rfl ?_) ?_;(focus(first|rfl|assumption|(simp;done)|(simp;omega))))|refine k_region ?_|(apply k_go;(focus(constructor<;>rfl)))|refine d_nil ?_|(apply o_s;(focus(first|(constructor<;>first|rfl|omega)|(apply Ri.add3<;>first|rfl|omega)|(apply Ri.sub3<;>first|rfl|omega)|(apply Ri.conv3<;>first|rfl|omega)|(apply Ri.eqb<;>rfl)|(apply Ri.neb<;>rfl)|(apply Ri.pT;(focus rfl);(focus(first|rfl|assumption|(simp;done)|(simp;omega)));(focus rfl))|(apply Ri.pF;(focus rfl);(focus(first|rfl|assumption|(simp;done)|(simp;omega)));(focus rfl))));(focus rfl)))
    refine o_still (r_loadA (cs := [.int .i64 r.1, .slice A r.2.length c]) rfl rfl (by
      intro j u hu
      match j, hu with
      | 0, hu => cases hu; exact c0
      | 1, hu => cases hu; exact c1)) (wants_none rfl) rfl ?_
    refine o_enter (n_call rfl) (wants_none rfl) rfl ((twin_calls hv).mono ?_)
    rintro _ w3 ⟨v3, rfl, hk3, ho3⟩
    obtain ⟨A3, c3, rfl, _⟩ := ho3.form
    have hb3 := hk3.blk hb id
    refine o_unit (u_storeA (i := 0) rfl rfl rfl (by simp [Value.oneCell']) (by simp only [add_plain, Nat.zero_add, Nat.add_zero]) hb3 (Nat.le_refl 2)) (wants_none rfl) rfl ?_
    rintro w4 hw4
    have hb4 := hw4.at_
    have s3 := hk3.size
    have s4 := hw4.kp.size
    have s0 := hkn.size
    have hS4 : IsSet (fun k => D k ∧ k ≠ gb) g w4 m := (hset.kn hk3).kp hw4.kp fun k hk => hk.2
    have hk4 : Kn w w4 := Kp.then (hkn.trans hk3) hw4.kp (fun _ h => h) (fun k hk he => by omega)
    have hsl4 : Sl kRow (fun k => D k ∧ k ≠ gb ∧ k ≠ g) w4 (.slice A3 r.2.length c3) r.2 := Kp.sl hw4.kp (ho3.slF (F' := fun k => D k ∧ k ≠ gb ∧ k ≠ g) (fun k hk => by
      simp only [noB] at hk
      exact ⟨hB k (by omega), by omega, by omega⟩) (fun k hk => by
      simp only [noB] at hk
      exact ⟨hB k (by omega), by omega, by omega⟩)) (fun k hk => hk.2.1)
    have d1 : w4.cell? ⟨gb, 1, none⟩ = some (.slice A3 r.2.length c3) := blk_cell hb4
    repeat(first|refine o_nil ?_|(refine o_pass (wants_no rfl rfl rfl ?_) rfl ?_;(focus(first|rfl|assumption|(simp;done)|(simp;omega))))|refine o_pass (wants_not rfl rfl rfl) rfl ?_|(refine o_yes (wants_yes rfl rfl rfl ?_) ?_;(focus(first|rfl|assumption|(simp;done)|(simp;omega))))|refine k_region ?_|(apply k_go;(focus(constructor<;>rfl)))|refine d_nil ?_|(apply o_s;(focus(first|(constructor<;>first|rfl|omega)|(apply Ri.add3<;>first|rfl|omega)|(apply Ri.sub3<;>first|rfl|omega)|(apply Ri.conv3<;>first|rfl|omega)|(apply Ri.eqb<;>rfl)|(apply Ri.neb<;>rfl)|(apply Ri.pT;(focus rfl);(focus(first|rfl|assumption|(simp;done)|(simp;omega)));(focus rfl))|(apply Ri.pF;(focus rfl);(focus(first|rfl|assumption|(simp;done)|(simp;omega)));(focus rfl))));(focus rfl)))
    refine o_still (r_load rfl d1) (wants_none rfl) rfl ?_
    repeat(first|refine o_nil ?_|(refine o_pass (wants_no rfl rfl rfl ?_) rfl ?_;(focus(first|rfl|assumption|(simp;done)|(simp;omega))))|refine o_pass (wants_not rfl rfl rfl) rfl ?_|(refine o_yes (wants_yes rfl rfl rfl ?_) ?_;(focus(first|rfl|assumption|(simp;done)|(simp;omega))))|refine k_region ?_|(apply k_go;(focus(constructor<;>rfl)))|refine d_nil ?_|(apply o_s;(focus(first|(constructor<;>first|rfl|omega)|(apply Ri.add3<;>first|rfl|omega)|(apply Ri.sub3<;>first|rfl|omega)|(apply Ri.conv3<;>first|rfl|omega)|(apply Ri.eqb<;>rfl)|(apply Ri.neb<;>rfl)|(apply Ri.pT;(focus rfl);(focus(first|rfl|assumption|(simp;done)|(simp;omega)));(focus rfl))|(apply Ri.pF;(focus rfl);(focus(first|rfl|assumption|(simp;done)|(simp;omega)));(focus rfl))));(focus rfl)))
    by_cases hr : r.2 = []
    · have hf : filledM r = (r.1, [[]]) := by simp [filledM, hr]
      refine k_yes rfl (by rw [hr]; rfl) ?_
      repeat(first|refine o_nil ?_|(refine o_pass (wants_no rfl rfl rfl ?_) rfl ?_;(focus(first|rfl|assumption|(simp;done)|(simp;omega))))|refine o_pass (wants_not rfl rfl rfl) rfl ?_|(refine o_yes (wants_yes rfl rfl rfl ?_) ?_;(focus(first|rfl|assumption|(simp;done)|(simp;omega))))|refine k_region ?_|(apply k_go;(focus(constructor<;>rfl)))|refine d_nil ?_|(apply o_s;(focus(first|(constructor<;>first|rfl|omega)|(apply Ri.add3<;>first|rfl|omega)|(apply Ri.sub3<;>first|rfl|omega)|(apply Ri.conv3<;>first|rfl|omega)|(apply Ri.eqb<;>rfl)|(apply Ri.neb<;>rfl)|(apply Ri.pT;(focus rfl);(focus(first|rfl|assumption|(simp;done)|(simp;omega)));(focus rfl))|(apply Ri.pF;(focus rfl);(focus(first|rfl|assumption|(simp;done)|(simp;omega)));(focus rfl))));(focus rfl)))
      refine o_any (e_make (l := 1) (c := 1) rfl rfl (Nat.le_refl _) (by decide) (by decide)) (wants_none rfl) rfl ?_
      rintro _ w5 ⟨g5, rfl, nb5⟩
      have hO5 := ow_made (d := kRow) (w := w4) (G := noB w4) (F := noB w4) (n := 1) (c := 1) (zx := []) ⟨_, rfl, Sl.nil _ _ _⟩ nb5 (Nat.le_refl _) (by decide) (show 1 * 24 ≤ 140737488355328 by decide) nb5.ge
      have hb5 := nb5.kn.blk hb4 id
      have s5 := nb5.kn.size
      repeat(first|refine o_nil ?_|(refine o_pass (wants_no rfl rfl rfl ?_) rfl ?_;(focus(first|rfl|assumption|(simp;done)|(simp;omega))))|refine o_pass (wants_not rfl rfl rfl) rfl ?_|(refine o_yes (wants_yes rfl rfl rfl ?_) ?_;(focus(first|rfl|assumption|(simp;done)|(simp;omega))))|refine k_region ?_|(apply k_go;(focus(constructor<;>rfl)))|refine d_nil ?_|(apply o_s;(focus(first|(constructor<;>first|rfl|omega)|(apply Ri.add3<;>first|rfl|omega)|(apply Ri.sub3<;>first|rfl|omega)|(apply Ri.conv3<;>first|rfl|omega)|(apply Ri.eqb<;>rfl)|(apply Ri.neb<;>rfl)|(apply Ri.pT;(focus rfl);(focus(first|rfl|assumption|(simp;done)|(simp;omega)));(focus rfl))|(apply Ri.pF;(focus rfl);(focus(first|rfl|assumption|(simp;done)|(simp;omega)));(focus rfl))));(focus rfl)))
      refine o_unit (u_store (i := 1) rfl rfl rfl (by simp only [add_plain, Nat.zero_add, Nat.add_zero]) hb5 (show 1 < 2 by decide)) (wants_none rfl) rfl ?_
      rintro w6 hw6
      refine o_nil ?_
      refine J w6 _ (some ⟨g5, 0, none⟩) 1 ?_ ?_
      · repeat (first | exact SubB.nil | refine SubB.cons rfl ?_)
      · rw [hf]
        refine ⟨(hS4.kn nb5.kn).kp hw6.kp fun k hk => hk.2, Kp.then (hk4.trans nb5.kn) hw6.kp (fun _ h => h.elim) (fun k hk he => by omega), hw6.at_, ?_, hge, hlt, hB, hlo, hhi⟩
        refine Kp.sl hw6.kp (hO5.slF (F' := fun k => D k ∧ k ≠ gb ∧ k ≠ g) (fun k hk => ?_) (fun k hk => ?_)) (fun k hk => hk.2.1)
        all_goals
          simp only [noB] at hk
          exact ⟨hB k (by omega), by omega, by omega⟩
    · have hf : filledM r = r := by simp [filledM, hr]
      refine k_no rfl (by have := List.length_pos_iff.2 hr; omega) ?_
      refine k_skip ?_
      refine J w4 _ A3 c3 ?_ (by rw [hf]; exact ⟨hS4, hk4.kp, hb4, hsl4, hge, hlt, hB, hlo, hhi⟩)
      repeat (first | exact SubB.nil | refine SubB.cons rfl ?_)
set_option maxHeartbeats 1000000 in
theorem put_calls (h : IsSet D g w m) (hB : ∀ k, w.heap.size ≤ k → D k) (hok : SetOK m) (hn : -2147483648 ≤ name ∧ name ≤ 2147483647) (hv : Sl kRow F w v r.2) (hk : -9223372036854775808 ≤ r.1 ∧ r.1 ≤ 9223372036854775807) (hs : sizeM r.2 ≤ 4611686018427387904) :
    CallsR Try.prog 10 #[.pointer (some ⟨g, 0, none⟩), .int .i32 name, .agg #[.int .i64 r.1, v], .bool del] w (PutQ D g w m name r del) := by
  obtain ⟨A, c, rfl, hc, hl⟩ := hv.form
  have hpr := place_range name
  refine calls_enter Try.func10 rfl rfl ?_
  repeat(first|refine o_nil ?_|(refine o_pass (wants_no rfl rfl rfl ?_) rfl ?_;(focus(first|rfl|assumption|(simp;done)|(simp;omega))))|refine o_pass (wants_not rfl rfl rfl) rfl ?_|(refine o_yes (wants_yes rfl rfl rfl ?_) ?_;(focus(first|rfl|assumption|(simp;done)|(simp;omega))))|refine k_region ?_|(apply k_go;(focus(constructor<;>rfl)))|refine d_nil ?_|(apply o_s;(focus(first|(constructor<;>first|rfl|omega)|(apply Ri.add3<;>first|rfl|omega)|(apply Ri.sub3<;>first|rfl|omega)|(apply Ri.conv3<;>first|rfl|omega)|(apply Ri.eqb<;>rfl)|(apply Ri.neb<;>rfl)|(apply Ri.pT;(focus rfl);(focus(first|rfl|assumption|(simp;done)|(simp;omega)));(focus rfl))|(apply Ri.pF;(focus rfl);(focus(first|rfl|assumption|(simp;done)|(simp;omega)));(focus rfl))));(focus rfl)))
  refine o_any (e_box rfl) (wants_none rfl) rfl ?_
  rintro _ w1 ⟨gb, rfl, nb⟩
  repeat(first|refine o_nil ?_|(refine o_pass (wants_no rfl rfl rfl ?_) rfl ?_;(focus(first|rfl|assumption|(simp;done)|(simp;omega))))|refine o_pass (wants_not rfl rfl rfl) rfl ?_|(refine o_yes (wants_yes rfl rfl rfl ?_) ?_;(focus(first|rfl|assumption|(simp;done)|(simp;omega))))|refine k_region ?_|(apply k_go;(focus(constructor<;>rfl)))|refine d_nil ?_|(apply o_s;(focus(first|(constructor<;>first|rfl|omega)|(apply Ri.add3<;>first|rfl|omega)|(apply Ri.sub3<;>first|rfl|omega)|(apply Ri.conv3<;>first|rfl|omega)|(apply Ri.eqb<;>rfl)|(apply Ri.neb<;>rfl)|(apply Ri.pT;(focus rfl);(focus(first|rfl|assumption|(simp;done)|(simp;omega)));(focus rfl))|(apply Ri.pF;(focus rfl);(focus(first|rfl|assumption|(simp;done)|(simp;omega)));(focus rfl))));(focus rfl)))
  refine o_enter (n_call rfl) (wants_none rfl) rfl ((place_calls hn).mono ?_)
  rintro _ w2 ⟨hk2, rfl⟩
  have b2 := hk2.blk nb.at_ id
  have k2 : Kn w w2 := nb.kn.trans hk2
  have c0 : w2.cell? ⟨gb, 0, none⟩ = some (.int .i64 r.1) := blk_cell b2
  have c1 : w2.cell? ⟨gb, 1, none⟩ = some (.slice A r.2.length c) := blk_cell b2
  have hE : putM m name r del = (m, 1) → ∀ w', Kn w2 w' → PutQ D g w m name r del (.int .i64 1) w' := by
    intro he w' hk'
    refine ⟨Kn.kp (k2.trans hk'), ?_, ?_⟩
    · rw [he]; exact (h.kn k2).kn hk'
    · rw [he]
  have hgl := h.lt
  have hge := nb.ge
  have hset : IsSet (fun k => D k ∧ k ≠ gb) g w2 m := (h.mono (D' := fun k => D k ∧ k ≠ gb) fun k hk hl => ⟨hk, by omega⟩).kn k2
  have hv2 := k2.sl hv
  have J : ∀ w' σ', Kn w2 w' → SubB σ' [(0, .pointer (some ⟨g, 0, none⟩)), (1, .int .i32 name), (3, .bool del), (6, .pointer (some ⟨gb, 0, none⟩)), (9, .int .i64 (placeM name))] → ¬ ((name ≠ 95 ∧ placeM name ≠ 0 ∧ placeM name < 12) ∨ r.1 < 0 ∨ 2 < r.1 ∨ 65536 < sizeM r.2) →
      WK Try.prog Try.f10 [.code (bodyC Try.f10 [1, 1, 1])] σ' w' (PutQ D g w m name r del) := fun w' σ' hk' hs' hno =>
    put_rest (hset.kn hk') (k2.trans hk') (hk'.blk b2 id) (hk'.sl hv2) hge hgl hB hk.1 hk.2 hok hn hno σ' hs'
  have hw := wrap_u64 hk.1 hk.2
  generalize hp : placeM name = p at *
  have cs : (name ≠ 95 ∧ p ≠ 0 ∧ p < 12) ∨ (name = 95 ∨ (name ≠ 95 ∧ p = 0) ∨ (name ≠ 95 ∧ p ≠ 0 ∧ 12 ≤ p)) := by omega
  repeat(first|refine o_nil ?_|(refine o_pass (wants_no rfl rfl rfl ?_) rfl ?_;(focus(first|rfl|assumption|(simp;done)|(simp;omega))))|refine o_pass (wants_not rfl rfl rfl) rfl ?_|(refine o_yes (wants_yes rfl rfl rfl ?_) ?_;(focus(first|rfl|assumption|(simp;done)|(simp;omega))))|refine k_region ?_|(apply k_go;(focus(constructor<;>rfl)))|refine d_nil ?_|(apply o_s;(focus(first|(constructor<;>first|rfl|omega)|(apply Ri.add3<;>first|rfl|omega)|(apply Ri.sub3<;>first|rfl|omega)|(apply Ri.conv3<;>first|rfl|omega)|(apply Ri.eqb<;>rfl)|(apply Ri.neb<;>rfl)|(apply Ri.pT;(focus rfl);(focus(first|rfl|assumption|(simp;done)|(simp;omega)));(focus rfl))|(apply Ri.pF;(focus rfl);(focus(first|rfl|assumption|(simp;done)|(simp;omega)));(focus rfl))));(focus rfl)))
  rcases cs with hA | hA
  · have he : putM m name r del = (m, 1) := by simp [putM, hp, hA]
    repeat(first|refine o_nil ?_|(refine o_pass (wants_no rfl rfl rfl ?_) rfl ?_;(focus(first|rfl|assumption|(simp;done)|(simp;omega))))|refine o_pass (wants_not rfl rfl rfl) rfl ?_|(refine o_yes (wants_yes rfl rfl rfl ?_) ?_;(focus(first|rfl|assumption|(simp;done)|(simp;omega))))|refine k_region ?_|(apply k_go;(focus(constructor<;>rfl)))|refine d_nil ?_|(apply o_s;(focus(first|(constructor<;>first|rfl|omega)|(apply Ri.add3<;>first|rfl|omega)|(apply Ri.sub3<;>first|rfl|omega)|(apply Ri.conv3<;>first|rfl|omega)|(apply Ri.eqb<;>rfl)|(apply Ri.neb<;>rfl)|(apply Ri.pT;(focus rfl);(focus(first|rfl|assumption|(simp;done)|(simp;omega)));(focus rfl))|(apply Ri.pF;(focus rfl);(focus(first|rfl|assumption|(simp;done)|(simp;omega)));(focus rfl))));(focus rfl)))
    refine k_true rfl ?_
    repeat(first|refine o_nil ?_|(refine o_pass (wants_no rfl rfl rfl ?_) rfl ?_;(focus(first|rfl|assumption|(simp;done)|(simp;omega))))|refine o_pass (wants_not rfl rfl rfl) rfl ?_|(refine o_yes (wants_yes rfl rfl rfl ?_) ?_;(focus(first|rfl|assumption|(simp;done)|(simp;omega))))|refine k_region ?_|(apply k_go;(focus(constructor<;>rfl)))|refine d_nil ?_|(apply o_s;(focus(first|(constructor<;>first|rfl|omega)|(apply Ri.add3<;>first|rfl|omega)|(apply Ri.sub3<;>first|rfl|omega)|(apply Ri.conv3<;>first|rfl|omega)|(apply Ri.eqb<;>rfl)|(apply Ri.neb<;>rfl)|(apply Ri.pT;(focus rfl);(focus(first|rfl|assumption|(simp;done)|(simp;omega)));(focus rfl))|(apply Ri.pF;(focus rfl);(focus(first|rfl|assumption|(simp;done)|(simp;omega)));(focus rfl))));(focus rfl)))
    exact k_ret1 rfl rfl (hE he _ (Kp.refl _ _))
  · have hA' : ¬ (name ≠ 95 ∧ p ≠ 0 ∧ p < 12) := by omega
    by_cases hkk : r.1 < 0 ∨ 2 < r.1
    · have he : putM m name r del = (m, 1) := by
        have : r.1 < 0 ∨ 2 < r.1 ∨ 65536 < sizeM r.2 := by omega
        simp [putM, hp, this]
      have hgt : 2 < IntKind.u64.wrap r.1 := by rw [hw]; split <;> omega
      rcases hA with hA | hA | hA
      all_goals
        repeat(first|refine o_nil ?_|(refine o_pass (wants_no rfl rfl rfl ?_) rfl ?_;(focus(first|rfl|assumption|(simp;done)|(simp;omega))))|refine o_pass (wants_not rfl rfl rfl) rfl ?_|(refine o_yes (wants_yes rfl rfl rfl ?_) ?_;(focus(first|rfl|assumption|(simp;done)|(simp;omega))))|refine k_region ?_|(apply k_go;(focus(constructor<;>rfl)))|refine d_nil ?_|(apply o_s;(focus(first|(constructor<;>first|rfl|omega)|(apply Ri.add3<;>first|rfl|omega)|(apply Ri.sub3<;>first|rfl|omega)|(apply Ri.conv3<;>first|rfl|omega)|(apply Ri.eqb<;>rfl)|(apply Ri.neb<;>rfl)|(apply Ri.pT;(focus rfl);(focus(first|rfl|assumption|(simp;done)|(simp;omega)));(focus rfl))|(apply Ri.pF;(focus rfl);(focus(first|rfl|assumption|(simp;done)|(simp;omega)));(focus rfl))));(focus rfl)))
        refine o_still (r_load rfl c0) (wants_none rfl) rfl ?_
        refine o_still (r_conv rfl) (wants_yes rfl rfl rfl (by first | rfl | assumption | (simp; done) | (simp; omega))) rfl ?_
        repeat(first|refine o_nil ?_|(refine o_pass (wants_no rfl rfl rfl ?_) rfl ?_;(focus(first|rfl|assumption|(simp;done)|(simp;omega))))|refine o_pass (wants_not rfl rfl rfl) rfl ?_|(refine o_yes (wants_yes rfl rfl rfl ?_) ?_;(focus(first|rfl|assumption|(simp;done)|(simp;omega))))|refine k_region ?_|(apply k_go;(focus(constructor<;>rfl)))|refine d_nil ?_|(apply o_s;(focus(first|(constructor<;>first|rfl|omega)|(apply Ri.add3<;>first|rfl|omega)|(apply Ri.sub3<;>first|rfl|omega)|(apply Ri.conv3<;>first|rfl|omega)|(apply Ri.eqb<;>rfl)|(apply Ri.neb<;>rfl)|(apply Ri.pT;(focus rfl);(focus(first|rfl|assumption|(simp;done)|(simp;omega)));(focus rfl))|(apply Ri.pF;(focus rfl);(focus(first|rfl|assumption|(simp;done)|(simp;omega)));(focus rfl))));(focus rfl)))
        refine k_true rfl ?_
        repeat(first|refine o_nil ?_|(refine o_pass (wants_no rfl rfl rfl ?_) rfl ?_;(focus(first|rfl|assumption|(simp;done)|(simp;omega))))|refine o_pass (wants_not rfl rfl rfl) rfl ?_|(refine o_yes (wants_yes rfl rfl rfl ?_) ?_;(focus(first|rfl|assumption|(simp;done)|(simp;omega))))|refine k_region ?_|(apply k_go;(focus(constructor<;>rfl)))|refine d_nil ?_|(apply o_s;(focus(first|(constructor<;>first|rfl|omega)|(apply Ri.add3<;>first|rfl|omega)|(apply Ri.sub3<;>first|rfl|omega)|(apply Ri.conv3<;>first|rfl|omega)|(apply Ri.eqb<;>rfl)|(apply Ri.neb<;>rfl)|(apply Ri.pT;(focus rfl);(focus(first|rfl|assumption|(simp;done)|(simp;omega)));(focus rfl))|(apply Ri.pF;(focus rfl);(focus(first|rfl|assumption|(simp;done)|(simp;omega)));(focus rfl))));(focus rfl)))
        exact k_ret1 rfl rfl (hE he _ (Kp.refl _ _))
    · have hgt : ¬ 2 < IntKind.u64.wrap r.1 := by rw [hw]; split <;> omega
      by_cases hz : 65536 < sizeM r.2
      · have he : putM m name r del = (m, 1) := by simp [putM, hp, hz]
        rcases hA with hA | hA | hA
        all_goals
          repeat(first|refine o_nil ?_|(refine o_pass (wants_no rfl rfl rfl ?_) rfl ?_;(focus(first|rfl|assumption|(simp;done)|(simp;omega))))|refine o_pass (wants_not rfl rfl rfl) rfl ?_|(refine o_yes (wants_yes rfl rfl rfl ?_) ?_;(focus(first|rfl|assumption|(simp;done)|(simp;omega))))|refine k_region ?_|(apply k_go;(focus(constructor<;>rfl)))|refine d_nil ?_|(apply o_s;(focus(first|(constructor<;>first|rfl|omega)|(apply Ri.add3<;>first|rfl|omega)|(apply Ri.sub3<;>first|rfl|omega)|(apply Ri.conv3<;>first|rfl|omega)|(apply Ri.eqb<;>rfl)|(apply Ri.neb<;>rfl)|(apply Ri.pT;(focus rfl);(focus(first|rfl|assumption|(simp;done)|(simp;omega)));(focus rfl))|(apply Ri.pF;(focus rfl);(focus(first|rfl|assumption|(simp;done)|(simp;omega)));(focus rfl))));(focus rfl)))
          refine o_still (r_load rfl c0) (wants_none rfl) rfl ?_
          refine o_still (r_conv rfl) (wants_yes rfl rfl rfl (by first | rfl | assumption | (simp; done) | (simp; omega))) rfl ?_
          repeat(first|refine o_nil ?_|(refine o_pass (wants_no rfl rfl rfl ?_) rfl ?_;(focus(first|rfl|assumption|(simp;done)|(simp;omega))))|refine o_pass (wants_not rfl rfl rfl) rfl ?_|(refine o_yes (wants_yes rfl rfl rfl ?_) ?_;(focus(first|rfl|assumption|(simp;done)|(simp;omega))))|refine k_region ?_|(apply k_go;(focus(constructor<;>rfl)))|refine d_nil ?_|(apply o_s;(focus(first|(constructor<;>first|rfl|omega)|(apply Ri.add3<;>first|rfl|omega)|(apply Ri.sub3<;>first|rfl|omega)|(apply Ri.conv3<;>first|rfl|omega)|(apply Ri.eqb<;>rfl)|(apply Ri.neb<;>rfl)|(apply Ri.pT;(focus rfl);(focus(first|rfl|assumption|(simp;done)|(simp;omega)));(focus rfl))|(apply Ri.pF;(focus rfl);(focus(first|rfl|assumption|(simp;done)|(simp;omega)));(focus rfl))));(focus rfl)))
          refine o_still (r_load rfl c1) (wants_none rfl) rfl ?_
          refine o_enter (n_call rfl) (wants_yes rfl rfl rfl (by first | rfl | assumption | (simp; done) | (simp; omega))) rfl ((size_calls hv2 hs).mono ?_)
          rintro _ w3 ⟨hk3, rfl⟩
          repeat(first|refine o_nil ?_|(refine o_pass (wants_no rfl rfl rfl ?_) rfl ?_;(focus(first|rfl|assumption|(simp;done)|(simp;omega))))|refine o_pass (wants_not rfl rfl rfl) rfl ?_|(refine o_yes (wants_yes rfl rfl rfl ?_) ?_;(focus(first|rfl|assumption|(simp;done)|(simp;omega))))|refine k_region ?_|(apply k_go;(focus(constructor<;>rfl)))|refine d_nil ?_|(apply o_s;(focus(first|(constructor<;>first|rfl|omega)|(apply Ri.add3<;>first|rfl|omega)|(apply Ri.sub3<;>first|rfl|omega)|(apply Ri.conv3<;>first|rfl|omega)|(apply Ri.eqb<;>rfl)|(apply Ri.neb<;>rfl)|(apply Ri.pT;(focus rfl);(focus(first|rfl|assumption|(simp;done)|(simp;omega)));(focus rfl))|(apply Ri.pF;(focus rfl);(focus(first|rfl|assumption|(simp;done)|(simp;omega)));(focus rfl))));(focus rfl)))
          refine k_yes rfl (by omega) ?_
          repeat(first|refine o_nil ?_|(refine o_pass (wants_no rfl rfl rfl ?_) rfl ?_;(focus(first|rfl|assumption|(simp;done)|(simp;omega))))|refine o_pass (wants_not rfl rfl rfl) rfl ?_|(refine o_yes (wants_yes rfl rfl rfl ?_) ?_;(focus(first|rfl|assumption|(simp;done)|(simp;omega))))|refine k_region ?_|(apply k_go;(focus(constructor<;>rfl)))|refine d_nil ?_|(apply o_s;(focus(first|(constructor<;>first|rfl|omega)|(apply Ri.add3<;>first|rfl|omega)|(apply Ri.sub3<;>first|rfl|omega)|(apply Ri.conv3<;>first|rfl|omega)|(apply Ri.eqb<;>rfl)|(apply Ri.neb<;>rfl)|(apply Ri.pT;(focus rfl);(focus(first|rfl|assumption|(simp;done)|(simp;omega)));(focus rfl))|(apply Ri.pF;(focus rfl);(focus(first|rfl|assumption|(simp;done)|(simp;omega)));(focus rfl))));(focus rfl)))
          exact k_ret1 rfl rfl (hE he _ hk3)
      · rcases hA with hA | hA | hA
        all_goals
          repeat(first|refine o_nil ?_|(refine o_pass (wants_no rfl rfl rfl ?_) rfl ?_;(focus(first|rfl|assumption|(simp;done)|(simp;omega))))|refine o_pass (wants_not rfl rfl rfl) rfl ?_|(refine o_yes (wants_yes rfl rfl rfl ?_) ?_;(focus(first|rfl|assumption|(simp;done)|(simp;omega))))|refine k_region ?_|(apply k_go;(focus(constructor<;>rfl)))|refine d_nil ?_|(apply o_s;(focus(first|(constructor<;>first|rfl|omega)|(apply Ri.add3<;>first|rfl|omega)|(apply Ri.sub3<;>first|rfl|omega)|(apply Ri.conv3<;>first|rfl|omega)|(apply Ri.eqb<;>rfl)|(apply Ri.neb<;>rfl)|(apply Ri.pT;(focus rfl);(focus(first|rfl|assumption|(simp;done)|(simp;omega)));(focus rfl))|(apply Ri.pF;(focus rfl);(focus(first|rfl|assumption|(simp;done)|(simp;omega)));(focus rfl))));(focus rfl)))
          refine o_still (r_load rfl c0) (wants_none rfl) rfl ?_
          refine o_still (r_conv rfl) (wants_yes rfl rfl rfl (by first | rfl | assumption | (simp; done) | (simp; omega))) rfl ?_
          repeat(first|refine o_nil ?_|(refine o_pass (wants_no rfl rfl rfl ?_) rfl ?_;(focus(first|rfl|assumption|(simp;done)|(simp;omega))))|refine o_pass (wants_not rfl rfl rfl) rfl ?_|(refine o_yes (wants_yes rfl rfl rfl ?_) ?_;(focus(first|rfl|assumption|(simp;done)|(simp;omega))))|refine k_region ?_|(apply k_go;(focus(constructor<;>rfl)))|refine d_nil ?_|(apply o_s;(focus(first|(constructor<;>first|rfl|omega)|(apply Ri.add3<;>first|rfl|omega)|(apply Ri.sub3<;>first|rfl|omega)|(apply Ri.conv3<;>first|rfl|omega)|(apply Ri.eqb<;>rfl)|(apply Ri.neb<;>rfl)|(apply Ri.pT;(focus rfl);(focus(first|rfl|assumption|(simp;done)|(simp;omega)));(focus rfl))|(apply Ri.pF;(focus rfl);(focus(first|rfl|assumption|(simp;done)|(simp;omega)));(focus rfl))));(focus rfl)))
          refine o_still (r_load rfl c1) (wants_none rfl) rfl ?_
          refine o_enter (n_call rfl) (wants_yes rfl rfl rfl (by first | rfl | assumption | (simp; done) | (simp; omega))) rfl ((size_calls hv2 hs).mono ?_)
          rintro _ w3 ⟨hk3, rfl⟩
          repeat(first|refine o_nil ?_|(refine o_pass (wants_no rfl rfl rfl ?_) rfl ?_;(focus(first|rfl|assumption|(simp;done)|(simp;omega))))|refine o_pass (wants_not rfl rfl rfl) rfl ?_|(refine o_yes (wants_yes rfl rfl rfl ?_) ?_;(focus(first|rfl|assumption|(simp;done)|(simp;omega))))|refine k_region ?_|(apply k_go;(focus(constructor<;>rfl)))|refine d_nil ?_|(apply o_s;(focus(first|(constructor<;>first|rfl|omega)|(apply Ri.add3<;>first|rfl|omega)|(apply Ri.sub3<;>first|rfl|omega)|(apply Ri.conv3<;>first|rfl|omega)|(apply Ri.eqb<;>rfl)|(apply Ri.neb<;>rfl)|(apply Ri.pT;(focus rfl);(focus(first|rfl|assumption|(simp;done)|(simp;omega)));(focus rfl))|(apply Ri.pF;(focus rfl);(focus(first|rfl|assumption|(simp;done)|(simp;omega)));(focus rfl))));(focus rfl)))
          refine k_no rfl (by omega) ?_
          refine k_skip ?_
          refine J _ _ hk3 ?_ (by omega)
          repeat (first | exact SubB.nil | refine SubB.cons rfl ?_)
end
end Go.Ink
