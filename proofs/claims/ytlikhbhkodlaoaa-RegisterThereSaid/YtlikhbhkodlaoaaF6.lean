/-
  (*Set).Put: its end.
-/
import Derived.Test.YtlikhbhkodlaoaaF5
set_option linter.unusedVariables false
set_option linter.unusedSimpArgs false
namespace Go.Ink
open Go Go.Proofs

/-- What is held is of a line or more, and no more than may be. -/
def SetOK (m : List Slot) : Prop := ∀ i, i < 38 → ((slotAt m i).1 = true → (slotAt m i).2.2 ≠ []) ∧ sizeM (slotAt m i).2.2 ≤ 65536
/-- Within Put: registers m, and r in the box gb, apart from them. -/
structure PutS (D : Nat → Prop) (g gb : Nat) (w w' : World) (m : List Slot) (r : Reg) (A : Option Addr) (c : Nat) : Prop where
  set : IsSet (fun k => D k ∧ k ≠ gb) g w' m
  kp : Kp (fun k => k = g) w w'
  hb : w'.heap[gb]? = some (.cells #[.int .i64 r.1, .slice A r.2.length c] 29 (0, 0))
  sl : Sl kRow (fun k => D k ∧ k ≠ gb ∧ k ≠ g) w' (.slice A r.2.length c) r.2
  ge : w.heap.size ≤ gb
  lt : g < w.heap.size
  hB : ∀ k, w.heap.size ≤ k → D k
  lo : -9223372036854775808 ≤ r.1
  hi : r.1 ≤ 9223372036854775807
section
variable {D : Nat → Prop} {g gb : Nat} {w w' : World} {m : List Slot} {name : Int} {r : Reg} {A : Option Addr} {c : Nat} {del : Bool}
theorem put_end {i : Nat} (hi : i < 38) (s : PutS D g gb w w' m r A c) : ∀ σ', SubB σ' [(0, .pointer (some ⟨g, 0, none⟩)), (6, .pointer (some ⟨gb, 0, none⟩)), (9, .int .i64 i)] →
    WK Try.prog Try.f10 [.code (bodyC Try.f10 [1, 1, 1, 1, 1, 1, 1, 1])] σ' w' fun u w2 => Kp (fun k => k = g) w w2 ∧ IsSet (fun k => D k ∧ k ≠ gb) g w2 ((m.set i (true, r)).set 0 (true, r)) ∧ u = .int .i64 0 := by
  intro σ' hs
  obtain ⟨hset, hkp, hb, hsl, hge, hlt, hB, hlo, hhi⟩ := s
  refine WK.sub (Sub.mk hs) ?_
  clear hs σ'
  have c0 : w'.cell? ⟨gb, 0, none⟩ = some (.int .i64 r.1) := blk_cell hb
  have c1 : w'.cell? ⟨gb, 1, none⟩ = some (.slice A r.2.length c) := blk_cell hb
  repeat(first|refine o_nil ?_|(refine o_pass (wants_no rfl rfl rfl ?_) rfl ?_;(focus(first|rfl|assumption|(simp;done)|(simp;omega))))|refine o_pass (wants_not rfl rfl rfl) rfl ?_|(refine o_yes (wants_yes rfl rfl rfl ?_) ?_;(focus(first|rfl|assumption|(simp;done)|(simp;omega))))|refine k_region ?_|(apply k_go;(focus(constructor<;>rfl)))|refine d_nil ?_|(apply o_s;(focus(first|(constructor<;>first|rfl|omega)|(apply Ri.add3<;>first|rfl|omega)|(apply Ri.sub3<;>first|rfl|omega)|(apply Ri.conv3<;>first|rfl|omega)|(apply Ri.eqb<;>rfl)|(apply Ri.neb<;>rfl)|(apply Ri.pT;(focus rfl);(focus(first|rfl|assumption|(simp;done)|(simp;omega)));(focus rfl))|(apply Ri.pF;(focus rfl);(focus(first|rfl|assumption|(simp;done)|(simp;omega)));(focus rfl))));(focus rfl)))
  refine k_draw [(0, 0), (1, 0), (2, 0), (3, 0), (4, 0), (5, 0), (6, 0), (7, 1)] (by kernel_rfl) (by kernel_rfl) rfl (by kernel_rfl) ?_
  repeat(first|refine d_nil ?_|(refine d_open rfl ?_;first|((first|refine x_pass (wants_no rfl rfl rfl ?_) rfl ?_ ?_|refine x_passNow (wants_no rfl rfl rfl ?_) rfl ?_ ?_);(focus(first|rfl|assumption|(simp;done)|(simp;omega)));(focus(first|exact St.refl _|assumption)))|((first|refine x_pass (wants_not rfl rfl rfl) rfl ?_ ?_|refine x_passNow (wants_not rfl rfl rfl) rfl ?_ ?_);(focus(first|exact St.refl _|assumption)))|((first|apply x_s|apply x_n);(focus(first|(constructor<;>first|rfl|omega)|(apply Ri.add3<;>first|rfl|omega)|(apply Ri.sub3<;>first|rfl|omega)|(apply Ri.conv3<;>first|rfl|omega)|(apply Ri.eqb<;>rfl)|(apply Ri.neb<;>rfl)|(apply Ri.pT;(focus rfl);(focus(first|rfl|assumption|(simp;done)|(simp;omega)));(focus rfl))|(apply Ri.pF;(focus rfl);(focus(first|rfl|assumption|(simp;done)|(simp;omega)));(focus rfl))));(focus(first|exact wants_none rfl|exact wants_yes rfl rfl rfl (by first|rfl|assumption|(simp;done)|(simp;omega))));(focus rfl);(focus(first|exact St.refl _|assumption)))))
  refine d_open rfl ?_; refine x_still (r_loadA (cs := [.int .i64 r.1, .slice A r.2.length c]) rfl rfl (by
    intro j u hu
    match j, hu with
    | 0, hu => cases hu; exact c0
    | 1, hu => cases hu; exact c1)) (wants_none rfl) rfl (by first | exact St.refl _ | assumption) ?_
  refine d_open rfl ?_; refine x_still (r_build (c := #[.bool true, .int .i64 r.1, .slice A r.2.length c]) rfl rfl) (wants_none rfl) rfl (by first | exact St.refl _ | assumption) ?_
  repeat(first|refine d_nil ?_|(refine d_open rfl ?_;first|((first|refine x_pass (wants_no rfl rfl rfl ?_) rfl ?_ ?_|refine x_passNow (wants_no rfl rfl rfl ?_) rfl ?_ ?_);(focus(first|rfl|assumption|(simp;done)|(simp;omega)));(focus(first|exact St.refl _|assumption)))|((first|refine x_pass (wants_not rfl rfl rfl) rfl ?_ ?_|refine x_passNow (wants_not rfl rfl rfl) rfl ?_ ?_);(focus(first|exact St.refl _|assumption)))|((first|apply x_s|apply x_n);(focus(first|(constructor<;>first|rfl|omega)|(apply Ri.add3<;>first|rfl|omega)|(apply Ri.sub3<;>first|rfl|omega)|(apply Ri.conv3<;>first|rfl|omega)|(apply Ri.eqb<;>rfl)|(apply Ri.neb<;>rfl)|(apply Ri.pT;(focus rfl);(focus(first|rfl|assumption|(simp;done)|(simp;omega)));(focus rfl))|(apply Ri.pF;(focus rfl);(focus(first|rfl|assumption|(simp;done)|(simp;omega)));(focus rfl))));(focus(first|exact wants_none rfl|exact wants_yes rfl rfl rfl (by first|rfl|assumption|(simp;done)|(simp;omega))));(focus rfl);(focus(first|exact St.refl _|assumption)))))
  refine d_open rfl ?_; refine x_still (r_indexA rfl rfl (by omega) (by omega)) (wants_none rfl) rfl (by first | exact St.refl _ | assumption) ?_
  obtain ⟨hl3, hge3, cells, hE, hb3⟩ := hset
  have hcl := hE.len
  rw [hl3] at hcl
  refine d_open rfl ?_; refine x_unit (u_storeA (i := i * 3) rfl rfl rfl (by simp [Value.oneCell']) (by simp only [add_plain, Nat.zero_add, Nat.add_zero]; congr 2) hb3 (by rw [List.size_toArray, hcl]; show i * 3 + 3 ≤ 38 * 3; omega)) (wants_none rfl) rfl ?_
  rintro w4 hw4
  refine .inr ⟨(by kernel_rfl), ?_⟩
  have hS4 := IsSet.put (cells := cells) ⟨hl3, hge3, cells, hE, hb3⟩ hi hE hw4 (hsl.mono (F' := fun k => (D k ∧ k ≠ gb) ∧ k ≠ g) fun k hk _ => ⟨⟨hk.1, hk.2.1⟩, hk.2.2⟩) hlo hhi
  have hb4 := hw4.kp.blk hb (by omega)
  have hsl4 := Kp.sl hw4.kp hsl (fun k hk => hk.2.2)
  have hkp4 : Kp (fun k => k = g) w w4 := hkp.trans hw4.kp
  have s4 := hkp4.size
  have d0 : w4.cell? ⟨gb, 0, none⟩ = some (.int .i64 r.1) := blk_cell hb4
  have d1 : w4.cell? ⟨gb, 1, none⟩ = some (.slice A r.2.length c) := blk_cell hb4
  repeat(first|refine d_nil ?_|(refine d_open rfl ?_;first|((first|refine x_pass (wants_no rfl rfl rfl ?_) rfl ?_ ?_|refine x_passNow (wants_no rfl rfl rfl ?_) rfl ?_ ?_);(focus(first|rfl|assumption|(simp;done)|(simp;omega)));(focus(first|exact St.refl _|assumption)))|((first|refine x_pass (wants_not rfl rfl rfl) rfl ?_ ?_|refine x_passNow (wants_not rfl rfl rfl) rfl ?_ ?_);(focus(first|exact St.refl _|assumption)))|((first|apply x_s|apply x_n);(focus(first|(constructor<;>first|rfl|omega)|(apply Ri.add3<;>first|rfl|omega)|(apply Ri.sub3<;>first|rfl|omega)|(apply Ri.conv3<;>first|rfl|omega)|(apply Ri.eqb<;>rfl)|(apply Ri.neb<;>rfl)|(apply Ri.pT;(focus rfl);(focus(first|rfl|assumption|(simp;done)|(simp;omega)));(focus rfl))|(apply Ri.pF;(focus rfl);(focus(first|rfl|assumption|(simp;done)|(simp;omega)));(focus rfl))));(focus(first|exact wants_none rfl|exact wants_yes rfl rfl rfl (by first|rfl|assumption|(simp;done)|(simp;omega))));(focus rfl);(focus(first|exact St.refl _|assumption)))))
  repeat(first|refine o_nil ?_|(refine o_pass (wants_no rfl rfl rfl ?_) rfl ?_;(focus(first|rfl|assumption|(simp;done)|(simp;omega))))|refine o_pass (wants_not rfl rfl rfl) rfl ?_|(refine o_yes (wants_yes rfl rfl rfl ?_) ?_;(focus(first|rfl|assumption|(simp;done)|(simp;omega))))|refine k_region ?_|(apply k_go;(focus(constructor<;>rfl)))|refine d_nil ?_|(apply o_s;(focus(first|(constructor<;>first|rfl|omega)|(apply Ri.add3<;>first|rfl|omega)|(apply Ri.sub3<;>first|rfl|omega)|(apply Ri.conv3<;>first|rfl|omega)|(apply Ri.eqb<;>rfl)|(apply Ri.neb<;>rfl)|(apply Ri.pT;(focus rfl);(focus(first|rfl|assumption|(simp;done)|(simp;omega)));(focus rfl))|(apply Ri.pF;(focus rfl);(focus(first|rfl|assumption|(simp;done)|(simp;omega)));(focus rfl))));(focus rfl)))
  refine k_draw [(0, 0), (1, 0), (4, 0), (5, 0), (2, 1), (3, 0), (6, 0), (7, 1)] (by kernel_rfl) (by kernel_rfl) rfl (by kernel_rfl) ?_
  repeat(first|refine d_nil ?_|(refine d_open rfl ?_;first|((first|refine x_pass (wants_no rfl rfl rfl ?_) rfl ?_ ?_|refine x_passNow (wants_no rfl rfl rfl ?_) rfl ?_ ?_);(focus(first|rfl|assumption|(simp;done)|(simp;omega)));(focus(first|exact St.refl _|assumption)))|((first|refine x_pass (wants_not rfl rfl rfl) rfl ?_ ?_|refine x_passNow (wants_not rfl rfl rfl) rfl ?_ ?_);(focus(first|exact St.refl _|assumption)))|((first|apply x_s|apply x_n);(focus(first|(constructor<;>first|rfl|omega)|(apply Ri.add3<;>first|rfl|omega)|(apply Ri.sub3<;>first|rfl|omega)|(apply Ri.conv3<;>first|rfl|omega)|(apply Ri.eqb<;>rfl)|(apply Ri.neb<;>rfl)|(apply Ri.pT;(focus rfl);(focus(first|rfl|assumption|(simp;done)|(simp;omega)));(focus rfl))|(apply Ri.pF;(focus rfl);(focus(first|rfl|assumption|(simp;done)|(simp;omega)));(focus rfl))));(focus(first|exact wants_none rfl|exact wants_yes rfl rfl rfl (by first|rfl|assumption|(simp;done)|(simp;omega))));(focus rfl);(focus(first|exact St.refl _|assumption)))))
  refine d_open rfl ?_; refine x_still (r_loadA (cs := [.int .i64 r.1, .slice A r.2.length c]) rfl rfl (by
    intro j u hu
    match j, hu with
    | 0, hu => cases hu; exact d0
    | 1, hu => cases hu; exact d1)) (wants_none rfl) rfl (by first | exact St.refl _ | assumption) ?_
  repeat(first|refine d_nil ?_|(refine d_open rfl ?_;first|((first|refine x_pass (wants_no rfl rfl rfl ?_) rfl ?_ ?_|refine x_passNow (wants_no rfl rfl rfl ?_) rfl ?_ ?_);(focus(first|rfl|assumption|(simp;done)|(simp;omega)));(focus(first|exact St.refl _|assumption)))|((first|refine x_pass (wants_not rfl rfl rfl) rfl ?_ ?_|refine x_passNow (wants_not rfl rfl rfl) rfl ?_ ?_);(focus(first|exact St.refl _|assumption)))|((first|apply x_s|apply x_n);(focus(first|(constructor<;>first|rfl|omega)|(apply Ri.add3<;>first|rfl|omega)|(apply Ri.sub3<;>first|rfl|omega)|(apply Ri.conv3<;>first|rfl|omega)|(apply Ri.eqb<;>rfl)|(apply Ri.neb<;>rfl)|(apply Ri.pT;(focus rfl);(focus(first|rfl|assumption|(simp;done)|(simp;omega)));(focus rfl))|(apply Ri.pF;(focus rfl);(focus(first|rfl|assumption|(simp;done)|(simp;omega)));(focus rfl))));(focus(first|exact wants_none rfl|exact wants_yes rfl rfl rfl (by first|rfl|assumption|(simp;done)|(simp;omega))));(focus rfl);(focus(first|exact St.refl _|assumption)))))
  refine d_open rfl ?_; refine x_enter (n_call rfl) (wants_none rfl) rfl ((twin_calls hsl4).mono ?_)
  rintro _ w5 ⟨v5, rfl, hk5, ho5⟩
  refine .inl ⟨hk5.st, ?_⟩
  obtain ⟨A5, c5, rfl, _⟩ := ho5.form
  have hst5 := hk5.st
  refine d_open rfl ?_; refine x_still (r_build (c := #[.bool true, .int .i64 r.1, .slice A5 r.2.length c5]) rfl rfl) (wants_none rfl) rfl (by first | exact St.refl _ | assumption) ?_
  repeat(first|refine d_nil ?_|(refine d_open rfl ?_;first|((first|refine x_pass (wants_no rfl rfl rfl ?_) rfl ?_ ?_|refine x_passNow (wants_no rfl rfl rfl ?_) rfl ?_ ?_);(focus(first|rfl|assumption|(simp;done)|(simp;omega)));(focus(first|exact St.refl _|assumption)))|((first|refine x_pass (wants_not rfl rfl rfl) rfl ?_ ?_|refine x_passNow (wants_not rfl rfl rfl) rfl ?_ ?_);(focus(first|exact St.refl _|assumption)))|((first|apply x_s|apply x_n);(focus(first|(constructor<;>first|rfl|omega)|(apply Ri.add3<;>first|rfl|omega)|(apply Ri.sub3<;>first|rfl|omega)|(apply Ri.conv3<;>first|rfl|omega)|(apply Ri.eqb<;>rfl)|(apply Ri.neb<;>rfl)|(apply Ri.pT;(focus rfl);(focus(first|rfl|assumption|(simp;done)|(simp;omega)));(focus rfl))|(apply Ri.pF;(focus rfl);(focus(first|rfl|assumption|(simp;done)|(simp;omega)));(focus rfl))));(focus(first|exact wants_none rfl|exact wants_yes rfl rfl rfl (by first|rfl|assumption|(simp;done)|(simp;omega))));(focus rfl);(focus(first|exact St.refl _|assumption)))))
  refine d_open rfl ?_; refine x_still (r_indexA rfl rfl (by omega) (by omega)) (wants_none rfl) rfl (by first | exact St.refl _ | assumption) ?_
  have hS5 := hS4.kn hk5
  obtain ⟨hl6, hge6, cells6, hE6, hb6⟩ := hS5
  have hcl6 := hE6.len
  rw [hl6] at hcl6
  refine d_open rfl ?_; refine x_unit (u_storeA (i := 0 * 3) rfl rfl rfl (by simp [Value.oneCell']) (by simp only [add_plain, Nat.zero_add, Nat.add_zero]; congr 2) hb6 (by rw [List.size_toArray, hcl6]; show 0 * 3 + 3 ≤ 38 * 3; omega)) (wants_none rfl) rfl ?_
  rintro w6 hw6
  refine .inr ⟨(by kernel_rfl), ?_⟩
  repeat(first|refine d_nil ?_|(refine d_open rfl ?_;first|((first|refine x_pass (wants_no rfl rfl rfl ?_) rfl ?_ ?_|refine x_passNow (wants_no rfl rfl rfl ?_) rfl ?_ ?_);(focus(first|rfl|assumption|(simp;done)|(simp;omega)));(focus(first|exact St.refl _|assumption)))|((first|refine x_pass (wants_not rfl rfl rfl) rfl ?_ ?_|refine x_passNow (wants_not rfl rfl rfl) rfl ?_ ?_);(focus(first|exact St.refl _|assumption)))|((first|apply x_s|apply x_n);(focus(first|(constructor<;>first|rfl|omega)|(apply Ri.add3<;>first|rfl|omega)|(apply Ri.sub3<;>first|rfl|omega)|(apply Ri.conv3<;>first|rfl|omega)|(apply Ri.eqb<;>rfl)|(apply Ri.neb<;>rfl)|(apply Ri.pT;(focus rfl);(focus(first|rfl|assumption|(simp;done)|(simp;omega)));(focus rfl))|(apply Ri.pF;(focus rfl);(focus(first|rfl|assumption|(simp;done)|(simp;omega)));(focus rfl))));(focus(first|exact wants_none rfl|exact wants_yes rfl rfl rfl (by first|rfl|assumption|(simp;done)|(simp;omega))));(focus rfl);(focus(first|exact St.refl _|assumption)))))
  repeat(first|refine o_nil ?_|(refine o_pass (wants_no rfl rfl rfl ?_) rfl ?_;(focus(first|rfl|assumption|(simp;done)|(simp;omega))))|refine o_pass (wants_not rfl rfl rfl) rfl ?_|(refine o_yes (wants_yes rfl rfl rfl ?_) ?_;(focus(first|rfl|assumption|(simp;done)|(simp;omega))))|refine k_region ?_|(apply k_go;(focus(constructor<;>rfl)))|refine d_nil ?_|(apply o_s;(focus(first|(constructor<;>first|rfl|omega)|(apply Ri.add3<;>first|rfl|omega)|(apply Ri.sub3<;>first|rfl|omega)|(apply Ri.conv3<;>first|rfl|omega)|(apply Ri.eqb<;>rfl)|(apply Ri.neb<;>rfl)|(apply Ri.pT;(focus rfl);(focus(first|rfl|assumption|(simp;done)|(simp;omega)));(focus rfl))|(apply Ri.pF;(focus rfl);(focus(first|rfl|assumption|(simp;done)|(simp;omega)));(focus rfl))));(focus rfl)))
  refine k_ret1 rfl rfl ⟨?_, ?_, rfl⟩
  · exact hkp4.trans (Kp.then hk5.kp hw6.kp (fun _ h => h) (fun _ _ h => h))
  · refine IsSet.put (cells := cells6) ⟨hl6, hge6, cells6, hE6, hb6⟩ (by decide) hE6 hw6 (ho5.slF ?_ ?_) hlo hhi
    all_goals
      intro k hk
      simp only [noB] at hk
      have := blk_lt hb4
      exact ⟨⟨hB k (by omega), by omega⟩, by omega⟩

theorem moreM_kind (x : Slot) (r : Reg) : (moreM x r).1 = r.1 ∨ (moreM x r).1 = 0 ∨ (moreM x r).1 = 1 := by
  unfold moreM; repeat' split
  all_goals simp
theorem sizeM_append (a b : List (List Int)) : sizeM (a ++ b) = sizeM a + sizeM b := by
  unfold sizeM; rw [List.length_append, List.map_append, List.sum_append]; omega
theorem sizeM_more (x : Slot) (r : Reg) : sizeM (moreM x r).2 ≤ sizeM x.2.2 + sizeM r.2 + 1 := by
  unfold moreM
  split
  · omega
  · split
    · rw [sizeM_append]; omega
    · rcases List.eq_nil_or_concat x.2.2 with h | ⟨l, a, h⟩
      · rw [h]
        cases h2 : r.2 with
        | nil => simp [sizeM]
        | cons b t => simp [sizeM] <;> omega
      · rw [h]
        cases h2 : r.2 with
        | nil => simp [sizeM]
        | cons b t => simp [sizeM] <;> omega
theorem more_ne {x : Slot} {r : Reg} (hr : r.2 ≠ []) : (moreM x r).2 ≠ [] := by
  unfold moreM
  split
  · exact hr
  · split <;> simp [hr]
set_option maxHeartbeats 1000000 in
theorem put_more {i : Nat} (hi : i < 38) (hok : SetOK m) (hr : r.2 ≠ []) (hz : sizeM r.2 ≤ 4294967296) (hn : -2147483648 ≤ name ∧ name ≤ 2147483647) (s : PutS D g gb w w' m r A c) :
    ∀ σ', SubB σ' [(0, .pointer (some ⟨g, 0, none⟩)), (1, .int .i32 name), (6, .pointer (some ⟨gb, 0, none⟩)), (9, .int .i64 i)] →
    WK Try.prog Try.f10 [.code (bodyC Try.f10 [1, 1, 1, 1, 1, 1, 1])] σ' w' fun u w2 => Kp (fun k => k = g) w w2 ∧ IsSet (fun k => D k ∧ k ≠ gb) g w2 (finM m i name r).1 ∧ u = .int .i64 (finM m i name r).2 := by
  intro σ' hs
  refine WK.sub (Sub.mk hs) ?_
  clear hs σ'
  repeat(first|refine o_nil ?_|(refine o_pass (wants_no rfl rfl rfl ?_) rfl ?_;(focus(first|rfl|assumption|(simp;done)|(simp;omega))))|refine o_pass (wants_not rfl rfl rfl) rfl ?_|(refine o_yes (wants_yes rfl rfl rfl ?_) ?_;(focus(first|rfl|assumption|(simp;done)|(simp;omega))))|refine k_region ?_|(apply k_go;(focus(constructor<;>rfl)))|refine d_nil ?_|(apply o_s;(focus(first|(constructor<;>first|rfl|omega)|(apply Ri.add3<;>first|rfl|omega)|(apply Ri.sub3<;>first|rfl|omega)|(apply Ri.conv3<;>first|rfl|omega)|(apply Ri.eqb<;>rfl)|(apply Ri.neb<;>rfl)|(apply Ri.pT;(focus rfl);(focus(first|rfl|assumption|(simp;done)|(simp;omega)));(focus rfl))|(apply Ri.pF;(focus rfl);(focus(first|rfl|assumption|(simp;done)|(simp;omega)));(focus rfl))));(focus rfl)))
  have cs : name < 65 ∨ 90 < name ∨ (65 ≤ name ∧ name ≤ 90) := by omega
  have hnc : (name < 65 ∨ 90 < name) → finM m i name r = ((m.set i (true, r)).set 0 (true, r), 0) := by
    intro h
    have : ¬ (65 ≤ name ∧ name ≤ 90) := by omega
    simp [finM, this]
  rcases cs with hc | hc | hc
  · rw [hnc (.inl hc)]
    repeat(first|refine o_nil ?_|(refine o_pass (wants_no rfl rfl rfl ?_) rfl ?_;(focus(first|rfl|assumption|(simp;done)|(simp;omega))))|refine o_pass (wants_not rfl rfl rfl) rfl ?_|(refine o_yes (wants_yes rfl rfl rfl ?_) ?_;(focus(first|rfl|assumption|(simp;done)|(simp;omega))))|refine k_region ?_|(apply k_go;(focus(constructor<;>rfl)))|refine d_nil ?_|(apply o_s;(focus(first|(constructor<;>first|rfl|omega)|(apply Ri.add3<;>first|rfl|omega)|(apply Ri.sub3<;>first|rfl|omega)|(apply Ri.conv3<;>first|rfl|omega)|(apply Ri.eqb<;>rfl)|(apply Ri.neb<;>rfl)|(apply Ri.pT;(focus rfl);(focus(first|rfl|assumption|(simp;done)|(simp;omega)));(focus rfl))|(apply Ri.pF;(focus rfl);(focus(first|rfl|assumption|(simp;done)|(simp;omega)));(focus rfl))));(focus rfl)))
    refine k_false rfl ?_
    refine k_skip ?_
    refine put_end hi s _ ?_
    repeat (first | exact SubB.nil | refine SubB.cons rfl ?_)
  · rw [hnc (.inr hc)]
    repeat(first|refine o_nil ?_|(refine o_pass (wants_no rfl rfl rfl ?_) rfl ?_;(focus(first|rfl|assumption|(simp;done)|(simp;omega))))|refine o_pass (wants_not rfl rfl rfl) rfl ?_|(refine o_yes (wants_yes rfl rfl rfl ?_) ?_;(focus(first|rfl|assumption|(simp;done)|(simp;omega))))|refine k_region ?_|(apply k_go;(focus(constructor<;>rfl)))|refine d_nil ?_|(apply o_s;(focus(first|(constructor<;>first|rfl|omega)|(apply Ri.add3<;>first|rfl|omega)|(apply Ri.sub3<;>first|rfl|omega)|(apply Ri.conv3<;>first|rfl|omega)|(apply Ri.eqb<;>rfl)|(apply Ri.neb<;>rfl)|(apply Ri.pT;(focus rfl);(focus(first|rfl|assumption|(simp;done)|(simp;omega)));(focus rfl))|(apply Ri.pF;(focus rfl);(focus(first|rfl|assumption|(simp;done)|(simp;omega)));(focus rfl))));(focus rfl)))
    refine k_no rfl (by omega) ?_
    refine k_skip ?_
    refine put_end hi s _ ?_
    repeat (first | exact SubB.nil | refine SubB.cons rfl ?_)
  · repeat(first|refine o_nil ?_|(refine o_pass (wants_no rfl rfl rfl ?_) rfl ?_;(focus(first|rfl|assumption|(simp;done)|(simp;omega))))|refine o_pass (wants_not rfl rfl rfl) rfl ?_|(refine o_yes (wants_yes rfl rfl rfl ?_) ?_;(focus(first|rfl|assumption|(simp;done)|(simp;omega))))|refine k_region ?_|(apply k_go;(focus(constructor<;>rfl)))|refine d_nil ?_|(apply o_s;(focus(first|(constructor<;>first|rfl|omega)|(apply Ri.add3<;>first|rfl|omega)|(apply Ri.sub3<;>first|rfl|omega)|(apply Ri.conv3<;>first|rfl|omega)|(apply Ri.eqb<;>rfl)|(apply Ri.neb<;>rfl)|(apply Ri.pT;(focus rfl);(focus(first|rfl|assumption|(simp;done)|(simp;omega)));(focus rfl))|(apply Ri.pF;(focus rfl);(focus(first|rfl|assumption|(simp;done)|(simp;omega)));(focus rfl))));(focus rfl)))
    refine k_yes rfl (by omega) ?_
    refine k_seq ?_
    obtain ⟨hset, hkp, hb, hsl, hge, hlt, hB, hlo, hhi⟩ := s
    have c0 : w'.cell? ⟨gb, 0, none⟩ = some (.int .i64 r.1) := blk_cell hb
    have c1 : w'.cell? ⟨gb, 1, none⟩ = some (.slice A r.2.length c) := blk_cell hb
    obtain ⟨vs, hvs, hslo, hshi, s0, s1, s2⟩ := hset.slot hi
    refine k_draw [(0, 0), (1, 0), (2, 0), (3, 0), (4, 0), (5, 0), (6, 0), (7, 1), (8, 1)] (by kernel_rfl) (by kernel_rfl) rfl (by kernel_rfl) ?_
    repeat(first|refine d_nil ?_|(refine d_open rfl ?_;first|((first|refine x_pass (wants_no rfl rfl rfl ?_) rfl ?_ ?_|refine x_passNow (wants_no rfl rfl rfl ?_) rfl ?_ ?_);(focus(first|rfl|assumption|(simp;done)|(simp;omega)));(focus(first|exact St.refl _|assumption)))|((first|refine x_pass (wants_not rfl rfl rfl) rfl ?_ ?_|refine x_passNow (wants_not rfl rfl rfl) rfl ?_ ?_);(focus(first|exact St.refl _|assumption)))|((first|apply x_s|apply x_n);(focus(first|(constructor<;>first|rfl|omega)|(apply Ri.add3<;>first|rfl|omega)|(apply Ri.sub3<;>first|rfl|omega)|(apply Ri.conv3<;>first|rfl|omega)|(apply Ri.eqb<;>rfl)|(apply Ri.neb<;>rfl)|(apply Ri.pT;(focus rfl);(focus(first|rfl|assumption|(simp;done)|(simp;omega)));(focus rfl))|(apply Ri.pF;(focus rfl);(focus(first|rfl|assumption|(simp;done)|(simp;omega)));(focus rfl))));(focus(first|exact wants_none rfl|exact wants_yes rfl rfl rfl (by first|rfl|assumption|(simp;done)|(simp;omega))));(focus rfl);(focus(first|exact St.refl _|assumption)))))
    refine d_open rfl ?_; refine x_still (r_indexA rfl rfl (by omega) (by omega)) (wants_none rfl) rfl (by first | exact St.refl _ | assumption) ?_
    refine d_open rfl ?_; refine x_still (r_loadA (cs := [.bool (slotAt m i).1, .int .i64 (slotAt m i).2.1, vs]) rfl rfl (by
      intro j u hu
      rw [Int.toNat_natCast]
      simp only [add_plain, Nat.zero_add, Nat.add_zero]
      match j, hu with
      | 0, hu => cases hu; exact s0
      | 1, hu => cases hu; exact s1
      | 2, hu => cases hu; exact s2)) (wants_none rfl) rfl (by first | exact St.refl _ | assumption) ?_
    refine d_open rfl ?_; refine x_still (r_loadA (cs := [.int .i64 r.1, .slice A r.2.length c]) rfl rfl (by
      intro j u hu
      match j, hu with
      | 0, hu => cases hu; exact c0
      | 1, hu => cases hu; exact c1)) (wants_none rfl) rfl (by first | exact St.refl _ | assumption) ?_
    have hzs : sizeM (slotAt m i).2.2 ≤ 4294967296 := Nat.le_trans (hok i hi).2 (by decide)
    refine d_open rfl ?_; refine x_enter (n_call rfl) (wants_none rfl) rfl ((more_calls (x := slotAt m i) (r := r) (F := fun k => D k ∧ k ≠ gb ∧ k ≠ g) (hvs.mono fun k hk _ => ⟨hk.1.1, hk.1.2, hk.2⟩) hsl (fun h1 _ _ => ⟨(hok i hi).1 h1, hr⟩) hzs hz).mono ?_)
    rintro _ w3 ⟨hk3, v3, rfl, ho3⟩
    refine .inl ⟨hk3.st, ?_⟩
    obtain ⟨A3, c3, rfl, _⟩ := ho3.form
    have hb3 := hk3.blk hb id
    refine d_open rfl ?_; refine x_unit (u_storeA (i := 0) rfl rfl rfl (by simp [Value.oneCell']) (by simp only [add_plain, Nat.zero_add, Nat.add_zero]) hb3 (Nat.le_refl 2)) (wants_none rfl) rfl ?_
    rintro w4 hw4
    refine .inr ⟨(by kernel_rfl), ?_⟩
    have hb4 := hw4.at_
    have hS4 : IsSet (fun k => D k ∧ k ≠ gb) g w4 m := (hset.kn hk3).kp hw4.kp fun k hk => hk.2
    have s3 := hk3.size
    have s4 := hw4.kp.size
    have hgl := blk_lt hb
    have s0' := hkp.size
    have hkp4 : Kp (fun k => k = g) w w4 := (hkp.trans (Kn.kp hk3)).then hw4.kp (fun _ h => h) (fun k hk he => by omega)
    have hsl4 : Sl kRow (fun k => D k ∧ k ≠ gb ∧ k ≠ g) w4 (.slice A3 (moreM (slotAt m i) r).2.length c3) (moreM (slotAt m i) r).2 := Kp.sl hw4.kp (ho3.mono fun k hk _ => by
      rcases hk with hk | hk
      · exact hk
      · simp only [noB] at hk
        exact ⟨hB k (by omega), by omega, by omega⟩) (fun k hk => hk.2.1)
    have hzm := sizeM_more (slotAt m i) r
    have hkd := moreM_kind (slotAt m i) r
    have hP : PutS D g gb w w4 m (moreM (slotAt m i) r) A3 c3 := ⟨hS4, hkp4, hb4, hsl4, hge, hlt, hB, by omega, by omega⟩
    have d1 : w4.cell? ⟨gb, 1, none⟩ = some (.slice A3 (moreM (slotAt m i) r).2.length c3) := blk_cell hb4
    repeat(first|refine d_nil ?_|(refine d_open rfl ?_;first|((first|refine x_pass (wants_no rfl rfl rfl ?_) rfl ?_ ?_|refine x_passNow (wants_no rfl rfl rfl ?_) rfl ?_ ?_);(focus(first|rfl|assumption|(simp;done)|(simp;omega)));(focus(first|exact St.refl _|assumption)))|((first|refine x_pass (wants_not rfl rfl rfl) rfl ?_ ?_|refine x_passNow (wants_not rfl rfl rfl) rfl ?_ ?_);(focus(first|exact St.refl _|assumption)))|((first|apply x_s|apply x_n);(focus(first|(constructor<;>first|rfl|omega)|(apply Ri.add3<;>first|rfl|omega)|(apply Ri.sub3<;>first|rfl|omega)|(apply Ri.conv3<;>first|rfl|omega)|(apply Ri.eqb<;>rfl)|(apply Ri.neb<;>rfl)|(apply Ri.pT;(focus rfl);(focus(first|rfl|assumption|(simp;done)|(simp;omega)));(focus rfl))|(apply Ri.pF;(focus rfl);(focus(first|rfl|assumption|(simp;done)|(simp;omega)));(focus rfl))));(focus(first|exact wants_none rfl|exact wants_yes rfl rfl rfl (by first|rfl|assumption|(simp;done)|(simp;omega))));(focus rfl);(focus(first|exact St.refl _|assumption)))))
    repeat(first|refine o_nil ?_|(refine o_pass (wants_no rfl rfl rfl ?_) rfl ?_;(focus(first|rfl|assumption|(simp;done)|(simp;omega))))|refine o_pass (wants_not rfl rfl rfl) rfl ?_|(refine o_yes (wants_yes rfl rfl rfl ?_) ?_;(focus(first|rfl|assumption|(simp;done)|(simp;omega))))|refine k_region ?_|(apply k_go;(focus(constructor<;>rfl)))|refine d_nil ?_|(apply o_s;(focus(first|(constructor<;>first|rfl|omega)|(apply Ri.add3<;>first|rfl|omega)|(apply Ri.sub3<;>first|rfl|omega)|(apply Ri.conv3<;>first|rfl|omega)|(apply Ri.eqb<;>rfl)|(apply Ri.neb<;>rfl)|(apply Ri.pT;(focus rfl);(focus(first|rfl|assumption|(simp;done)|(simp;omega)));(focus rfl))|(apply Ri.pF;(focus rfl);(focus(first|rfl|assumption|(simp;done)|(simp;omega)));(focus rfl))));(focus rfl)))
    refine o_still (r_load rfl d1) (wants_none rfl) rfl ?_
    refine o_enter (n_call rfl) (wants_none rfl) rfl ((size_calls hsl4 (by omega)).mono ?_)
    rintro _ w5 ⟨hk5, rfl⟩
    have hP5 : PutS D g gb w w5 m (moreM (slotAt m i) r) A3 c3 := ⟨hS4.kn hk5, hkp4.trans (Kn.kp hk5), hk5.blk hb4 id, hk5.sl hsl4, hge, hlt, hB, by omega, by omega⟩
    repeat(first|refine o_nil ?_|(refine o_pass (wants_no rfl rfl rfl ?_) rfl ?_;(focus(first|rfl|assumption|(simp;done)|(simp;omega))))|refine o_pass (wants_not rfl rfl rfl) rfl ?_|(refine o_yes (wants_yes rfl rfl rfl ?_) ?_;(focus(first|rfl|assumption|(simp;done)|(simp;omega))))|refine k_region ?_|(apply k_go;(focus(constructor<;>rfl)))|refine d_nil ?_|(apply o_s;(focus(first|(constructor<;>first|rfl|omega)|(apply Ri.add3<;>first|rfl|omega)|(apply Ri.sub3<;>first|rfl|omega)|(apply Ri.conv3<;>first|rfl|omega)|(apply Ri.eqb<;>rfl)|(apply Ri.neb<;>rfl)|(apply Ri.pT;(focus rfl);(focus(first|rfl|assumption|(simp;done)|(simp;omega)));(focus rfl))|(apply Ri.pF;(focus rfl);(focus(first|rfl|assumption|(simp;done)|(simp;omega)));(focus rfl))));(focus rfl)))
    by_cases hbig : 65536 < sizeM (moreM (slotAt m i) r).2
    · have hf : finM m i name r = (m, 3) := by simp [finM, hc, hbig]
      rw [hf]
      refine k_yes rfl (by omega) ?_
      repeat(first|refine o_nil ?_|(refine o_pass (wants_no rfl rfl rfl ?_) rfl ?_;(focus(first|rfl|assumption|(simp;done)|(simp;omega))))|refine o_pass (wants_not rfl rfl rfl) rfl ?_|(refine o_yes (wants_yes rfl rfl rfl ?_) ?_;(focus(first|rfl|assumption|(simp;done)|(simp;omega))))|refine k_region ?_|(apply k_go;(focus(constructor<;>rfl)))|refine d_nil ?_|(apply o_s;(focus(first|(constructor<;>first|rfl|omega)|(apply Ri.add3<;>first|rfl|omega)|(apply Ri.sub3<;>first|rfl|omega)|(apply Ri.conv3<;>first|rfl|omega)|(apply Ri.eqb<;>rfl)|(apply Ri.neb<;>rfl)|(apply Ri.pT;(focus rfl);(focus(first|rfl|assumption|(simp;done)|(simp;omega)));(focus rfl))|(apply Ri.pF;(focus rfl);(focus(first|rfl|assumption|(simp;done)|(simp;omega)));(focus rfl))));(focus rfl)))
      exact k_ret1 rfl rfl ⟨hP5.kp, hP5.set, rfl⟩
    · have hf : finM m i name r = ((m.set i (true, moreM (slotAt m i) r)).set 0 (true, moreM (slotAt m i) r), 0) := by simp [finM, hc, hbig]
      rw [hf]
      refine k_no rfl (by omega) ?_
      refine k_skip ?_
      refine put_end hi hP5 _ ?_
      repeat (first | exact SubB.nil | refine SubB.cons rfl ?_)
end
end Go.Ink
