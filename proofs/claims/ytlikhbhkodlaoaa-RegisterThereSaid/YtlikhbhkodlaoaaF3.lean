/-
  register: a Set in memory; New, shift.
-/
import Derived.Test.YtlikhbhkodlaoaaF2
set_option linter.unusedVariables false
namespace Go.Ink
open Go Go.Proofs

def kReg : Kd Reg := kPair kI64 kLines
def kSlot : Kd Slot := kIso (kPair kBool kReg) id 40 (by decide)
/-- Registers m at block g, in D; what they lead to lies in D, and not there. -/
def IsSet (D : Nat → Prop) (g : Nat) (w : World) (m : List Slot) : Prop :=
  m.length = 38 ∧ D g ∧ ∃ cells, Els kSlot (fun k => D k ∧ k ≠ g) w m cells ∧ w.heap[g]? = some (.cells cells.toArray 61 (0, 0))
section
variable {D D' : Nat → Prop} {g : Nat} {w w' : World} {m : List Slot}
theorem IsSet.kp {S : Nat → Prop} (h : IsSet D g w m) (hk : Kp S w w') (hs : ∀ k, D k → ¬ S k) : IsSet D g w' m := by
  obtain ⟨h1, h2, cells, h3, h4⟩ := h
  exact ⟨h1, h2, cells, h3.move fun k hk' hl => hk.block k hl (hs k hk'.1), hk.blk h4 (hs g h2)⟩
theorem IsSet.kn (h : IsSet D g w m) (hk : Kn w w') : IsSet D g w' m := h.kp hk fun _ _ h => h
theorem IsSet.lt (h : IsSet D g w m) : g < w.heap.size := blk_lt h.2.2.choose_spec.2
theorem IsSet.ge (h : IsSet D g w m) : D g := h.2.1
theorem IsSet.mono (h : IsSet D g w m) (hd : ∀ k, D k → k < w.heap.size → D' k) : IsSet D' g w m := by
  obtain ⟨h1, h2, cells, h3, h4⟩ := h
  exact ⟨h1, hd g h2 (blk_lt h4), cells, h3.mono fun k hk hl => ⟨hd k hk.1 hl, hk.2⟩, h4⟩
theorem slot_cells {F : Nat → Prop} {x : Slot} {cs : List Value} (h : kSlot.R F w x cs) : ∃ v, cs = [.bool x.1, .int .i64 x.2.1, v] ∧ Sl kRow F w v x.2.2 ∧ -9223372036854775808 ≤ x.2.1 ∧ x.2.1 ≤ 9223372036854775807 := by
  obtain ⟨c1, c2, rfl, h1, h2⟩ := h
  obtain ⟨v, rfl, h3, h4, h5⟩ := els_reg h2
  have : c1 = [.bool x.1] := h1
  subst this
  exact ⟨v, rfl, h3, h4, h5⟩
theorem slot_mk {F : Nat → Prop} {b : Bool} {n : Int} {v : Value} {ls : List (List Int)} (h : Sl kRow F w v ls) (h1 : -9223372036854775808 ≤ n) (h2 : n ≤ 9223372036854775807) : kSlot.R F w (b, (n, ls)) [.bool b, .int .i64 n, v] :=
  ⟨[.bool b], [.int .i64 n, v], rfl, rfl, [.int .i64 n], [v], rfl, ⟨rfl, h1, h2⟩, v, rfl, h⟩
/-- What stands in slot i. -/
theorem IsSet.slot (h : IsSet D g w m) {i : Nat} (hi : i < 38) : ∃ v, Sl kRow (fun k => D k ∧ k ≠ g) w v (slotAt m i).2.2 ∧ -9223372036854775808 ≤ (slotAt m i).2.1 ∧ (slotAt m i).2.1 ≤ 9223372036854775807 ∧
    w.cell? ⟨g, i * 3, none⟩ = some (.bool (slotAt m i).1) ∧ w.cell? ⟨g, i * 3 + 1, none⟩ = some (.int .i64 (slotAt m i).2.1) ∧ w.cell? ⟨g, i * 3 + 2, none⟩ = some v := by
  obtain ⟨h1, h2, cells, h3, h4⟩ := h
  have hx : m[i]? = some (slotAt m i) := by rw [slotAt, List.getD_eq_getElem?_getD, List.getElem?_eq_getElem (by omega)]; rfl
  obtain ⟨c, hc, hcell⟩ := h3.at_ i _ hx
  obtain ⟨v, rfl, hv, hlo, hhi⟩ := slot_cells hc
  have key : ∀ j u, [Value.bool (slotAt m i).1, .int .i64 (slotAt m i).2.1, v][j]? = some u → w.cell? ⟨g, i * 3 + j, none⟩ = some u := fun j u hu => by
    rw [blk_cell h4]
    have h5 : cells[i * 3 + j]? = some u := hcell j u hu
    simpa using h5
  exact ⟨v, hv, hlo, hhi, key 0 _ rfl, key 1 _ rfl, key 2 _ rfl⟩
/-- A slot is stored. -/
theorem IsSet.put (h : IsSet D g w m) {i : Nat} (hi : i < 38) {b : Bool} {n : Int} {v : Value} {ls : List (List Int)} {cells : List Value} (hE : Els kSlot (fun k => D k ∧ k ≠ g) w m cells)
    (hw : Wr w w' g (.cells (cells.take (i * 3) ++ [.bool b, .int .i64 n, v] ++ cells.drop (i * 3 + 3)).toArray 61 (0, 0)))
    (hv : Sl kRow (fun k => D k ∧ k ≠ g) w v ls) (h1 : -9223372036854775808 ≤ n) (h2 : n ≤ 9223372036854775807) : IsSet D g w' (m.set i (b, (n, ls))) := by
  refine ⟨by simpa using h.1, h.2.1, _, (hE.set (by rw [h.1]; exact hi) (slot_mk hv h1 h2)).move ?_, hw.at_⟩
  intro k hk hl
  exact hw.kp.block k hl hk.2
end
theorem new_calls {w : World} : CallsR Try.prog 9 #[] w fun r w' => ∃ g, r = .pointer (some ⟨g, 0, none⟩) ∧ Kn w w' ∧ w.heap.size ≤ g ∧ IsSet (fun k => w.heap.size ≤ k) g w' emptySet := by
  refine calls_enter (args := []) Try.func9 rfl rfl ?_
  repeat(first|refine o_nil ?_|(refine o_pass (wants_no rfl rfl rfl ?_) rfl ?_;(focus(first|rfl|assumption|(simp;done)|(simp;omega))))|refine o_pass (wants_not rfl rfl rfl) rfl ?_|(refine o_yes (wants_yes rfl rfl rfl ?_) ?_;(focus(first|rfl|assumption|(simp;done)|(simp;omega))))|refine k_region ?_|(apply k_go;(focus(constructor<;>rfl)))|refine d_nil ?_|(apply o_s;(focus(first|(constructor<;>first|rfl|omega)|(apply Ri.add3<;>first|rfl|omega)|(apply Ri.sub3<;>first|rfl|omega)|(apply Ri.eqb<;>rfl)|(apply Ri.neb<;>rfl)|(apply Ri.pT;(focus rfl);(focus(first|rfl|assumption|(simp;done)|(simp;omega)));(focus rfl))|(apply Ri.pF;(focus rfl);(focus(first|rfl|assumption|(simp;done)|(simp;omega)));(focus rfl))));(focus rfl)))
  refine o_any (e_box rfl) (wants_none rfl) rfl ?_
  rintro _ w1 ⟨g1, rfl, nb1⟩
  repeat(first|refine o_nil ?_|(refine o_pass (wants_no rfl rfl rfl ?_) rfl ?_;(focus(first|rfl|assumption|(simp;done)|(simp;omega))))|refine o_pass (wants_not rfl rfl rfl) rfl ?_|(refine o_yes (wants_yes rfl rfl rfl ?_) ?_;(focus(first|rfl|assumption|(simp;done)|(simp;omega))))|refine k_region ?_|(apply k_go;(focus(constructor<;>rfl)))|refine d_nil ?_|(apply o_s;(focus(first|(constructor<;>first|rfl|omega)|(apply Ri.add3<;>first|rfl|omega)|(apply Ri.sub3<;>first|rfl|omega)|(apply Ri.eqb<;>rfl)|(apply Ri.neb<;>rfl)|(apply Ri.pT;(focus rfl);(focus(first|rfl|assumption|(simp;done)|(simp;omega)));(focus rfl))|(apply Ri.pF;(focus rfl);(focus(first|rfl|assumption|(simp;done)|(simp;omega)));(focus rfl))));(focus rfl)))
  refine k_ret1 rfl rfl ⟨g1, rfl, nb1.kn, nb1.ge, rfl, nb1.ge, (List.replicate 38 [Value.bool false, .int .i64 0, .slice none 0 0]).flatten, ?_, nb1.at_⟩
  have : ∀ n, Els kSlot (fun k => w.heap.size ≤ k ∧ k ≠ g1) w1 (List.replicate n (false, (0, []))) (List.replicate n [Value.bool false, .int .i64 0, .slice none 0 0]).flatten := by
    intro n
    induction n with
    | zero => rfl
    | succ n ih => exact ⟨_, _, rfl, slot_mk (Sl.nil _ _ _) (by decide) (by decide), ih⟩
  exact this 38

theorem shiftStep_len (m : List Slot) (k : Nat) : (shiftStep m k).length = m.length := by unfold shiftStep; split <;> simp
set_option maxHeartbeats 1000000 in
theorem shift_calls {D : Nat → Prop} {g : Nat} {w : World} {m : List Slot} {v : Value} {r : Reg} {A : Option Addr} {c : Nat} (h : IsSet D g w m) (hB : ∀ k, w.heap.size ≤ k → D k) (hv : v = .slice A r.2.length c) :
    CallsR Try.prog 24 #[.pointer (some ⟨g, 0, none⟩), .agg #[.int .i64 r.1, v]] w fun u w' => Kp (fun k => k = g) w w' ∧ IsSet D g w' (shiftM m r).1 ∧ u = .int .i64 (shiftM m r).2 := by
  subst hv
  refine calls_enter Try.func24 rfl rfl ?_
  repeat(first|refine o_nil ?_|(refine o_pass (wants_no rfl rfl rfl ?_) rfl ?_;(focus(first|rfl|assumption|(simp;done)|(simp;omega))))|refine o_pass (wants_not rfl rfl rfl) rfl ?_|(refine o_yes (wants_yes rfl rfl rfl ?_) ?_;(focus(first|rfl|assumption|(simp;done)|(simp;omega))))|refine k_region ?_|(apply k_go;(focus(constructor<;>rfl)))|refine d_nil ?_|(apply o_s;(focus(first|(constructor<;>first|rfl|omega)|(apply Ri.add3<;>first|rfl|omega)|(apply Ri.sub3<;>first|rfl|omega)|(apply Ri.eqb<;>rfl)|(apply Ri.neb<;>rfl)|(apply Ri.pT;(focus rfl);(focus(first|rfl|assumption|(simp;done)|(simp;omega)));(focus rfl))|(apply Ri.pF;(focus rfl);(focus(first|rfl|assumption|(simp;done)|(simp;omega)));(focus rfl))));(focus rfl)))
  refine o_any (e_box rfl) (wants_none rfl) rfl ?_
  rintro _ w1 ⟨g1, rfl, nb1⟩
  have hlt := h.lt
  have hg1 := nb1.ge
  have c0 : w1.cell? ⟨g1, 0, none⟩ = some (.int .i64 r.1) := blk_cell nb1.at_
  have c1 : w1.cell? ⟨g1, 1, none⟩ = some (.slice A r.2.length c) := blk_cell nb1.at_
  have J : shiftM m r = (shiftFrom 8 m, 3) → ∀ σ', SubB σ' [(0, .pointer (some ⟨g, 0, none⟩))] → WK Try.prog Try.f24 [.code (bodyC Try.f24 [1, 1])] σ' w1 fun u w' => Kp (fun k => k = g) w w' ∧ IsSet D g w' (shiftM m r).1 ∧ u = .int .i64 (shiftM m r).2 := by
    intro hm σ' hs
    rw [hm]
    refine WK.sub (Sub.mk hs) ?_
    clear hs σ'
    repeat(first|refine o_nil ?_|(refine o_pass (wants_no rfl rfl rfl ?_) rfl ?_;(focus(first|rfl|assumption|(simp;done)|(simp;omega))))|refine o_pass (wants_not rfl rfl rfl) rfl ?_|(refine o_yes (wants_yes rfl rfl rfl ?_) ?_;(focus(first|rfl|assumption|(simp;done)|(simp;omega))))|refine k_region ?_|(apply k_go;(focus(constructor<;>rfl)))|refine d_nil ?_|(apply o_s;(focus(first|(constructor<;>first|rfl|omega)|(apply Ri.add3<;>first|rfl|omega)|(apply Ri.sub3<;>first|rfl|omega)|(apply Ri.eqb<;>rfl)|(apply Ri.neb<;>rfl)|(apply Ri.pT;(focus rfl);(focus(first|rfl|assumption|(simp;done)|(simp;omega)));(focus rfl))|(apply Ri.pF;(focus rfl);(focus(first|rfl|assumption|(simp;done)|(simp;omega)));(focus rfl))));(focus rfl)))
    refine k_while (S := Nat × List Slot) (fun s => s.1) (fun s => [(0, .pointer (some ⟨g, 0, none⟩)), (5, .int .i64 (s.1 + 3 : Nat))])
      (fun s wr => s.1 ≤ 8 ∧ Kp (fun k => k = g) w wr ∧ w1.heap.size ≤ wr.heap.size ∧ IsSet D g wr s.2 ∧ shiftFrom s.1 s.2 = shiftFrom 8 m) (8, m) (by repeat (first | exact SubB.nil | refine SubB.cons rfl ?_)) ⟨Nat.le_refl _, nb1.kn.kp, Nat.le_refl _, h.kn nb1.kn, rfl⟩ ?_
    rintro ⟨n, m'⟩ wr ⟨hn, hkp, hsz, hS, hfr⟩ ih
    simp only at hn hkp hsz hS hfr ih ⊢
    repeat(first|refine o_nil ?_|(refine o_pass (wants_no rfl rfl rfl ?_) rfl ?_;(focus(first|rfl|assumption|(simp;done)|(simp;omega))))|refine o_pass (wants_not rfl rfl rfl) rfl ?_|(refine o_yes (wants_yes rfl rfl rfl ?_) ?_;(focus(first|rfl|assumption|(simp;done)|(simp;omega))))|refine k_region ?_|(apply k_go;(focus(constructor<;>rfl)))|refine d_nil ?_|(apply o_s;(focus(first|(constructor<;>first|rfl|omega)|(apply Ri.add3<;>first|rfl|omega)|(apply Ri.sub3<;>first|rfl|omega)|(apply Ri.eqb<;>rfl)|(apply Ri.neb<;>rfl)|(apply Ri.pT;(focus rfl);(focus(first|rfl|assumption|(simp;done)|(simp;omega)));(focus rfl))|(apply Ri.pF;(focus rfl);(focus(first|rfl|assumption|(simp;done)|(simp;omega)));(focus rfl))));(focus rfl)))
    refine k_ite rfl (fun hlt => ?_) (fun hge => ?_)
    · obtain ⟨n, rfl⟩ : ∃ j, n = j + 1 := ⟨n - 1, by omega⟩
      have hin : ((n + 1 + 3 : Nat) : Int) - 1 = ((n + 3 : Nat) : Int) := by omega
      obtain ⟨vs, hvs, hlo, hhi, s0, s1, s2⟩ := hS.slot (i := n + 3) (by omega)
      repeat(first|refine o_nil ?_|(refine o_pass (wants_no rfl rfl rfl ?_) rfl ?_;(focus(first|rfl|assumption|(simp;done)|(simp;omega))))|refine o_pass (wants_not rfl rfl rfl) rfl ?_|(refine o_yes (wants_yes rfl rfl rfl ?_) ?_;(focus(first|rfl|assumption|(simp;done)|(simp;omega))))|refine k_region ?_|(apply k_go;(focus(constructor<;>rfl)))|refine d_nil ?_|(apply o_s;(focus(first|(constructor<;>first|rfl|omega)|(apply Ri.add3<;>first|rfl|omega)|(apply Ri.sub3<;>first|rfl|omega)|(apply Ri.eqb<;>rfl)|(apply Ri.neb<;>rfl)|(apply Ri.pT;(focus rfl);(focus(first|rfl|assumption|(simp;done)|(simp;omega)));(focus rfl))|(apply Ri.pF;(focus rfl);(focus(first|rfl|assumption|(simp;done)|(simp;omega)));(focus rfl))));(focus rfl)))
      refine o_still (r_indexA rfl rfl (by omega) (by omega)) (wants_none rfl) rfl ?_
      repeat(first|refine o_nil ?_|(refine o_pass (wants_no rfl rfl rfl ?_) rfl ?_;(focus(first|rfl|assumption|(simp;done)|(simp;omega))))|refine o_pass (wants_not rfl rfl rfl) rfl ?_|(refine o_yes (wants_yes rfl rfl rfl ?_) ?_;(focus(first|rfl|assumption|(simp;done)|(simp;omega))))|refine k_region ?_|(apply k_go;(focus(constructor<;>rfl)))|refine d_nil ?_|(apply o_s;(focus(first|(constructor<;>first|rfl|omega)|(apply Ri.add3<;>first|rfl|omega)|(apply Ri.sub3<;>first|rfl|omega)|(apply Ri.eqb<;>rfl)|(apply Ri.neb<;>rfl)|(apply Ri.pT;(focus rfl);(focus(first|rfl|assumption|(simp;done)|(simp;omega)));(focus rfl))|(apply Ri.pF;(focus rfl);(focus(first|rfl|assumption|(simp;done)|(simp;omega)));(focus rfl))));(focus rfl)))
      refine o_still (r_load rfl (by rw [hin, Int.toNat_natCast]; simp only [add_plain, Nat.zero_add, Nat.add_zero]; exact s0)) (wants_none rfl) rfl ?_
      repeat(first|refine o_nil ?_|(refine o_pass (wants_no rfl rfl rfl ?_) rfl ?_;(focus(first|rfl|assumption|(simp;done)|(simp;omega))))|refine o_pass (wants_not rfl rfl rfl) rfl ?_|(refine o_yes (wants_yes rfl rfl rfl ?_) ?_;(focus(first|rfl|assumption|(simp;done)|(simp;omega))))|refine k_region ?_|(apply k_go;(focus(constructor<;>rfl)))|refine d_nil ?_|(apply o_s;(focus(first|(constructor<;>first|rfl|omega)|(apply Ri.add3<;>first|rfl|omega)|(apply Ri.sub3<;>first|rfl|omega)|(apply Ri.eqb<;>rfl)|(apply Ri.neb<;>rfl)|(apply Ri.pT;(focus rfl);(focus(first|rfl|assumption|(simp;done)|(simp;omega)));(focus rfl))|(apply Ri.pF;(focus rfl);(focus(first|rfl|assumption|(simp;done)|(simp;omega)));(focus rfl))));(focus rfl)))
      have J2 : ∀ σ' w' m2, SubB σ' [(0, .pointer (some ⟨g, 0, none⟩)), (5, .int .i64 (n + 1 + 3 : Nat))] → shiftStep m' (n + 4) = m2 → Kp (fun k => k = g) w w' → w1.heap.size ≤ w'.heap.size → IsSet D g w' m2 →
          WK Try.prog Try.f24 [.inBlock 1, .code (bodyC Try.f24 [1, 1, 0, 1, 0, 0, 1, 1]), .inLoop (bodyC Try.f24 [1, 1, 0, 1, 0, 0]), .inBlock 0, .code (bodyC Try.f24 [1, 1, 1])] σ' w' fun u w' => Kp (fun k => k = g) w w' ∧ IsSet D g w' (shiftFrom 8 m) ∧ u = .int .i64 3 := by
        intro σ' w' m2 hs hm2 hk' hsz' hS'
        refine WK.sub (Sub.mk hs) ?_
        repeat(first|refine o_nil ?_|(refine o_pass (wants_no rfl rfl rfl ?_) rfl ?_;(focus(first|rfl|assumption|(simp;done)|(simp;omega))))|refine o_pass (wants_not rfl rfl rfl) rfl ?_|(refine o_yes (wants_yes rfl rfl rfl ?_) ?_;(focus(first|rfl|assumption|(simp;done)|(simp;omega))))|refine k_region ?_|(apply k_go;(focus(constructor<;>rfl)))|refine d_nil ?_|(apply o_s;(focus(first|(constructor<;>first|rfl|omega)|(apply Ri.add3<;>first|rfl|omega)|(apply Ri.sub3<;>first|rfl|omega)|(apply Ri.eqb<;>rfl)|(apply Ri.neb<;>rfl)|(apply Ri.pT;(focus rfl);(focus(first|rfl|assumption|(simp;done)|(simp;omega)));(focus rfl))|(apply Ri.pF;(focus rfl);(focus(first|rfl|assumption|(simp;done)|(simp;omega)));(focus rfl))));(focus rfl)))
        exact ih (n, m2) w' ⟨by omega, hk', hsz', hS', by rw [← hfr, ← hm2]; rfl⟩ (by simp) _ (.cons rfl (.cons (int_eq (by omega)) .nil))
      refine k_cond rfl (fun hf => ?_) (fun hf => ?_)
      · refine k_draw [(0, 0), (1, 0), (2, 0), (3, 0), (4, 0), (5, 0), (6, 0), (7, 0), (8, 0), (9, 0), (12, 0), (13, 0), (10, 1), (11, 0), (14, 0), (15, 1)] (by kernel_rfl) (by kernel_rfl) rfl (by kernel_rfl) ?_
        repeat(first|refine d_nil ?_|(refine d_open rfl ?_;first|((first|refine x_pass (wants_no rfl rfl rfl ?_) rfl ?_ ?_|refine x_passNow (wants_no rfl rfl rfl ?_) rfl ?_ ?_);(focus(first|rfl|assumption|(simp;done)|(simp;omega)));(focus(first|exact St.refl _|assumption)))|((first|refine x_pass (wants_not rfl rfl rfl) rfl ?_ ?_|refine x_passNow (wants_not rfl rfl rfl) rfl ?_ ?_);(focus(first|exact St.refl _|assumption)))|((first|apply x_s|apply x_n);(focus(first|(constructor<;>first|rfl|omega)|(apply Ri.add3<;>first|rfl|omega)|(apply Ri.sub3<;>first|rfl|omega)|(apply Ri.eqb<;>rfl)|(apply Ri.neb<;>rfl)|(apply Ri.pT;(focus rfl);(focus(first|rfl|assumption|(simp;done)|(simp;omega)));(focus rfl))|(apply Ri.pF;(focus rfl);(focus(first|rfl|assumption|(simp;done)|(simp;omega)));(focus rfl))));(focus(first|exact wants_none rfl|exact wants_yes rfl rfl rfl (by first|rfl|assumption|(simp;done)|(simp;omega))));(focus rfl);(focus(first|exact St.refl _|assumption)))))
        refine d_open rfl ?_
        refine x_still (r_indexA rfl rfl (by omega) (by omega)) (wants_none rfl) rfl (St.refl _) ?_
        repeat(first|refine d_nil ?_|(refine d_open rfl ?_;first|((first|refine x_pass (wants_no rfl rfl rfl ?_) rfl ?_ ?_|refine x_passNow (wants_no rfl rfl rfl ?_) rfl ?_ ?_);(focus(first|rfl|assumption|(simp;done)|(simp;omega)));(focus(first|exact St.refl _|assumption)))|((first|refine x_pass (wants_not rfl rfl rfl) rfl ?_ ?_|refine x_passNow (wants_not rfl rfl rfl) rfl ?_ ?_);(focus(first|exact St.refl _|assumption)))|((first|apply x_s|apply x_n);(focus(first|(constructor<;>first|rfl|omega)|(apply Ri.add3<;>first|rfl|omega)|(apply Ri.sub3<;>first|rfl|omega)|(apply Ri.eqb<;>rfl)|(apply Ri.neb<;>rfl)|(apply Ri.pT;(focus rfl);(focus(first|rfl|assumption|(simp;done)|(simp;omega)));(focus rfl))|(apply Ri.pF;(focus rfl);(focus(first|rfl|assumption|(simp;done)|(simp;omega)));(focus rfl))));(focus(first|exact wants_none rfl|exact wants_yes rfl rfl rfl (by first|rfl|assumption|(simp;done)|(simp;omega))));(focus rfl);(focus(first|exact St.refl _|assumption)))))
        refine d_open rfl ?_; refine x_still (r_loadA (cs := [.int .i64 (slotAt m' (n + 3)).2.1, vs]) rfl rfl (by
          intro j u hu
          rw [hin, Int.toNat_natCast]
          simp only [add_plain, Nat.zero_add, Nat.add_zero]
          match j, hu with
          | 0, hu => cases hu; exact s1
          | 1, hu => cases hu; exact s2)) (wants_none rfl) rfl (by first | exact St.refl _ | assumption) ?_
        repeat(first|refine d_nil ?_|(refine d_open rfl ?_;first|((first|refine x_pass (wants_no rfl rfl rfl ?_) rfl ?_ ?_|refine x_passNow (wants_no rfl rfl rfl ?_) rfl ?_ ?_);(focus(first|rfl|assumption|(simp;done)|(simp;omega)));(focus(first|exact St.refl _|assumption)))|((first|refine x_pass (wants_not rfl rfl rfl) rfl ?_ ?_|refine x_passNow (wants_not rfl rfl rfl) rfl ?_ ?_);(focus(first|exact St.refl _|assumption)))|((first|apply x_s|apply x_n);(focus(first|(constructor<;>first|rfl|omega)|(apply Ri.add3<;>first|rfl|omega)|(apply Ri.sub3<;>first|rfl|omega)|(apply Ri.eqb<;>rfl)|(apply Ri.neb<;>rfl)|(apply Ri.pT;(focus rfl);(focus(first|rfl|assumption|(simp;done)|(simp;omega)));(focus rfl))|(apply Ri.pF;(focus rfl);(focus(first|rfl|assumption|(simp;done)|(simp;omega)));(focus rfl))));(focus(first|exact wants_none rfl|exact wants_yes rfl rfl rfl (by first|rfl|assumption|(simp;done)|(simp;omega))));(focus rfl);(focus(first|exact St.refl _|assumption)))))
        refine d_open rfl ?_; refine x_enter (n_call rfl) (wants_none rfl) rfl ((twin_calls hvs).mono ?_)
        rintro _ w3 ⟨v3, rfl, hk3, ho3⟩
        refine .inl ⟨hk3.st, ?_⟩
        obtain ⟨A3, c3, rfl, _⟩ := ho3.form
        have hst3 := hk3.st
        refine d_open rfl ?_; refine x_still (r_build (c := #[.bool true, .int .i64 (slotAt m' (n + 3)).2.1, .slice A3 (slotAt m' (n + 3)).2.2.length c3]) rfl rfl) (wants_none rfl) rfl (by first | exact St.refl _ | assumption) ?_
        repeat(first|refine d_nil ?_|(refine d_open rfl ?_;first|((first|refine x_pass (wants_no rfl rfl rfl ?_) rfl ?_ ?_|refine x_passNow (wants_no rfl rfl rfl ?_) rfl ?_ ?_);(focus(first|rfl|assumption|(simp;done)|(simp;omega)));(focus(first|exact St.refl _|assumption)))|((first|refine x_pass (wants_not rfl rfl rfl) rfl ?_ ?_|refine x_passNow (wants_not rfl rfl rfl) rfl ?_ ?_);(focus(first|exact St.refl _|assumption)))|((first|apply x_s|apply x_n);(focus(first|(constructor<;>first|rfl|omega)|(apply Ri.add3<;>first|rfl|omega)|(apply Ri.sub3<;>first|rfl|omega)|(apply Ri.eqb<;>rfl)|(apply Ri.neb<;>rfl)|(apply Ri.pT;(focus rfl);(focus(first|rfl|assumption|(simp;done)|(simp;omega)));(focus rfl))|(apply Ri.pF;(focus rfl);(focus(first|rfl|assumption|(simp;done)|(simp;omega)));(focus rfl))));(focus(first|exact wants_none rfl|exact wants_yes rfl rfl rfl (by first|rfl|assumption|(simp;done)|(simp;omega))));(focus rfl);(focus(first|exact St.refl _|assumption)))))
        refine d_open rfl ?_; refine x_still (r_indexA rfl rfl (by omega) (by omega)) (wants_none rfl) rfl (by first | exact St.refl _ | assumption) ?_
        have hS3 := hS.kn hk3
        obtain ⟨hl3, hge3, cells, hE, hb⟩ := hS3
        have hcl := hE.len
        rw [hl3] at hcl
        refine d_open rfl ?_; refine x_unit (u_storeA (i := (n + 4) * 3) rfl rfl rfl (by simp [Value.oneCell']) (by simp only [add_plain, Nat.zero_add, Nat.add_zero]; congr 2) hb (by rw [List.size_toArray, hcl]; show (n + 4) * 3 + 3 ≤ 38 * 3; omega)) (wants_none rfl) rfl ?_
        rintro w4 hw4
        refine .inr ⟨(by kernel_rfl), ?_⟩
        repeat(first|refine d_nil ?_|(refine d_open rfl ?_;first|((first|refine x_pass (wants_no rfl rfl rfl ?_) rfl ?_ ?_|refine x_passNow (wants_no rfl rfl rfl ?_) rfl ?_ ?_);(focus(first|rfl|assumption|(simp;done)|(simp;omega)));(focus(first|exact St.refl _|assumption)))|((first|refine x_pass (wants_not rfl rfl rfl) rfl ?_ ?_|refine x_passNow (wants_not rfl rfl rfl) rfl ?_ ?_);(focus(first|exact St.refl _|assumption)))|((first|apply x_s|apply x_n);(focus(first|(constructor<;>first|rfl|omega)|(apply Ri.add3<;>first|rfl|omega)|(apply Ri.sub3<;>first|rfl|omega)|(apply Ri.eqb<;>rfl)|(apply Ri.neb<;>rfl)|(apply Ri.pT;(focus rfl);(focus(first|rfl|assumption|(simp;done)|(simp;omega)));(focus rfl))|(apply Ri.pF;(focus rfl);(focus(first|rfl|assumption|(simp;done)|(simp;omega)));(focus rfl))));(focus(first|exact wants_none rfl|exact wants_yes rfl rfl rfl (by first|rfl|assumption|(simp;done)|(simp;omega))));(focus rfl);(focus(first|exact St.refl _|assumption)))))
        refine J2 _ w4 (m'.set (n + 4) (true, (slotAt m' (n + 3)).2)) ?_ (by unfold shiftStep; rw [show n + 4 - 1 = n + 3 from rfl, hf]; rfl) ?_ ?_ ?_
        · repeat (first | exact SubB.nil | refine SubB.cons rfl ?_)
        · exact Kp.then hkp (Kp.then hk3.kp hw4.kp (fun _ h => h) (fun _ _ h => h)) (fun _ h => h) (fun _ _ h => h)
        · have := hk3.size
          have := hw4.kp.size
          omega
        · refine IsSet.put (cells := cells) ⟨hl3, hge3, cells, hE, hb⟩ (by omega) hE hw4 (ho3.slF ?_ ?_) hlo hhi
          all_goals
            intro k hk
            simp only [noB] at hk
            have := nb1.kn.size
            have := hS.lt
            exact ⟨hB k (by omega), by omega⟩
      · refine k_skip ?_
        refine J2 _ wr m' ?_ (by unfold shiftStep; rw [show n + 4 - 1 = n + 3 from rfl, hf]; rfl) hkp hsz hS
        repeat (first | exact SubB.nil | refine SubB.cons rfl ?_)
    · have : n = 0 := by omega
      subst this
      repeat(first|refine o_nil ?_|(refine o_pass (wants_no rfl rfl rfl ?_) rfl ?_;(focus(first|rfl|assumption|(simp;done)|(simp;omega))))|refine o_pass (wants_not rfl rfl rfl) rfl ?_|(refine o_yes (wants_yes rfl rfl rfl ?_) ?_;(focus(first|rfl|assumption|(simp;done)|(simp;omega))))|refine k_region ?_|(apply k_go;(focus(constructor<;>rfl)))|refine d_nil ?_|(apply o_s;(focus(first|(constructor<;>first|rfl|omega)|(apply Ri.add3<;>first|rfl|omega)|(apply Ri.sub3<;>first|rfl|omega)|(apply Ri.eqb<;>rfl)|(apply Ri.neb<;>rfl)|(apply Ri.pT;(focus rfl);(focus(first|rfl|assumption|(simp;done)|(simp;omega)));(focus rfl))|(apply Ri.pF;(focus rfl);(focus(first|rfl|assumption|(simp;done)|(simp;omega)));(focus rfl))));(focus rfl)))
      exact k_ret1 rfl rfl ⟨hkp, by rw [← hfr]; exact hS, rfl⟩
  repeat(first|refine o_nil ?_|(refine o_pass (wants_no rfl rfl rfl ?_) rfl ?_;(focus(first|rfl|assumption|(simp;done)|(simp;omega))))|refine o_pass (wants_not rfl rfl rfl) rfl ?_|(refine o_yes (wants_yes rfl rfl rfl ?_) ?_;(focus(first|rfl|assumption|(simp;done)|(simp;omega))))|refine k_region ?_|(apply k_go;(focus(constructor<;>rfl)))|refine d_nil ?_|(apply o_s;(focus(first|(constructor<;>first|rfl|omega)|(apply Ri.add3<;>first|rfl|omega)|(apply Ri.sub3<;>first|rfl|omega)|(apply Ri.eqb<;>rfl)|(apply Ri.neb<;>rfl)|(apply Ri.pT;(focus rfl);(focus(first|rfl|assumption|(simp;done)|(simp;omega)));(focus rfl))|(apply Ri.pF;(focus rfl);(focus(first|rfl|assumption|(simp;done)|(simp;omega)));(focus rfl))));(focus rfl)))
  refine o_still (r_load rfl c0) (wants_none rfl) rfl ?_
  repeat(first|refine o_nil ?_|(refine o_pass (wants_no rfl rfl rfl ?_) rfl ?_;(focus(first|rfl|assumption|(simp;done)|(simp;omega))))|refine o_pass (wants_not rfl rfl rfl) rfl ?_|(refine o_yes (wants_yes rfl rfl rfl ?_) ?_;(focus(first|rfl|assumption|(simp;done)|(simp;omega))))|refine k_region ?_|(apply k_go;(focus(constructor<;>rfl)))|refine d_nil ?_|(apply o_s;(focus(first|(constructor<;>first|rfl|omega)|(apply Ri.add3<;>first|rfl|omega)|(apply Ri.sub3<;>first|rfl|omega)|(apply Ri.eqb<;>rfl)|(apply Ri.neb<;>rfl)|(apply Ri.pT;(focus rfl);(focus(first|rfl|assumption|(simp;done)|(simp;omega)));(focus rfl))|(apply Ri.pF;(focus rfl);(focus(first|rfl|assumption|(simp;done)|(simp;omega)));(focus rfl))));(focus rfl)))
  by_cases hk : r.1 = 1
  · have hm : shiftM m r = (shiftFrom 8 m, 3) := by simp [shiftM, hk]
    repeat(first|refine o_nil ?_|(refine o_pass (wants_no rfl rfl rfl ?_) rfl ?_;(focus(first|rfl|assumption|(simp;done)|(simp;omega))))|refine o_pass (wants_not rfl rfl rfl) rfl ?_|(refine o_yes (wants_yes rfl rfl rfl ?_) ?_;(focus(first|rfl|assumption|(simp;done)|(simp;omega))))|refine k_region ?_|(apply k_go;(focus(constructor<;>rfl)))|refine d_nil ?_|(apply o_s;(focus(first|(constructor<;>first|rfl|omega)|(apply Ri.add3<;>first|rfl|omega)|(apply Ri.sub3<;>first|rfl|omega)|(apply Ri.eqb<;>rfl)|(apply Ri.neb<;>rfl)|(apply Ri.pT;(focus rfl);(focus(first|rfl|assumption|(simp;done)|(simp;omega)));(focus rfl))|(apply Ri.pF;(focus rfl);(focus(first|rfl|assumption|(simp;done)|(simp;omega)));(focus rfl))));(focus rfl)))
    refine k_false rfl ?_
    refine k_skip ?_
    refine J hm _ ?_
    repeat (first | exact SubB.nil | refine SubB.cons rfl ?_)
  · repeat(first|refine o_nil ?_|(refine o_pass (wants_no rfl rfl rfl ?_) rfl ?_;(focus(first|rfl|assumption|(simp;done)|(simp;omega))))|refine o_pass (wants_not rfl rfl rfl) rfl ?_|(refine o_yes (wants_yes rfl rfl rfl ?_) ?_;(focus(first|rfl|assumption|(simp;done)|(simp;omega))))|refine k_region ?_|(apply k_go;(focus(constructor<;>rfl)))|refine d_nil ?_|(apply o_s;(focus(first|(constructor<;>first|rfl|omega)|(apply Ri.add3<;>first|rfl|omega)|(apply Ri.sub3<;>first|rfl|omega)|(apply Ri.eqb<;>rfl)|(apply Ri.neb<;>rfl)|(apply Ri.pT;(focus rfl);(focus(first|rfl|assumption|(simp;done)|(simp;omega)));(focus rfl))|(apply Ri.pF;(focus rfl);(focus(first|rfl|assumption|(simp;done)|(simp;omega)));(focus rfl))));(focus rfl)))
    refine o_still (r_load rfl c1) (wants_none rfl) rfl ?_
    repeat(first|refine o_nil ?_|(refine o_pass (wants_no rfl rfl rfl ?_) rfl ?_;(focus(first|rfl|assumption|(simp;done)|(simp;omega))))|refine o_pass (wants_not rfl rfl rfl) rfl ?_|(refine o_yes (wants_yes rfl rfl rfl ?_) ?_;(focus(first|rfl|assumption|(simp;done)|(simp;omega))))|refine k_region ?_|(apply k_go;(focus(constructor<;>rfl)))|refine d_nil ?_|(apply o_s;(focus(first|(constructor<;>first|rfl|omega)|(apply Ri.add3<;>first|rfl|omega)|(apply Ri.sub3<;>first|rfl|omega)|(apply Ri.eqb<;>rfl)|(apply Ri.neb<;>rfl)|(apply Ri.pT;(focus rfl);(focus(first|rfl|assumption|(simp;done)|(simp;omega)));(focus rfl))|(apply Ri.pF;(focus rfl);(focus(first|rfl|assumption|(simp;done)|(simp;omega)));(focus rfl))));(focus rfl)))
    by_cases hl : r.2.length = 1
    · have hm : shiftM m r = (m, 1) := by simp [shiftM, hk, hl]
      refine k_yes rfl (by omega) ?_
      repeat(first|refine o_nil ?_|(refine o_pass (wants_no rfl rfl rfl ?_) rfl ?_;(focus(first|rfl|assumption|(simp;done)|(simp;omega))))|refine o_pass (wants_not rfl rfl rfl) rfl ?_|(refine o_yes (wants_yes rfl rfl rfl ?_) ?_;(focus(first|rfl|assumption|(simp;done)|(simp;omega))))|refine k_region ?_|(apply k_go;(focus(constructor<;>rfl)))|refine d_nil ?_|(apply o_s;(focus(first|(constructor<;>first|rfl|omega)|(apply Ri.add3<;>first|rfl|omega)|(apply Ri.sub3<;>first|rfl|omega)|(apply Ri.eqb<;>rfl)|(apply Ri.neb<;>rfl)|(apply Ri.pT;(focus rfl);(focus(first|rfl|assumption|(simp;done)|(simp;omega)));(focus rfl))|(apply Ri.pF;(focus rfl);(focus(first|rfl|assumption|(simp;done)|(simp;omega)));(focus rfl))));(focus rfl)))
      refine k_ret1 rfl rfl ?_
      rw [hm]
      exact ⟨nb1.kn.kp, h.kn nb1.kn, rfl⟩
    · have hm : shiftM m r = (shiftFrom 8 m, 3) := by simp [shiftM, hl]
      refine k_no rfl (by omega) ?_
      refine k_skip ?_
      refine J hm _ ?_
      repeat (first | exact SubB.nil | refine SubB.cons rfl ?_)
end Go.Ink
