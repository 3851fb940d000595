/-
  PieceRoom.
-/
import Derived.Test.YteleidcghoddjaaL2
set_option linter.unusedVariables false
set_option linter.unusedSimpArgs false
namespace Go.Ink
open Go Go.Proofs

theorem new_big {F : Nat → Prop} {w : World} {v : Value} {xs : List Int} (h : Sl kRune F w v xs) (hx : 65536 < xs.length) : CallsR Try.prog 9 #[v] w fun u w' => w' = w ∧ u = .pointer none := by
  obtain ⟨A, c, rfl, hc, hl⟩ := h.form
  refine calls_enter Try.func9 rfl rfl ?_
  repeat(first|refine o_nil ?_|(refine o_pass (wants_no rfl rfl rfl ?_) rfl ?_;(focus(first|rfl|assumption|(simp;done)|(simp;omega))))|(refine o_yes (wants_yes rfl rfl rfl ?_) ?_;(focus(first|rfl|assumption|(simp;done)|(simp;omega))))|refine k_region ?_|(apply k_go;(focus(constructor<;>rfl)))|refine d_nil ?_|(apply o_s;(focus(first|(constructor<;>first|rfl|omega)|(apply Ri.add3<;>first|rfl|omega)|(apply Ri.sub3<;>first|rfl|omega)|(apply Ri.pT;(focus rfl);(focus(first|rfl|assumption|(simp;done)|(simp;omega)));(focus rfl))|(apply Ri.pF;(focus rfl);(focus(first|rfl|assumption|(simp;done)|(simp;omega)));(focus rfl))));(focus rfl)))
  refine k_yes rfl (by omega) ?_
  repeat(first|refine o_nil ?_|(refine o_pass (wants_no rfl rfl rfl ?_) rfl ?_;(focus(first|rfl|assumption|(simp;done)|(simp;omega))))|(refine o_yes (wants_yes rfl rfl rfl ?_) ?_;(focus(first|rfl|assumption|(simp;done)|(simp;omega))))|refine k_region ?_|(apply k_go;(focus(constructor<;>rfl)))|refine d_nil ?_|(apply o_s;(focus(first|(constructor<;>first|rfl|omega)|(apply Ri.add3<;>first|rfl|omega)|(apply Ri.sub3<;>first|rfl|omega)|(apply Ri.pT;(focus rfl);(focus(first|rfl|assumption|(simp;done)|(simp;omega)));(focus rfl))|(apply Ri.pF;(focus rfl);(focus(first|rfl|assumption|(simp;done)|(simp;omega)));(focus rfl))));(focus rfl)))
  exact k_ret1 rfl rfl ⟨rfl, rfl⟩
theorem made_sl {w w' : World} {g n c : Nat} {e : TypeId} (nb : Nb w w' g (.cells (madeCells (Value.cells (.int .i32 0)) (c * 1)) e)) (hn : n ≤ c) (hc : c ≤ 70000) : Sl kRune (noB w) w' (.slice (some ⟨g, 0, none⟩) n c) (List.replicate n 0) :=
  (ow_made (d := kRune) (w := w) (F := fun _ => False) (G := noB w) (zx := 0) ⟨rfl, by decide, by decide⟩ nb hn (by unfold maxLen; omega) (by show n * 4 ≤ 140737488355328; omega) nb.ge).slF (fun _ h => h) fun _ h => h.elim
set_option maxHeartbeats 4000000 in
theorem law_PieceRoom {W : World} {a0 : Int} (hb0 : -9223372036854775808 ≤ a0 ∧ a0 ≤ 9223372036854775807) :
    CallsR Try.prog 6 #[.int .i64 a0] W fun r w' => r = .bool true ∧ Kn W w' := by
  refine calls_enter Try.func6 rfl rfl ?_
  repeat(first|refine o_nil ?_|(refine o_pass (wants_no rfl rfl rfl ?_) rfl ?_;(focus(first|rfl|assumption|(simp;done)|(simp;omega))))|(refine o_yes (wants_yes rfl rfl rfl ?_) ?_;(focus(first|rfl|assumption|(simp;done)|(simp;omega))))|refine k_region ?_|(apply k_go;(focus(constructor<;>rfl)))|refine d_nil ?_|(apply o_s;(focus(first|(constructor<;>first|rfl|omega)|(apply Ri.add3<;>first|rfl|omega)|(apply Ri.sub3<;>first|rfl|omega)|(apply Ri.pT;(focus rfl);(focus(first|rfl|assumption|(simp;done)|(simp;omega)));(focus rfl))|(apply Ri.pF;(focus rfl);(focus(first|rfl|assumption|(simp;done)|(simp;omega)));(focus rfl))));(focus rfl)))
  obtain ⟨n, hn, hnl⟩ : ∃ n : Nat, (if 0 < (if (65536 : Int) < a0 then (65536 : Int) else a0) then (if (65536 : Int) < a0 then (65536 : Int) else a0) else 0) = (n : Int) ∧ n ≤ 65536 := by
    refine ⟨(if 0 < (if (65536 : Int) < a0 then (65536 : Int) else a0) then (if (65536 : Int) < a0 then (65536 : Int) else a0) else 0).toNat, ?_, ?_⟩
    · split <;> split <;> omega
    · split <;> split <;> omega
  rw [hn]
  clear hn
  refine o_any (e_make (l := n) (c := n) rfl rfl (Nat.le_refl _) (by omega) (by unfold maxLen; omega)) (wants_none rfl) rfl ?_
  rintro _ w1 ⟨g1, rfl, nb1⟩
  have z1 := nb1.kn.size
  have s1 := made_sl nb1 (Nat.le_refl _) (by omega)
  refine o_enter (n_call rfl) (wants_none rfl) rfl ((new_solo (W := W) s1 (by simpa using hnl) z1).mono ?_)
  rintro _ w2 ⟨k2, g, D0, rfl, hD0, hn0, hT0⟩
  have z2 := k2.size
  have ok0 := hT0.ok
  have t0 := newM_tot (List.replicate n 0)
  have l0 : (newM (List.replicate n 0)).store.length = n := by show (List.replicate n (0 : Int)).length = n; simp
  rw [List.length_replicate] at t0
  generalize newM (List.replicate n 0) = T0 at *
  have k1 := nb1.kn
  clear s1 nb1
  repeat(first|refine o_nil ?_|(refine o_pass (wants_no rfl rfl rfl ?_) rfl ?_;(focus(first|rfl|assumption|(simp;done)|(simp;omega))))|(refine o_yes (wants_yes rfl rfl rfl ?_) ?_;(focus(first|rfl|assumption|(simp;done)|(simp;omega))))|refine k_region ?_|(apply k_go;(focus(constructor<;>rfl)))|refine d_nil ?_|(apply o_s;(focus(first|(constructor<;>first|rfl|omega)|(apply Ri.add3<;>first|rfl|omega)|(apply Ri.sub3<;>first|rfl|omega)|(apply Ri.pT;(focus rfl);(focus(first|rfl|assumption|(simp;done)|(simp;omega)));(focus rfl))|(apply Ri.pF;(focus rfl);(focus(first|rfl|assumption|(simp;done)|(simp;omega)));(focus rfl))));(focus rfl)))
  refine o_any (e_make (l := 65537) (c := 65537) rfl rfl (Nat.le_refl _) (by decide) (by decide)) (wants_none rfl) rfl ?_
  rintro _ w3 ⟨g3, rfl, nb3⟩
  have z3 := nb3.kn.size
  refine o_enter (n_call rfl) (wants_yes rfl rfl rfl (by first | rfl | assumption | (simp; done) | (simp; omega))) rfl ((new_big (made_sl nb3 (Nat.le_refl _) (by decide)) (by rw [List.length_replicate]; decide)).mono ?_)
  rintro _ w3 ⟨rfl, rfl⟩
  have k3 := nb3.kn
  have hT3 := hT0.kn k3
  have hD3 : ∀ k, D0 k → W.heap.size ≤ k ∧ k < w2.heap.size := fun k hk => by have := hD0 k hk; omega
  clear nb3
  refine o_still (r_neNilP rfl) (wants_yes rfl rfl rfl (by first | rfl | assumption | (simp; done) | (simp; omega))) rfl ?_
  repeat(first|refine o_nil ?_|(refine o_pass (wants_no rfl rfl rfl ?_) rfl ?_;(focus(first|rfl|assumption|(simp;done)|(simp;omega))))|(refine o_yes (wants_yes rfl rfl rfl ?_) ?_;(focus(first|rfl|assumption|(simp;done)|(simp;omega))))|refine k_region ?_|(apply k_go;(focus(constructor<;>rfl)))|refine d_nil ?_|(apply o_s;(focus(first|(constructor<;>first|rfl|omega)|(apply Ri.add3<;>first|rfl|omega)|(apply Ri.sub3<;>first|rfl|omega)|(apply Ri.pT;(focus rfl);(focus(first|rfl|assumption|(simp;done)|(simp;omega)));(focus rfl))|(apply Ri.pF;(focus rfl);(focus(first|rfl|assumption|(simp;done)|(simp;omega)));(focus rfl))));(focus rfl)))
  refine k_false rfl ?_
  repeat(first|refine o_nil ?_|(refine o_pass (wants_no rfl rfl rfl ?_) rfl ?_;(focus(first|rfl|assumption|(simp;done)|(simp;omega))))|(refine o_yes (wants_yes rfl rfl rfl ?_) ?_;(focus(first|rfl|assumption|(simp;done)|(simp;omega))))|refine k_region ?_|(apply k_go;(focus(constructor<;>rfl)))|refine d_nil ?_|(apply o_s;(focus(first|(constructor<;>first|rfl|omega)|(apply Ri.add3<;>first|rfl|omega)|(apply Ri.sub3<;>first|rfl|omega)|(apply Ri.pT;(focus rfl);(focus(first|rfl|assumption|(simp;done)|(simp;omega)));(focus rfl))|(apply Ri.pF;(focus rfl);(focus(first|rfl|assumption|(simp;done)|(simp;omega)));(focus rfl))));(focus rfl)))
  obtain ⟨m, hm⟩ : ∃ m : Nat, 65536 - (n : Int) = m := ⟨65536 - n, by omega⟩
  have hnm : n + m = 65536 := by omega
  rw [hm]
  refine o_any (e_make (l := m + 1) (c := m + 1) rfl rfl (Nat.le_refl _) (by omega) (by unfold maxLen; omega)) (wants_none rfl) rfl ?_
  rintro _ w4 ⟨g4, rfl, nb4⟩
  have z4 := nb4.kn.size
  have e1 : insM T0 0 (List.replicate (m + 1) 0) = (T0, 3) := ins_full (by decide) (by omega) (by rw [List.length_replicate]; omega)
  refine o_enter (n_call rfl) (wants_none rfl) rfl ((ins_solo (W := W) e1 (hT3.kn nb4.kn) (fun k hk => by have := hD3 k hk; omega) (by omega) (by decide) (made_sl nb4 (Nat.le_refl _) (by omega)) (fun k hk hl hd => by have := hD3 k hd; simp only [noB] at hk; omega) (by rw [List.length_replicate]; omega)).mono ?_)
  rintro _ w5 ⟨rfl, hk5, D5, hD5, hn5, hT5⟩
  have z5 := hk5.size
  clear e1
  repeat(first|refine o_nil ?_|(refine o_pass (wants_no rfl rfl rfl ?_) rfl ?_;(focus(first|rfl|assumption|(simp;done)|(simp;omega))))|(refine o_yes (wants_yes rfl rfl rfl ?_) ?_;(focus(first|rfl|assumption|(simp;done)|(simp;omega))))|refine k_region ?_|(apply k_go;(focus(constructor<;>rfl)))|refine d_nil ?_|(apply o_s;(focus(first|(constructor<;>first|rfl|omega)|(apply Ri.add3<;>first|rfl|omega)|(apply Ri.sub3<;>first|rfl|omega)|(apply Ri.pT;(focus rfl);(focus(first|rfl|assumption|(simp;done)|(simp;omega)));(focus rfl))|(apply Ri.pF;(focus rfl);(focus(first|rfl|assumption|(simp;done)|(simp;omega)));(focus rfl))));(focus rfl)))
  rw [hm]
  refine o_any (e_make (l := m) (c := m) rfl rfl (Nat.le_refl _) (by omega) (by unfold maxLen; omega)) (wants_none rfl) rfl ?_
  rintro _ w6 ⟨g6, rfl, nb6⟩
  have z6 := nb6.kn.size
  obtain ⟨T1, e2, fl1, t1, st1, _⟩ := ins_take (T := T0) (a := n) (xs := List.replicate m 0) ok0.1 (by omega) (by omega) (by rw [List.length_replicate]; omega)
  rw [List.length_replicate] at t1 st1
  refine o_enter (n_call rfl) (wants_none rfl) rfl ((ins_solo (W := W) e2 (hT5.kn nb6.kn) (fun k hk => by have := hD5 k hk; omega) (by omega) (by omega) (made_sl nb6 (Nat.le_refl _) (by omega)) (fun k hk hl hd => by have := hD5 k hd; simp only [noB] at hk; omega) (by rw [List.length_replicate]; omega)).mono ?_)
  rintro _ w7 ⟨rfl, hk7, D7, hD7, hn7, hT7⟩
  have z7 := hk7.size
  clear e2 fl1
  repeat(first|refine o_nil ?_|(refine o_pass (wants_no rfl rfl rfl ?_) rfl ?_;(focus(first|rfl|assumption|(simp;done)|(simp;omega))))|(refine o_yes (wants_yes rfl rfl rfl ?_) ?_;(focus(first|rfl|assumption|(simp;done)|(simp;omega))))|refine k_region ?_|(apply k_go;(focus(constructor<;>rfl)))|refine d_nil ?_|(apply o_s;(focus(first|(constructor<;>first|rfl|omega)|(apply Ri.add3<;>first|rfl|omega)|(apply Ri.sub3<;>first|rfl|omega)|(apply Ri.pT;(focus rfl);(focus(first|rfl|assumption|(simp;done)|(simp;omega)));(focus rfl))|(apply Ri.pF;(focus rfl);(focus(first|rfl|assumption|(simp;done)|(simp;omega)));(focus rfl))));(focus rfl)))
  refine o_any (e_one (z := .int .i32 0) (sz := 1) rfl rfl rfl (by decide)) (wants_none rfl) rfl ?_
  rintro _ w8 ⟨g8, rfl, nb8⟩
  have z8 := nb8.kn.size
  have e3 : insM T1 0 [1] = (T1, 3) := ins_full (by decide) (by omega) (by show 65536 - tot T1.row < 1; omega)
  refine o_enter (n_call rfl) (wants_none rfl) rfl ((ins_solo (W := W) e3 (hT7.kn nb8.kn) (fun k hk => by have := hD7 k hk; omega) (by omega) (by decide) (sl_blk (F := noB w7) (xs := [1]) (cells := [.int .i32 1]) nb8.at_ ⟨_, [], rfl, ⟨rfl, by decide, by decide⟩, rfl⟩ nb8.ge (show 1 * 4 ≤ 140737488355328 by decide)) (fun k hk hl hd => by have := hD7 k hd; simp only [noB] at hk; omega) (by show T1.store.length + 1 ≤ 1099511627776; omega)).mono ?_)
  rintro _ w9 ⟨rfl, hk9, D9, hD9, hn9, hT9⟩
  have z9 := hk9.size
  repeat(first|refine o_nil ?_|(refine o_pass (wants_no rfl rfl rfl ?_) rfl ?_;(focus(first|rfl|assumption|(simp;done)|(simp;omega))))|(refine o_yes (wants_yes rfl rfl rfl ?_) ?_;(focus(first|rfl|assumption|(simp;done)|(simp;omega))))|refine k_region ?_|(apply k_go;(focus(constructor<;>rfl)))|refine d_nil ?_|(apply o_s;(focus(first|(constructor<;>first|rfl|omega)|(apply Ri.add3<;>first|rfl|omega)|(apply Ri.sub3<;>first|rfl|omega)|(apply Ri.pT;(focus rfl);(focus(first|rfl|assumption|(simp;done)|(simp;omega)));(focus rfl))|(apply Ri.pF;(focus rfl);(focus(first|rfl|assumption|(simp;done)|(simp;omega)));(focus rfl))));(focus rfl)))
  refine o_enter (n_call rfl) (wants_none rfl) rfl ((len_calls hT9).mono ?_)
  rintro _ w9 ⟨rfl, rfl⟩
  repeat(first|refine o_nil ?_|(refine o_pass (wants_no rfl rfl rfl ?_) rfl ?_;(focus(first|rfl|assumption|(simp;done)|(simp;omega))))|(refine o_yes (wants_yes rfl rfl rfl ?_) ?_;(focus(first|rfl|assumption|(simp;done)|(simp;omega))))|refine k_region ?_|(apply k_go;(focus(constructor<;>rfl)))|refine d_nil ?_|(apply o_s;(focus(first|(constructor<;>first|rfl|omega)|(apply Ri.add3<;>first|rfl|omega)|(apply Ri.sub3<;>first|rfl|omega)|(apply Ri.pT;(focus rfl);(focus(first|rfl|assumption|(simp;done)|(simp;omega)));(focus rfl))|(apply Ri.pF;(focus rfl);(focus(first|rfl|assumption|(simp;done)|(simp;omega)));(focus rfl))));(focus rfl)))
  have hlast : tot T1.row = 65536 := by omega
  refine o_enter (n_call rfl) (wants_none rfl) rfl ((awake_calls).mono ?_)
  rintro _ w10 ⟨rfl, k10⟩
  repeat(first|refine o_nil ?_|(refine o_pass (wants_no rfl rfl rfl ?_) rfl ?_;(focus(first|rfl|assumption|(simp;done)|(simp;omega))))|(refine o_yes (wants_yes rfl rfl rfl ?_) ?_;(focus(first|rfl|assumption|(simp;done)|(simp;omega))))|refine k_region ?_|(apply k_go;(focus(constructor<;>rfl)))|refine d_nil ?_|(apply o_s;(focus(first|(constructor<;>first|rfl|omega)|(apply Ri.add3<;>first|rfl|omega)|(apply Ri.sub3<;>first|rfl|omega)|(apply Ri.pT;(focus rfl);(focus(first|rfl|assumption|(simp;done)|(simp;omega)));(focus rfl))|(apply Ri.pF;(focus rfl);(focus(first|rfl|assumption|(simp;done)|(simp;omega)));(focus rfl))));(focus rfl)))
  refine k_ret1 rfl rfl ⟨rfl, ?_⟩
  have q5 : Kn W w5 := Kp.then (((k1.trans k2).trans k3).trans nb4.kn) hk5 (fun _ h => h) fun k hk hd => by have := hD3 k hd; omega
  have q7 : Kn W w7 := Kp.then (q5.trans nb6.kn) hk7 (fun _ h => h) fun k hk hd => by have := hD5 k hd; omega
  have q9 : Kn W w9 := Kp.then (q7.trans nb8.kn) hk9 (fun _ h => h) fun k hk hd => by have := hD7 k hd; omega
  exact q9.trans k10
end Go.Ink
