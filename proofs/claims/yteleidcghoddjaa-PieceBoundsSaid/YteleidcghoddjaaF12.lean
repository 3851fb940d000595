/-
  One table alone; awake.
-/
import Derived.Test.YteleidcghoddjaaF11
set_option linter.unusedVariables false
set_option linter.unusedSimpArgs false
namespace Go.Ink
open Go Go.Proofs

section
variable {W w w' w2 : World} {g : Nat} {T T' : Tab} {xs : List Int} {D F : Nat → Prop} {x u v : Value} {a n e : Int}
def SoloQ (W : World) (D : Nat → Prop) (g : Nat) (w : World) (T' : Tab) (e : Int) (u : Value) (w' : World) : Prop :=
  u = .int .i64 e ∧ Kp D w w' ∧ ∃ D', (∀ k, D' k → W.heap.size ≤ k ∧ k < w'.heap.size) ∧ (∀ k, k < w.heap.size → D' k → D k) ∧ IsTab D' g w' T'
theorem TabQ.solo (h : TabQ D g w T' (.int .i64 e) u w') (hD : ∀ k, D k → W.heap.size ≤ k ∧ k < w.heap.size) (hW : W.heap.size ≤ w.heap.size) : SoloQ W D g w T' e u w' := by
  obtain ⟨h1, h2, h3⟩ := h
  have hz := h1.size
  refine ⟨h3, h1, fun k => grownD D w k ∧ k < w'.heap.size, ?_, ?_, h2.mono fun k hk hl => ⟨hk, hl⟩⟩
  · rintro k ⟨hk, hl⟩
    exact ⟨hk.elim (fun h => (hD k h).1) fun h => by omega, hl⟩
  · rintro k hk ⟨hk', hl⟩
    exact hk'.elim id fun h => by omega
theorem ins_solo (hE : insM T a xs = (T', e)) (h : IsTab D g w T) (hD : ∀ k, D k → W.heap.size ≤ k ∧ k < w.heap.size) (hW : W.heap.size ≤ w.heap.size) (ha : -9223372036854775808 ≤ a ∧ a ≤ 9223372036854775807) (hv : Sl kRune F w v xs) (hF : ∀ k, F k → k < w.heap.size → ¬ D k) (hst : T.store.length + xs.length ≤ 1099511627776) :
    CallsR Try.prog 16 #[.pointer (some ⟨g, 0, none⟩), .int .i64 a, v] w (SoloQ W D g w T' e) := by
  have := ins_calls h ha hv hF hst
  rw [hE] at this
  exact this.mono fun u w' h => h.solo hD hW
theorem del_solo (hE : delM T a n = (T', e)) (h : IsTab D g w T) (hD : ∀ k, D k → W.heap.size ≤ k ∧ k < w.heap.size) (hW : W.heap.size ≤ w.heap.size) (ha : -9223372036854775808 ≤ a ∧ a ≤ 9223372036854775807) (hb : -9223372036854775808 ≤ n ∧ n ≤ 9223372036854775807) :
    CallsR Try.prog 17 #[.pointer (some ⟨g, 0, none⟩), .int .i64 a, .int .i64 n] w (SoloQ W D g w T' e) := by
  have := del_calls h ha hb
  rw [hE] at this
  exact this.mono fun u w' h => h.solo hD hW
theorem save_solo (hE : saveM T = (T', e)) (h : IsTab D g w T) (hD : ∀ k, D k → W.heap.size ≤ k ∧ k < w.heap.size) (hW : W.heap.size ≤ w.heap.size) (hsv : T.saved.length < 1099511627776) :
    CallsR Try.prog 19 #[.pointer (some ⟨g, 0, none⟩)] w (SoloQ W D g w T' e) := by
  have := save_calls h hsv
  rw [hE] at this
  exact this.mono fun u w' h => h.solo hD hW
theorem back_solo (hE : backM T a = (T', e)) (h : IsTab D g w T) (hD : ∀ k, D k → W.heap.size ≤ k ∧ k < w.heap.size) (hW : W.heap.size ≤ w.heap.size) (ha : -9223372036854775808 ≤ a ∧ a ≤ 9223372036854775807) (hsv : ∀ r ∈ T.saved, tot r ≤ 65536) :
    CallsR Try.prog 20 #[.pointer (some ⟨g, 0, none⟩), .int .i64 a] w (SoloQ W D g w T' e) := by
  have := back_calls h ha hsv
  rw [hE] at this
  exact this.mono fun u w' h => h.solo hD hW
theorem slice_known {rs : List Int} (hE : sliceM T a n = (rs, e)) (h : IsTab D g w T) (ha : -9223372036854775808 ≤ a ∧ a ≤ 9223372036854775807) (hb : -9223372036854775808 ≤ n ∧ n ≤ 9223372036854775807) :
    CallsR Try.prog 18 #[.pointer (some ⟨g, 0, none⟩), .int .i64 a, .int .i64 n] w fun u w' => Kn w w' ∧ ∃ A c, u = .tuple #[.slice A rs.length c, .int .i64 e] ∧ Sl kRune (fun k => w.heap.size ≤ k ∧ k < w'.heap.size) w' (.slice A rs.length c) rs := by
  have := slice_calls h ha hb
  rw [hE] at this
  refine this.mono fun u w' ⟨h1, v, h2, h3⟩ => ?_
  obtain ⟨A, c, rfl, _⟩ := h3.form
  exact ⟨h1, A, c, h2, h3.sl.mono fun k hk hl => ⟨hk.resolve_right id, hl⟩⟩
theorem new_solo (h : Sl kRune F w v xs) (hx : xs.length ≤ 65536) (hW : W.heap.size ≤ w.heap.size) :
    CallsR Try.prog 9 #[v] w fun u w' => Kn w w' ∧ ∃ g D, u = .pointer (some ⟨g, 0, none⟩) ∧ (∀ k, D k → W.heap.size ≤ k ∧ k < w'.heap.size) ∧ (∀ k, k < w.heap.size → ¬ D k) ∧ IsTab D g w' (newM xs) := by
  refine (new_calls h hx).mono fun u w' ⟨h1, g, h2, h3⟩ => ⟨h1, g, fun k => w.heap.size ≤ k ∧ k < w'.heap.size, h2, fun k hk => ⟨by omega, hk.2⟩, fun k hk hk' => by omega, h3.mono fun k hk hl => ⟨hk, hl⟩⟩
end
theorem lit2 {w w' : World} {g : Nat} {et : TypeId} {a b : Int} (nb : Nb w w' g (.cells #[.int .i32 a, .int .i32 b] et (0, 0))) (h : 0 ≤ a ∧ a ≤ 1114111 ∧ 0 ≤ b ∧ b ≤ 1114111) : Sl kRune (noB w) w' (.slice (some ⟨g, 0, none⟩) 2 2) [a, b] :=
  sl_blk (xs := [a, b]) (cells := [.int .i32 a, .int .i32 b]) nb.at_ ⟨_, _, rfl, ⟨rfl, by omega, by omega⟩, _, _, rfl, ⟨rfl, by omega, by omega⟩, rfl⟩ nb.ge (show 2 * 4 ≤ 140737488355328 by decide)
theorem lit3 {w w' : World} {g : Nat} {et : TypeId} {a b c : Int} (nb : Nb w w' g (.cells #[.int .i32 a, .int .i32 b, .int .i32 c] et (0, 0))) (h : 0 ≤ a ∧ a ≤ 1114111 ∧ 0 ≤ b ∧ b ≤ 1114111 ∧ 0 ≤ c ∧ c ≤ 1114111) : Sl kRune (noB w) w' (.slice (some ⟨g, 0, none⟩) 3 3) [a, b, c] :=
  sl_blk (xs := [a, b, c]) (cells := [.int .i32 a, .int .i32 b, .int .i32 c]) nb.at_ ⟨_, _, rfl, ⟨rfl, by omega, by omega⟩, _, _, rfl, ⟨rfl, by omega, by omega⟩, _, _, rfl, ⟨rfl, by omega, by omega⟩, rfl⟩ nb.ge (show 3 * 4 ≤ 140737488355328 by decide)
def aw0 : Tab := newM [97, 98, 99]
def aw1 : Tab := (insM aw0 1 [120, 121]).1
def aw2 : Tab := (delM aw1 0 2).1
def aw3 : Tab := (saveM aw2).1
def aw4 : Tab := (delM aw3 0 3).1
def aw5 : Tab := (backM aw4 1).1
theorem aw_e1 : insM aw0 1 [120, 121] = (aw1, 0) := by kernel_rfl
theorem aw_e2 : delM aw1 0 2 = (aw2, 0) := by kernel_rfl
theorem aw_s2 : sliceM aw2 1 2 = ([98, 99], 0) := by kernel_rfl
theorem aw_e3 : saveM aw2 = (aw3, 1) := by kernel_rfl
theorem aw_e4 : delM aw3 0 3 = (aw4, 0) := by kernel_rfl
theorem aw_e5 : backM aw4 1 = (aw5, 0) := by kernel_rfl
theorem aw_s5 : sliceM aw5 0 3 = ([121, 98, 99], 0) := by kernel_rfl
theorem aw_e6 : delM aw5 4 0 = (aw5, 2) := by kernel_rfl
theorem aw_l0 : aw0.store.length = 3 := by kernel_rfl
theorem aw_l2 : aw2.saved.length = 0 := by kernel_rfl
theorem aw_t4 : ∀ r ∈ aw4.saved, tot r ≤ 65536 := by decide
set_option maxHeartbeats 2000000 in
theorem awake_calls {w : World} : CallsR Try.prog 15 #[] w fun u w' => u = .bool true ∧ Kn w w' := by
  refine calls_enter (args := []) Try.func15 rfl rfl ?_
  repeat(first|refine o_nil ?_|(refine o_pass (wants_no rfl rfl rfl ?_) rfl ?_;(focus(first|rfl|assumption|(simp;done)|(simp;omega))))|refine o_pass (wants_not rfl rfl rfl) rfl ?_|(refine o_yes (wants_yes rfl rfl rfl ?_) ?_;(focus(first|rfl|assumption|(simp;done)|(simp;omega))))|refine k_region ?_|(apply k_go;(focus(constructor<;>rfl)))|refine d_nil ?_|(apply o_s;(focus(first|(constructor<;>first|rfl|omega)|(apply Ri.add3<;>first|rfl|omega)|(apply Ri.sub3<;>first|rfl|omega)|(apply Ri.eqb<;>rfl)|(apply Ri.neb<;>rfl)|(apply Ri.pT;(focus rfl);(focus(first|rfl|assumption|(simp;done)|(simp;omega)));(focus rfl))|(apply Ri.pF;(focus rfl);(focus(first|rfl|assumption|(simp;done)|(simp;omega)));(focus rfl))));(focus rfl)))
  refine o_any (e_lit (qs := [(0, .int .i32 97), (1, .int .i32 98), (2, .int .i32 99)]) (cells := #[.int .i32 97, .int .i32 98, .int .i32 99]) rfl (by decide) (by kernel_rfl)) (wants_none rfl) rfl ?_
  rintro _ w1 ⟨g1, rfl, nb1⟩
  have z1 := nb1.kn.size
  refine o_enter (n_call rfl) (wants_none rfl) rfl ((new_solo (W := w) (lit3 nb1 (by decide)) (by decide) z1).mono ?_)
  rintro _ w2 ⟨k2, g, D0, rfl, hD0, _, hT0⟩
  have z2 := k2.size
  repeat(first|refine o_nil ?_|(refine o_pass (wants_no rfl rfl rfl ?_) rfl ?_;(focus(first|rfl|assumption|(simp;done)|(simp;omega))))|refine o_pass (wants_not rfl rfl rfl) rfl ?_|(refine o_yes (wants_yes rfl rfl rfl ?_) ?_;(focus(first|rfl|assumption|(simp;done)|(simp;omega))))|refine k_region ?_|(apply k_go;(focus(constructor<;>rfl)))|refine d_nil ?_|(apply o_s;(focus(first|(constructor<;>first|rfl|omega)|(apply Ri.add3<;>first|rfl|omega)|(apply Ri.sub3<;>first|rfl|omega)|(apply Ri.eqb<;>rfl)|(apply Ri.neb<;>rfl)|(apply Ri.pT;(focus rfl);(focus(first|rfl|assumption|(simp;done)|(simp;omega)));(focus rfl))|(apply Ri.pF;(focus rfl);(focus(first|rfl|assumption|(simp;done)|(simp;omega)));(focus rfl))));(focus rfl)))
  refine o_any (e_lit (qs := [(0, .int .i32 120), (1, .int .i32 121)]) (cells := #[.int .i32 120, .int .i32 121]) rfl (by decide) (by kernel_rfl)) (wants_none rfl) rfl ?_
  rintro _ w3 ⟨g3, rfl, nb3⟩
  have z3 := nb3.kn.size
  have hT0' : IsTab D0 g w3 aw0 := hT0.kn nb3.kn
  refine o_enter (n_call rfl) (wants_yes rfl rfl rfl (by first | rfl | assumption | (simp; done) | (simp; omega))) rfl ((ins_solo (W := w) aw_e1 hT0' (fun k hk => by have := hD0 k hk; omega) (by omega) (by decide) (lit2 nb3 (by decide)) (fun k hk hl hd => by have := hD0 k hd; simp only [noB] at hk; omega) (by rw [aw_l0]; decide)).mono ?_)
  rintro _ w4 ⟨rfl, hk4, D1, hD1, hn1, hT1⟩
  have z4 := hk4.size
  repeat(first|refine o_nil ?_|(refine o_pass (wants_no rfl rfl rfl ?_) rfl ?_;(focus(first|rfl|assumption|(simp;done)|(simp;omega))))|refine o_pass (wants_not rfl rfl rfl) rfl ?_|(refine o_yes (wants_yes rfl rfl rfl ?_) ?_;(focus(first|rfl|assumption|(simp;done)|(simp;omega))))|refine k_region ?_|(apply k_go;(focus(constructor<;>rfl)))|refine d_nil ?_|(apply o_s;(focus(first|(constructor<;>first|rfl|omega)|(apply Ri.add3<;>first|rfl|omega)|(apply Ri.sub3<;>first|rfl|omega)|(apply Ri.eqb<;>rfl)|(apply Ri.neb<;>rfl)|(apply Ri.pT;(focus rfl);(focus(first|rfl|assumption|(simp;done)|(simp;omega)));(focus rfl))|(apply Ri.pF;(focus rfl);(focus(first|rfl|assumption|(simp;done)|(simp;omega)));(focus rfl))));(focus rfl)))
  refine o_enter (n_call rfl) (wants_none rfl) rfl ((del_solo (W := w) aw_e2 hT1 hD1 (by omega) (by decide) (by decide)).mono ?_)
  rintro _ w5 ⟨rfl, hk5, D2, hD2, hn2, hT2⟩
  have z5 := hk5.size
  repeat(first|refine o_nil ?_|(refine o_pass (wants_no rfl rfl rfl ?_) rfl ?_;(focus(first|rfl|assumption|(simp;done)|(simp;omega))))|refine o_pass (wants_not rfl rfl rfl) rfl ?_|(refine o_yes (wants_yes rfl rfl rfl ?_) ?_;(focus(first|rfl|assumption|(simp;done)|(simp;omega))))|refine k_region ?_|(apply k_go;(focus(constructor<;>rfl)))|refine d_nil ?_|(apply o_s;(focus(first|(constructor<;>first|rfl|omega)|(apply Ri.add3<;>first|rfl|omega)|(apply Ri.sub3<;>first|rfl|omega)|(apply Ri.eqb<;>rfl)|(apply Ri.neb<;>rfl)|(apply Ri.pT;(focus rfl);(focus(first|rfl|assumption|(simp;done)|(simp;omega)));(focus rfl))|(apply Ri.pF;(focus rfl);(focus(first|rfl|assumption|(simp;done)|(simp;omega)));(focus rfl))));(focus rfl)))
  refine k_false rfl ?_
  repeat(first|refine o_nil ?_|(refine o_pass (wants_no rfl rfl rfl ?_) rfl ?_;(focus(first|rfl|assumption|(simp;done)|(simp;omega))))|refine o_pass (wants_not rfl rfl rfl) rfl ?_|(refine o_yes (wants_yes rfl rfl rfl ?_) ?_;(focus(first|rfl|assumption|(simp;done)|(simp;omega))))|refine k_region ?_|(apply k_go;(focus(constructor<;>rfl)))|refine d_nil ?_|(apply o_s;(focus(first|(constructor<;>first|rfl|omega)|(apply Ri.add3<;>first|rfl|omega)|(apply Ri.sub3<;>first|rfl|omega)|(apply Ri.eqb<;>rfl)|(apply Ri.neb<;>rfl)|(apply Ri.pT;(focus rfl);(focus(first|rfl|assumption|(simp;done)|(simp;omega)));(focus rfl))|(apply Ri.pF;(focus rfl);(focus(first|rfl|assumption|(simp;done)|(simp;omega)));(focus rfl))));(focus rfl)))
  refine o_enter (n_call rfl) (wants_none rfl) rfl ((slice_known aw_s2 hT2 (by decide) (by decide)).mono ?_)
  rintro _ w6 ⟨k6, A6, c6, rfl, h6⟩
  have z6 := k6.size
  repeat(first|refine o_nil ?_|(refine o_pass (wants_no rfl rfl rfl ?_) rfl ?_;(focus(first|rfl|assumption|(simp;done)|(simp;omega))))|refine o_pass (wants_not rfl rfl rfl) rfl ?_|(refine o_yes (wants_yes rfl rfl rfl ?_) ?_;(focus(first|rfl|assumption|(simp;done)|(simp;omega))))|refine k_region ?_|(apply k_go;(focus(constructor<;>rfl)))|refine d_nil ?_|(apply o_s;(focus(first|(constructor<;>first|rfl|omega)|(apply Ri.add3<;>first|rfl|omega)|(apply Ri.sub3<;>first|rfl|omega)|(apply Ri.eqb<;>rfl)|(apply Ri.neb<;>rfl)|(apply Ri.pT;(focus rfl);(focus(first|rfl|assumption|(simp;done)|(simp;omega)));(focus rfl))|(apply Ri.pF;(focus rfl);(focus(first|rfl|assumption|(simp;done)|(simp;omega)));(focus rfl))));(focus rfl)))
  refine o_enter (n_call rfl) (wants_none rfl) rfl ((save_solo (W := w) aw_e3 (hT2.kn k6) (fun k hk => by have := hD2 k hk; omega) (by omega) (by rw [aw_l2]; decide)).mono ?_)
  rintro _ w7 ⟨rfl, hk7, D3, hD3, hn3, hT3⟩
  have z7 := hk7.size
  repeat(first|refine o_nil ?_|(refine o_pass (wants_no rfl rfl rfl ?_) rfl ?_;(focus(first|rfl|assumption|(simp;done)|(simp;omega))))|refine o_pass (wants_not rfl rfl rfl) rfl ?_|(refine o_yes (wants_yes rfl rfl rfl ?_) ?_;(focus(first|rfl|assumption|(simp;done)|(simp;omega))))|refine k_region ?_|(apply k_go;(focus(constructor<;>rfl)))|refine d_nil ?_|(apply o_s;(focus(first|(constructor<;>first|rfl|omega)|(apply Ri.add3<;>first|rfl|omega)|(apply Ri.sub3<;>first|rfl|omega)|(apply Ri.eqb<;>rfl)|(apply Ri.neb<;>rfl)|(apply Ri.pT;(focus rfl);(focus(first|rfl|assumption|(simp;done)|(simp;omega)));(focus rfl))|(apply Ri.pF;(focus rfl);(focus(first|rfl|assumption|(simp;done)|(simp;omega)));(focus rfl))));(focus rfl)))
  refine o_enter (n_call rfl) (wants_none rfl) rfl ((del_solo (W := w) aw_e4 hT3 hD3 (by omega) (by decide) (by decide)).mono ?_)
  rintro _ w8 ⟨rfl, hk8, D4, hD4, hn4, hT4⟩
  have z8 := hk8.size
  repeat(first|refine o_nil ?_|(refine o_pass (wants_no rfl rfl rfl ?_) rfl ?_;(focus(first|rfl|assumption|(simp;done)|(simp;omega))))|refine o_pass (wants_not rfl rfl rfl) rfl ?_|(refine o_yes (wants_yes rfl rfl rfl ?_) ?_;(focus(first|rfl|assumption|(simp;done)|(simp;omega))))|refine k_region ?_|(apply k_go;(focus(constructor<;>rfl)))|refine d_nil ?_|(apply o_s;(focus(first|(constructor<;>first|rfl|omega)|(apply Ri.add3<;>first|rfl|omega)|(apply Ri.sub3<;>first|rfl|omega)|(apply Ri.eqb<;>rfl)|(apply Ri.neb<;>rfl)|(apply Ri.pT;(focus rfl);(focus(first|rfl|assumption|(simp;done)|(simp;omega)));(focus rfl))|(apply Ri.pF;(focus rfl);(focus(first|rfl|assumption|(simp;done)|(simp;omega)));(focus rfl))));(focus rfl)))
  refine o_enter (n_call rfl) (wants_none rfl) rfl ((back_solo (W := w) aw_e5 hT4 hD4 (by omega) (by decide) aw_t4).mono ?_)
  rintro _ w9 ⟨rfl, hk9, D5, hD5, hn5, hT5⟩
  have z9 := hk9.size
  repeat(first|refine o_nil ?_|(refine o_pass (wants_no rfl rfl rfl ?_) rfl ?_;(focus(first|rfl|assumption|(simp;done)|(simp;omega))))|refine o_pass (wants_not rfl rfl rfl) rfl ?_|(refine o_yes (wants_yes rfl rfl rfl ?_) ?_;(focus(first|rfl|assumption|(simp;done)|(simp;omega))))|refine k_region ?_|(apply k_go;(focus(constructor<;>rfl)))|refine d_nil ?_|(apply o_s;(focus(first|(constructor<;>first|rfl|omega)|(apply Ri.add3<;>first|rfl|omega)|(apply Ri.sub3<;>first|rfl|omega)|(apply Ri.eqb<;>rfl)|(apply Ri.neb<;>rfl)|(apply Ri.pT;(focus rfl);(focus(first|rfl|assumption|(simp;done)|(simp;omega)));(focus rfl))|(apply Ri.pF;(focus rfl);(focus(first|rfl|assumption|(simp;done)|(simp;omega)));(focus rfl))));(focus rfl)))
  refine o_enter (n_call rfl) (wants_none rfl) rfl ((slice_known aw_s5 hT5 (by decide) (by decide)).mono ?_)
  rintro _ w10 ⟨k10, A10, c10, rfl, h10⟩
  have z10 := k10.size
  have h69 := k10.sl (Kp.sl hk9 (Kp.sl hk8 (Kp.sl hk7 h6 (fun k hk hd => by have := hD2 k hd; omega)) (fun k hk hd => by have := hD2 k (hn3 k hk.2 hd); omega)) (fun k hk hd => by have := hD2 k (hn3 k hk.2 (hn4 k (by omega) hd)); omega))
  repeat(first|refine o_nil ?_|(refine o_pass (wants_no rfl rfl rfl ?_) rfl ?_;(focus(first|rfl|assumption|(simp;done)|(simp;omega))))|refine o_pass (wants_not rfl rfl rfl) rfl ?_|(refine o_yes (wants_yes rfl rfl rfl ?_) ?_;(focus(first|rfl|assumption|(simp;done)|(simp;omega))))|refine k_region ?_|(apply k_go;(focus(constructor<;>rfl)))|refine d_nil ?_|(apply o_s;(focus(first|(constructor<;>first|rfl|omega)|(apply Ri.add3<;>first|rfl|omega)|(apply Ri.sub3<;>first|rfl|omega)|(apply Ri.eqb<;>rfl)|(apply Ri.neb<;>rfl)|(apply Ri.pT;(focus rfl);(focus(first|rfl|assumption|(simp;done)|(simp;omega)));(focus rfl))|(apply Ri.pF;(focus rfl);(focus(first|rfl|assumption|(simp;done)|(simp;omega)));(focus rfl))));(focus rfl)))
  refine o_any (e_lit (qs := [(0, .int .i32 98), (1, .int .i32 99)]) (cells := #[.int .i32 98, .int .i32 99]) rfl (by decide) (by kernel_rfl)) (wants_none rfl) rfl ?_
  rintro _ w11 ⟨g11, rfl, nb11⟩
  refine o_enter (n_call rfl) (wants_yes rfl rfl rfl (by first | rfl | assumption | (simp; done) | (simp; omega))) rfl ((runes_calls (nb11.kn.sl h69) (lit2 nb11 (by decide))).mono ?_)
  rintro v12 w12 ⟨k12, hv⟩
  rw [decide_eq_true rfl] at hv
  subst hv
  repeat(first|refine o_nil ?_|(refine o_pass (wants_no rfl rfl rfl ?_) rfl ?_;(focus(first|rfl|assumption|(simp;done)|(simp;omega))))|refine o_pass (wants_not rfl rfl rfl) rfl ?_|(refine o_yes (wants_yes rfl rfl rfl ?_) ?_;(focus(first|rfl|assumption|(simp;done)|(simp;omega))))|refine k_region ?_|(apply k_go;(focus(constructor<;>rfl)))|refine d_nil ?_|(apply o_s;(focus(first|(constructor<;>first|rfl|omega)|(apply Ri.add3<;>first|rfl|omega)|(apply Ri.sub3<;>first|rfl|omega)|(apply Ri.eqb<;>rfl)|(apply Ri.neb<;>rfl)|(apply Ri.pT;(focus rfl);(focus(first|rfl|assumption|(simp;done)|(simp;omega)));(focus rfl))|(apply Ri.pF;(focus rfl);(focus(first|rfl|assumption|(simp;done)|(simp;omega)));(focus rfl))));(focus rfl)))
  refine o_any (e_lit (qs := [(0, .int .i32 121), (1, .int .i32 98), (2, .int .i32 99)]) (cells := #[.int .i32 121, .int .i32 98, .int .i32 99]) rfl (by decide) (by kernel_rfl)) (wants_none rfl) rfl ?_
  rintro _ w13 ⟨g13, rfl, nb13⟩
  have kk13 : Kn w10 w13 := (nb11.kn.trans k12).trans nb13.kn
  have z13 := kk13.size
  refine o_enter (n_call rfl) (wants_yes rfl rfl rfl (by first | rfl | assumption | (simp; done) | (simp; omega))) rfl ((runes_calls (kk13.sl h10) (lit3 nb13 (by decide))).mono ?_)
  rintro v14 w14 ⟨k14, hv⟩
  rw [decide_eq_true rfl] at hv
  subst hv
  have kk14 : Kn w10 w14 := kk13.trans k14
  have z14 := kk14.size
  repeat(first|refine o_nil ?_|(refine o_pass (wants_no rfl rfl rfl ?_) rfl ?_;(focus(first|rfl|assumption|(simp;done)|(simp;omega))))|refine o_pass (wants_not rfl rfl rfl) rfl ?_|(refine o_yes (wants_yes rfl rfl rfl ?_) ?_;(focus(first|rfl|assumption|(simp;done)|(simp;omega))))|refine k_region ?_|(apply k_go;(focus(constructor<;>rfl)))|refine d_nil ?_|(apply o_s;(focus(first|(constructor<;>first|rfl|omega)|(apply Ri.add3<;>first|rfl|omega)|(apply Ri.sub3<;>first|rfl|omega)|(apply Ri.eqb<;>rfl)|(apply Ri.neb<;>rfl)|(apply Ri.pT;(focus rfl);(focus(first|rfl|assumption|(simp;done)|(simp;omega)));(focus rfl))|(apply Ri.pF;(focus rfl);(focus(first|rfl|assumption|(simp;done)|(simp;omega)));(focus rfl))));(focus rfl)))
  refine o_enter (n_call rfl) (wants_none rfl) rfl ((del_solo (W := w) aw_e6 ((hT5.kn k10).kn kk14) (fun k hk => by have := hD5 k hk; omega) (by omega) (by decide) (by decide)).mono ?_)
  rintro _ w15 ⟨rfl, hk15, _⟩
  repeat(first|refine o_nil ?_|(refine o_pass (wants_no rfl rfl rfl ?_) rfl ?_;(focus(first|rfl|assumption|(simp;done)|(simp;omega))))|refine o_pass (wants_not rfl rfl rfl) rfl ?_|(refine o_yes (wants_yes rfl rfl rfl ?_) ?_;(focus(first|rfl|assumption|(simp;done)|(simp;omega))))|refine k_region ?_|(apply k_go;(focus(constructor<;>rfl)))|refine d_nil ?_|(apply o_s;(focus(first|(constructor<;>first|rfl|omega)|(apply Ri.add3<;>first|rfl|omega)|(apply Ri.sub3<;>first|rfl|omega)|(apply Ri.eqb<;>rfl)|(apply Ri.neb<;>rfl)|(apply Ri.pT;(focus rfl);(focus(first|rfl|assumption|(simp;done)|(simp;omega)));(focus rfl))|(apply Ri.pF;(focus rfl);(focus(first|rfl|assumption|(simp;done)|(simp;omega)));(focus rfl))));(focus rfl)))
  refine k_ret1 rfl rfl ⟨rfl, ?_⟩
  have q4 : Kn w w4 := Kp.then ((nb1.kn.trans k2).trans nb3.kn) hk4 (fun _ h => h) fun k hk hd => by have := hD0 k hd; omega
  have q5 : Kn w w5 := Kp.then q4 hk5 (fun _ h => h) fun k hk hd => by have := hD1 k hd; omega
  have q7 : Kn w w7 := Kp.then (q5.trans k6) hk7 (fun _ h => h) fun k hk hd => by have := hD2 k hd; omega
  have q8 : Kn w w8 := Kp.then q7 hk8 (fun _ h => h) fun k hk hd => by have := hD3 k hd; omega
  have q9 : Kn w w9 := Kp.then q8 hk9 (fun _ h => h) fun k hk hd => by have := hD4 k hd; omega
  exact Kp.then ((q9.trans k10).trans kk14) hk15 (fun _ h => h) fun k hk hd => by have := hD5 k hd; omega
end Go.Ink
