/-
  A board: New, Waits, find; SortStableFunc of one.
-/
import Derived.Test.YtbmjcjlenbgpkaaB3
set_option linter.unusedVariables false
set_option linter.unusedSimpArgs false
namespace Go.Ink
open Go Go.Proofs Go.RowKit

/-- A board at block g, all of it in D: its maps, what waits. -/
def IsBd (D : Nat → Prop) (g : Nat) (w : World) (ms : List Mg) (ws : List Int) : Prop := D g ∧ ∃ (vm vw : Value) (Gm Fm Gw : Nat → Prop), w.heap[g]? = some (cb [vm, vw] 60) ∧ Ow kMg Gm Fm w vm ms ∧ Ow kRune Gw (fun _ => False) w vw ws ∧ (∀ k, Gm k → D k ∧ k ≠ g ∧ ¬ Gw k) ∧ (∀ k, Fm k → D k ∧ k ≠ g ∧ ¬ Gw k) ∧ ∀ k, Gw k → D k ∧ k ≠ g
section
variable {D F : Nat → Prop} {g : Nat} {w w' : World} {ms : List Mg} {ws x : List Int} {v : Value}
theorem IsBd.kp {S : Nat → Prop} (h : IsBd D g w ms ws) (hk : Kp S w w') (hs : ∀ k, D k → ¬ S k) : IsBd D g w' ms ws := by
  obtain ⟨h1, vm, vw, Gm, Fm, Gw, h2, h3, h4, h5, h6, h7⟩ := h
  exact ⟨h1, vm, vw, Gm, Fm, Gw, hk.blk h2 (hs g h1), Kp.ow hk h3 (fun k hk => hs k (h5 k hk).1) (fun k hk => hs k (h6 k hk).1), Kp.ow hk h4 (fun k hk => hs k (h7 k hk).1) (fun _ h => h.elim), h5, h6, h7⟩
theorem IsBd.mono {D' : Nat → Prop} (h : IsBd D g w ms ws) (hd : ∀ k, D k → k < w.heap.size → D' k) : IsBd D' g w ms ws := by
  obtain ⟨h1, vm, vw, Gm, Fm, Gw, h2, h3, h4, h5, h6, h7⟩ := h
  exact ⟨hd g h1 (blk_lt h2), vm, vw, fun k => Gm k ∧ k < w.heap.size, fun k => Fm k ∧ k < w.heap.size, fun k => Gw k ∧ k < w.heap.size, h2, h3.mono (fun k hk hl => ⟨hk, hl⟩) (fun k hk hl => ⟨hk, hl⟩), h4.mono (fun k hk hl => ⟨hk, hl⟩) (fun _ h _ => h),
    fun k hk => ⟨hd k (h5 k hk.1).1 hk.2, (h5 k hk.1).2.1, fun h => (h5 k hk.1).2.2 h.1⟩, fun k hk => ⟨hd k (h6 k hk.1).1 hk.2, (h6 k hk.1).2.1, fun h => (h6 k hk.1).2.2 h.1⟩, fun k hk => ⟨hd k (h7 k hk.1).1 hk.2, (h7 k hk.1).2⟩⟩
theorem newB_calls : CallsR Try.prog 10 #[] w fun u w' => Kn w w' ∧ ∃ g, u = .pointer (some ⟨g, 0, none⟩) ∧ IsBd (noB w) g w' [] [] := by
  refine l_enter (args := []) (fun _ => False) Try.func10 rfl rfl ?_
  repeat(first|refine lrun_ ?_|(refine lo_boxA rfl rfl ?_;intro _ _ _)|(refine lo_box1 rfl rfl rfl ?_;intro _ _ _)|(refine lo_alloc rfl ?_;intro _ _ _))
  rename_i g hg _
  exact l_ret1 rfl rfl fun w' hw => ⟨hw.org, g, rfl, by unfold noB; omega, _, _, fun _ => False, fun _ => False, fun _ => False, hw.mem g _ (by(repeat(first|exact MIn.hd|refine MIn.tl ?_));done), Ow.nil _ _ _ _, Ow.nil _ _ _ _, fun _ h => h.elim, fun _ h => h.elim, fun _ h => h.elim⟩
theorem waits_calls (h : IsBd D g w ms ws) : CallsR Try.prog 18 #[.pointer (some ⟨g, 0, none⟩)] w fun u w' => Kn w w' ∧ u = .int .i64 (ws.length : Int) := by
  obtain ⟨h1, vm, vw, Gm, Fm, Gw, h2, h3, h4, h5, h6, h7⟩ := h
  obtain ⟨A, c, rfl, _⟩ := h4.form
  have c1 : w.cell? ⟨g, 1, none⟩ = some (.slice A ws.length c) := blk_cell h2
  refine l_enter (args := [.pointer (some ⟨g, 0, none⟩)]) (fun _ => False) Try.func18 rfl rfl ?_
  repeat(first|refine lrun_ ?_|(refine lo_boxA rfl rfl ?_;intro _ _ _)|(refine lo_box1 rfl rfl rfl ?_;intro _ _ _)|(refine lo_alloc rfl ?_;intro _ _ _))
  refine l_false rfl ?_
  refine l_go .skip ?_
  repeat(first|refine lrun_ ?_|(refine lo_boxA rfl rfl ?_;intro _ _ _)|(refine lo_box1 rfl rfl rfl ?_;intro _ _ _)|(refine lo_alloc rfl ?_;intro _ _ _))
  exact l_ret1 rfl rfl fun w' hw => ⟨hw.org, rfl⟩
theorem waitsN : CallsR Try.prog 18 #[.pointer none] w fun u w' => Kn w w' ∧ u = .int .i64 0 := by
  refine l_enter (args := [.pointer none]) (fun _ => False) Try.func18 rfl rfl ?_
  repeat(first|refine lrun_ ?_|(refine lo_boxA rfl rfl ?_;intro _ _ _)|(refine lo_box1 rfl rfl rfl ?_;intro _ _ _)|(refine lo_alloc rfl ?_;intro _ _ _))
  refine l_true rfl ?_
  repeat(first|refine lrun_ ?_|(refine lo_boxA rfl rfl ?_;intro _ _ _)|(refine lo_box1 rfl rfl rfl ?_;intro _ _ _)|(refine lo_alloc rfl ?_;intro _ _ _))
  exact l_ret1 rfl rfl fun w' hw => ⟨hw.org, rfl⟩
theorem unmapN : CallsR Try.prog 16 #[.pointer none, v] w fun u w' => Kn w w' ∧ u = .int .i64 1 := by
  refine l_enter (args := [.pointer none, v]) (fun _ => False) Try.func16 rfl rfl ?_
  repeat(first|refine lrun_ ?_|(refine lo_boxA rfl rfl ?_;intro _ _ _)|(refine lo_box1 rfl rfl rfl ?_;intro _ _ _)|(refine lo_alloc rfl ?_;intro _ _ _))
  refine l_true rfl ?_
  repeat(first|refine lrun_ ?_|(refine lo_boxA rfl rfl ?_;intro _ _ _)|(refine lo_box1 rfl rfl rfl ?_;intro _ _ _)|(refine lo_alloc rfl ?_;intro _ _ _))
  exact l_ret1 rfl rfl fun w' hw => ⟨hw.org, rfl⟩
theorem mapN {v2 : Value} : CallsR Try.prog 14 #[.pointer none, v, v2] w fun u w' => Kn w w' ∧ u = .int .i64 1 := by
  refine l_enter (args := [.pointer none, v, v2]) (fun _ => False) Try.func14 rfl rfl ?_
  repeat(first|refine lrun_ ?_|(refine lo_boxA rfl rfl ?_;intro _ _ _)|(refine lo_box1 rfl rfl rfl ?_;intro _ _ _)|(refine lo_alloc rfl ?_;intro _ _ _))
  refine l_true rfl ?_
  repeat(first|refine lrun_ ?_|(refine lo_boxA rfl rfl ?_;intro _ _ _)|(refine lo_box1 rfl rfl rfl ?_;intro _ _ _)|(refine lo_alloc rfl ?_;intro _ _ _))
  exact l_ret1 rfl rfl fun w' hw => ⟨hw.org, rfl⟩
theorem pushN {r : Int} : CallsR Try.prog 11 #[.pointer none, .int .i32 r] w fun u w' => Kn w w' ∧ u = .tuple #[.slice none 0 0, .int .i64 1] := by
  refine l_enter (args := [.pointer none, .int .i32 r]) (fun _ => False) Try.func11 rfl rfl ?_
  repeat(first|refine lrun_ ?_|(refine lo_boxA rfl rfl ?_;intro _ _ _)|(refine lo_box1 rfl rfl rfl ?_;intro _ _ _)|(refine lo_alloc rfl ?_;intro _ _ _))
  refine l_true rfl ?_
  repeat(first|refine lrun_ ?_|(refine lo_boxA rfl rfl ?_;intro _ _ _)|(refine lo_box1 rfl rfl rfl ?_;intro _ _ _)|(refine lo_alloc rfl ?_;intro _ _ _))
  exact l_retR2 rfl (by repeat(first|exact LRes.nil|refine LRes.tmp rfl ?_|refine LRes.agg rfl (by(repeat(first|exact MIn.hd|refine MIn.tl ?_));done) (by rfl) (by rfl) ?_|refine LRes.one rfl (by(repeat(first|exact MIn.hd|refine MIn.tl ?_));done) (by rfl) ?_)) fun w' hw => ⟨hw.org, rfl⟩
abbrev hasM (x : List Int) (m : Mg) : Bool := decide (m.1 = x)
theorem find_calls {vm : Value} {G : Nat → Prop} (hc : w.cell? ⟨g, 0, none⟩ = some vm) (h : Sl kMg G w vm ms) (hx : Sl kRune F w v x) : CallsR Try.prog 34 #[.pointer (some ⟨g, 0, none⟩), v] w fun u w' => Kn w w' ∧ u = idxW (ms.findIdx? (hasM x)) := by
  obtain ⟨A, c, rfl, _⟩ := hx.form
  refine l_enter (args := [.pointer (some ⟨g, 0, none⟩), .slice A x.length c]) (fun _ => False) Try.func34 rfl rfl ?_
  repeat(first|refine lrun_ ?_|(refine lo_boxA rfl rfl ?_;intro _ _ _)|(refine lo_box1 rfl rfl rfl ?_;intro _ _ _)|(refine lo_alloc rfl ?_;intro _ _ _))
  rename_i g3 _ _
  refine lo_call (n_call rfl) rfl (fun w' hw => indexM_calls (cap := [.pointer (some ⟨g3, 0, none⟩)]) (P := hasM x) (Kn.sl hw.org h) fun w'' hk m v1 v2 h1 h2 => findC_calls h1 (hk.blk (hw.mem g3 _ .hd) id) (Kn.sl hk (Kn.sl hw.org hx))) ?_
  repeat(first|refine lrun_ ?_|(refine lo_boxA rfl rfl ?_;intro _ _ _)|(refine lo_box1 rfl rfl rfl ?_;intro _ _ _)|(refine lo_alloc rfl ?_;intro _ _ _))
  exact l_ret1 rfl rfl fun w' hw => ⟨hw.org, rfl⟩
/-- Of one there is nothing to sort. -/
theorem sort1_calls {A : Option Addr} {n c : Nat} {f : Value} (hn : n ≤ 1) : CallsR Try.prog 35 #[.slice A n c, f] w fun u w' => Kn w w' ∧ u = .tuple #[] := by
  have ins : ∀ w : World, CallsR Try.prog 51 #[.slice A n c, .int .i64 0, .int .i64 (n : Int), f] w fun u w' => Kn w w' ∧ u = .tuple #[] := by
    intro w
    refine l_enter (args := [.slice A n c, .int .i64 0, .int .i64 (n : Int), f]) (fun _ => False) Try.func51 rfl rfl ?_
    repeat(first|refine lrun_ ?_|(refine lo_boxA rfl rfl ?_;intro _ _ _)|(refine lo_box1 rfl rfl rfl ?_;intro _ _ _)|(refine lo_alloc rfl ?_;intro _ _ _))
    refine l_while (fun _ : Unit => 0) (fun _ => [(2, .int .i64 (n : Int)), (8, .int .i64 1)]) (fun _ => []) (fun _ => True) () (by repeat (first | exact SubB.nil | refine SubB.cons rfl ?_)) (by repeat(first|exact MSub.refl|refine MSub.keep rfl ?_|exact MSub.nil|apply MSub.drop)) trivial ?_
    rintro _ _ ih
    repeat(first|refine lrun_ ?_|(refine lo_boxA rfl rfl ?_;intro _ _ _)|(refine lo_box1 rfl rfl rfl ?_;intro _ _ _)|(refine lo_alloc rfl ?_;intro _ _ _))
    refine l_no rfl (by omega) ?_
    refine l_go (.exit rfl) ?_
    repeat(first|refine lrun_ ?_|(refine lo_boxA rfl rfl ?_;intro _ _ _)|(refine lo_box1 rfl rfl rfl ?_;intro _ _ _)|(refine lo_alloc rfl ?_;intro _ _ _))
    exact l_end0 rfl fun w' hw => ⟨hw.org, rfl⟩
  have stb : ∀ w : World, CallsR Try.prog 49 #[.slice A n c, .int .i64 (n : Int), f] w fun u w' => Kn w w' ∧ u = .tuple #[] := by
    intro w
    refine l_enter (args := [.slice A n c, .int .i64 (n : Int), f]) (fun _ => False) Try.func49 rfl rfl ?_
    repeat(first|refine lrun_ ?_|(refine lo_boxA rfl rfl ?_;intro _ _ _)|(refine lo_box1 rfl rfl rfl ?_;intro _ _ _)|(refine lo_alloc rfl ?_;intro _ _ _))
    refine l_while (fun _ : Unit => 0) (fun _ => [(0, .slice A n c), (1, .int .i64 (n : Int)), (2, f), (6, .int .i64 20), (7, .int .i64 0), (8, .int .i64 20)]) (fun _ => []) (fun _ => True) () (by repeat (first | exact SubB.nil | refine SubB.cons rfl ?_)) (by repeat(first|exact MSub.refl|refine MSub.keep rfl ?_|exact MSub.nil|apply MSub.drop)) trivial ?_
    rintro _ _ ih
    repeat(first|refine lrun_ ?_|(refine lo_boxA rfl rfl ?_;intro _ _ _)|(refine lo_box1 rfl rfl rfl ?_;intro _ _ _)|(refine lo_alloc rfl ?_;intro _ _ _))
    refine l_no rfl (by omega) ?_
    refine l_go (.exit rfl) ?_
    repeat(first|refine lrun_ ?_|(refine lo_boxA rfl rfl ?_;intro _ _ _)|(refine lo_box1 rfl rfl rfl ?_;intro _ _ _)|(refine lo_alloc rfl ?_;intro _ _ _))
    refine lo_call (n_call rfl) rfl (fun w' hw => ins w') ?_
    repeat(first|refine lrun_ ?_|(refine lo_boxA rfl rfl ?_;intro _ _ _)|(refine lo_box1 rfl rfl rfl ?_;intro _ _ _)|(refine lo_alloc rfl ?_;intro _ _ _))
    refine l_while (fun _ : Unit => 0) (fun _ => [(1, .int .i64 (n : Int)), (6, .int .i64 20)]) (fun _ => []) (fun _ => True) () (by repeat (first | exact SubB.nil | refine SubB.cons rfl ?_)) (by repeat(first|exact MSub.refl|refine MSub.keep rfl ?_|exact MSub.nil|apply MSub.drop)) trivial ?_
    rintro _ _ ih2
    repeat(first|refine lrun_ ?_|(refine lo_boxA rfl rfl ?_;intro _ _ _)|(refine lo_box1 rfl rfl rfl ?_;intro _ _ _)|(refine lo_alloc rfl ?_;intro _ _ _))
    refine l_no rfl (by omega) ?_
    refine l_go (.exit rfl) ?_
    repeat(first|refine lrun_ ?_|(refine lo_boxA rfl rfl ?_;intro _ _ _)|(refine lo_box1 rfl rfl rfl ?_;intro _ _ _)|(refine lo_alloc rfl ?_;intro _ _ _))
    exact l_end0 rfl fun w' hw => ⟨hw.org, rfl⟩
  refine l_enter (args := [.slice A n c, f]) (fun _ => False) Try.func35 rfl rfl ?_
  repeat(first|refine lrun_ ?_|(refine lo_boxA rfl rfl ?_;intro _ _ _)|(refine lo_box1 rfl rfl rfl ?_;intro _ _ _)|(refine lo_alloc rfl ?_;intro _ _ _))
  refine lo_call (n_call rfl) rfl (fun w' hw => stb w') ?_
  repeat(first|refine lrun_ ?_|(refine lo_boxA rfl rfl ?_;intro _ _ _)|(refine lo_box1 rfl rfl rfl ?_;intro _ _ _)|(refine lo_alloc rfl ?_;intro _ _ _))
  exact l_end0 rfl fun w' hw => ⟨hw.org, rfl⟩
end
end Go.Ink
