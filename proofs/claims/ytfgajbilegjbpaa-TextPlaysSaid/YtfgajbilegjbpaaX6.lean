/-
  The text in memory; New, Count, Runes, Line, Offset, Place.
-/
import Derived.Test.YtfgajbilegjbpaaXA
set_option linter.unusedVariables false
set_option linter.unusedSimpArgs false
namespace Go.Ink
open Go Go.Proofs Go.RowKit

theorem split1 {l : List (List Int)} {i : Nat} (hi : i < l.length) : l = l.take i ++ [l.getD i []] ++ l.drop (i + 1) := by
  rw [List.getD_eq_getElem?_getD, List.getElem?_eq_getElem hi]
  simp
theorem jnd_line {l : List (List Int)} {i : Nat} (hi : i < l.length) : ((jndM l).drop (ofs l i)).take (l.getD i []).length = l.getD i [] := by
  have e := split1 hi
  conv => lhs; rw [show jndM l = jndM (l.take i ++ [l.getD i []] ++ l.drop (i + 1)) by rw [← e]]
  rw [jnd_mid, ← pre_ofs l i (by omega), List.append_assoc, List.drop_left, List.take_left]
/-- What a text leads to. -/
structure TxP (D : Nat → Prop) (g : Nat) (w : World) (L : List (List Int)) (gt : Nat) (T : PTab) (vb : Value) (gs : List (List (List Int))) (Dt Db : Nat → Prop) : Prop where
  ge : D g
  hb : w.heap[g]? = some (cb [.pointer (some ⟨gt, 0, none⟩), vb, .int .i64 (L.length : Int)] 73)
  tab : IsTab Dt gt w T
  dt : ∀ k, Dt k → D k ∧ k ≠ g
  ix : Sl kBlk Db w vb (gs.map blkOf)
  db : ∀ k, Db k → D k ∧ k ≠ g ∧ ¬ Dt k
  fl : flat T.store T.row = jndM L
  gl : gs.flatten = L
  ne : NeB gs
  pl : ∀ l ∈ L, 10 ∉ l
  ln : L ≠ []
/-- A text of lines L at block g: all that it leads to lies in D; no more than b runes were ever put in. -/
def IsTxt (D : Nat → Prop) (g : Nat) (w : World) (L : List (List Int)) (b : Nat) : Prop := ∃ gt T vb gs Dt Db, TxP D g w L gt T vb gs Dt Db ∧ T.store.length ≤ b
section
variable {D : Nat → Prop} {g : Nat} {w w' : World} {L : List (List Int)} {gt : Nat} {T : PTab} {vb : Value} {gs : List (List (List Int))} {Dt Db : Nat → Prop} {b : Nat}
theorem TxP.kp {S : Nat → Prop} (h : TxP D g w L gt T vb gs Dt Db) (hk : Kp S w w') (hs : ∀ k, D k → ¬ S k) : TxP D g w' L gt T vb gs Dt Db :=
  ⟨h.ge, hk.blk h.hb (hs g h.ge), h.tab.kp hk fun k hk => hs k (h.dt k hk).1, h.dt, Kp.sl hk h.ix fun k hk => hs k (h.db k hk).1, h.db, h.fl, h.gl, h.ne, h.pl, h.ln⟩
theorem IsTxt.kp {S : Nat → Prop} (h : IsTxt D g w L b) (hk : Kp S w w') (hs : ∀ k, D k → ¬ S k) : IsTxt D g w' L b := by
  obtain ⟨gt, T, vb, gs, Dt, Db, h1, h2⟩ := h
  exact ⟨gt, T, vb, gs, Dt, Db, h1.kp hk hs, h2⟩
theorem IsTxt.kn (h : IsTxt D g w L b) (hk : Kn w w') : IsTxt D g w' L b := h.kp hk fun _ _ h => h
theorem TxP.len (h : TxP D g w L gt T vb gs Dt Db) : ((jndM L).length : Int) = tot T.row ∧ sumN L = (jndM L).length + 1 ∧ (jndM L).length ≤ 65536 := by
  obtain ⟨vs, vr, vv, hT⟩ := h.tab
  have h1 := flat_len hT.ok
  rw [h.fl] at h1
  have h2 := hT.small
  have h3 := jnd_len L
  have h4 := List.length_pos_iff.2 h.ln
  refine ⟨h1, by unfold sumN; omega, by omega⟩
theorem IsTxt.bound (h : IsTxt D g w L b) : sumN L = (jndM L).length + 1 ∧ (jndM L).length ≤ 65536 := by
  obtain ⟨gt, T, vb, gs, Dt, Db, h1, h2⟩ := h
  exact h1.len.2
theorem IsTxt.facts (h : IsTxt D g w L b) : (∀ l ∈ L, 10 ∉ l) ∧ L ≠ [] ∧ D g ∧ g < w.heap.size := by
  obtain ⟨gt, T, vb, gs, Dt, Db, h1, h2⟩ := h
  exact ⟨h1.pl, h1.ln, h1.ge, blk_lt h1.hb⟩
theorem IsTxt.mono {D' : Nat → Prop} (h : IsTxt D g w L b) (hd : ∀ k, D k → k < w.heap.size → D' k) : IsTxt D' g w L b := by
  obtain ⟨gt, T, vb, gs, Dt, Db, h1, h2⟩ := h
  exact ⟨gt, T, vb, gs, fun k => Dt k ∧ k < w.heap.size, fun k => Db k ∧ k < w.heap.size, ⟨hd g h1.ge (blk_lt h1.hb), h1.hb, h1.tab.mono fun k hk hl => ⟨hk, hl⟩, fun k hk => ⟨hd k (h1.dt k hk.1).1 hk.2, (h1.dt k hk.1).2⟩, h1.ix.mono fun k hk hl => ⟨hk, hl⟩, fun k hk => ⟨hd k (h1.db k hk.1).1 hk.2, (h1.db k hk.1).2.1, fun h => (h1.db k hk.1).2.2 h.1⟩, h1.fl, h1.gl, h1.ne, h1.pl, h1.ln⟩, h2⟩
theorem IsTxt.more {b' : Nat} (h : IsTxt D g w L b) (hb : b ≤ b') : IsTxt D g w L b' := by
  obtain ⟨gt, T, vb, gs, Dt, Db, h1, h2⟩ := h
  exact ⟨gt, T, vb, gs, Dt, Db, h1, by omega⟩
end
section
variable {D : Nat → Prop} {g : Nat} {w w' : World} {L : List (List Int)} {b : Nat}
theorem count_calls (h : IsTxt D g w L b) : CallsR Try.prog 16 #[.pointer (some ⟨g, 0, none⟩)] w fun u w' => Kn w w' ∧ u = .int .i64 (L.length : Int) := by
  obtain ⟨gt, T, vb, gs, Dt, Db, h1, h2⟩ := h
  have c2 : w.cell? ⟨g, 2, none⟩ = some (.int .i64 (L.length : Int)) := blk_cell h1.hb
  refine l_enter (fun _ => False) Try.func16 rfl rfl ?_
  repeat(first|refine lrun_ ?_|(refine lo_boxA rfl rfl ?_;intro _ _ _)|(refine lo_box1 rfl rfl rfl ?_;intro _ _ _)|(refine lo_alloc rfl ?_;intro _ _ _))
  refine l_false rfl ?_
  refine l_go .skip ?_
  repeat(first|refine lrun_ ?_|(refine lo_boxA rfl rfl ?_;intro _ _ _)|(refine lo_box1 rfl rfl rfl ?_;intro _ _ _)|(refine lo_alloc rfl ?_;intro _ _ _))
  exact l_ret1 rfl rfl fun w' hw => ⟨hw.org, rfl⟩
theorem runesT_calls (h : IsTxt D g w L b) : CallsR Try.prog 13 #[.pointer (some ⟨g, 0, none⟩)] w fun u w' => Kn w w' ∧ u = .int .i64 ((jndM L).length : Int) := by
  obtain ⟨gt, T, vb, gs, Dt, Db, h1, h2⟩ := h
  have c0 : w.cell? ⟨g, 0, none⟩ = some (.pointer (some ⟨gt, 0, none⟩)) := blk_cell h1.hb
  refine l_enter (fun _ => False) Try.func13 rfl rfl ?_
  repeat(first|refine lrun_ ?_|(refine lo_boxA rfl rfl ?_;intro _ _ _)|(refine lo_box1 rfl rfl rfl ?_;intro _ _ _)|(refine lo_alloc rfl ?_;intro _ _ _))
  refine l_false rfl ?_
  refine l_go .skip ?_
  repeat(first|refine lrun_ ?_|(refine lo_boxA rfl rfl ?_;intro _ _ _)|(refine lo_box1 rfl rfl rfl ?_;intro _ _ _)|(refine lo_alloc rfl ?_;intro _ _ _))
  refine lo_callP (n_call rfl) rfl (fun w' hw => len_calls (h1.tab.kn hw.org)) ?_
  repeat(first|refine lrun_ ?_|(refine lo_boxA rfl rfl ?_;intro _ _ _)|(refine lo_box1 rfl rfl rfl ?_;intro _ _ _)|(refine lo_alloc rfl ?_;intro _ _ _))
  exact l_ret1 rfl rfl fun w' hw => ⟨hw.org, by rw [h1.len.1]⟩
set_option maxHeartbeats 4000000 in
theorem line_calls {i : Int} (h : IsTxt D g w L b) (hi : -9223372036854775808 ≤ i ∧ i ≤ 9223372036854775807) : CallsR Try.prog 27 #[.pointer (some ⟨g, 0, none⟩), .int .i64 i] w fun u w' => Kn w w' ∧ ∃ v, u = .tuple #[v, .int .i64 (if 0 ≤ i ∧ i < L.length then 0 else 2)] ∧ Ow kRune (noB w) (fun _ => False) w' v (if 0 ≤ i ∧ i < L.length then L.getD i.toNat [] else []) := by
  obtain ⟨gt, T, vb, gs, Dt, Db, h1, h2⟩ := h
  have c0 : w.cell? ⟨g, 0, none⟩ = some (.pointer (some ⟨gt, 0, none⟩)) := blk_cell h1.hb
  have c1 : w.cell? ⟨g, 1, none⟩ = some vb := blk_cell h1.hb
  have c2 : w.cell? ⟨g, 2, none⟩ = some (.int .i64 (L.length : Int)) := blk_cell h1.hb
  obtain ⟨hl1, hl2, hl3⟩ := h1.len
  refine l_enter (fun _ => False) Try.func27 rfl rfl ?_
  repeat(first|refine lrun_ ?_|(refine lo_boxA rfl rfl ?_;intro _ _ _)|(refine lo_box1 rfl rfl rfl ?_;intro _ _ _)|(refine lo_alloc rfl ?_;intro _ _ _))
  refine l_false rfl ?_
  refine l_go .skip ?_
  by_cases h0 : 0 ≤ i ∧ i < L.length
  case neg =>
    rw [if_neg h0, if_neg h0]
    by_cases h3 : i < 0
    · repeat(first|refine lrun_ ?_|(refine lo_boxA rfl rfl ?_;intro _ _ _)|(refine lo_box1 rfl rfl rfl ?_;intro _ _ _)|(refine lo_alloc rfl ?_;intro _ _ _))
      refine l_true rfl ?_
      repeat(first|refine lrun_ ?_|(refine lo_boxA rfl rfl ?_;intro _ _ _)|(refine lo_box1 rfl rfl rfl ?_;intro _ _ _)|(refine lo_alloc rfl ?_;intro _ _ _))
      exact l_retR2 rfl (by repeat(first|exact LRes.nil|refine LRes.tmp rfl ?_|refine LRes.agg rfl (by(repeat(first|exact MIn.hd|refine MIn.tl ?_));done) (by rfl) (by rfl) ?_|refine LRes.one rfl (by(repeat(first|exact MIn.hd|refine MIn.tl ?_));done) (by rfl) ?_)) fun w' hw => ⟨hw.org, _, rfl, Ow.nil _ _ _ _⟩
    · repeat(first|refine lrun_ ?_|(refine lo_boxA rfl rfl ?_;intro _ _ _)|(refine lo_box1 rfl rfl rfl ?_;intro _ _ _)|(refine lo_alloc rfl ?_;intro _ _ _))
      refine l_yes rfl (by omega) ?_
      repeat(first|refine lrun_ ?_|(refine lo_boxA rfl rfl ?_;intro _ _ _)|(refine lo_box1 rfl rfl rfl ?_;intro _ _ _)|(refine lo_alloc rfl ?_;intro _ _ _))
      exact l_retR2 rfl (by repeat(first|exact LRes.nil|refine LRes.tmp rfl ?_|refine LRes.agg rfl (by(repeat(first|exact MIn.hd|refine MIn.tl ?_));done) (by rfl) (by rfl) ?_|refine LRes.one rfl (by(repeat(first|exact MIn.hd|refine MIn.tl ?_));done) (by rfl) ?_)) fun w' hw => ⟨hw.org, _, rfl, Ow.nil _ _ _ _⟩
  rw [if_pos h0, if_pos h0]
  obtain ⟨n, rfl⟩ : ∃ n : Nat, i = (n : Int) := ⟨i.toNat, by omega⟩
  have hn : n < L.length := by omega
  rw [Int.toNat_natCast]
  repeat(first|refine lrun_ ?_|(refine lo_boxA rfl rfl ?_;intro _ _ _)|(refine lo_box1 rfl rfl rfl ?_;intro _ _ _)|(refine lo_alloc rfl ?_;intro _ _ _))
  refine l_no rfl (by omega) ?_
  refine l_go .skip ?_
  repeat(first|refine lrun_ ?_|(refine lo_boxA rfl rfl ?_;intro _ _ _)|(refine lo_box1 rfl rfl rfl ?_;intro _ _ _)|(refine lo_alloc rfl ?_;intro _ _ _))
  have hgl := h1.gl
  subst hgl
  refine lo_call (n_call rfl) rfl (fun w' hw => start_calls (hw.org.cell c1 id) (Kn.sl hw.org h1.ix) (by omega) hn) ?_
  have hol := ofs_lt hn
  repeat(first|refine lrun_ ?_|(refine lo_boxA rfl rfl ?_;intro _ _ _)|(refine lo_box1 rfl rfl rfl ?_;intro _ _ _)|(refine lo_alloc rfl ?_;intro _ _ _))
  refine lo_callM (n_call rfl) rfl (fun w' hw => slice_calls (h1.tab.kn hw.org) (by omega) (by omega)) ?_
  rintro w1 u w2 hw1 kn1 ko1 ⟨v, rfl, hv⟩
  have hsl : sliceM T (ofs gs.flatten n : Nat) ((gs.flatten.getD n []).length : Nat) = (gs.flatten.getD n [], 0) := by
    unfold sliceM
    rw [if_pos (fit_zero.2 ⟨by omega, by omega, by omega⟩), h1.fl, Int.toNat_natCast, Int.toNat_natCast, jnd_line hn]
  rw [hsl] at hv ⊢
  repeat(first|refine lrun_ ?_|(refine lo_boxA rfl rfl ?_;intro _ _ _)|(refine lo_box1 rfl rfl rfl ?_;intro _ _ _)|(refine lo_alloc rfl ?_;intro _ _ _))
  refine l_retR2 rfl (by repeat(first|exact LRes.nil|refine LRes.tmp rfl ?_|refine LRes.agg rfl (by(repeat(first|exact MIn.hd|refine MIn.tl ?_));done) (by rfl) (by rfl) ?_|refine LRes.one rfl (by(repeat(first|exact MIn.hd|refine MIn.tl ?_));done) (by rfl) ?_)) fun w' hw => ⟨hw.org, _, rfl, ?_⟩
  have hs1 := hw1.org.size
  exact (hw.owN hv fun k hm => (mk_nil hm).elim).mono (fun k hk _ => by unfold noB at *; omega) fun k hk _ => hk
set_option maxHeartbeats 4000000 in
theorem offsetT_calls {p : Ps} (h : IsTxt D g w L b) (hp : P64 p) :
    CallsR Try.prog 15 #[.pointer (some ⟨g, 0, none⟩), posV p] w fun u w' => Kn w w' ∧ u = .tuple #[.int .i64 (if thereP L p then p.2 + (ofs L p.1.toNat : Nat) else 0), .int .i64 (if thereP L p then 0 else 2)] := by
  obtain ⟨gt, T, vb, gs, Dt, Db, h1, h2⟩ := h
  have c0 : w.cell? ⟨g, 0, none⟩ = some (.pointer (some ⟨gt, 0, none⟩)) := blk_cell h1.hb
  have c1 : w.cell? ⟨g, 1, none⟩ = some vb := blk_cell h1.hb
  have c2 : w.cell? ⟨g, 2, none⟩ = some (.int .i64 (L.length : Int)) := blk_cell h1.hb
  obtain ⟨hl1, hl2, hl3⟩ := h1.len
  refine l_enter (fun _ => False) Try.func15 rfl rfl ?_
  repeat(first|refine lrun_ ?_|(refine lo_boxA rfl rfl ?_;intro _ _ _)|(refine lo_box1 rfl rfl rfl ?_;intro _ _ _)|(refine lo_alloc rfl ?_;intro _ _ _))
  refine l_false rfl ?_
  refine l_go .skip ?_
  obtain ⟨p1, p2⟩ := p
  obtain ⟨⟨hp1, hp2⟩, hp3, hp4⟩ := hp
  simp only at hp1 hp2 hp3 hp4 ⊢
  by_cases h3 : p1 < 0
  · have ht : ¬ thereP L (p1, p2) := fun h => by have := h.1; simp only at this; omega
    rw [if_neg ht, if_neg ht]
    repeat(first|refine lrun_ ?_|(refine lo_boxA rfl rfl ?_;intro _ _ _)|(refine lo_box1 rfl rfl rfl ?_;intro _ _ _)|(refine lo_alloc rfl ?_;intro _ _ _))
    refine l_draw [(0, 0), (1, 0), (2, 0), (3, 0), (4, 0), (5, 0), (6, 0), (7, 0), (8, 0), (9, 0), (10, 0), (11, 0), (12, 0), (13, 0), (14, 0), (15, 0), (16, 0), (17, 0)] (by kernel_rfl) (by kernel_rfl) rfl (by kernel_rfl) ?_
    repeat(first|refine lrund_ ?_|(refine ld_open rfl ?_;first|(refine ld_boxA rfl wy_ rfl ?_;intro _ _ _)|(refine ld_box1 rfl rfl wy_ rfl ?_;intro _ _ _)|(refine ld_alloc wy_ rfl ?_;intro _ _ _)))
    refine l_true rfl ?_
    repeat(first|refine lrun_ ?_|(refine lo_boxA rfl rfl ?_;intro _ _ _)|(refine lo_box1 rfl rfl rfl ?_;intro _ _ _)|(refine lo_alloc rfl ?_;intro _ _ _))
    exact l_retR2 rfl (by repeat(first|exact LRes.nil|refine LRes.tmp rfl ?_|refine LRes.agg rfl (by(repeat(first|exact MIn.hd|refine MIn.tl ?_));done) (by rfl) (by rfl) ?_|refine LRes.one rfl (by(repeat(first|exact MIn.hd|refine MIn.tl ?_));done) (by rfl) ?_)) fun w' hw => ⟨hw.org, rfl⟩
  by_cases h4 : (L.length : Int) ≤ p1
  · have ht : ¬ thereP L (p1, p2) := fun h => by have := h.2.1; simp only at this; omega
    rw [if_neg ht, if_neg ht]
    repeat(first|refine lrun_ ?_|(refine lo_boxA rfl rfl ?_;intro _ _ _)|(refine lo_box1 rfl rfl rfl ?_;intro _ _ _)|(refine lo_alloc rfl ?_;intro _ _ _))
    refine l_draw [(0, 0), (1, 0), (2, 0), (3, 0), (4, 0), (5, 0), (6, 0), (7, 0), (8, 0), (9, 0), (10, 0), (11, 0), (12, 0), (13, 0), (14, 0), (15, 0), (16, 0), (17, 0)] (by kernel_rfl) (by kernel_rfl) rfl (by kernel_rfl) ?_
    repeat(first|refine lrund_ ?_|(refine ld_open rfl ?_;first|(refine ld_boxA rfl wy_ rfl ?_;intro _ _ _)|(refine ld_box1 rfl rfl wy_ rfl ?_;intro _ _ _)|(refine ld_alloc wy_ rfl ?_;intro _ _ _)))
    refine l_true rfl ?_
    repeat(first|refine lrun_ ?_|(refine lo_boxA rfl rfl ?_;intro _ _ _)|(refine lo_box1 rfl rfl rfl ?_;intro _ _ _)|(refine lo_alloc rfl ?_;intro _ _ _))
    exact l_retR2 rfl (by repeat(first|exact LRes.nil|refine LRes.tmp rfl ?_|refine LRes.agg rfl (by(repeat(first|exact MIn.hd|refine MIn.tl ?_));done) (by rfl) (by rfl) ?_|refine LRes.one rfl (by(repeat(first|exact MIn.hd|refine MIn.tl ?_));done) (by rfl) ?_)) fun w' hw => ⟨hw.org, rfl⟩
  by_cases h5 : p2 < 0
  · have ht : ¬ thereP L (p1, p2) := fun h => by have := h.2.2.1; simp only at this; omega
    rw [if_neg ht, if_neg ht]
    repeat(first|refine lrun_ ?_|(refine lo_boxA rfl rfl ?_;intro _ _ _)|(refine lo_box1 rfl rfl rfl ?_;intro _ _ _)|(refine lo_alloc rfl ?_;intro _ _ _))
    refine l_draw [(0, 0), (1, 0), (2, 0), (3, 0), (4, 0), (5, 0), (6, 0), (7, 0), (8, 0), (9, 0), (10, 0), (11, 0), (12, 0), (13, 0), (14, 0), (15, 0), (16, 0), (17, 0)] (by kernel_rfl) (by kernel_rfl) rfl (by kernel_rfl) ?_
    repeat(first|refine lrund_ ?_|(refine ld_open rfl ?_;first|(refine ld_boxA rfl wy_ rfl ?_;intro _ _ _)|(refine ld_box1 rfl rfl wy_ rfl ?_;intro _ _ _)|(refine ld_alloc wy_ rfl ?_;intro _ _ _)))
    refine l_yes rfl (by omega) ?_
    repeat(first|refine lrun_ ?_|(refine lo_boxA rfl rfl ?_;intro _ _ _)|(refine lo_box1 rfl rfl rfl ?_;intro _ _ _)|(refine lo_alloc rfl ?_;intro _ _ _))
    exact l_retR2 rfl (by repeat(first|exact LRes.nil|refine LRes.tmp rfl ?_|refine LRes.agg rfl (by(repeat(first|exact MIn.hd|refine MIn.tl ?_));done) (by rfl) (by rfl) ?_|refine LRes.one rfl (by(repeat(first|exact MIn.hd|refine MIn.tl ?_));done) (by rfl) ?_)) fun w' hw => ⟨hw.org, rfl⟩
  obtain ⟨n, rfl⟩ : ∃ n : Nat, p1 = (n : Int) := ⟨p1.toNat, by omega⟩
  have hn : n < L.length := by omega
  have hgl := h1.gl
  subst hgl
  have hol := ofs_lt hn
  repeat(first|refine lrun_ ?_|(refine lo_boxA rfl rfl ?_;intro _ _ _)|(refine lo_box1 rfl rfl rfl ?_;intro _ _ _)|(refine lo_alloc rfl ?_;intro _ _ _))
  refine l_draw [(0, 0), (1, 0), (2, 0), (3, 0), (4, 0), (5, 0), (6, 0), (7, 0), (8, 0), (9, 0), (10, 0), (11, 0), (12, 0), (13, 0), (14, 0), (15, 0), (16, 0), (17, 0)] (by kernel_rfl) (by kernel_rfl) rfl (by kernel_rfl) ?_
  repeat(first|refine lrund_ ?_|(refine ld_open rfl ?_;first|(refine ld_boxA rfl wy_ rfl ?_;intro _ _ _)|(refine ld_box1 rfl rfl wy_ rfl ?_;intro _ _ _)|(refine ld_alloc wy_ rfl ?_;intro _ _ _)))
  refine l_no rfl (by omega) ?_
  refine l_go .skip ?_
  repeat(first|refine lrun_ ?_|(refine lo_boxA rfl rfl ?_;intro _ _ _)|(refine lo_box1 rfl rfl rfl ?_;intro _ _ _)|(refine lo_alloc rfl ?_;intro _ _ _))
  refine l_draw [(0, 0), (1, 0), (2, 0), (3, 0), (4, 0), (5, 1), (6, 0), (7, 0), (8, 0), (9, 0), (10, 0)] (by kernel_rfl) (by kernel_rfl) rfl (by kernel_rfl) ?_
  repeat(first|refine lrund_ ?_|(refine ld_open rfl ?_;first|(refine ld_boxA rfl wy_ rfl ?_;intro _ _ _)|(refine ld_box1 rfl rfl wy_ rfl ?_;intro _ _ _)|(refine ld_alloc wy_ rfl ?_;intro _ _ _)))
  refine ld_open rfl ?_; refine ld_call (n_call rfl) wy_ rfl (fun w' hw => start_calls (hw.org.cell c1 id) (Kn.sl hw.org h1.ix) (by omega) hn) ?_
  repeat(first|refine lrund_ ?_|(refine ld_open rfl ?_;first|(refine ld_boxA rfl wy_ rfl ?_;intro _ _ _)|(refine ld_box1 rfl rfl wy_ rfl ?_;intro _ _ _)|(refine ld_alloc wy_ rfl ?_;intro _ _ _)))
  by_cases h6 : ((gs.flatten.getD n []).length : Int) < p2
  · have ht : ¬ thereP gs.flatten ((n : Int), p2) := fun h => by have := h.2.2.2; simp only [Int.toNat_natCast] at this; omega
    rw [if_neg ht, if_neg ht]
    repeat(first|refine lrun_ ?_|(refine lo_boxA rfl rfl ?_;intro _ _ _)|(refine lo_box1 rfl rfl rfl ?_;intro _ _ _)|(refine lo_alloc rfl ?_;intro _ _ _))
    refine l_yes rfl (by omega) ?_
    repeat(first|refine lrun_ ?_|(refine lo_boxA rfl rfl ?_;intro _ _ _)|(refine lo_box1 rfl rfl rfl ?_;intro _ _ _)|(refine lo_alloc rfl ?_;intro _ _ _))
    exact l_retR2 rfl (by repeat(first|exact LRes.nil|refine LRes.tmp rfl ?_|refine LRes.agg rfl (by(repeat(first|exact MIn.hd|refine MIn.tl ?_));done) (by rfl) (by rfl) ?_|refine LRes.one rfl (by(repeat(first|exact MIn.hd|refine MIn.tl ?_));done) (by rfl) ?_)) fun w' hw => ⟨hw.org, rfl⟩
  · have ht : thereP gs.flatten ((n : Int), p2) := ⟨by omega, by omega, by omega, by simp only [Int.toNat_natCast]; omega⟩
    rw [if_pos ht, if_pos ht]
    repeat(first|refine lrun_ ?_|(refine lo_boxA rfl rfl ?_;intro _ _ _)|(refine lo_box1 rfl rfl rfl ?_;intro _ _ _)|(refine lo_alloc rfl ?_;intro _ _ _))
    refine l_no rfl (by omega) ?_
    refine l_go .skip ?_
    repeat(first|refine lrun_ ?_|(refine lo_boxA rfl rfl ?_;intro _ _ _)|(refine lo_box1 rfl rfl rfl ?_;intro _ _ _)|(refine lo_alloc rfl ?_;intro _ _ _))
    exact l_retR2 rfl (by repeat(first|exact LRes.nil|refine LRes.tmp rfl ?_|refine LRes.agg rfl (by(repeat(first|exact MIn.hd|refine MIn.tl ?_));done) (by rfl) (by rfl) ?_|refine LRes.one rfl (by(repeat(first|exact MIn.hd|refine MIn.tl ?_));done) (by rfl) ?_)) fun w' hw => ⟨hw.org, by simp only [Int.toNat_natCast]; rw [Int.add_comm]⟩
set_option maxHeartbeats 4000000 in
theorem place_calls {n : Int} (h : IsTxt D g w L b) (hn : -9223372036854775808 ≤ n ∧ n ≤ 9223372036854775807) :
    CallsR Try.prog 14 #[.pointer (some ⟨g, 0, none⟩), .int .i64 n] w fun u w' => Kn w w' ∧ ((¬ (0 ≤ n ∧ n ≤ (jndM L).length) ∧ u = .tuple #[posV (0, 0), .int .i64 2]) ∨ ∃ i c : Nat, i < L.length ∧ c ≤ (L.getD i []).length ∧ n = ((ofs L i + c : Nat) : Int) ∧ u = .tuple #[posV ((i : Int), (c : Int)), .int .i64 0]) := by
  obtain ⟨gt, T, vb, gs, Dt, Db, h1, h2⟩ := h
  have c0 : w.cell? ⟨g, 0, none⟩ = some (.pointer (some ⟨gt, 0, none⟩)) := blk_cell h1.hb
  have c1 : w.cell? ⟨g, 1, none⟩ = some vb := blk_cell h1.hb
  have c2 : w.cell? ⟨g, 2, none⟩ = some (.int .i64 (L.length : Int)) := blk_cell h1.hb
  obtain ⟨hl1, hl2, hl3⟩ := h1.len
  refine l_enter (fun _ => False) Try.func14 rfl rfl ?_
  repeat(first|refine lrun_ ?_|(refine lo_boxA rfl rfl ?_;intro _ _ _)|(refine lo_box1 rfl rfl rfl ?_;intro _ _ _)|(refine lo_alloc rfl ?_;intro _ _ _))
  refine l_false rfl ?_
  refine l_go .skip ?_
  by_cases h0 : n < 0
  · repeat(first|refine lrun_ ?_|(refine lo_boxA rfl rfl ?_;intro _ _ _)|(refine lo_box1 rfl rfl rfl ?_;intro _ _ _)|(refine lo_alloc rfl ?_;intro _ _ _))
    refine l_true rfl ?_
    repeat(first|refine lrun_ ?_|(refine lo_boxA rfl rfl ?_;intro _ _ _)|(refine lo_box1 rfl rfl rfl ?_;intro _ _ _)|(refine lo_alloc rfl ?_;intro _ _ _))
    exact l_retR2 rfl (by repeat(first|exact LRes.nil|refine LRes.tmp rfl ?_|refine LRes.agg rfl (by(repeat(first|exact MIn.hd|refine MIn.tl ?_));done) (by rfl) (by rfl) ?_|refine LRes.one rfl (by(repeat(first|exact MIn.hd|refine MIn.tl ?_));done) (by rfl) ?_)) fun w' hw => ⟨hw.org, .inl ⟨by omega, rfl⟩⟩
  repeat(first|refine lrun_ ?_|(refine lo_boxA rfl rfl ?_;intro _ _ _)|(refine lo_box1 rfl rfl rfl ?_;intro _ _ _)|(refine lo_alloc rfl ?_;intro _ _ _))
  first | refine lo_callP (n_call rfl) rfl (fun w' hw => len_calls (h1.tab.kn hw.org)) ?_ | (refine lo_yes (wants_yes rfl rfl rfl ?_) ?_; · first | rfl | assumption | (simp; done) | (simp; omega)); refine lo_callP (n_call rfl) rfl (fun w' hw => len_calls (h1.tab.kn hw.org)) ?_
  rw [← hl1]
  by_cases h3 : ((jndM L).length : Int) < n
  · repeat(first|refine lrun_ ?_|(refine lo_boxA rfl rfl ?_;intro _ _ _)|(refine lo_box1 rfl rfl rfl ?_;intro _ _ _)|(refine lo_alloc rfl ?_;intro _ _ _))
    refine l_yes rfl (by omega) ?_
    repeat(first|refine lrun_ ?_|(refine lo_boxA rfl rfl ?_;intro _ _ _)|(refine lo_box1 rfl rfl rfl ?_;intro _ _ _)|(refine lo_alloc rfl ?_;intro _ _ _))
    exact l_retR2 rfl (by repeat(first|exact LRes.nil|refine LRes.tmp rfl ?_|refine LRes.agg rfl (by(repeat(first|exact MIn.hd|refine MIn.tl ?_));done) (by rfl) (by rfl) ?_|refine LRes.one rfl (by(repeat(first|exact MIn.hd|refine MIn.tl ?_));done) (by rfl) ?_)) fun w' hw => ⟨hw.org, .inl ⟨by omega, rfl⟩⟩
  obtain ⟨m, rfl⟩ : ∃ m : Nat, n = (m : Int) := ⟨n.toNat, by omega⟩
  have hgl := h1.gl
  subst hgl
  repeat(first|refine lrun_ ?_|(refine lo_boxA rfl rfl ?_;intro _ _ _)|(refine lo_box1 rfl rfl rfl ?_;intro _ _ _)|(refine lo_alloc rfl ?_;intro _ _ _))
  refine l_no rfl (by omega) ?_
  refine l_go .skip ?_
  repeat(first|refine lrun_ ?_|(refine lo_boxA rfl rfl ?_;intro _ _ _)|(refine lo_box1 rfl rfl rfl ?_;intro _ _ _)|(refine lo_alloc rfl ?_;intro _ _ _))
  refine lo_callV (n_call rfl) rfl (fun w' hw => find_calls (hw.org.cell c1 id) (Kn.sl hw.org h1.ix) (by omega) (n := m) (by omega)) ?_
  rintro _ ⟨i, c, hi, hc, hm, rfl⟩
  repeat(first|refine lrun_ ?_|(refine lo_boxA rfl rfl ?_;intro _ _ _)|(refine lo_box1 rfl rfl rfl ?_;intro _ _ _)|(refine lo_alloc rfl ?_;intro _ _ _))
  exact l_retR2 rfl (by repeat(first|exact LRes.nil|refine LRes.tmp rfl ?_|refine LRes.agg rfl (by(repeat(first|exact MIn.hd|refine MIn.tl ?_));done) (by rfl) (by rfl) ?_|refine LRes.one rfl (by(repeat(first|exact MIn.hd|refine MIn.tl ?_));done) (by rfl) ?_)) fun w' hw => ⟨hw.org, .inr ⟨i, c, hi, hc, by omega, rfl⟩⟩
end
end Go.Ink
