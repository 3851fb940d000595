/-
  oper.Over.
  The reference: Over.
  OperOvers.
-/
import Derived.Test.YtepjngapfmfkeaaQD
import Derived.Test.YtepjngapfmfkeaaNw
import Derived.Test.YtepjngapfmfkeaaLap
import Derived.Test.YtepjngapfmfkeaaR1
import Derived.Test.YtepjngapfmfkeaaR3
import Derived.Test.YtepjngapfmfkeaaW2r
import Derived.Test.YtepjngapfmfkeaaTw
import Derived.Test.YtepjngapfmfkeaaW4
import Derived.Test.YtepjngapfmfkeaaRead
set_option linter.unusedVariables false
set_option linter.unusedSimpArgs false
namespace Go.Ink
open Go Go.Proofs Go.RowKit

def ovOut (l : List (List Int)) (i col m : Nat) (r : Int) : List (List Int) × Ps :=
  if r = 10 then (l.take i ++ [(l.getD i []).take col, (l.getD i []).drop (col + m)] ++ l.drop (i + 1), ((i : Int) + 1, 0))
  else (l.take i ++ [(l.getD i []).take col ++ (repX [r] m ++ (l.getD i []).drop (col + m))] ++ l.drop (i + 1), ((i : Int), (col : Int) + ((m : Int) - 1)))
def overM (l : List (List Int)) (p : Ps) (r n : Int) : List (List Int) × Ps × Int :=
  if l = [] then ([], (0, 0), 2)
  else if ((l.getD (clipM l p).1.toNat []).length : Int) - (clipM l p).2 < (if n < 1 then 1 else n) then ([], (0, 0), 2)
  else ((ovOut l (clipM l p).1.toNat (clipM l p).2.toNat (if n < 1 then 1 else n).toNat r).1, (ovOut l (clipM l p).1.toNat (clipM l p).2.toNat (if n < 1 then 1 else n).toNat r).2, 0)
/-- A row that a call hands back, in N: all that is new. -/
def NwR (x : List Int) (u : Value) (N : Mm) : Prop := (∃ A n, u = .slice A x.length n) ∧ ∀ w' : World, (∀ g o, MIn g o N → w'.heap[g]? = some o) → Ow kRune (MK N) (fun _ => False) w' u x
theorem nwR_of {w w' : World} {u : Value} {x : List Int} (h1 : Kn w w') (h3 : Ow kRune (noB w) (fun _ => False) w' u x) : ∃ N, News w w' N ∧ NwR x u N := by
  obtain ⟨N, hN, h4⟩ := news_of h1
  refine ⟨N, hN, ?_, fun w'' hw'' => ?_⟩
  · obtain ⟨A, n, e, _⟩ := h3.form
    exact ⟨A, n, e⟩
  refine (h3.mono (G' := fun k => noB w k ∧ k < w'.heap.size) (F' := fun _ => False) (fun k hk hl => ⟨hk, hl⟩) fun _ h _ => h).move (fun k hk hl => ?_) |>.mono (fun k hk _ => ?_) fun _ h _ => h
  · have hk' : noB w k ∧ k < w'.heap.size := hk.elim id fun h => h.elim
    obtain ⟨o, hm, ho⟩ := h4 k hk'.1 hk'.2
    rw [hw'' k o hm, ho]
  · obtain ⟨o, hm, ho⟩ := h4 k hk.1 hk.2
    exact ⟨o, hm⟩
/-- put, in a drawn region. -/
theorem putG_calls {F F2 : Nat → Prop} {w : World} {v y : Value} {l ys : List (List Int)} {e0 e1 : Int} {i0 i1 : Nat} (h : Sl kRow F w v l) (hy : SlE kRow F2 w y ys) (he0 : e0 = (i0 : Int)) (he1 : e1 = (i1 : Int)) (h0 : i0 ≤ l.length) (h1 : i1 ≤ l.length) (hfit : (i0 + ys.length + (l.length - i1)) * 24 ≤ 140737488355328) :
    CallsR Try.prog 47 #[v, .int .i64 e0, .int .i64 e1, y] w fun u w' => ∃ N, News w w' N ∧ (∃ A n, u = .slice A (l.take i0 ++ ys ++ l.drop i1).length n) ∧ ∀ w'' : World, (∀ g o, MIn g o N → w''.heap[g]? = some o) → (∀ k, F2 k → k < w.heap.size → w''.heap[k]? = w.heap[k]?) → Ow kRow (MK N) (fun k => MK N k ∨ F2 k) w'' u (l.take i0 ++ ys ++ l.drop i1) :=
  (putI_calls h (hy.mono (F2 := fun k => F2 k ∧ k < w.heap.size) fun k hk hl => ⟨hk, hl⟩) he0 he1 h0 h1 hfit).mono fun u w' ⟨kn, hO⟩ => by
    obtain ⟨N, hN, h4⟩ := news_of kn
    refine ⟨N, hN, ?_, fun w'' hw'' hF => ?_⟩
    · obtain ⟨A, n, e, _⟩ := hO.form
      exact ⟨A, n, e⟩
    refine (hO.mono (G' := fun k => noB w k ∧ k < w'.heap.size) (F' := fun k => (noB w k ∧ k < w'.heap.size) ∨ (F2 k ∧ k < w.heap.size)) (fun k hk hl => ⟨hk, hl⟩) fun k hk hl => hk.imp (fun h => ⟨h, hl⟩) id).move (fun k hk hl => ?_) |>.mono (fun k hk _ => ?_) fun k hk _ => hk.imp (fun hk => ?_) fun hk => hk.1
    · have hk' : (noB w k ∧ k < w'.heap.size) ∨ (F2 k ∧ k < w.heap.size) := hk.elim .inl id
      rcases hk' with hk' | hk'
      · obtain ⟨o, hm, ho⟩ := h4 k hk'.1 hk'.2
        rw [hw'' k o hm, ho]
      · rw [hF k hk'.1 hk'.2, kn.block k hk'.2 id]
    · obtain ⟨o, hm, ho⟩ := h4 k hk.1 hk.2
      exact ⟨o, hm⟩
    · obtain ⟨o, hm, ho⟩ := h4 k hk.1 hk.2
      exact ⟨o, hm⟩
/-- Behind the region: what the call handed back is the function's own. -/
theorem ow_end {w w9 B : World} {K : Nat → Prop} {X M3 N : Mm} {F' : Nat → Prop} {s : Value} {out : List (List Int)} (hO : Ow kRow (MK N) F' w9 s out) (hw9 : Lw w (fun _ => False) B K (X ++ M3) w9) (hN : ∀ k, MK N k → MK X k) (hF : ∀ k, F' k → MK X k) : Ow kRow (fre w (MK M3)) (fre w (MK M3)) w9 s out :=
  have key : ∀ k, MK X k → fre w (MK M3) k := fun k hk => ⟨((hw9.ge k (mk_app.2 (.inl hk))).1).elim id False.elim, fun hm => nd_l hw9.nd hk hm⟩
  hO.mono (fun k hk _ => key k (hN k hk)) fun k hk _ => key k (hF k hk)
theorem fre_end {w b w' : World} {K : Nat → Prop} {v : Value} {rows : List (List Int)} (h : Ow kRow (fre w K) (fre w K) b v rows) (hw : Kp K b w') : Ow kRow (noB w) (noB w) w' v rows :=
  (Kp.ow hw h (fun _ h => h.2) fun _ h => h.2).mono (fun k hk _ => hk.1) fun k hk _ => hk.1
section
variable {F : Nat → Prop} {w : World} {v : Value} {l : List (List Int)} {p : Ps} {r n : Int}
abbrev OvR (w : World) (x : List (List Int) × Ps × Int) : Value → World → Prop := fun u w' => Kn w w' ∧ ∃ s, u = .tuple #[s, posV x.2.1, .int .i64 x.2.2] ∧ Ow kRow (noB w) (noB w) w' s x.1
set_option maxHeartbeats 8000000 in
theorem over_calls (h : Sl kRow F w v l) (hp : P64 p) (hn : -9223372036854775808 ≤ n ∧ n ≤ 9223372036854775807) (hr : -2147483648 ≤ r ∧ r ≤ 2147483647) (hl : l.length ≤ 4096) (hlr : runesM l ≤ 1048576) :
    CallsR Try.prog 29 #[v, posV p, .int .i32 r, .int .i64 n] w (OvR w (overM l p r n)) := by
  obtain ⟨A, c, ad, rV, rc, ra, rfl, hR⟩ := h.rws
  have hcl := fun (w' : World) (hk : Kn w w') => clipP_calls (p := p) (Kn.sl hk h) hp
  refine l_enter (fun _ => False) Try.func29 rfl rfl ?_
  unfold overM
  by_cases hne : l = []
  · have hl0 : l.length = 0 := by rw [hne]; rfl
    rw [if_pos hne]
    repeat(first|refine lrun_ ?_|(refine lo_boxA rfl rfl ?_;intro _ _ _)|(refine lo_box1 rfl rfl rfl ?_;intro _ _ _)|(refine lo_alloc rfl ?_;intro _ _ _))
    refine l_yes rfl (by omega) ?_
    repeat(first|refine lrun_ ?_|(refine lo_boxA rfl rfl ?_;intro _ _ _)|(refine lo_box1 rfl rfl rfl ?_;intro _ _ _)|(refine lo_alloc rfl ?_;intro _ _ _))
    exact l_retR3 rfl (by repeat(first|exact LRes.nil|refine LRes.tmp rfl ?_|refine LRes.agg rfl (by(repeat(first|exact MIn.hd|refine MIn.tl ?_));done) (by rfl) (by rfl) ?_|refine LRes.one rfl (by(repeat(first|exact MIn.hd|refine MIn.tl ?_));done) (by rfl) ?_)) fun w' hw => ⟨hw.org, _, rfl, Ow.nil _ _ _ _⟩
  rw [if_neg hne]
  have hl0 : l.length ≠ 0 := fun e => hne (List.length_eq_zero_iff.1 e)
  obtain ⟨i, col, hq, hil, hcol, _⟩ := at_index (clip_at (p := p) hne)
  rw [hq] at hcl ⊢
  simp only [Int.toNat_natCast]
  have hxr := runes_getD l i
  have hrs := hR.rs i hil
  have hrc := hR.rcap i hil
  have hcx : col ≤ (l.getD i []).length := by rcases hcol with ⟨h1, h2⟩ | h1 <;> omega
  repeat(first|refine lrun_ ?_|(refine lo_boxA rfl rfl ?_;intro _ _ _)|(refine lo_box1 rfl rfl rfl ?_;intro _ _ _)|(refine lo_alloc rfl ?_;intro _ _ _))
  rename_i g5 _ _ g9 _ _
  refine l_no rfl (by omega) ?_
  refine l_go .skip ?_
  repeat(first|refine lrun_ ?_|(refine lo_boxA rfl rfl ?_;intro _ _ _)|(refine lo_box1 rfl rfl rfl ?_;intro _ _ _)|(refine lo_alloc rfl ?_;intro _ _ _))
  refine lo_call (n_call rfl) rfl (fun w' hw => hcl w' hw.org) ?_
  have hmx : (if (1 : Int) < n then n else 1) = (if n < 1 then 1 else n) := by split <;> split <;> omega
  have hm1 : 1 ≤ (if n < 1 then 1 else n) := by split <;> omega
  have hm2 : (if n < 1 then 1 else n) ≤ 9223372036854775807 := by split <;> omega
  repeat(first|refine lrun_ ?_|(refine lo_boxA rfl rfl ?_;intro _ _ _)|(refine lo_box1 rfl rfl rfl ?_;intro _ _ _)|(refine lo_alloc rfl ?_;intro _ _ _))
  generalize (if n < 1 then 1 else n) = mm at *
  by_cases hc : ((l.getD i []).length : Int) - col < mm
  · rw [if_pos hc]
    refine l_yes rfl (by omega) ?_
    repeat(first|refine lrun_ ?_|(refine lo_boxA rfl rfl ?_;intro _ _ _)|(refine lo_box1 rfl rfl rfl ?_;intro _ _ _)|(refine lo_alloc rfl ?_;intro _ _ _))
    exact l_retR3 rfl (by repeat(first|exact LRes.nil|refine LRes.tmp rfl ?_|refine LRes.agg rfl (by(repeat(first|exact MIn.hd|refine MIn.tl ?_));done) (by rfl) (by rfl) ?_|refine LRes.one rfl (by(repeat(first|exact MIn.hd|refine MIn.tl ?_));done) (by rfl) ?_)) fun w' hw => ⟨hw.org, _, rfl, Ow.nil _ _ _ _⟩
  rw [if_neg hc]
  obtain ⟨m, rfl⟩ : ∃ m : Nat, mm = (m : Int) := ⟨mm.toNat, by omega⟩
  rw [Int.toNat_natCast]
  refine l_no rfl (by omega) ?_
  refine l_go .skip ?_
  have hfit : (i + 2 + (l.length - (i + 1))) * 24 ≤ 140737488355328 := by omega
  have hpre : Sl kRune F w (.slice (rV i) col (rc i)) ((l.getD i []).take col) := hrs.pre hcx (by omega)
  have hsuf : Sl kRune F w (cutV (rV i) (col + m) (l.getD i []).length (rc i) 1) ((l.getD i []).drop (col + m)) := by
    have := Sl.cutV (d := kRune) hrs (show col + m ≤ (l.getD i []).length by omega) (Nat.le_refl _) hrc (Nat.le_refl _)
    rwa [List.take_length] at this
  unfold ovOut
  by_cases hr10 : r = 10
  · simp only [if_pos hr10]
    repeat(first|refine lrun_ ?_|(refine lo_boxA rfl rfl ?_;intro _ _ _)|(refine lo_box1 rfl rfl rfl ?_;intro _ _ _)|(refine lo_alloc rfl ?_;intro _ _ _))
    refine l_yes rfl hr10 ?_
    repeat(first|refine lrun_ ?_|(refine lo_boxA rfl rfl ?_;intro _ _ _)|(refine lo_box1 rfl rfl rfl ?_;intro _ _ _)|(refine lo_alloc rfl ?_;intro _ _ _))
    refine l_draw [(0, 0), (1, 0), (2, 0), (3, 0), (4, 0), (5, 0), (6, 0), (7, 0), (8, 0), (9, 0), (11, 0), (12, 0), (13, 0), (14, 0), (15, 0), (16, 0), (20, 0), (21, 0), (22, 0), (23, 0), (10, 1), (17, 1), (18, 1), (19, 1), (24, 0), (25, 1), (26, 0)] (by kernel_rfl) (by kernel_rfl) rfl (by kernel_rfl) ?_
    repeat(first|refine lrund_ ?_|(refine ld_open rfl ?_;first|(refine ld_boxA rfl wy_ rfl ?_;intro _ _ _)|(refine ld_box1 rfl rfl wy_ rfl ?_;intro _ _ _)|(refine ld_alloc wy_ rfl ?_;intro _ _ _)))
    refine ld_open rfl ?_; refine ld_pre (j := col) rfl rfl rfl (by omega) wy_ rfl ?_
    repeat(first|refine lrund_ ?_|(refine ld_open rfl ?_;first|(refine ld_boxA rfl wy_ rfl ?_;intro _ _ _)|(refine ld_box1 rfl rfl wy_ rfl ?_;intro _ _ _)|(refine ld_alloc wy_ rfl ?_;intro _ _ _)))
    refine ld_open rfl ?_; refine ld_suf (j := col + m) rfl rfl (by omega) (by omega) hrc wy_ rfl ?_
    repeat(first|refine lrund_ ?_|(refine ld_open rfl ?_;first|(refine ld_boxA rfl wy_ rfl ?_;intro _ _ _)|(refine ld_box1 rfl rfl wy_ rfl ?_;intro _ _ _)|(refine ld_alloc wy_ rfl ?_;intro _ _ _)))
    refine ld_open rfl ?_; refine ld_callX (n_call rfl) wy_ rfl (fun w' hw' => (clone_calls (Kn.sl hw'.org hpre)).mono fun u w'' h => nwR_of h.1 h.2) ?_
    intro u1 N1 hN1
    obtain ⟨A1, c1, rfl⟩ := hN1.1
    refine ld_open rfl ?_; refine ld_callX (n_call rfl) wy_ rfl (fun w' hw' => (clone_calls (Kn.sl hw'.org hsuf)).mono fun u w'' h => nwR_of h.1 h.2) ?_
    intro u2 N2 hN2
    obtain ⟨A2, c2, rfl⟩ := hN2.1
    refine ld_open rfl ?_; refine ld_lit (cs := [.slice A1 ((l.getD i []).take col).length c1, .slice A2 ((l.getD i []).drop (col + m)).length c2]) rfl (by decide) (by kernel_rfl) wy_ rfl ?_
    intro g54 hg54 _
    refine ld_open rfl ?_; refine ld_callX (Φ := fun u N => (∃ A n, u = .slice A (l.take i ++ [(l.getD i []).take col, (l.getD i []).drop (col + m)] ++ l.drop (i + 1)).length n) ∧ ∀ w'' : World, (∀ g o, MIn g o N → w''.heap[g]? = some o) → (∀ g o, MIn g o N1 → w''.heap[g]? = some o) → (∀ g o, MIn g o N2 → w''.heap[g]? = some o) → Ow kRow (MK N) (fun k => MK N k ∨ MK N1 k ∨ MK N2 k) w'' u (l.take i ++ [(l.getD i []).take col, (l.getD i []).drop (col + m)] ++ l.drop (i + 1))) (n_call rfl) wy_ rfl (fun w' hw' => ?_) ?_
    · have m1 : ∀ g o, MIn g o N1 → w'.heap[g]? = some o := fun g o hm => hw'.mem g o (.tl (min_l (min_app (min_l hm))))
      have m2 : ∀ g o, MIn g o N2 → w'.heap[g]? = some o := fun g o hm => hw'.mem g o (.tl (min_l (min_l hm)))
      have hy : SlE kRow (fun k => MK N1 k ∨ MK N2 k) w' (.slice (some ⟨g54, 0, none⟩) 2 2) [(l.getD i []).take col, (l.getD i []).drop (col + m)] :=
        slE_blk (d := kRow) (xs := [(l.getD i []).take col, (l.getD i []).drop (col + m)]) (cells := [.slice A1 ((l.getD i []).take col).length c1, .slice A2 ((l.getD i []).drop (col + m)).length c2]) (hw'.mem g54 _ .hd) ⟨[_], [_], rfl, ⟨_, rfl, (hN1.2 w' m1).slF (fun _ h => .inl h) fun _ h => h.elim⟩, [_], [], rfl, ⟨_, rfl, (hN2.2 w' m2).slF (fun _ h => .inr h) fun _ h => h.elim⟩, rfl⟩
      exact (putG_calls (Kn.sl hw'.org h) hy rfl (by omega) (by omega) (by omega) hfit).mono fun u w'' ⟨N, h1, h2, h3⟩ => ⟨N, h1, h2, fun wz hz h1z h2z => h3 wz hz fun k hk hl => by
        rcases hk with ⟨o, hm⟩ | ⟨o, hm⟩
        · rw [h1z k o hm, m1 k o hm]
        · rw [h2z k o hm, m2 k o hm]⟩
    rintro u3 N3 ⟨⟨A3, c3, rfl⟩, hN3⟩
    repeat(first|refine lrund_ ?_|(refine ld_open rfl ?_;first|(refine ld_boxA rfl wy_ rfl ?_;intro _ _ _)|(refine ld_box1 rfl rfl wy_ rfl ?_;intro _ _ _)|(refine ld_alloc wy_ rfl ?_;intro _ _ _)))
    refine ld_open rfl ?_; refine ld_storeWM mcat_self rfl rfl (min_app .hd) (by rfl) rfl (by rfl) (by rfl) (mup_app .hd) (by kernel_rfl) wy_ rfl ?_
    repeat(first|refine lrund_ ?_|(refine ld_open rfl ?_;first|(refine ld_boxA rfl wy_ rfl ?_;intro _ _ _)|(refine ld_box1 rfl rfl wy_ rfl ?_;intro _ _ _)|(refine ld_alloc wy_ rfl ?_;intro _ _ _)))
    refine l_baseM (M3 := [(g9, _), (g5, _)]) msub_app fun w9 hw9 => ?_
    have hO9 := ow_end (hN3 w9 (fun g o hm => hw9.mem g o (min_l (min_l hm))) (fun g o hm => hw9.mem g o (min_l (min_app (.tl (min_app (min_l hm)))))) (fun g o hm => hw9.mem g o (min_l (min_app (.tl (min_l hm)))))) hw9 (fun k hk => mk_app.2 (.inl hk)) (fun k hk => by
      rcases hk with hk | hk | ⟨o, hm⟩
      · exact mk_app.2 (.inl hk)
      · obtain ⟨o, hm⟩ := hk; exact mk_app.2 (.inr ⟨o, .tl (min_app (min_l hm))⟩)
      · exact mk_app.2 (.inr ⟨o, .tl (min_l hm)⟩))
    repeat(first|refine lrun_ ?_|(refine lo_boxA rfl rfl ?_;intro _ _ _)|(refine lo_box1 rfl rfl rfl ?_;intro _ _ _)|(refine lo_alloc rfl ?_;intro _ _ _))
    exact l_retR3 rfl (by repeat(first|exact LRes.nil|refine LRes.tmp rfl ?_|refine LRes.agg rfl (by(repeat(first|exact MIn.hd|refine MIn.tl ?_));done) (by rfl) (by rfl) ?_|refine LRes.one rfl (by(repeat(first|exact MIn.hd|refine MIn.tl ?_));done) (by rfl) ?_)) fun w' hw => ⟨hw.org, _, rfl, fre_end hO9 hw.kp⟩
  simp only [if_neg hr10]
  repeat(first|refine lrun_ ?_|(refine lo_boxA rfl rfl ?_;intro _ _ _)|(refine lo_box1 rfl rfl rfl ?_;intro _ _ _)|(refine lo_alloc rfl ?_;intro _ _ _))
  refine l_no rfl hr10 ?_
  refine l_go .skip ?_
  repeat(first|refine lrun_ ?_|(refine lo_boxA rfl rfl ?_;intro _ _ _)|(refine lo_box1 rfl rfl rfl ?_;intro _ _ _)|(refine lo_alloc rfl ?_;intro _ _ _))
  refine l_draw [(0, 0), (1, 0), (2, 0), (3, 0), (4, 0), (6, 0), (8, 0), (9, 0), (10, 0), (11, 0), (12, 0), (13, 0), (5, 1), (7, 1), (14, 1), (15, 1), (16, 0)] (by kernel_rfl) (by kernel_rfl) rfl (by kernel_rfl) ?_
  repeat(first|refine lrund_ ?_|(refine ld_open rfl ?_;first|(refine ld_boxA rfl wy_ rfl ?_;intro _ _ _)|(refine ld_box1 rfl rfl wy_ rfl ?_;intro _ _ _)|(refine ld_alloc wy_ rfl ?_;intro _ _ _)))
  refine ld_open rfl ?_; refine ld_pre (j := col) rfl rfl rfl (by omega) wy_ rfl ?_
  repeat(first|refine lrund_ ?_|(refine ld_open rfl ?_;first|(refine ld_boxA rfl wy_ rfl ?_;intro _ _ _)|(refine ld_box1 rfl rfl wy_ rfl ?_;intro _ _ _)|(refine ld_alloc wy_ rfl ?_;intro _ _ _)))
  refine ld_open rfl ?_; refine ld_suf (j := col + m) rfl rfl (by omega) (by omega) hrc wy_ rfl ?_
  repeat(first|refine lrund_ ?_|(refine ld_open rfl ?_;first|(refine ld_boxA rfl wy_ rfl ?_;intro _ _ _)|(refine ld_box1 rfl rfl wy_ rfl ?_;intro _ _ _)|(refine ld_alloc wy_ rfl ?_;intro _ _ _)))
  refine ld_open rfl ?_; refine ld_lit (cs := [.int .i32 r]) rfl (by decide) (by kernel_rfl) wy_ rfl ?_
  intro g65 hg65 _
  refine ld_open rfl ?_; refine ld_callX (n_call rfl) wy_ rfl (fun w' hw' => (repeat_calls (F := fun _ => True) (x := [r]) (n := m) (sl_row (xs := [r]) (hw'.mem g65 _ .hd) trivial (fun y hy => by cases hy with | head => exact hr | tail _ h => cases h) (by simp)) (show m * 1 ≤ 4194304 by omega) (show 1 ≤ 4194304 by decide) (by omega)).mono fun u w'' h => nwR_of h.1 h.2) ?_
  intro u1 N1 hN1
  obtain ⟨A1, c1, rfl⟩ := hN1.1
  refine ld_open rfl ?_; refine ld_lit (cs := [.slice (rV i) col (rc i), .slice A1 (repX [r] m).length c1, cutV (rV i) (col + m) (l.getD i []).length (rc i) 1]) rfl (by decide) (by kernel_rfl) wy_ rfl ?_
  intro g74 hg74 _
  refine ld_open rfl ?_; refine ld_callX (Φ := NwR ((l.getD i []).take col ++ (repX [r] m ++ (l.getD i []).drop (col + m)))) (n_call rfl) wy_ rfl (fun w' hw' => ?_) ?_
  · have m1 : ∀ g o, MIn g o N1 → w'.heap[g]? = some o := fun g o hm => hw'.mem g o (.tl (min_l (min_l hm)))
    refine (concat_calls (F := fun _ => True) (sl_three (hw'.mem g74 _ .hd) (Kn.sl hw'.org hpre).any (hN1.2 w' m1).sl.any (Kn.sl hw'.org hsuf).any trivial) ?_).mono fun u w'' ⟨h1, h2⟩ => ?_
    · simp only [runesM, List.map_cons, List.map_nil, List.sum_cons, List.sum_nil, List.length_take, List.length_drop, repX_len, List.length_singleton]
      omega
    · rw [show [(l.getD i []).take col, repX [r] m, (l.getD i []).drop (col + m)].flatten = (l.getD i []).take col ++ (repX [r] m ++ (l.getD i []).drop (col + m)) by simp] at h2
      exact nwR_of h1 h2
  intro u2 N2 hN2
  obtain ⟨A2, c2, rfl⟩ := hN2.1
  repeat(first|refine lrund_ ?_|(refine ld_open rfl ?_;first|(refine ld_boxA rfl wy_ rfl ?_;intro _ _ _)|(refine ld_box1 rfl rfl wy_ rfl ?_;intro _ _ _)|(refine ld_alloc wy_ rfl ?_;intro _ _ _)))
  refine ld_nil mcat_self ?_
  refine l_baseM (M3 := [(g9, _), (g5, _)]) msub_app fun w9 hw9 => ?_
  have hrow : Sl kRune (fun k => fre w (MK [(g9, cb [.int .i64 0, .int .i64 0] 24), (g5, cb [.int .i64 i, .int .i64 col] 24)]) k ∧ k < w9.heap.size) w9 (.slice A2 ((l.getD i []).take col ++ (repX [r] m ++ (l.getD i []).drop (col + m))).length c2) ((l.getD i []).take col ++ (repX [r] m ++ (l.getD i []).drop (col + m))) := by
    refine (hN2.2 w9 fun g o hm => hw9.mem g o (min_l (min_l hm))).sl.mono fun k hk hl => ⟨?_, hl⟩
    have hk := hk.elim id False.elim
    exact ⟨((hw9.ge k (mk_app.2 (.inl (mk_app.2 (.inl hk))))).1).elim id False.elim, fun hm => nd_l hw9.nd (mk_app.2 (.inl hk)) hm⟩
  clear hN1 hN2 hw9
  have hrl : ((l.getD i []).take col ++ (repX [r] m ++ (l.getD i []).drop (col + m))).length = (l.getD i []).length := by
    rw [List.length_append, List.length_append, List.length_take, List.length_drop, repX_len, List.length_singleton]; omega
  generalize (l.getD i []).take col ++ (repX [r] m ++ (l.getD i []).drop (col + m)) = row at *
  repeat(first|refine lrun_ ?_|(refine lo_boxA rfl rfl ?_;intro _ _ _)|(refine lo_box1 rfl rfl rfl ?_;intro _ _ _)|(refine lo_alloc rfl ?_;intro _ _ _))
  refine l_draw [(0, 0), (1, 0), (2, 0), (3, 0), (4, 0), (5, 0), (6, 0), (9, 0), (7, 1), (8, 1), (10, 0), (11, 1), (12, 0)] (by kernel_rfl) (by kernel_rfl) rfl (by kernel_rfl) ?_
  repeat(first|refine lrund_ ?_|(refine ld_open rfl ?_;first|(refine ld_boxA rfl wy_ rfl ?_;intro _ _ _)|(refine ld_box1 rfl rfl wy_ rfl ?_;intro _ _ _)|(refine ld_alloc wy_ rfl ?_;intro _ _ _)))
  refine ld_open rfl ?_; refine ld_lit (cs := [.slice A2 row.length c2]) rfl (by decide) (by kernel_rfl) wy_ rfl ?_
  intro g89 hg89 _
  refine ld_open rfl ?_; refine ld_callX (Φ := fun u N => (∃ A n, u = .slice A (l.take i ++ [row] ++ l.drop (i + 1)).length n) ∧ ∀ w'' : World, (∀ g o, MIn g o N → w''.heap[g]? = some o) → Kp (MK [(g9, cb [.int .i64 0, .int .i64 0] 24), (g5, cb [.int .i64 i, .int .i64 col] 24)]) w9 w'' → Ow kRow (MK N) (fun k => MK N k ∨ (fre w (MK [(g9, cb [.int .i64 0, .int .i64 0] 24), (g5, cb [.int .i64 i, .int .i64 col] 24)]) k ∧ k < w9.heap.size)) w'' u (l.take i ++ [row] ++ l.drop (i + 1))) (n_call rfl) wy_ rfl (fun w' hw' => ?_) ?_
  · have hy : SlE kRow (fun k => fre w (MK [(g9, cb [.int .i64 0, .int .i64 0] 24), (g5, cb [.int .i64 i, .int .i64 col] 24)]) k ∧ k < w9.heap.size) w' (.slice (some ⟨g89, 0, none⟩) 1 1) [row] :=
      slE_blk (d := kRow) (xs := [row]) (cells := [.slice A2 row.length c2]) (hw'.mem g89 _ .hd) ⟨[_], [], rfl, ⟨_, rfl, Kp.sl hw'.kp hrow fun k hk => hk.1.2⟩, rfl⟩
    exact (putG_calls (Kn.sl hw'.org h) hy rfl (by omega) (by omega) (by omega) (by simp only [List.length_singleton]; omega)).mono fun u w'' ⟨N, h1, h2, h3⟩ => ⟨N, h1, h2, fun wz hz hk => h3 wz hz fun k hk2 hl => by rw [hk.block k hk2.2 hk2.1.2, hw'.kp.block k hk2.2 hk2.1.2]⟩
  rintro u3 N3 ⟨⟨A3, c3, rfl⟩, hN3⟩
  repeat(first|refine lrund_ ?_|(refine ld_open rfl ?_;first|(refine ld_boxA rfl wy_ rfl ?_;intro _ _ _)|(refine ld_box1 rfl rfl wy_ rfl ?_;intro _ _ _)|(refine ld_alloc wy_ rfl ?_;intro _ _ _)))
  refine ld_open rfl ?_; refine ld_storeWM mcat_self rfl rfl (min_app .hd) (by rfl) rfl (by rfl) (by rfl) (mup_app .hd) (by kernel_rfl) wy_ rfl ?_
  repeat(first|refine lrund_ ?_|(refine ld_open rfl ?_;first|(refine ld_boxA rfl wy_ rfl ?_;intro _ _ _)|(refine ld_box1 rfl rfl wy_ rfl ?_;intro _ _ _)|(refine ld_alloc wy_ rfl ?_;intro _ _ _)))
  refine l_baseM (M3 := [(g9, _), (g5, _)]) msub_app fun w7 hw7 => ?_
  have hO7 := hN3 w7 (fun g o hm => hw7.mem g o (min_l (min_l hm))) hw7.kp
  have hO8 : Ow kRow (fre w (MK [(g9, cb [.int .i64 i, .int .i64 ((col : Int) + ((m : Int) - 1))] 24), (g5, cb [.int .i64 i, .int .i64 ((col : Int) + ((m : Int) - 1))] 24)])) (fre w (MK [(g9, cb [.int .i64 i, .int .i64 ((col : Int) + ((m : Int) - 1))] 24), (g5, cb [.int .i64 i, .int .i64 ((col : Int) + ((m : Int) - 1))] 24)])) w7 (.slice A3 (l.take i ++ [row] ++ l.drop (i + 1)).length c3) (l.take i ++ [row] ++ l.drop (i + 1)) := by
    have key : ∀ k, MK N3 k → fre w (MK [(g9, cb [.int .i64 i, .int .i64 ((col : Int) + ((m : Int) - 1))] 24), (g5, cb [.int .i64 i, .int .i64 ((col : Int) + ((m : Int) - 1))] 24)]) k := fun k hk => ⟨((hw7.ge k (mk_app.2 (.inl (mk_app.2 (.inl hk))))).1).elim id False.elim, fun hm => nd_l hw7.nd (mk_app.2 (.inl hk)) hm⟩
    refine hO7.mono (fun k hk _ => key k hk) fun k hk _ => hk.elim (key k) fun hk => ⟨hk.1.1, fun hm => hk.1.2 ?_⟩
    rw [MK_iff] at hm ⊢
    exact hm
  repeat(first|refine lrun_ ?_|(refine lo_boxA rfl rfl ?_;intro _ _ _)|(refine lo_box1 rfl rfl rfl ?_;intro _ _ _)|(refine lo_alloc rfl ?_;intro _ _ _))
  exact l_retR3 rfl (by repeat(first|exact LRes.nil|refine LRes.tmp rfl ?_|refine LRes.agg rfl (by(repeat(first|exact MIn.hd|refine MIn.tl ?_));done) (by rfl) (by rfl) ?_|refine LRes.one rfl (by(repeat(first|exact MIn.hd|refine MIn.tl ?_));done) (by rfl) ?_)) fun w' hw => ⟨hw.org, _, rfl, fre_end hO8 hw.kp⟩
end
end Go.Ink

set_option linter.unusedVariables false
set_option linter.unusedSimpArgs false
namespace Go.Ink
open Go Go.Proofs Go.RowKit
section
variable {F : Nat → Prop} {w B : World} {v : Value} {l : List (List Int)} {p : Ps} {r n q1 q2 : Int} {A : Option Addr} {c i col g5 g9 g14 : Nat}
theorem vm_K {k : Nat} : MK [(g14, cb [.int .i64 q1, .int .i64 q2] 24), (g9, cb [.int .i64 0, .int .i64 0] 24), (g5, cb [.int .i64 (i : Int), .int .i64 (col : Int)] 24)] k ↔ k = g14 ∨ k = g9 ∨ k = g5 := by rw [MK_iff]; simp
set_option maxHeartbeats 8000000 in
/-- The last region. -/
theorem ov_tail {vo : Value} {rows : List (List Int)} (h : Sl kRow F w (.slice A l.length c) l) (hil : i < l.length) (hl : l.length ≤ 4096) (hrl : rows.length ≤ 8192) (hO : Ow kRow (fre w (MK [(g14, cb [.int .i64 q1, .int .i64 q2] 24), (g9, cb [.int .i64 0, .int .i64 0] 24), (g5, cb [.int .i64 (i : Int), .int .i64 (col : Int)] 24)])) (fre w (MK [(g14, cb [.int .i64 q1, .int .i64 q2] 24), (g9, cb [.int .i64 0, .int .i64 0] 24), (g5, cb [.int .i64 (i : Int), .int .i64 (col : Int)] 24)])) B vo rows) (hg : w.heap.size ≤ g9) :
    ∀ σ', SubB σ' [(0, .slice A l.length c), (5, .pointer (some ⟨g5, 0, none⟩)), (9, .pointer (some ⟨g9, 0, none⟩)), (12, vo), (14, .pointer (some ⟨g14, 0, none⟩))] → ∀ M', MSub [(g14, cb [.int .i64 q1, .int .i64 q2] 24), (g9, cb [.int .i64 0, .int .i64 0] 24), (g5, cb [.int .i64 (i : Int), .int .i64 (col : Int)] 24)] M' →
      WL Try.prog Try.f30 [.code (bodyC Try.f30 [1, 1, 1, 1, 1, 1, 1, 1, 1, 1])] σ' w (fun _ => False) B (MK [(g14, cb [.int .i64 q1, .int .i64 q2] 24), (g9, cb [.int .i64 0, .int .i64 0] 24), (g5, cb [.int .i64 (i : Int), .int .i64 (col : Int)] 24)]) M' (OvR w (rows ++ l.drop (i + 1), (q1, q2), 0)) := by
  intro σ' hs M' hM
  refine WL.sub hs hM ?_
  obtain ⟨_, _, ad, rV, rc, ra, e, hR⟩ := h.rws
  cases e
  have hc := hR.cap
  refine l_go (by constructor) ?_
  unfold WLG
  intro w0 hw0
  have hO0 := Kp.ow hw0.kp hO (fun _ h => h.2) fun _ h => h.2
  have hvb := hO0.block
  have hQ : ∀ k, k = g14 ∨ k = g9 ∨ k = g5 → ¬ vo.ownBlock = some k := fun k hk e => (hvb k e).1.2 (vm_K.2 hk)
  have b5 := hw0.mem g5 _ (.tl (.tl .hd))
  have b14 := hw0.mem g14 _ .hd
  have b9 := hw0.mem g9 _ (.tl .hd)
  have lt5 := blk_lt b5
  have lt14 := blk_lt b14
  have lt9 := blk_lt b9
  have hsuf : Sl kRow F w (cutV A (i + 1) l.length c 1) (l.drop (i + 1)) := by
    have := Sl.cutV (d := kRow) h (show i + 1 ≤ l.length by omega) (Nat.le_refl _) hc (Nat.le_refl _)
    rwa [List.take_length] at this
  refine k_drawQ (fun k => vo.ownBlock = some k ∨ k = g9) [(0, 0), (1, 0), (2, 0), (3, 0), (4, 0), (5, 0), (8, 0), (6, 1), (7, 1), (9, 0), (10, 1), (11, 0)] (by kernel_rfl) (by kernel_rfl) rfl (by kernel_rfl) ?_
  repeat(refine runq_ ?_)
  have hne59 : g5 ≠ g9 ∧ g14 ≠ g9 := by
    have := hw0.nd
    simp only [List.map_cons, List.map_nil, List.nodup_cons, List.mem_cons, List.not_mem_nil, or_false, not_or] at this
    exact ⟨fun e => this.2.1 e.symm, this.1.1⟩
  refine q_open rfl ?_; refine q_still (v := .int .i64 (i : Int)) (fun w1 hq => r_load rfl (hq.cell (by rw [addr_add_zero, blk_cell b5]; rfl) (fun h => h.elim (hQ g5 (.inr (.inr rfl))) hne59.1))) wy_ rfl (StQ.refl _ _) ?_
  repeat(refine runq_ ?_)
  refine q_open rfl ?_; refine q_still (fun w1 hq => r_slice rfl (i + 1) l.length c rfl ⟨rfl, rfl⟩ ⟨_, by show some _ = some _; congr 1⟩ (by omega) hc (Nat.le_refl _)) wy_ rfl (StQ.refl _ _) ?_
  repeat(refine runq_ ?_)
  refine q_open rfl ?_; refine q_still (v := posV (q1, q2)) (fun w1 hq => r_loadA (cs := [.int .i64 q1, .int .i64 q2]) rfl rfl fun j u hu => hq.cell (by rw [add_plain, blk_cell b14]; simpa using hu) (fun h => by rw [add_block] at h; exact h.elim (hQ g14 (.inl rfl)) hne59.2)) wy_ rfl (StQ.refl _ _) ?_
  repeat(refine runq_ ?_)
  refine q_open rfl ?_; refine q_enter (n_call rfl) wy_ rfl ((twinT_calls (Kn.sl hw0.org hsuf)).mono fun u w1 ⟨kn1, us1, hT1⟩ => .inl ⟨Kp.stq kn1 fun _ _ h => h.elim, ?_⟩)
  have hO1 := Kn.ow kn1 hO0
  have hS1 := (hT1.ow fun _ _ => trivial).slF (F' := noB w0) (fun _ h => h) fun _ h => h
  have hw1 := hw0.kn kn1
  clear hT1
  refine q_open rfl ?_; refine q_any (e_append2 (d := kRow) (F2 := noB w0) rfl rfl hO1 hS1 (fun k hk e => by have := (hvb k e).2; unfold noB at hk; omega) (by rw [List.length_drop]; show (rows.length + (l.length - (i + 1))) * 24 ≤ 140737488355328; omega) rfl rfl rfl) wy_ rfl fun v2 w2 hA => .inl ⟨?_, ?_⟩
  · exact fun k hk hq => (hA.kp.block k (Nat.lt_of_lt_of_le hk kn1.size) fun e => hq (.inl e)).trans (kn1.block k hk id)
  have hk2 : Kp (fun k => vo.ownBlock = some k) w0 w2 := (kn1.mono fun _ _ h => h.elim).trans hA.kp
  have hst2 : StQ (fun k => vo.ownBlock = some k ∨ k = g9) w0 w2 := fun k hk hq => hk2.block k hk fun e => hq (.inl e)
  repeat(refine runq_ ?_)
  refine q_open rfl ?_
  refine q_unit (Φ := fun w' => Wr w2 w' g9 (cb [.int .i64 q1, .int .i64 q2] 24)) ?_ ?_ ?_ ?_
  · exact eu_storeW rfl rfl (hk2.blk b9 (hQ g9 (.inr (.inl rfl)))) (by rfl) rfl (by rfl) (by rfl)
  · exact wants_none rfl
  · rfl
  refine fun w3 hw3 => .inl ⟨?_, ?_⟩
  · exact fun k hk hq => (hw3.kp.block k (Nat.lt_of_lt_of_le hk hk2.size) fun e => hq (.inr e)).trans (hk2.block k hk fun e => hq (.inl e))
  have hst3 : StQ (fun k => vo.ownBlock = some k ∨ k = g9) w0 w3 := fun k hk hq => (hw3.kp.block k (Nat.lt_of_lt_of_le hk hk2.size) fun e => hq (.inr e)).trans (hk2.block k hk fun e => hq (.inl e))
  repeat(refine runq_ ?_)
  have hk3 : Kp (fun k => vo.ownBlock = some k ∨ k = g9) w0 w3 := (hk2.mono fun _ _ h => .inl h).trans (hw3.kp.mono fun _ _ h => .inr h)
  have ho3 : Kn w w3 := Kp.then hw0.org hk3 (fun _ h => h) fun k hk e => by
    rcases e with e | e
    · have := (hvb k e).1.1; omega
    · omega
  have b93 := hw3.at_
  have hO3 : Ow kRow (noB w) (noB w) w3 v2 (rows ++ l.drop (i + 1)) := by
    have hs0 := hw0.org.size
    have hs1 := kn1.size
    refine (Kp.ow hw3.kp hA.ow (fun k hk e => ?_) fun k hk e => ?_).mono (fun k hk _ => ?_) fun k hk _ => ?_
    · rcases hk with hk | hk
      · exact hk.2 (vm_K.2 (.inr (.inl e)))
      · omega
    · rcases hk with hk | hk
      · exact hk.2 (vm_K.2 (.inr (.inl e)))
      · unfold noB at hk; omega
    · rcases hk with hk | hk
      · exact hk.1
      · unfold noB; omega
    · rcases hk with hk | hk
      · exact hk.1
      · unfold noB at *; omega
  exact k_retR3 rfl (.tmp rfl (.agg (cs := [.int .i64 q1, .int .i64 q2]) rfl rfl (blk_all b93) (.tmp rfl .nil))) ⟨ho3, v2, rfl, hO3⟩
/-- What is kept while the row is written. -/
structure OvI (w : World) (K : Nat → Prop) (b : World) (vo vy : Value) (rows : List (List Int)) (y : List Int) : Prop where
  ho : Ow kRow (fun k => fre w K k ∧ vy.ownBlock ≠ some k) (fun k => fre w K k ∧ vy.ownBlock ≠ some k) b vo rows
  hy : Ow kRune (fre w K) (fun _ => False) b vy y
theorem OvI.now {K : Nat → Prop} {b w' : World} {vo vy : Value} {rows : List (List Int)} {y : List Int} (h : OvI w K b vo vy rows y) (hw : Kp K b w') : OvI w K w' vo vy rows y :=
  ⟨Kp.ow hw h.ho (fun _ h => h.1.2) fun _ h => h.1.2, Kp.ow hw h.hy (fun _ h => h.2) fun _ h => h.elim⟩
theorem set_mid {x : List Int} {col j : Nat} (h : col + j < x.length) : (x.take col ++ (repX [r] j ++ x.drop (col + j))).set (col + j) r = x.take col ++ (repX [r] (j + 1) ++ x.drop (col + j + 1)) := by
  have h1 : (x.take col).length = col := by rw [List.length_take]; omega
  have h2 : (repX [r] j).length = j := by rw [repX_len, List.length_singleton]; omega
  rw [List.set_append_right _ _ (by omega), List.set_append_right _ _ (by omega), h1, h2, show col + j - col - j = 0 by omega, List.drop_eq_getElem_cons h, List.set_cons_zero, repX_add]
  congr 1
  rw [List.append_assoc]
  rfl
set_option maxHeartbeats 8000000 in
theorem ov_loop {vo : Value} {rows : List (List Int)} {x : List Int} {ay : Addr} {cy m : Nat} {kk : List Item} {R : Value → World → Prop} (hr : -2147483648 ≤ r ∧ r ≤ 2147483647) (hcm : col + m ≤ x.length) (hx : x.length ≤ 1048576) (h0 : OvI w (MK [(g14, cb [.int .i64 q1, .int .i64 q2] 24), (g9, cb [.int .i64 0, .int .i64 0] 24), (g5, cb [.int .i64 (i : Int), .int .i64 (col : Int)] 24)]) B vo (.slice (some ay) x.length cy) rows x)
    (done : ∀ b, OvI w (MK [(g14, cb [.int .i64 q1, .int .i64 q2] 24), (g9, cb [.int .i64 0, .int .i64 0] 24), (g5, cb [.int .i64 (i : Int), .int .i64 (col : Int)] 24)]) b vo (.slice (some ay) x.length cy) rows (x.take col ++ (repX [r] m ++ x.drop (col + m))) → ∀ σ', SubB σ' [(0, v), (5, .pointer (some ⟨g5, 0, none⟩)), (9, .pointer (some ⟨g9, 0, none⟩)), (12, vo), (13, .slice (some ay) x.length cy), (14, .pointer (some ⟨g14, 0, none⟩))] → ∀ M', MSub [(g14, cb [.int .i64 q1, .int .i64 q2] 24), (g9, cb [.int .i64 0, .int .i64 0] 24), (g5, cb [.int .i64 (i : Int), .int .i64 (col : Int)] 24)] M' → WL Try.prog Try.f30 kk σ' w (fun _ => False) b (MK [(g14, cb [.int .i64 q1, .int .i64 q2] 24), (g9, cb [.int .i64 0, .int .i64 0] 24), (g5, cb [.int .i64 (i : Int), .int .i64 (col : Int)] 24)]) M' R) :
    ∀ σ', SubB σ' [(0, v), (2, .int .i32 r), (3, .int .i64 (m : Int)), (5, .pointer (some ⟨g5, 0, none⟩)), (9, .pointer (some ⟨g9, 0, none⟩)), (12, vo), (13, .slice (some ay) x.length cy), (14, .pointer (some ⟨g14, 0, none⟩)), (15, .int .i64 ((0 : Nat) : Int))] → ∀ M', MSub [(g14, cb [.int .i64 q1, .int .i64 q2] 24), (g9, cb [.int .i64 0, .int .i64 0] 24), (g5, cb [.int .i64 (i : Int), .int .i64 (col : Int)] 24)] M' →
      WL Try.prog Try.f30 (.code (.loop (bodyC Try.f30 [1, 1, 1, 1, 1, 1, 1, 1, 1, 0, 1, 1, 0, 1, 0, 0])) :: .inBlock 0 :: kk) σ' w (fun _ => False) B (MK [(g14, cb [.int .i64 q1, .int .i64 q2] 24), (g9, cb [.int .i64 0, .int .i64 0] 24), (g5, cb [.int .i64 (i : Int), .int .i64 (col : Int)] 24)]) M' R := by
  intro σ' hs M' hM
  refine WL.sub hs hM ?_
  refine l_whileB (fun j : Nat => m - j) (fun j => [(0, v), (2, .int .i32 r), (3, .int .i64 (m : Int)), (5, .pointer (some ⟨g5, 0, none⟩)), (9, .pointer (some ⟨g9, 0, none⟩)), (12, vo), (13, .slice (some ay) x.length cy), (14, .pointer (some ⟨g14, 0, none⟩)), (15, .int .i64 (j : Int))]) (fun _ => [(g14, cb [.int .i64 q1, .int .i64 q2] 24), (g9, cb [.int .i64 0, .int .i64 0] 24), (g5, cb [.int .i64 (i : Int), .int .i64 (col : Int)] 24)])
    (fun j bw => j ≤ m ∧ OvI w (MK [(g14, cb [.int .i64 q1, .int .i64 q2] 24), (g9, cb [.int .i64 0, .int .i64 0] 24), (g5, cb [.int .i64 (i : Int), .int .i64 (col : Int)] 24)]) bw vo (.slice (some ay) x.length cy) rows (x.take col ++ (repX [r] j ++ x.drop (col + j)))) 0 (by repeat (first | exact SubB.nil | refine SubB.cons rfl ?_)) (by repeat(first|exact MSub.refl|refine MSub.keep rfl ?_|exact MSub.nil|apply MSub.drop)) (fun w' hw => ⟨Nat.zero_le _, by
      have e : x.take col ++ (repX [r] 0 ++ x.drop (col + 0)) = x := by rw [show repX [r] 0 = [] from rfl]; simp
      rw [e]; exact h0.now hw.kp⟩) ?_
  rintro j b ⟨hj, hI⟩ hkb ih
  by_cases hlt : j < m
  case neg =>
    obtain rfl : j = m := by omega
    repeat(first|refine lrun_ ?_|(refine lo_boxA rfl rfl ?_;intro _ _ _)|(refine lo_box1 rfl rfl rfl ?_;intro _ _ _)|(refine lo_alloc rfl ?_;intro _ _ _))
    refine l_no rfl (by omega) ?_
    refine l_go (.exit rfl) ?_
    exact done b hI _ (by repeat (first | exact SubB.nil | refine SubB.cons rfl ?_)) _ (by repeat(first|exact MSub.refl|refine MSub.keep rfl ?_|exact MSub.nil|apply MSub.drop))
  have hst := set_mid (r := r) (x := x) (col := col) (j := j) (by omega)
  have hyl : (x.take col ++ (repX [r] j ++ x.drop (col + j))).length = x.length := by
    rw [List.length_append, List.length_append, List.length_take, List.length_drop, repX_len, List.length_singleton]; omega
  repeat(first|refine lrun_ ?_|(refine lo_boxA rfl rfl ?_;intro _ _ _)|(refine lo_box1 rfl rfl rfl ?_;intro _ _ _)|(refine lo_alloc rfl ?_;intro _ _ _))
  refine l_yes rfl (by omega) ?_
  repeat(first|refine lrun_ ?_|(refine lo_boxA rfl rfl ?_;intro _ _ _)|(refine lo_box1 rfl rfl rfl ?_;intro _ _ _)|(refine lo_alloc rfl ?_;intro _ _ _))
  refine lo_index (j := col + j) rfl rfl (by omega) (by omega) rfl rfl ?_
  have hyb := hI.hy.block
  refine lo_setM (d := kRune) (F := fun _ => False) (j := col + j) (q := r) rfl rfl hI.hy (fun _ h => h.elim) (by omega) (fun w' hw => ⟨rfl, hr⟩) rfl rfl ?_
  intro w3 w4 hw3 ko3 kp3 hog
  rw [hst] at hog
  have hI4 : OvI w (MK [(g14, cb [.int .i64 q1, .int .i64 q2] 24), (g9, cb [.int .i64 0, .int .i64 0] 24), (g5, cb [.int .i64 (i : Int), .int .i64 (col : Int)] 24)]) w4 vo (.slice (some ay) x.length cy) rows (x.take col ++ (repX [r] (j + 1) ++ x.drop (col + (j + 1)))) := by
    refine ⟨?_, hog⟩
    have h1 := (hI.now hw3.kp).ho
    exact Kp.ow kp3 h1 (fun k hk e => hk.2 (by rw [e]; rfl)) fun k hk e => hk.2 (by rw [e]; rfl)
  repeat(first|refine lrun_ ?_|(refine lo_boxA rfl rfl ?_;intro _ _ _)|(refine lo_box1 rfl rfl rfl ?_;intro _ _ _)|(refine lo_alloc rfl ?_;intro _ _ _))
  exact ih (j + 1) w4 _ ⟨hlt, hI4⟩ (by omega) _ _ (by repeat (first | exact SubB.nil | refine SubB.cons rfl ?_)) (by repeat(first|exact MSub.refl|refine MSub.keep rfl ?_|exact MSub.nil|apply MSub.drop)) fun w' hw' => ⟨hlt, hI4.now hw'.kp⟩
set_option maxHeartbeats 8000000 in
theorem ov_mid {vo : Value} {A13 : Option Addr} {cy m : Nat} (h : Sl kRow F w (.slice A l.length c) l) (hil : i < l.length) (hl : l.length ≤ 4096) (hr : -2147483648 ≤ r ∧ r ≤ 2147483647) (hcm : col + m ≤ (l.getD i []).length) (hm : 0 < m) (hx : (l.getD i []).length ≤ 1048576) (h0 : OvI w (MK [(g14, cb [.int .i64 q1, .int .i64 q2] 24), (g9, cb [.int .i64 0, .int .i64 0] 24), (g5, cb [.int .i64 (i : Int), .int .i64 (col : Int)] 24)]) B vo (.slice A13 (l.getD i []).length cy) (l.take i) (l.getD i [])) (hg : w.heap.size ≤ g9) (hq1 : q1 = (i : Int)) (hq2 : q2 = (col : Int) + ((m : Int) - 1)) :
    ∀ σ', SubB σ' [(0, .slice A l.length c), (2, .int .i32 r), (3, .int .i64 (m : Int)), (5, .pointer (some ⟨g5, 0, none⟩)), (9, .pointer (some ⟨g9, 0, none⟩)), (12, vo), (13, .slice A13 (l.getD i []).length cy), (14, .pointer (some ⟨g14, 0, none⟩))] → ∀ M', MSub [(g14, cb [.int .i64 q1, .int .i64 q2] 24), (g9, cb [.int .i64 0, .int .i64 0] 24), (g5, cb [.int .i64 (i : Int), .int .i64 (col : Int)] 24)] M' →
      WL Try.prog Try.f30 [.code (bodyC Try.f30 [1, 1, 1, 1, 1, 1, 1, 1, 1])] σ' w (fun _ => False) B (MK [(g14, cb [.int .i64 q1, .int .i64 q2] 24), (g9, cb [.int .i64 0, .int .i64 0] 24), (g5, cb [.int .i64 (i : Int), .int .i64 (col : Int)] 24)]) M' (OvR w ((ovOut l i col m r).1, (ovOut l i col m r).2, 0)) := by
  intro σ' hs M' hM
  refine WL.sub hs hM ?_
  have htl : (l.take i).length = i := by rw [List.length_take]; omega
  obtain ⟨ay, rfl⟩ : ∃ ay, A13 = some ay := by
    obtain ⟨_, _, _, h8⟩ := h0.hy
    rcases h8 with ⟨_, h8⟩ | ⟨_, _, _, _, _, h8, _⟩
    · have : (l.getD i []).length = 0 := by rw [h8]; rfl
      omega
    · cases h8; exact ⟨_, rfl⟩
  have hyb := h0.hy.block ay.block rfl
  have hcy : (l.getD i []).length ≤ cy := by obtain ⟨_, _, e, h1, _⟩ := h0.hy.form; cases e; exact h1
  by_cases hr10 : r = 10
  · have hov : ovOut l i col m r = (l.take i ++ [(l.getD i []).take col, (l.getD i []).drop (col + m)] ++ l.drop (i + 1), ((i : Int) + 1, 0)) := by unfold ovOut; rw [if_pos hr10]
    rw [hov]
    dsimp only
    repeat(first|refine lrun_ ?_|(refine lo_boxA rfl rfl ?_;intro _ _ _)|(refine lo_box1 rfl rfl rfl ?_;intro _ _ _)|(refine lo_alloc rfl ?_;intro _ _ _))
    refine l_yes rfl hr10 ?_
    repeat(first|refine lrun_ ?_|(refine lo_boxA rfl rfl ?_;intro _ _ _)|(refine lo_box1 rfl rfl rfl ?_;intro _ _ _)|(refine lo_alloc rfl ?_;intro _ _ _))
    refine l_draw [(0, 0), (1, 0), (2, 0), (3, 0), (4, 0), (5, 0), (6, 0), (7, 0), (8, 0), (9, 0), (10, 0), (11, 0), (12, 0), (13, 1), (14, 1), (15, 0)] (by kernel_rfl) (by kernel_rfl) rfl (by kernel_rfl) ?_
    repeat(first|refine lrund_ ?_|(refine ld_open rfl ?_;first|(refine ld_boxA rfl wy_ rfl ?_;intro _ _ _)|(refine ld_box1 rfl rfl wy_ rfl ?_;intro _ _ _)|(refine ld_alloc wy_ rfl ?_;intro _ _ _)))
    refine ld_open rfl ?_; refine ld_still (fun w1 _ => r_slice rfl 0 col col ⟨_, rfl⟩ ⟨_, rfl⟩ rfl (Nat.zero_le _) (Nat.le_refl _) (by omega)) wy_ rfl ?_
    rw [cutV_pre]
    repeat(first|refine lrund_ ?_|(refine ld_open rfl ?_;first|(refine ld_boxA rfl wy_ rfl ?_;intro _ _ _)|(refine ld_box1 rfl rfl wy_ rfl ?_;intro _ _ _)|(refine ld_alloc wy_ rfl ?_;intro _ _ _)))
    refine ld_open rfl ?_; refine ld_suf (j := col + m) rfl rfl (by omega) hcm hcy wy_ rfl ?_
    repeat(first|refine lrund_ ?_|(refine ld_open rfl ?_;first|(refine ld_boxA rfl wy_ rfl ?_;intro _ _ _)|(refine ld_box1 rfl rfl wy_ rfl ?_;intro _ _ _)|(refine ld_alloc wy_ rfl ?_;intro _ _ _)))
    refine ld_open rfl ?_; refine ld_lit (cs := [.slice (some ay) col col, cutV (some ay) (col + m) (l.getD i []).length cy 1]) rfl (by decide) (by kernel_rfl) wy_ rfl ?_
    intro g69 hg69 hg69'
    have hyS : Sl kRune (fun k => k = ay.block) B (.slice (some ay) (l.getD i []).length cy) (l.getD i []) := h0.hy.nE.slF (fun k hk => by cases hk.2; rfl) fun _ h => h.elim
    have hpre : Sl kRune (fun k => k = ay.block) B (.slice (some ay) col col) ((l.getD i []).take col) := by
      have := Sl.cutV (d := kRune) hyS (Nat.zero_le col) (show col ≤ (l.getD i []).length by omega) (Nat.le_refl _) (show col ≤ cy by omega)
      rwa [cutV_pre, List.drop_zero] at this
    have hsuf : Sl kRune (fun k => k = ay.block) B (cutV (some ay) (col + m) (l.getD i []).length cy 1) ((l.getD i []).drop (col + m)) := by
      have := Sl.cutV (d := kRune) hyS hcm (Nat.le_refl _) hcy (Nat.le_refl _)
      rwa [List.take_length] at this
    have hnk : ∀ k, k = ay.block → ¬ MK [(g14, cb [.int .i64 q1, .int .i64 q2] 24), (g9, cb [.int .i64 0, .int .i64 0] 24), (g5, cb [.int .i64 (i : Int), .int .i64 (col : Int)] 24)] k := fun k e => by rw [e]; exact hyb.1.2
    refine ld_open rfl ?_; refine ld_appendE (d := kRow) (ys := [(l.getD i []).take col, (l.getD i []).drop (col + m)]) (F2 := fun k => k = ay.block) (by repeat constructor) (by kernel_rfl) rfl rfl (h0.ho.mono (G' := fre w (MK [(g14, cb [.int .i64 q1, .int .i64 q2] 24), (g9, cb [.int .i64 0, .int .i64 0] 24), (g5, cb [.int .i64 (i : Int), .int .i64 (col : Int)] 24)])) (F' := fun k => fre w (MK [(g14, cb [.int .i64 q1, .int .i64 q2] 24), (g9, cb [.int .i64 0, .int .i64 0] 24), (g5, cb [.int .i64 (i : Int), .int .i64 (col : Int)] 24)]) k ∧ k < B.heap.size) (fun k hk _ => hk.1) fun k hk hl => ⟨hk.1, hl⟩) (fun _ h => h.1.2) (fun w' hw' => ?_) (fun k hk e => (h0.ho.block k e).1.2 (by rw [hk]; rfl)) (by rw [htl]; show (i + 2) * 24 ≤ 140737488355328; omega) rfl rfl rfl wy_ rfl ?_
    · exact slE_blk (d := kRow) (xs := [(l.getD i []).take col, (l.getD i []).drop (col + m)]) (cells := [.slice (some ay) col col, cutV (some ay) (col + m) (l.getD i []).length cy 1]) (hw'.mem g69 _ .hd) ⟨[_], [_], rfl, ⟨_, rfl, Kp.sl hw'.kp hpre hnk⟩, [_], [], rfl, ⟨_, rfl, Kp.sl hw'.kp hsuf hnk⟩, rfl⟩
    intro w3 A3 c3 w4 hw3 ko3 kp3 hown hog
    have hay69 : ay.block ≠ g69 := by have := hyb.2; omega
    have hY : ∀ k, MK ((g69, cb [.slice (some ay) col col, cutV (some ay) (col + m) (l.getD i []).length cy 1] 35) :: [(g14, cb [.int .i64 q1, .int .i64 q2] 24), (g9, cb [.int .i64 0, .int .i64 0] 24), (g5, cb [.int .i64 (i : Int), .int .i64 (col : Int)] 24)]) k → k = g69 ∨ MK [(g14, cb [.int .i64 q1, .int .i64 q2] 24), (g9, cb [.int .i64 0, .int .i64 0] 24), (g5, cb [.int .i64 (i : Int), .int .i64 (col : Int)] 24)] k := fun k hk => by
      rw [MK_iff, List.map_cons, List.mem_cons] at hk
      exact hk.imp id MK_iff.2
    repeat(first|refine lrund_ ?_|(refine ld_open rfl ?_;first|(refine ld_boxA rfl wy_ rfl ?_;intro _ _ _)|(refine ld_box1 rfl rfl wy_ rfl ?_;intro _ _ _)|(refine ld_alloc wy_ rfl ?_;intro _ _ _)))
    refine l_region ?_;(repeat(first|refine lops_ ?_|(refine lo_boxA rfl rfl ?_;intro _ _ _)|(refine lo_box1 rfl rfl rfl ?_;intro _ _ _)|(refine lo_alloc rfl ?_;intro _ _ _)));refine lo_nil ?_
    refine l_baseM (M3 := [(g14, cb [.int .i64 ((i : Int) + 1), .int .i64 0] 24), (g9, cb [.int .i64 0, .int .i64 0] 24), (g5, cb [.int .i64 (i : Int), .int .i64 (col : Int)] 24)]) (by repeat(first|exact MSub.refl|refine MSub.keep rfl ?_|exact MSub.nil|apply MSub.drop)) fun w5 hw5 => ?_
    have hvv : ∀ k, MK [(g14, cb [.int .i64 ((i : Int) + 1), .int .i64 0] 24), (g9, cb [.int .i64 0, .int .i64 0] 24), (g5, cb [.int .i64 (i : Int), .int .i64 (col : Int)] 24)] k → MK [(g14, cb [.int .i64 q1, .int .i64 q2] 24), (g9, cb [.int .i64 0, .int .i64 0] 24), (g5, cb [.int .i64 (i : Int), .int .i64 (col : Int)] 24)] k := fun k hk => by rw [MK_iff] at hk ⊢; exact hk
    have hO5 := (Kp.ow hw5.kp hog (fun k hk => hk.2) fun k hk hm => by
      rcases hk with hk | hk
      · rcases hY k hm with e | e
        · have := hk.2; omega
        · exact hk.1.2 e
      · rcases hY k hm with e | e
        · exact hay69 (hk ▸ e)
        · exact hnk k hk e).mono (G' := fre w (MK [(g14, cb [.int .i64 ((i : Int) + 1), .int .i64 0] 24), (g9, cb [.int .i64 0, .int .i64 0] 24), (g5, cb [.int .i64 (i : Int), .int .i64 (col : Int)] 24)])) (F' := fre w (MK [(g14, cb [.int .i64 ((i : Int) + 1), .int .i64 0] 24), (g9, cb [.int .i64 0, .int .i64 0] 24), (g5, cb [.int .i64 (i : Int), .int .i64 (col : Int)] 24)])) (fun k hk _ => ⟨hk.1, fun hm => hk.2 (by obtain ⟨o, hm⟩ := hvv k hm; exact ⟨o, .tl hm⟩)⟩) fun k hk _ => hk.elim (fun hk => ⟨hk.1.1, fun hm => hk.1.2 (hvv k hm)⟩) fun hk => ⟨hk ▸ hyb.1.1, fun hm => hnk k hk (hvv k hm)⟩
    exact ov_tail (q1 := (i : Int) + 1) (q2 := 0) h hil hl (by rw [List.length_append, htl]; simp; omega) hO5 hg _ (by repeat (first | exact SubB.nil | refine SubB.cons rfl ?_)) _ (by repeat(first|exact MSub.refl|refine MSub.keep rfl ?_|exact MSub.nil|apply MSub.drop))
  have hov : ovOut l i col m r = (l.take i ++ [(l.getD i []).take col ++ (repX [r] m ++ (l.getD i []).drop (col + m))] ++ l.drop (i + 1), (q1, q2)) := by unfold ovOut; rw [if_neg hr10, hq1, hq2]
  rw [hov]
  dsimp only
  have hrow : ((l.getD i []).take col ++ (repX [r] m ++ (l.getD i []).drop (col + m))).length = (l.getD i []).length := by
    rw [List.length_append, List.length_append, List.length_take, List.length_drop, repX_len, List.length_singleton]; omega
  repeat(first|refine lrun_ ?_|(refine lo_boxA rfl rfl ?_;intro _ _ _)|(refine lo_box1 rfl rfl rfl ?_;intro _ _ _)|(refine lo_alloc rfl ?_;intro _ _ _))
  refine l_no rfl hr10 ?_
  repeat(first|refine lrun_ ?_|(refine lo_boxA rfl rfl ?_;intro _ _ _)|(refine lo_box1 rfl rfl rfl ?_;intro _ _ _)|(refine lo_alloc rfl ?_;intro _ _ _))
  refine ov_loop (v := .slice A l.length c) hr hcm hx h0 ?_ _ (by repeat (first | exact SubB.nil | refine SubB.cons rfl ?_)) _ (by repeat(first|exact MSub.refl|refine MSub.keep rfl ?_|exact MSub.nil|apply MSub.drop))
  intro b hI σ' hs M' hM
  refine WL.sub hs hM ?_
  generalize (l.getD i []).take col ++ (repX [r] m ++ (l.getD i []).drop (col + m)) = row at *
  have hyb := hI.hy.block ay.block rfl
  have hyS : Sl kRune (fun k => k = ay.block) b (.slice (some ay) (l.getD i []).length cy) row := by
    have := hI.hy.nE.slF (F' := fun k => k = ay.block) (fun k hk => by cases hk.2; rfl) fun _ h => h.elim
    exact this
  have hnk : ∀ k, k = ay.block → ¬ MK [(g14, cb [.int .i64 q1, .int .i64 q2] 24), (g9, cb [.int .i64 0, .int .i64 0] 24), (g5, cb [.int .i64 (i : Int), .int .i64 (col : Int)] 24)] k := fun k e => by rw [e]; exact hyb.1.2
  repeat(first|refine lrun_ ?_|(refine lo_boxA rfl rfl ?_;intro _ _ _)|(refine lo_box1 rfl rfl rfl ?_;intro _ _ _)|(refine lo_alloc rfl ?_;intro _ _ _))
  refine lo_lit (cs := [.slice (some ay) (l.getD i []).length cy]) rfl (by decide) (by kernel_rfl) rfl ?_
  intro g89 hg89 hg89'
  refine lo_appendE (d := kRow) (ys := [row]) (F2 := fun k => k = ay.block) rfl rfl (hI.ho.mono (G' := fre w (MK [(g14, cb [.int .i64 q1, .int .i64 q2] 24), (g9, cb [.int .i64 0, .int .i64 0] 24), (g5, cb [.int .i64 (i : Int), .int .i64 (col : Int)] 24)])) (F' := fun k => fre w (MK [(g14, cb [.int .i64 q1, .int .i64 q2] 24), (g9, cb [.int .i64 0, .int .i64 0] 24), (g5, cb [.int .i64 (i : Int), .int .i64 (col : Int)] 24)]) k ∧ k < b.heap.size) (fun k hk _ => hk.1) fun k hk hl => ⟨hk.1, hl⟩) (fun _ h => h.1.2) (fun w' hw' => ?_) (fun k hk e => (hI.ho.block k e).1.2 (by rw [hk]; rfl)) (by rw [htl]; show (i + 1) * 24 ≤ 140737488355328; omega) rfl rfl rfl rfl ?_
  · exact slE_blk (d := kRow) (xs := [row]) (cells := [.slice (some ay) (l.getD i []).length cy]) (hw'.mem g89 _ .hd) ⟨[_], [], rfl, ⟨_, rfl, Kp.sl hw'.kp hyS hnk⟩, rfl⟩
  intro w3 A3 c3 w4 hw3 ko3 kp3 hown hog
  have hay69 : ay.block ≠ g89 := by have := hyb.2; omega
  have hY : ∀ k, MK ((g89, cb [.slice (some ay) (l.getD i []).length cy] 35) :: [(g14, cb [.int .i64 q1, .int .i64 q2] 24), (g9, cb [.int .i64 0, .int .i64 0] 24), (g5, cb [.int .i64 (i : Int), .int .i64 (col : Int)] 24)]) k → k = g89 ∨ MK [(g14, cb [.int .i64 q1, .int .i64 q2] 24), (g9, cb [.int .i64 0, .int .i64 0] 24), (g5, cb [.int .i64 (i : Int), .int .i64 (col : Int)] 24)] k := fun k hk => by
    rw [MK_iff, List.map_cons, List.mem_cons] at hk
    exact hk.imp id MK_iff.2
  repeat(first|refine lops_ ?_|(refine lo_boxA rfl rfl ?_;intro _ _ _)|(refine lo_box1 rfl rfl rfl ?_;intro _ _ _)|(refine lo_alloc rfl ?_;intro _ _ _))
  refine lo_nil ?_
  refine l_baseM (M3 := [(g14, cb [.int .i64 q1, .int .i64 q2] 24), (g9, cb [.int .i64 0, .int .i64 0] 24), (g5, cb [.int .i64 (i : Int), .int .i64 (col : Int)] 24)]) (by repeat(first|exact MSub.refl|refine MSub.keep rfl ?_|exact MSub.nil|apply MSub.drop)) fun w5 hw5 => ?_
  have hO5 := (Kp.ow hw5.kp hog (fun k hk => hk.2) fun k hk hm => by
    rcases hk with hk | hk
    · rcases hY k hm with e | e
      · have := hk.2; omega
      · exact hk.1.2 e
    · rcases hY k hm with e | e
      · exact hay69 (hk ▸ e)
      · exact hnk k hk e).mono (G' := fre w (MK [(g14, cb [.int .i64 q1, .int .i64 q2] 24), (g9, cb [.int .i64 0, .int .i64 0] 24), (g5, cb [.int .i64 (i : Int), .int .i64 (col : Int)] 24)])) (F' := fre w (MK [(g14, cb [.int .i64 q1, .int .i64 q2] 24), (g9, cb [.int .i64 0, .int .i64 0] 24), (g5, cb [.int .i64 (i : Int), .int .i64 (col : Int)] 24)])) (fun k hk _ => ⟨hk.1, fun hm => hk.2 (by obtain ⟨o, hm⟩ := hm; exact ⟨o, .tl hm⟩)⟩) fun k hk _ => hk.elim (fun hk => hk.1) fun hk => ⟨hk ▸ hyb.1.1, fun hm => hnk k hk hm⟩
  exact ov_tail h hil hl (by rw [List.length_append, htl]; simp; omega) hO5 hg _ (by repeat (first | exact SubB.nil | refine SubB.cons rfl ?_)) _ (by repeat(first|exact MSub.refl|refine MSub.keep rfl ?_|exact MSub.nil|apply MSub.drop))
set_option maxHeartbeats 8000000 in
theorem overR_calls (h : Sl kRow F w v l) (hp : P64 p) (hn : -9223372036854775808 ≤ n ∧ n ≤ 9223372036854775807) (hr : -2147483648 ≤ r ∧ r ≤ 2147483647) (hl : l.length ≤ 4096) (hlr : runesM l ≤ 1048576) :
    CallsR Try.prog 30 #[v, posV p, .int .i32 r, .int .i64 n] w (OvR w (overM l p r n)) := by
  obtain ⟨A, c, ad, rV, rc, ra, rfl, hR⟩ := h.rws
  have hc := hR.cap
  have hcl := fun (w' : World) (hk : Kn w w') => clipR_calls (p := p) (Kn.sl hk h) hp
  refine l_enter (fun _ => False) Try.func30 rfl rfl ?_
  unfold overM
  by_cases hne : l = []
  · have hl0 : l.length = 0 := by rw [hne]; rfl
    rw [if_pos hne]
    repeat(first|refine lrun_ ?_|(refine lo_boxA rfl rfl ?_;intro _ _ _)|(refine lo_box1 rfl rfl rfl ?_;intro _ _ _)|(refine lo_alloc rfl ?_;intro _ _ _))
    refine l_yes rfl (by omega) ?_
    repeat(first|refine lrun_ ?_|(refine lo_boxA rfl rfl ?_;intro _ _ _)|(refine lo_box1 rfl rfl rfl ?_;intro _ _ _)|(refine lo_alloc rfl ?_;intro _ _ _))
    exact l_retR3 rfl (by repeat(first|exact LRes.nil|refine LRes.tmp rfl ?_|refine LRes.agg rfl (by(repeat(first|exact MIn.hd|refine MIn.tl ?_));done) (by rfl) (by rfl) ?_|refine LRes.one rfl (by(repeat(first|exact MIn.hd|refine MIn.tl ?_));done) (by rfl) ?_)) fun w' hw => ⟨hw.org, _, rfl, Ow.nil _ _ _ _⟩
  rw [if_neg hne]
  have hl0 : l.length ≠ 0 := fun e => hne (List.length_eq_zero_iff.1 e)
  obtain ⟨i, col, hq, hil, hcol, _⟩ := at_index (clip_at (p := p) hne)
  rw [hq] at hcl ⊢
  simp only [Int.toNat_natCast]
  have hxr := runes_getD l i
  have hrs := hR.rs i hil
  have hrc := hR.rcap i hil
  have hcx : col ≤ (l.getD i []).length := by rcases hcol with ⟨h1, h2⟩ | h1 <;> omega
  repeat(first|refine lrun_ ?_|(refine lo_boxA rfl rfl ?_;intro _ _ _)|(refine lo_box1 rfl rfl rfl ?_;intro _ _ _)|(refine lo_alloc rfl ?_;intro _ _ _))
  rename_i g5 _ _ g9 hg9 _
  refine l_no rfl (by omega) ?_
  refine l_go .skip ?_
  repeat(first|refine lrun_ ?_|(refine lo_boxA rfl rfl ?_;intro _ _ _)|(refine lo_box1 rfl rfl rfl ?_;intro _ _ _)|(refine lo_alloc rfl ?_;intro _ _ _))
  refine lo_call (n_call rfl) rfl (fun w' hw => hcl w' hw.org) ?_
  have hmx : (if (1 : Int) < n then n else 1) = (if n < 1 then 1 else n) := by split <;> split <;> omega
  have hm1 : 1 ≤ (if n < 1 then 1 else n) := by split <;> omega
  have hm2 : (if n < 1 then 1 else n) ≤ 9223372036854775807 := by split <;> omega
  repeat(first|refine lrun_ ?_|(refine lo_boxA rfl rfl ?_;intro _ _ _)|(refine lo_box1 rfl rfl rfl ?_;intro _ _ _)|(refine lo_alloc rfl ?_;intro _ _ _))
  rw [hmx]
  generalize (if n < 1 then 1 else n) = mm at *
  by_cases hcc : ((l.getD i []).length : Int) - col < mm
  · rw [if_pos hcc]
    refine l_yes rfl (by omega) ?_
    repeat(first|refine lrun_ ?_|(refine lo_boxA rfl rfl ?_;intro _ _ _)|(refine lo_box1 rfl rfl rfl ?_;intro _ _ _)|(refine lo_alloc rfl ?_;intro _ _ _))
    exact l_retR3 rfl (by repeat(first|exact LRes.nil|refine LRes.tmp rfl ?_|refine LRes.agg rfl (by(repeat(first|exact MIn.hd|refine MIn.tl ?_));done) (by rfl) (by rfl) ?_|refine LRes.one rfl (by(repeat(first|exact MIn.hd|refine MIn.tl ?_));done) (by rfl) ?_)) fun w' hw => ⟨hw.org, _, rfl, Ow.nil _ _ _ _⟩
  rw [if_neg hcc]
  obtain ⟨m, rfl⟩ : ∃ m : Nat, mm = (m : Int) := ⟨mm.toNat, by omega⟩
  rw [Int.toNat_natCast]
  refine l_no rfl (by omega) ?_
  refine l_go .skip ?_
  repeat(first|refine lrun_ ?_|(refine lo_boxA rfl rfl ?_;intro _ _ _)|(refine lo_box1 rfl rfl rfl ?_;intro _ _ _)|(refine lo_alloc rfl ?_;intro _ _ _))
  refine lo_callM (n_call rfl) rfl (fun w' hw => twinT_calls ((Kn.sl hw.org h).pre (show i ≤ l.length by omega) (by omega))) ?_
  rintro w3 vo w4 hw3 kn3 ko3 ⟨us3, hT3⟩
  have hs3 := hw3.org.size
  have hoB := (hT3.ow fun _ _ => trivial).mono (G' := fun k => w3.heap.size ≤ k ∧ k < w4.heap.size) (F' := fun k => w3.heap.size ≤ k ∧ k < w4.heap.size) (fun k hk hl => ⟨hk, hl⟩) fun k hk hl => ⟨hk, hl⟩
  have hl3 : ∀ k, MK [(g9, cb [.int .i64 0, .int .i64 0] 24), (g5, cb [.int .i64 (i : Int), .int .i64 (col : Int)] 24)] k → k < w3.heap.size := fun k hm => hw3.lt hm
  clear hT3
  repeat(first|refine lrun_ ?_|(refine lo_boxA rfl rfl ?_;intro _ _ _)|(refine lo_box1 rfl rfl rfl ?_;intro _ _ _)|(refine lo_alloc rfl ?_;intro _ _ _))
  refine lo_lit (cs := []) rfl (by decide) (by kernel_rfl) rfl ?_
  intro g43 hg43 hg43'
  repeat(first|refine lrun_ ?_|(refine lo_boxA rfl rfl ?_;intro _ _ _)|(refine lo_box1 rfl rfl rfl ?_;intro _ _ _)|(refine lo_alloc rfl ?_;intro _ _ _))
  refine lo_take (M' := [(g9, cb [.int .i64 0, .int .i64 0] 24), (g5, cb [.int .i64 (i : Int), .int .i64 (col : Int)] 24)]) (by repeat(first|exact MSub.refl|refine MSub.keep rfl ?_|exact MSub.nil|apply MSub.drop)) fun w5 hw5 => ?_
  have hs5 := hw5.kp.size
  have ho5 := Kp.ow hw5.kp hoB (fun k hk hm => by have := hl3 k hm; omega) fun k hk hm => by have := hl3 k hm; omega
  have hm43 : ¬ MK [(g9, cb [.int .i64 0, .int .i64 0] 24), (g5, cb [.int .i64 (i : Int), .int .i64 (col : Int)] 24)] g43 := fun hm => by have := hl3 g43 hm; have := kn3.size; omega
  have hy5 := og_lit0 (d := kRune) (F := fun _ => False) (M' := [(g9, cb [.int .i64 0, .int .i64 0] 24), (g5, cb [.int .i64 (i : Int), .int .i64 (col : Int)] 24)]) hw5 .hd hg43 hm43
  refine lo_appendS (d := kRune) (ys := l.getD i []) (F2 := fun k => k < w.heap.size) rfl rfl hy5 (fun w' hw => Kn.sl hw.org hrs.old) (fun j hj ho => by have h8 : g43 = j := Option.some.inj ho; omega) (by show (0 + (l.getD i []).length) * 4 ≤ 140737488355328; omega) rfl rfl rfl rfl ?_
  intro w6 A6 c6 w7 hw6 ko6 kp6 hown hog
  rw [List.nil_append] at hog hown ⊢
  have ho7 := Kp.ow kp6 ho5 (fun k hk hm => by
    rcases hm with hm | hm
    · have := hl3 k hm; omega
    · have h8 : g43 = k := Option.some.inj hm; omega) fun k hk hm => by
    rcases hm with hm | hm
    · have := hl3 k hm; omega
    · have h8 : g43 = k := Option.some.inj hm; omega
  have hyb : ∀ k, (Value.slice A6 (l.getD i []).length c6).ownBlock = some k → w4.heap.size ≤ k := fun k hk => by
    rcases hown k hk with e | e
    · have h8 : g43 = k := Option.some.inj e; omega
    · omega
  repeat(first|refine lops_ ?_|(refine lo_boxA rfl rfl ?_;intro _ _ _)|(refine lo_box1 rfl rfl rfl ?_;intro _ _ _)|(refine lo_alloc rfl ?_;intro _ _ _))
  refine lo_nil ?_
  refine l_go .seq ?_
  refine l_region ?_;(repeat(first|refine lops_ ?_|(refine lo_boxA rfl rfl ?_;intro _ _ _)|(refine lo_box1 rfl rfl rfl ?_;intro _ _ _)|(refine lo_alloc rfl ?_;intro _ _ _)));refine lo_nil ?_
  rename_i g14 _ hg14
  refine l_baseM (M3 := [(g14, cb [.int .i64 (i : Int), .int .i64 ((col : Int) + (m : Int) - 1)] 24), (g9, cb [.int .i64 0, .int .i64 0] 24), (g5, cb [.int .i64 (i : Int), .int .i64 (col : Int)] 24)]) (by repeat(first|exact MSub.refl|refine MSub.keep rfl ?_|exact MSub.nil|apply MSub.drop)) fun w8 hw8 => ?_
  have hm14 : ∀ k, MK [(g14, cb [.int .i64 (i : Int), .int .i64 ((col : Int) + (m : Int) - 1)] 24), (g9, cb [.int .i64 0, .int .i64 0] 24), (g5, cb [.int .i64 (i : Int), .int .i64 (col : Int)] 24)] k → k = g14 ∨ MK [(g9, cb [.int .i64 0, .int .i64 0] 24), (g5, cb [.int .i64 (i : Int), .int .i64 (col : Int)] 24)] k := fun k hk => by
    rw [MK_iff, List.map_cons, List.mem_cons] at hk
    exact hk.imp id MK_iff.2
  have hs7 := ho7.block
  have hI : OvI w (MK [(g14, cb [.int .i64 (i : Int), .int .i64 ((col : Int) + (m : Int) - 1)] 24), (g9, cb [.int .i64 0, .int .i64 0] 24), (g5, cb [.int .i64 (i : Int), .int .i64 (col : Int)] 24)]) w8 vo (.slice A6 (l.getD i []).length c6) (l.take i) (l.getD i []) := by
    have hk7 := hw6.kp.size
    refine ⟨?_, ?_⟩
    · refine (Kp.ow hw8.kp ho7 (fun k hk hm => by have := hl3 k hm; omega) fun k hk hm => by have := hl3 k hm; omega).mono (fun k hk _ => ⟨⟨by omega, fun hm => ?_⟩, fun e => ?_⟩) fun k hk _ => ⟨⟨by omega, fun hm => ?_⟩, fun e => ?_⟩
      · rcases hm14 k hm with e | e
        · have := kp6.size; have := kn3.size; omega
        · have := hl3 k e; omega
      · have := hyb k e; omega
      · rcases hm14 k hm with e | e
        · have := kp6.size; have := kn3.size; omega
        · have := hl3 k e; omega
      · have := hyb k e; omega
    · refine (Kp.ow hw8.kp (hog.mono (G' := fun k => fre w (MK [(g9, cb [.int .i64 0, .int .i64 0] 24), (g5, cb [.int .i64 (i : Int), .int .i64 (col : Int)] 24)]) k ∧ k < w7.heap.size) (F' := fun _ => False) (fun k hk hl => ⟨hk, hl⟩) fun _ h _ => h) (fun k hk => hk.1.2) fun _ h => h.elim).mono (fun k hk _ => ⟨hk.1.1, fun hm => ?_⟩) fun _ h _ => h
      rcases hm14 k hm with e | e
      · have := hk.2; omega
      · exact hk.1.2 e
  exact ov_mid (m := m) (q1 := (i : Int)) (q2 := (col : Int) + (m : Int) - 1) h hil hl hr (by omega) (by omega) (by omega) hI hg9 rfl (by omega) _ (by repeat (first | exact SubB.nil | refine SubB.cons rfl ?_)) _ (by repeat(first|exact MSub.refl|refine MSub.keep rfl ?_|exact MSub.nil|apply MSub.drop))
end
end Go.Ink

set_option linter.unusedVariables false
set_option linter.unusedSimpArgs false
namespace Go.Ink
open Go Go.Proofs Go.RowKit
section
variable {F : Nat → Prop} {w : World} {v : Value} {l : List (List Int)} {p : Ps} {r n : Int}
def OvT (x : List (List Int) × Ps × Int) (u : Value) (N : Mm) : Prop := ∃ s, u = .tuple #[s, posV x.2.1, .int .i64 x.2.2] ∧ NwT x.1 s N
theorem overN_calls (h : Sl kRow F w v l) (hp : P64 p) (hn : -9223372036854775808 ≤ n ∧ n ≤ 9223372036854775807) (hr : -2147483648 ≤ r ∧ r ≤ 2147483647) (hl : l.length ≤ 4096) (hlr : runesM l ≤ 1048576) :
    CallsR Try.prog 29 #[v, posV p, .int .i32 r, .int .i64 n] w fun u w' => ∃ N, News w w' N ∧ OvT (overM l p r n) u N :=
  (over_calls h hp hn hr hl hlr).mono fun u w' ⟨h1, s, e, h2⟩ => by
    obtain ⟨N, h3, h4⟩ := nwT_of h1 h2
    exact ⟨N, h3, s, e, h4⟩
set_option maxHeartbeats 8000000 in
theorem oo_tail {B : World} {A : Option Addr} {c g4 g5 g8 : Nat} {J : List (List Int) × Ps × Int} {A7 : Option Addr} {c7 : Nat} (h : Sl kRow F w (.slice A l.length c) l) (hp : P64 p) (hn : -9223372036854775808 ≤ n ∧ n ≤ 9223372036854775807) (hr : -2147483648 ≤ r ∧ r ≤ 2147483647) (hl : l.length ≤ 300) (hlr : runesM l ≤ 4096) (hJ : overM l p r n = J)
    (h7 : Hd kRow B (MK ((g8, cb [.int .i64 J.2.1.1, .int .i64 J.2.1.2] 24) :: [(g5, cb [.int .i32 r, .int .i64 n] 58), (g4, cb [.int .i64 p.1, .int .i64 p.2] 24)])) (.slice A7 J.1.length c7) J.1) :
    ∀ σ', SubB σ' [(0, .slice A l.length c), (4, .pointer (some ⟨g4, 0, none⟩)), (5, .pointer (some ⟨g5, 0, none⟩)), (7, .slice A7 J.1.length c7), (8, .pointer (some ⟨g8, 0, none⟩)), (9, .int .i64 J.2.2)] → ∀ M', MSub ((g8, cb [.int .i64 J.2.1.1, .int .i64 J.2.1.2] 24) :: [(g5, cb [.int .i32 r, .int .i64 n] 58), (g4, cb [.int .i64 p.1, .int .i64 p.2] 24)]) M' →
      WL Try.prog Try.f8 [.code (bodyC Try.f8 [1, 1, 1])] σ' w (fun _ => False) B (MK ((g8, cb [.int .i64 J.2.1.1, .int .i64 J.2.1.2] 24) :: [(g5, cb [.int .i32 r, .int .i64 n] 58), (g4, cb [.int .i64 p.1, .int .i64 p.2] 24)])) M' fun u w' => Kn w w' ∧ u = .bool true := by
  intro σ' hs M' hM
  refine WL.sub hs hM ?_
  repeat(first|refine lrun_ ?_|(refine lo_boxA rfl rfl ?_;intro _ _ _)|(refine lo_box1 rfl rfl rfl ?_;intro _ _ _)|(refine lo_alloc rfl ?_;intro _ _ _))
  refine lo_callM (n_call rfl) rfl (fun w' hw => overR_calls (Kn.sl hw.org h) hp hn hr (by omega) (by omega)) ?_
  rw [hJ]
  rintro w7 _ w8 hw7 kn7 ko7 ⟨s8, rfl, hO8⟩
  have h7 := h7.next hw7 kn7
  have hs8 := Hd.of hO8 hw7
  obtain ⟨A8, c8, rfl, _, _⟩ := hO8.form
  clear hO8
  repeat(first|refine lrun_ ?_|(refine lo_boxA rfl rfl ?_;intro _ _ _)|(refine lo_box1 rfl rfl rfl ?_;intro _ _ _)|(refine lo_alloc rfl ?_;intro _ _ _))
  rw [decide_eq_true (rfl : J.2.2 = J.2.2)]
  repeat(first|refine lrun_ ?_|(refine lo_boxA rfl rfl ?_;intro _ _ _)|(refine lo_box1 rfl rfl rfl ?_;intro _ _ _)|(refine lo_alloc rfl ?_;intro _ _ _))
  rw [decide_eq_true (⟨rfl, rfl⟩ : J.2.1.1 = J.2.1.1 ∧ J.2.1.2 = J.2.1.2)]
  repeat(first|refine lrun_ ?_|(refine lo_boxA rfl rfl ?_;intro _ _ _)|(refine lo_box1 rfl rfl rfl ?_;intro _ _ _)|(refine lo_alloc rfl ?_;intro _ _ _))
  refine lo_call (n_call rfl) rfl (fun w' hw => same04_calls (h7.now hw) (hs8.now hw)) ?_
  rw [decide_eq_true (rfl : J.1 = J.1)]
  repeat(first|refine lrun_ ?_|(refine lo_boxA rfl rfl ?_;intro _ _ _)|(refine lo_box1 rfl rfl rfl ?_;intro _ _ _)|(refine lo_alloc rfl ?_;intro _ _ _))
  refine lo_call (n_call (args := []) rfl) rfl (fun w' hw => awake_calls) ?_
  repeat(first|refine lrun_ ?_|(refine lo_boxA rfl rfl ?_;intro _ _ _)|(refine lo_box1 rfl rfl rfl ?_;intro _ _ _)|(refine lo_alloc rfl ?_;intro _ _ _))
  exact l_ret1 rfl rfl fun w' hw => ⟨hw.org, rfl⟩
set_option maxHeartbeats 8000000 in
theorem ovs_calls (h : Sl kRow F w v l) (hp : P64 p) (hn : -9223372036854775808 ≤ n ∧ n ≤ 9223372036854775807) (hr : -2147483648 ≤ r ∧ r ≤ 2147483647) :
    CallsR Try.prog 8 #[v, posV p, .agg #[.int .i32 r, .int .i64 n]] w fun u w' => Kn w w' ∧ u = .bool true := by
  obtain ⟨A, c, e⟩ : ∃ A c, v = .slice A l.length c := by obtain ⟨A, c, e, _⟩ := h.form; exact ⟨A, c, e⟩
  subst e
  refine l_enter (fun _ => False) Try.func8 rfl rfl ?_
  repeat(first|refine lrun_ ?_|(refine lo_boxA rfl rfl ?_;intro _ _ _)|(refine lo_box1 rfl rfl rfl ?_;intro _ _ _)|(refine lo_alloc rfl ?_;intro _ _ _))
  rename_i g4 _ _ g5 _ _
  refine lo_call (n_call rfl) rfl (fun w' hw => fit_calls (Kn.sl hw.org h)) ?_
  cases hf : fitB l with
  | false =>
    repeat(first|refine lrun_ ?_|(refine lo_boxA rfl rfl ?_;intro _ _ _)|(refine lo_box1 rfl rfl rfl ?_;intro _ _ _)|(refine lo_alloc rfl ?_;intro _ _ _))
    refine l_true rfl ?_
    repeat(first|refine lrun_ ?_|(refine lo_boxA rfl rfl ?_;intro _ _ _)|(refine lo_box1 rfl rfl rfl ?_;intro _ _ _)|(refine lo_alloc rfl ?_;intro _ _ _))
    exact l_ret1 rfl rfl fun w' hw => ⟨hw.org, rfl⟩
  | true =>
  obtain ⟨⟨hll, hlr⟩, hpl⟩ := fit_iff.1 hf
  obtain ⟨J, hJ⟩ : ∃ J, overM l p r n = J := ⟨_, rfl⟩
  have hov := fun (w' : World) (F' : Nat → Prop) (v : Value) (h : Sl kRow F' w' v l) => overN_calls (n := n) h hp hn hr (by omega) (by omega)
  rw [hJ] at hov
  repeat(first|refine lrun_ ?_|(refine lo_boxA rfl rfl ?_;intro _ _ _)|(refine lo_box1 rfl rfl rfl ?_;intro _ _ _)|(refine lo_alloc rfl ?_;intro _ _ _))
  refine l_false rfl ?_
  refine l_go .skip ?_
  repeat(first|refine lrun_ ?_|(refine lo_boxA rfl rfl ?_;intro _ _ _)|(refine lo_box1 rfl rfl rfl ?_;intro _ _ _)|(refine lo_alloc rfl ?_;intro _ _ _))
  refine l_draw [(0, 0), (2, 0), (3, 0), (4, 0), (5, 0), (6, 0), (0, 2), (0, 0), (0, 0), (0, 0), (0, 0), (0, 0), (0, 0), (0, 0), (0, 0), (0, 0)] (by kernel_rfl) (by kernel_rfl) rfl (by kernel_rfl) ?_
  repeat(first|refine lrund_ ?_|(refine ld_open rfl ?_;first|(refine ld_boxA rfl wy_ rfl ?_;intro _ _ _)|(refine ld_box1 rfl rfl wy_ rfl ?_;intro _ _ _)|(refine ld_alloc wy_ rfl ?_;intro _ _ _)))
  refine ld_branch2 1 12 [(0, 2), (0, 0), (0, 0), (0, 0), (0, 0), (0, 0), (0, 0), (0, 0), (0, 0)] [(1, 1), (7, 1), (8, 0), (9, 0), (10, 0), (11, 0), (13, 0), (14, 1), (15, 0)] (by kernel_rfl) rfl rfl (by kernel_rfl) (by kernel_rfl) ?_ ?_
  · refine lb_open rfl ?_
    refine lb_callX (n_call rfl) wy_ rfl (fun w' hw' => twinN_calls (Kn.sl hw'.org h)) ?_
    intro u1 N1 hN1
    obtain ⟨A1, c1, rfl⟩ := hN1.1
    refine ld_branch2 7 12 [(8, 0), (9, 0), (10, 0), (11, 0), (12, 1), (13, 0), (14, 1), (15, 0)] [(7, 1), (8, 0), (9, 0), (10, 0), (11, 0), (13, 0), (14, 1), (15, 0)] (by kernel_rfl) rfl rfl (by kernel_rfl) (by kernel_rfl) ?_ ?_
    · refine lb_open rfl ?_
      refine lb_callX (n_call rfl) wy_ rfl (fun w' hw' => hov w' _ _ (hN1.now hw' fun g o hm => min_l (min_l hm))) ?_
      rintro _ N2 ⟨s2, rfl, hN2⟩
      obtain ⟨A11, c11, rfl⟩ := hN2.1
      refine st_ ?_
      refine st_ ?_
      refine st_ ?_
      refine st_ ?_
      refine ld_open rfl ?_; refine ld_alloc wy_ rfl ?_
      intro g12 _ _
      refine st_ ?_
      refine st_ ?_
      refine st_ ?_
      refine ld_nil (MCat.cons (mcat_app (mcat_app .nil))) ?_
      refine l_baseM (M3 := (g12, _) :: [(g5, cb [.int .i32 r, .int .i64 n] 58), (g4, cb [.int .i64 p.1, .int .i64 p.2] 24)]) (.keep rfl (msub_appL msub_app)) fun w9 hw9 => ?_
      exact oo_tail h hp hn hr hll (by omega) hJ (hN2.hd hw9 (fun g o hm => .tl (min_l hm)) (.keep rfl (msub_appL msub_app)) fun k hk hm => nd_c hw9.nd hk (msub_mk msub_app) hm) _ (by repeat (first | exact SubB.nil | refine SubB.cons rfl ?_)) _ (by repeat(first|exact MSub.refl|refine MSub.keep rfl ?_|exact MSub.nil|apply MSub.drop))
    · refine lb_open rfl ?_
      refine lb_alloc wy_ rfl ?_
      intro g12 _ _
      refine ld_open rfl ?_; refine ld_callX (n_call rfl) wy_ rfl (fun w' hw' => hov w' _ _ (hN1.now hw' fun g o hm => .tl (min_l (min_l hm)))) ?_
      rintro _ N2 ⟨s2, rfl, hN2⟩
      obtain ⟨A11, c11, rfl⟩ := hN2.1
      repeat(first|refine lrund_ ?_|(refine ld_open rfl ?_;first|(refine ld_boxA rfl wy_ rfl ?_;intro _ _ _)|(refine ld_box1 rfl rfl wy_ rfl ?_;intro _ _ _)|(refine ld_alloc wy_ rfl ?_;intro _ _ _)))
      refine ld_open rfl ?_; refine ld_storeWX rfl rfl (min_l (min_app .hd)) (by rfl) rfl (by rfl) (by rfl) (mup_app .hd) wy_ rfl ?_
      repeat(first|refine lrund_ ?_|(refine ld_open rfl ?_;first|(refine ld_boxA rfl wy_ rfl ?_;intro _ _ _)|(refine ld_box1 rfl rfl wy_ rfl ?_;intro _ _ _)|(refine ld_alloc wy_ rfl ?_;intro _ _ _)))
      refine ld_nil (mcat_app (MCat.cons (mcat_app .nil))) ?_
      refine l_baseM (M3 := (g12, _) :: [(g5, cb [.int .i32 r, .int .i64 n] 58), (g4, cb [.int .i64 p.1, .int .i64 p.2] 24)]) (msub_appL (.keep rfl msub_app)) fun w9 hw9 => ?_
      exact oo_tail h hp hn hr hll (by omega) hJ (hN2.hd hw9 (fun g o hm => min_l hm) (msub_appL (.keep rfl msub_app)) fun k hk hm => nd_l hw9.nd hk (msub_mk (.keep rfl msub_app) k hm)) _ (by repeat (first | exact SubB.nil | refine SubB.cons rfl ?_)) _ (by repeat(first|exact MSub.refl|refine MSub.keep rfl ?_|exact MSub.nil|apply MSub.drop))
  · refine lb_open rfl ?_
    refine lb_alloc wy_ rfl ?_
    intro g12 _ _
    refine ld_open rfl ?_; refine ld_callX (n_call rfl) wy_ rfl (fun w' hw' => twinN_calls (Kn.sl hw'.org h)) ?_
    intro u1 N1 hN1
    obtain ⟨A1, c1, rfl⟩ := hN1.1
    refine ld_open rfl ?_; refine ld_callX (n_call rfl) wy_ rfl (fun w' hw' => hov w' _ _ (hN1.now hw' fun g o hm => min_l (min_l hm))) ?_
    rintro _ N2 ⟨s2, rfl, hN2⟩
    obtain ⟨A11, c11, rfl⟩ := hN2.1
    repeat(first|refine lrund_ ?_|(refine ld_open rfl ?_;first|(refine ld_boxA rfl wy_ rfl ?_;intro _ _ _)|(refine ld_box1 rfl rfl wy_ rfl ?_;intro _ _ _)|(refine ld_alloc wy_ rfl ?_;intro _ _ _)))
    refine ld_open rfl ?_; refine ld_storeWX rfl rfl (min_l (min_app (min_app .hd))) (by rfl) rfl (by rfl) (by rfl) (mup_app (mup_app .hd)) wy_ rfl ?_
    repeat(first|refine lrund_ ?_|(refine ld_open rfl ?_;first|(refine ld_boxA rfl wy_ rfl ?_;intro _ _ _)|(refine ld_box1 rfl rfl wy_ rfl ?_;intro _ _ _)|(refine ld_alloc wy_ rfl ?_;intro _ _ _)))
    refine ld_nil (mcat_app (mcat_app (MCat.cons .nil))) ?_
    refine l_baseM (M3 := (g12, _) :: [(g5, cb [.int .i32 r, .int .i64 n] 58), (g4, cb [.int .i64 p.1, .int .i64 p.2] 24)]) (msub_appL msub_app) fun w9 hw9 => ?_
    exact oo_tail h hp hn hr hll (by omega) hJ (hN2.hd hw9 (fun g o hm => min_l hm) (msub_appL msub_app) fun k hk hm => nd_l hw9.nd hk (msub_mk msub_app k hm)) _ (by repeat (first | exact SubB.nil | refine SubB.cons rfl ?_)) _ (by repeat(first|exact MSub.refl|refine MSub.keep rfl ?_|exact MSub.nil|apply MSub.drop))
end
abbrev kOne : Kd (Int × Int) := kIso (kPair kRune kI64) (fun a => a) 16 (by decide)
instance : StrucT Try.prog 58 [21, 3] := ⟨by kernel_rfl, by kernel_rfl⟩
instance : RdT Try.prog 58 kOne := rd_struct (g := fun a => a) inferInstance inferInstance (fun _ => rfl) (by kernel_rfl) (by kernel_rfl)
theorem law_OperOvers {W : World} {u : Value} {l : List (List Int)} {p : Ps} {cs ds : List Value} {x : Int × Int} (h : Sl kRow (fun _ => True) W u l) (hp : kPs.R (fun _ => True) W p cs) (hx : kOne.R (fun _ => True) W x ds) :
    CallsR Try.prog 8 #[u, .agg cs.toArray, .agg ds.toArray] W fun r w' => r = .bool true ∧ Kn W w' := by
  obtain ⟨rfl, hp'⟩ := ps_form hp
  obtain ⟨c1, c2, rfl, ⟨rfl, h1⟩, ⟨rfl, h2⟩⟩ := hx
  exact (ovs_calls h hp' h2 h1).mono fun r w' ⟨h1, h2⟩ => ⟨h2, h1⟩
end Go.Ink
