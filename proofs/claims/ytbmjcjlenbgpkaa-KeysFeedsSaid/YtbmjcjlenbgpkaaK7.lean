/-
  A parser in the base, fed rune by rune; fed.
-/
import Derived.Test.YtbmjcjlenbgpkaaK6
set_option linter.unusedVariables false
set_option linter.unusedSimpArgs false
namespace Go.Ink
open Go Go.Proofs Go.RowKit

theorem dgN_ok {r cnt : Int} (hc : 0 ≤ cnt ∧ cnt ≤ 2147483647) : 0 ≤ dgN r cnt ∧ dgN r cnt ≤ 2147483647 := by
  unfold dgN
  split
  · next h =>
    unfold isDg at h
    simp only [decide_eq_true_eq] at h
    split <;> omega
  · exact hc
theorem counted_ok {c : Cmd} {n : Int} (hc : 0 ≤ c.count ∧ c.count ≤ 2147483647) (hn : 0 ≤ n ∧ n ≤ 2147483647) : 0 ≤ (countedM c n).count ∧ (countedM c n).count ≤ 2147483647 := by
  unfold countedM
  split
  · exact hc
  · exact timesM_ok hc (by omega)
theorem motion_count (c : Cmd) (r : Int) : (motionM c r).2.count = c.count := by
  unfold motionM
  split
  · rfl
  · split
    · rfl
    · split <;> rfl
theorem startC_count (vis : Bool) (c : Cmd) (r : Int) : (startC vis c r).2.count = c.count := by
  unfold startC
  repeat (split; · rfl)
  exact motion_count c r
theorem afterC_count (c : Cmd) (r : Int) : (afterC c r).2.count = c.count := by
  unfold afterC
  repeat (split; · rfl)
  exact motion_count c r
theorem take_ok {n : Wa} {vis : Bool} {c : Cmd} {cnt r : Int} (hc : 0 ≤ c.count ∧ c.count ≤ 2147483647) (hn : 0 ≤ cnt ∧ cnt ≤ 2147483647) : (0 ≤ (takeM n vis c cnt r).2.1.count ∧ (takeM n vis c cnt r).2.1.count ≤ 2147483647) ∧ 0 ≤ (takeM n vis c cnt r).2.2 ∧ (takeM n vis c cnt r).2.2 ≤ 2147483647 := by
  cases n with
  | start =>
    rw [take_start]
    split
    · exact ⟨hc, dgN_ok hn⟩
    · exact ⟨by simp only [startC_count]; exact counted_ok hc hn, Int.le_refl 0, (by decide : (0 : Int) ≤ 2147483647)⟩
  | after =>
    rw [take_after]
    split
    · exact ⟨hc, dgN_ok hn⟩
    · exact ⟨by simp only [afterC_count]; exact counted_ok hc hn, Int.le_refl 0, (by decide : (0 : Int) ≤ 2147483647)⟩
  | reg => rw [take_reg]; split <;> exact ⟨hc, hn⟩
  | big b =>
    rw [take_big]
    split
    · exact ⟨hc, hn⟩
    · split <;> exact ⟨hc, hn⟩
  | obj => rw [take_obj]; split <;> exact ⟨hc, hn⟩
  | arg => rw [take_arg]; split <;> exact ⟨hc, hn⟩
  | key => rw [take_key]; split <;> exact ⟨hc, hn⟩
  | ended => exact ⟨hc, hn⟩
  | none => exact ⟨hc, hn⟩
theorem pst0_ok : PstOk pst0 := ⟨rfl, ⟨by decide, by decide⟩, ⟨by decide, by decide⟩⟩
theorem feed_ok {s : Pst} {r : Int} {v : Bool} (h : PstOk s) : PstOk (feedM s r v).2 := by
  unfold feedM fedM
  have ht := take_ok (n := s.n) (vis := if s.held = [] then v else s.vis) (r := r) h.cc h.cnt
  split
  · exact pst0_ok
  · exact pst0_ok
  · next h1 h2 =>
    refine ⟨?_, ht.2, ht.1⟩
    simp only
    generalize (takeM s.n (if s.held = [] then v else s.vis) s.c s.cnt r).1 = n at *
    cases n with
    | ended => exact absurd rfl h1
    | none => exact absurd rfl h2
    | _ => rfl
theorem feed_held {s : Pst} {r : Int} {v : Bool} : (feedM s r v).2.held.length ≤ s.held.length + 1 := by
  unfold feedM fedM
  split
  · simp
  · simp
  · simp
theorem msub_mk {M M' : Mm} (h : MSub M M') : ∀ k, MK M k → MK M' k := fun k ⟨o, hm⟩ => ⟨o, h.mem hm⟩
theorem mk_keys {M M' : Mm} {k : Nat} (hk : MK M' k) (h : M'.map (·.1) = M.map (·.1)) : MK M k := MK_iff.2 (h ▸ MK_iff.1 hk)
/-- A parser in the base, one's own. -/
def PrB (O B : World) (K D : Nat → Prop) (g : Nat) (s : Pst) : Prop := IsPr D g B s ∧ ∀ k, D k → O.heap.size ≤ k ∧ k < B.heap.size ∧ ¬ K k
section
variable {P : Program} {fn : Func} {k : List Item} {σ : Sig} {O B w w' : World} {S K D : Nat → Prop} {M M3 : Mm} {R : Pt} {ops : Array Oper} {rest : List Oper}
variable {dd : Option Nat} {op : Op} {oty : TypeId} {opos : String} {oaf : Array Edge} {g : Nat} {s : Pst}
theorem PrB.now (h : PrB O B K D g s) (hw : Lw O S B K M w) : IsPr D g w s := h.1.kp hw.kp fun k hk => (h.2 k hk).2.2
theorem PrB.next (h : PrB O B K D g s) (hw : Lw O S B K M w) (kn : Kn w w') : PrB O w' (MK M) D g s :=
  ⟨(h.now hw).kp kn fun _ _ h => h, fun k hk => ⟨(h.2 k hk).1, by have := (h.2 k hk).2.1; have := hw.kp.size; have := kn.size; omega, hw.apart (h.2 k hk).2.2 (h.2 k hk).2.1⟩⟩
theorem PrB.re (h : PrB O B K D g s) (hw : Lw O S B K M w) (hs : MSub M3 M) : PrB O w (MK M3) D g s := ⟨h.now hw, fun k hk => ⟨(h.2 k hk).1, by have := (h.2 k hk).2.1; have := hw.kp.size; omega, fun hm => hw.apart (h.2 k hk).2.2 (h.2 k hk).2.1 (msub_mk hs k hm)⟩⟩
theorem PrB.less {K' : Nat → Prop} (h : PrB O B K D g s) (hK : ∀ k, K' k → K k) : PrB O B K' D g s := ⟨h.1, fun k hk => ⟨(h.2 k hk).1, (h.2 k hk).2.1, fun e => (h.2 k hk).2.2 (hK k e)⟩⟩
theorem lo_feed {r : Int} {v : Bool} (hT : PrB O B K D g s) (hok : PstOk s) (hr : -2147483648 ≤ r ∧ r ≤ 2147483647) (hl : s.held.length ≤ 1048576) (hrun : En Try.prog fn.ntmps σ ⟨dd, op, oty, opos, oaf, none⟩ 20 #[.pointer (some ⟨g, 0, none⟩), .int .i32 r, .bool v]) (hd : okD dd fn.ntmps = true)
    (h : ∀ w w', Lw O S B K M w → Kp D w w' → Kp S O w' → PrB O w' (MK M) (fun k => gD D w k ∧ k < w'.heap.size) g (feedM s r v).2 → WLo Try.prog fn ops rest k (putS dd (.tuple #[.agg (cmdL (feedM s r v).1.1).toArray, .int .i64 (feedM s r v).1.2]) σ) O S w' (MK M) M R) : WLo Try.prog fn ops ((⟨dd, op, oty, opos, oaf, none⟩ : Oper) :: rest) k σ O S B K M R := by
  unfold WLo at *
  refine fun w hw => o_enter hrun (wants_none rfl) hd ((feed_calls (hT.now hw) hok hr hl).mono fun u w' ⟨k1, hu, k3⟩ => ?_)
  subst hu
  have hdm : ∀ k, D k → ¬ MK M k := fun k hk => hw.apart (hT.2 k hk).2.2 (hT.2 k hk).2.1
  have ko : Kp S O w' := Kp.then hw.org k1 (fun _ h => h) fun i hi ht => by have := (hT.2 i ht).1; omega
  have hs := hw.org.size
  refine h w w' hw k1 ko ⟨k3.mono fun k hk hl => ⟨hk, hl⟩, fun k hk => ⟨?_, hk.2, ?_⟩⟩ w' ⟨ko, Kp.refl _ _, fun q o hm => k1.blk (hw.mem q o hm) fun ht => hdm q ht ⟨o, hm⟩, hw.nd, fun q hm => ⟨(hw.ge q hm).1, .inr hm⟩⟩
  · exact hk.1.elim (fun h => (hT.2 k h).1) fun h => by omega
  · exact fun hm => hk.1.elim (fun h => hdm k h hm) fun h => by have := hw.lt hm; omega
end
theorem byte_eq {s : ByteArray} {i : Nat} (hi : i < s.size) : byteAt s (i : Int) = (bytesL s).getD i 0 := by
  have hi' : i < s.data.toList.length := by simpa using hi
  unfold byteAt bytesL
  rw [Int.toNat_natCast, List.getD_eq_getElem?_getD, List.getD_eq_getElem?_getD, List.getElem?_map, List.getElem?_eq_getElem hi']
  rfl
/-- What is told, and left, where runes are fed. -/
def runM (v : Bool) : List Int → (Cmd × Int) × Pst → (Cmd × Int) × Pst
  | [], x => x
  | r :: t, x => runM v t (feedM x.2 r v)
theorem run_snoc (v : Bool) (r : Int) : ∀ (l : List Int) (x : (Cmd × Int) × Pst), runM v (l ++ [r]) x = feedM (runM v l x).2 r v
  | [], _ => rfl
  | q :: t, x => run_snoc v r t _
theorem run_ok (v : Bool) : ∀ (l : List Int) (x : (Cmd × Int) × Pst), PstOk x.2 → PstOk (runM v l x).2
  | [], _, h => h
  | q :: t, x, h => run_ok v t _ (feed_ok h)
theorem run_held (v : Bool) : ∀ (l : List Int) (x : (Cmd × Int) × Pst), (runM v l x).2.held.length ≤ x.2.held.length + l.length
  | [], _ => Nat.le_refl _
  | q :: t, x => by
    have h1 := run_held v t (feedM x.2 q v)
    have h2 := feed_held (s := x.2) (r := q) (v := v)
    simp only [runM, List.length_cons]
    omega
abbrev fed0 : (Cmd × Int) × Pst := ((cmd0, 2), pst0)
set_option maxHeartbeats 8000000 in
theorem fed_calls {w : World} {s : ByteArray} {v : Bool} (hs : asciiB s = true) (hl : s.size ≤ 1000) : CallsR Try.prog 38 #[.string s, .bool v] w fun u w' => Kn w w' ∧ u = .tuple #[.agg (cmdL (runM v (bytesL s) fed0).1.1).toArray, .int .i64 (runM v (bytesL s) fed0).1.2] := by
  refine l_enter (args := [.string s, .bool v]) (fun _ => False) Try.func38 rfl rfl ?_
  have hlen := bytes_len s
  repeat(first|refine lrun_ ?_|(refine lo_boxA rfl rfl ?_;intro _ _ _)|(refine lo_box1 rfl rfl rfl ?_;intro _ _ _)|(refine lo_alloc rfl ?_;intro _ _ _))
  rename_i g4 hg4 _
  refine lo_callM (n_call (args := []) rfl) rfl (fun w' hw => newP_calls) ?_
  rintro w1 _ w2 hw1 kn1 ko1 ⟨g, rfl, hP⟩
  have hs1 := hw1.org.size
  have hs2 := kn1.size
  have hP2 : PrB w w2 (MK [(g4, cb (cmdL cmd0) 43)]) (fun k => noB w1 k ∧ k < w2.heap.size) g pst0 := ⟨hP.mono fun k hk hl => ⟨hk, hl⟩, fun k hk => ⟨by have := hk.1; unfold noB at this; omega, hk.2, fun hm => by have := hw1.lt hm; have := hk.1; unfold noB at this; omega⟩⟩
  repeat(first|refine lrun_ ?_|(refine lo_boxA rfl rfl ?_;intro _ _ _)|(refine lo_box1 rfl rfl rfl ?_;intro _ _ _)|(refine lo_alloc rfl ?_;intro _ _ _))
  rename_i g7 hg7 _
  refine l_whileB (fun i : Nat => s.size - i) (fun i => [(0, .string s), (1, .bool v), (4, .pointer (some ⟨g4, 0, none⟩)), (6, .pointer (some ⟨g, 0, none⟩)), (7, .pointer (some ⟨g7, 0, none⟩)), (8, .int .i64 (runM v ((bytesL s).take i) fed0).1.2), (9, .int .i64 (i : Int))]) (fun i => [(g7, cb (cmdL (runM v ((bytesL s).take i) fed0).1.1) 43), (g4, cb (cmdL cmd0) 43)])
    (fun i b => i ≤ s.size ∧ ∃ D, PrB w b (MK [(g7, cb (cmdL (runM v ((bytesL s).take i) fed0).1.1) 43), (g4, cb (cmdL cmd0) 43)]) D g (runM v ((bytesL s).take i) fed0).2) 0 (by repeat (first | exact SubB.nil | refine SubB.cons rfl ?_)) (by repeat(first|exact MSub.refl|refine MSub.keep rfl ?_|exact MSub.nil|apply MSub.drop)) (fun w' hw => ⟨Nat.zero_le _, _, hP2.re hw (by repeat(first|exact MSub.refl|refine MSub.keep rfl ?_|exact MSub.nil|apply MSub.drop))⟩) ?_
  rintro i b ⟨hi, D, hPb⟩ hkb ih
  by_cases hlt : i < s.size
  · have hti : (bytesL s).take (i + 1) = (bytesL s).take i ++ [(bytesL s).getD i 0] := by
      rw [List.take_succ_eq_append_getElem (by omega), List.getD_eq_getElem?_getD, List.getElem?_eq_getElem (by omega)]
      rfl
    have hrn : runM v ((bytesL s).take (i + 1)) fed0 = feedM (runM v ((bytesL s).take i) fed0).2 ((bytesL s).getD i 0) v := by rw [hti, run_snoc]
    have hok := run_ok v ((bytesL s).take i) fed0 pst0_ok
    have hhl : (runM v ((bytesL s).take i) fed0).2.held.length ≤ i := by
      have := run_held v ((bytesL s).take i) fed0
      rw [List.length_take] at this
      simp at this
      omega
    have ih2 := ih (i + 1)
    rw [hrn] at ih2
    have hb := bytes_at hlt
    generalize runM v ((bytesL s).take i) fed0 = x at *
    have ha := ascii_at hs hlt
    repeat(first|refine lrun_ ?_|(refine lo_boxA rfl rfl ?_;intro _ _ _)|(refine lo_box1 rfl rfl rfl ?_;intro _ _ _)|(refine lo_alloc rfl ?_;intro _ _ _))
    have hrg : 0 ≤ (bytesL s).getD i 0 ∧ (bytesL s).getD i 0 < 128 := by rw [hb]; omega
    refine l_yes rfl (by omega) ?_
    repeat(first|refine lrun_ ?_|(refine lo_boxA rfl rfl ?_;intro _ _ _)|(refine lo_box1 rfl rfl rfl ?_;intro _ _ _)|(refine lo_alloc rfl ?_;intro _ _ _))
    refine lo_rn (fun _ => r_indexS rfl rfl (by omega) (by omega)) rfl ?_
    rw [byte_eq hlt]
    generalize (bytesL s).getD i 0 = b at *
    repeat(first|refine lrun_ ?_|(refine lo_boxA rfl rfl ?_;intro _ _ _)|(refine lo_box1 rfl rfl rfl ?_;intro _ _ _)|(refine lo_alloc rfl ?_;intro _ _ _))
    refine lo_feed hPb hok (by omega) (by omega) (n_call rfl) rfl ?_
    intro w5 w6 hw5 kp5 ko5 hP6
    repeat(first|refine lrun_ ?_|(refine lo_boxA rfl rfl ?_;intro _ _ _)|(refine lo_box1 rfl rfl rfl ?_;intro _ _ _)|(refine lo_alloc rfl ?_;intro _ _ _))
    exact ih2 w6 _ ⟨hlt, _, hP6.less fun k hk => mk_keys hk rfl⟩ (by omega) _ _ (by repeat (first | exact SubB.nil | refine SubB.cons rfl ?_)) (by repeat(first|exact MSub.refl|refine MSub.keep rfl ?_|exact MSub.nil|apply MSub.drop)) fun w' hw' => ⟨hlt, _, hP6.re hw' (by repeat(first|exact MSub.refl|refine MSub.keep rfl ?_|exact MSub.nil|apply MSub.drop))⟩
  · obtain rfl : i = s.size := by omega
    rw [List.take_of_length_le (by omega)] at *
    repeat(first|refine lrun_ ?_|(refine lo_boxA rfl rfl ?_;intro _ _ _)|(refine lo_box1 rfl rfl rfl ?_;intro _ _ _)|(refine lo_alloc rfl ?_;intro _ _ _))
    refine l_no rfl (by omega) ?_
    refine l_go (.exit rfl) ?_
    repeat(first|refine lrun_ ?_|(refine lo_boxA rfl rfl ?_;intro _ _ _)|(refine lo_box1 rfl rfl rfl ?_;intro _ _ _)|(refine lo_alloc rfl ?_;intro _ _ _))
    exact l_retR2 rfl (by repeat(first|exact LRes.nil|refine LRes.tmp rfl ?_|refine LRes.agg rfl (by(repeat(first|exact MIn.hd|refine MIn.tl ?_));done) (by rfl) (by rfl) ?_|refine LRes.one rfl (by(repeat(first|exact MIn.hd|refine MIn.tl ?_));done) (by rfl) ?_)) fun w' hw => ⟨hw.org, rfl⟩
end Go.Ink
