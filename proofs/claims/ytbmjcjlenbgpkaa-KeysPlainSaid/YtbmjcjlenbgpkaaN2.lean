/-
  KeysPlain.
-/
import Derived.Test.YtbmjcjlenbgpkaaK8
import Derived.Test.YtbmjcjlenbgpkaaRead
set_option linter.unusedVariables false
set_option linter.unusedSimpArgs false
namespace Go.Ink
open Go Go.Proofs Go.RowKit

section
variable {P : Program} {fn : Func} {k : List Item} {σ : Sig} {O B w w' : World} {S K D : Nat → Prop} {M M3 : Mm} {R : Pt} {ops : Array Oper} {rest : List Oper}
variable {dd : Option Nat} {op : Op} {oty : TypeId} {opos : String} {oaf : Array Edge} {g : Nat} {ms ms' : List Mg} {ws : List Int}
theorem lo_pushD {r : Int} {f0 : Nat} {res : List Int × Int × List Int} (hT : BdB O B K D g ms ws) (hto : ∀ m ∈ ms, m.2.length ≤ 64) (hr : -2147483648 ≤ r ∧ r ≤ 2147483647) (hws : ws.length ≤ 99) (hres : pushF ms f0 (ws ++ [r]) 0 [] = some res) (hrun : En Try.prog fn.ntmps σ ⟨dd, op, oty, opos, oaf, none⟩ 11 #[.pointer (some ⟨g, 0, none⟩), .int .i32 r]) (hd : okD dd fn.ntmps = true)
    (h : ∀ w w' v D', Lw O S B K M w → Kp D w w' → Kp S O w' → (∀ k, D' k → D k ∨ w.heap.size ≤ k) → BdB O w' (MK M) D' g ms res.2.2 → HdF kRune (fun k => (w.heap.size ≤ k ∧ ¬ D' k) ∧ k < w'.heap.size) w' (MK M) v res.1 → WLo Try.prog fn ops rest k (putS dd (.tuple #[v, .int .i64 res.2.1]) σ) O S w' (MK M) M R) : WLo Try.prog fn ops ((⟨dd, op, oty, opos, oaf, none⟩ : Oper) :: rest) k σ O S B K M R := by
  unfold WLo at *
  refine fun w hw => o_enter hrun (wants_none rfl) hd ((push_calls (hT.now hw) hto hr hws hres).mono fun u w' ⟨k1, v, D', hu, k3, k4, k5⟩ => ?_)
  subst hu
  have hdm : ∀ k, D k → ¬ MK M k := fun k hk => hw.apart (hT.2 k hk).2.2 (hT.2 k hk).2.1
  have ko : Kp S O w' := Kp.then hw.org k1 (fun _ h => h) fun i hi ht => by have := (hT.2 i ht).1; omega
  have hs := hw.org.size
  refine h w w' v (fun k => D' k ∧ k < w'.heap.size) hw k1 ko (fun k hk => k4 k hk.1) ⟨k3.mono fun k hk hl => ⟨hk, hl⟩, fun k hk => ⟨?_, hk.2, ?_⟩⟩ ⟨((k5.slF (fun _ h => h) fun _ h => h.elim).mono fun k hk hl => ⟨⟨hk.1, fun e => hk.2 e.1⟩, hl⟩), fun k hk => ⟨fun hm => by have := hw.lt hm; have := hk.1.1; omega, hk.2⟩⟩ w' ⟨ko, Kp.refl _ _, fun q o hm => k1.blk (hw.mem q o hm) fun ht => hdm q ht ⟨o, hm⟩, hw.nd, fun q hm => ⟨(hw.ge q hm).1, .inr hm⟩⟩
  · exact (k4 k hk.1).elim (fun h => (hT.2 k h).1) fun h => by omega
  · exact fun hm => (k4 k hk.1).elim (fun h => hdm k h hm) fun h => by have := hw.lt hm; omega
end
/-- A rune that no map begins with. -/
theorem push_two {r c : Int} (h : c ≠ r) : pushF [([r, r], [1])] 2 ([] ++ [c]) 0 [] = some ([c], 0, []) := by
  have h1 : ¬ r = c := fun e => h e.symm
  simp [pushF, openM, begM, List.findIdx?_cons, h1]
theorem push_other {r c : Int} (h : c ≠ r) : pushF [([r], [r, r])] 2 ([] ++ [c]) 0 [] = some ([c], 0, []) := by
  simp [pushF, openM, begM, List.findIdx?_cons, h]
theorem push_roundG {r : Int} : ∀ (k n : Nat) (t : List Int), n + k = 20 → pushF [([r], [r, r])] (k + 1) (r :: t) n [] = some ([], 35, [])
  | 0, n, t, h => by
    have hn : 20 < n + 1 := by omega
    simp [pushF, openM, begM, List.findIdx?_cons, hn]
  | k + 1, n, t, h => by
    have hn : ¬ 20 < n + 1 := by omega
    have := push_roundG (r := r) k (n + 1) (r :: t) (by omega)
    simpa [pushF, openM, begM, List.findIdx?_cons, hn] using this
theorem push_round {r : Int} : pushF [([r], [r, r])] 21 ([] ++ [r]) 0 [] = some ([], 35, []) := push_roundG 20 0 [] rfl
theorem next_ne {r : Int} (hr : -2147483648 ≤ r ∧ r ≤ 2147483647) : ∃ q, IntKind.wrap .i32 (r + 1) = q ∧ q ≠ r ∧ -2147483648 ≤ q ∧ q ≤ 2147483647 := by
  by_cases e : r = 2147483647
  · subst e; exact ⟨-2147483648, rfl, by decide, by decide, by decide⟩
  · exact ⟨r + 1, wrap_in32 (by omega) (by omega), by omega, by omega, by omega⟩
set_option maxHeartbeats 16000000 in
theorem plain_tail {w B : World} {K : Nat → Prop} {r : Int} (hr : -2147483648 ≤ r ∧ r ≤ 2147483647) :
    ∀ σ', SubB σ' [(1, .int .i32 r)] → ∀ M', MSub [] M' → WL Try.prog Try.f8 (.code (bodyC Try.f8 [1, 1, 1, 1, 1]) :: []) σ' w (fun _ => False) B K M' (fun u w' => Kn w w' ∧ u = .bool true) := by
  intro σ' hs M' hM
  refine WL.sub hs hM ?_
  obtain ⟨q, hq, hqr, hq32⟩ := next_ne hr
  repeat(first|refine lrun_ ?_|(refine lo_boxA rfl rfl ?_;intro _ _ _)|(refine lo_box1 rfl rfl rfl ?_;intro _ _ _)|(refine lo_alloc rfl ?_;intro _ _ _))
  refine lo_callM (n_call (args := []) rfl) rfl (fun w' hw => newB_calls) ?_
  rintro w1 _ w2 hw1 kn1 ko1 ⟨g, rfl, hP⟩
  have hs1 := hw1.org.size
  have hs2 := kn1.size
  have hB2 : BdB w w2 (MK _) (fun k => noB w1 k ∧ k < w2.heap.size) g [] [] := ⟨hP.mono fun k hk hl => ⟨hk, hl⟩, fun k hk => ⟨by have := hk.1; unfold noB at this; omega, hk.2, fun hm => by have := hw1.lt hm; have := hk.1; unfold noB at this; omega⟩⟩
  have hgew : ∀ k, noB w1 k ∧ k < w2.heap.size → w1.heap.size ≤ k ∧ k < w2.heap.size := fun k hk => ⟨by have := hk.1; unfold noB at this; omega, hk.2⟩
  clear hP
  repeat(first|refine lrun_ ?_|(refine lo_boxA rfl rfl ?_;intro _ _ _)|(refine lo_box1 rfl rfl rfl ?_;intro _ _ _)|(refine lo_alloc rfl ?_;intro _ _ _))
  refine lo_lit (cs := [.int .i32 r]) rfl (by decide) (by kernel_rfl) rfl ?_
  intro g45 hg45 hg45'
  repeat(first|refine lrun_ ?_|(refine lo_boxA rfl rfl ?_;intro _ _ _)|(refine lo_box1 rfl rfl rfl ?_;intro _ _ _)|(refine lo_alloc rfl ?_;intro _ _ _))
  refine lo_lit (cs := [.int .i32 r, .int .i32 r]) rfl (by decide) (by kernel_rfl) rfl ?_
  intro g46 hg46 hg46'
  refine lo_map hB2 (ms' := [([r], [r, r])]) (n_call rfl) rfl (fun w' hw => map1_calls (Fx := fun k => k = g45) (Fy := fun k => k = g46) (hB2.now hw) (sl_row (xs := [r]) (hw.mem g45 _ (.tl .hd)) rfl (by simpa using hr) (by simp)) (sl_row (xs := [r, r]) (hw.mem g46 _ .hd) rfl (by simpa using hr) (by simp)) (fun k hk _ e => by have := hgew k e; omega) (fun k hk _ e => by have := hgew k e; omega) (by simp) (by simp) (by simp)) ?_
  intro w3 w4 hw3 kp3 ko3 hB4
  repeat(first|refine lrun_ ?_|(refine lo_boxA rfl rfl ?_;intro _ _ _)|(refine lo_box1 rfl rfl rfl ?_;intro _ _ _)|(refine lo_alloc rfl ?_;intro _ _ _))
  refine lo_push (f0 := 21) (r := r) hB4 (by simp) hr (by simp) (res := ([], 35, [])) push_round (n_call rfl) rfl ?_
  intro w5 w6 v6 D6 hw5 kp5 ko5 hB6 hv6
  obtain ⟨A6, c6, rfl, _⟩ := hv6.1.form
  repeat(first|refine lrun_ ?_|(refine lo_boxA rfl rfl ?_;intro _ _ _)|(refine lo_box1 rfl rfl rfl ?_;intro _ _ _)|(refine lo_alloc rfl ?_;intro _ _ _))
  refine lo_rn (v := .int .i32 q) (fun _ => hq ▸ r_addw rfl rfl) rfl ?_
  refine lo_push (f0 := 2) (r := q) hB6 (by simp) hq32 (by simp) (res := ([q], 0, [])) (push_other hqr) (n_call rfl) rfl ?_
  intro w7 w8 v8 D8 hw7 kp7 ko7 hB8 hv8
  obtain ⟨A8, c8, rfl, _⟩ := hv8.1.form
  repeat(first|refine lrun_ ?_|(refine lo_boxA rfl rfl ?_;intro _ _ _)|(refine lo_box1 rfl rfl rfl ?_;intro _ _ _)|(refine lo_alloc rfl ?_;intro _ _ _))
  refine lo_call (n_call rfl) rfl (fun w' hw => waits_calls (hB8.now hw)) ?_
  repeat(first|refine lrun_ ?_|(refine lo_boxA rfl rfl ?_;intro _ _ _)|(refine lo_box1 rfl rfl rfl ?_;intro _ _ _)|(refine lo_alloc rfl ?_;intro _ _ _))
  refine lo_call (n_call (args := []) rfl) rfl (fun w' hw => awake_calls) ?_
  repeat(first|refine lrun_ ?_|(refine lo_boxA rfl rfl ?_;intro _ _ _)|(refine lo_box1 rfl rfl rfl ?_;intro _ _ _)|(refine lo_alloc rfl ?_;intro _ _ _))
  exact l_ret1 rfl rfl fun w' hw => ⟨hw.org, rfl⟩
set_option maxHeartbeats 16000000 in
theorem law_KeysPlain {W : World} {v : Value} {l : List Int} {r : Int} (h : Sl kRune (fun _ => True) W v l) (hr : -2147483648 ≤ r ∧ r ≤ 2147483647) : CallsR Try.prog 8 #[v, .int .i32 r] W fun r w' => r = .bool true ∧ Kn W w' := by
  suffices h : CallsR Try.prog 8 #[v, .int .i32 r] W fun r w' => Kn W w' ∧ r = .bool true from h.mono fun _ _ ⟨a, b⟩ => ⟨b, a⟩
  obtain ⟨A, c, ad, rfl, hX⟩ := h.rns
  have hrng := hX.lo
  refine l_enter (args := [.slice A l.length c, .int .i32 r]) (fun _ => False) Try.func8 rfl rfl ?_
  repeat(first|refine lrun_ ?_|(refine lo_boxA rfl rfl ?_;intro _ _ _)|(refine lo_box1 rfl rfl rfl ?_;intro _ _ _)|(refine lo_alloc rfl ?_;intro _ _ _))
  refine lo_callM (n_call (args := []) rfl) rfl (fun w' hw => newB_calls) ?_
  rintro w1 _ w2 hw1 kn1 ko1 ⟨g, rfl, hP⟩
  have hs1 := hw1.org.size
  have hs2 := kn1.size
  have hB2 : BdB W w2 (MK _) (fun k => noB w1 k ∧ k < w2.heap.size) g [] [] := ⟨hP.mono fun k hk hl => ⟨hk, hl⟩, fun k hk => ⟨by have := hk.1; unfold noB at this; omega, hk.2, fun hm => by have := hw1.lt hm; have := hk.1; unfold noB at this; omega⟩⟩
  have hgew : ∀ k, noB w1 k ∧ k < w2.heap.size → w1.heap.size ≤ k ∧ k < w2.heap.size := fun k hk => ⟨by have := hk.1; unfold noB at this; omega, hk.2⟩
  clear hP
  repeat(first|refine lrun_ ?_|(refine lo_boxA rfl rfl ?_;intro _ _ _)|(refine lo_box1 rfl rfl rfl ?_;intro _ _ _)|(refine lo_alloc rfl ?_;intro _ _ _))
  refine lo_lit (cs := [.int .i32 r, .int .i32 r]) rfl (by decide) (by kernel_rfl) rfl ?_
  intro g45 hg45 hg45'
  repeat(first|refine lrun_ ?_|(refine lo_boxA rfl rfl ?_;intro _ _ _)|(refine lo_box1 rfl rfl rfl ?_;intro _ _ _)|(refine lo_alloc rfl ?_;intro _ _ _))
  refine lo_lit (cs := [.int .i32 1]) rfl (by decide) (by kernel_rfl) rfl ?_
  intro g46 hg46 hg46'
  repeat(first|refine lrun_ ?_|(refine lo_boxA rfl rfl ?_;intro _ _ _)|(refine lo_box1 rfl rfl rfl ?_;intro _ _ _)|(refine lo_alloc rfl ?_;intro _ _ _))
  refine lo_map hB2 (ms' := [([r, r], [1])]) (n_call rfl) rfl (fun w' hw => map1_calls (Fx := fun k => k = g45) (Fy := fun k => k = g46) (hB2.now hw) (sl_row (xs := [r, r]) (hw.mem g45 _ (.tl .hd)) rfl (by simpa using hr) (by simp)) (sl_row (xs := [1]) (hw.mem g46 _ .hd) rfl (by decide) (by simp)) (fun k hk _ e => by have := hgew k e; omega) (fun k hk _ e => by have := hgew k e; omega) (by simp) (by simp) (by simp)) ?_
  intro w3 w4 hw3 kp3 ko3 hB4
  repeat(first|refine lrun_ ?_|(refine lo_boxA rfl rfl ?_;intro _ _ _)|(refine lo_box1 rfl rfl rfl ?_;intro _ _ _)|(refine lo_alloc rfl ?_;intro _ _ _))
  refine l_false rfl ?_
  refine l_go .skip ?_
  repeat(first|refine lrun_ ?_|(refine lo_boxA rfl rfl ?_;intro _ _ _)|(refine lo_box1 rfl rfl rfl ?_;intro _ _ _)|(refine lo_alloc rfl ?_;intro _ _ _))
  refine l_whileB (T := Nat × Value) (fun s => l.length - s.1) (fun s => [(0, .slice A l.length c), (1, .int .i32 r), (5, .pointer (some ⟨g, 0, none⟩)), (6, s.2), (7, .int .i64 (s.1 : Int))]) (fun _ => [])
    (fun s b => s.1 ≤ l.length ∧ s.1 ≤ 200 ∧ ∃ D outl, BdB W b (MK []) D g [([r, r], [1])] [] ∧ Og kRune W b (MK []) (fun _ => False) s.2 outl ∧ outl.length ≤ s.1 ∧ ∀ k, s.2.ownBlock = some k → ¬ D k) (0, .slice none 0 0) (by repeat (first | exact SubB.nil | refine SubB.cons rfl ?_)) (by repeat(first|exact MSub.refl|refine MSub.keep rfl ?_|exact MSub.nil|apply MSub.drop)) (fun w' hw => ⟨Nat.zero_le _, Nat.zero_le _, _, [], hB4.re hw (by repeat(first|exact MSub.refl|refine MSub.keep rfl ?_|exact MSub.nil|apply MSub.drop)), Ow.nil _ _ _ _, Nat.zero_le _, fun k hk => by cases hk⟩) ?_
  rintro ⟨i, vo⟩ b ⟨hi, hi2, D, outl, hB, hO, hol, hdj⟩ hkb ih
  simp only at hi hi2 hO hol hdj
  by_cases hlt : i < l.length ∧ i < 200
  · obtain ⟨hl1, hl2⟩ := hlt
    repeat(first|refine lrun_ ?_|(refine lo_boxA rfl rfl ?_;intro _ _ _)|(refine lo_box1 rfl rfl rfl ?_;intro _ _ _)|(refine lo_alloc rfl ?_;intro _ _ _))
    refine l_yes rfl (by omega) ?_
    refine l_go .skip ?_
    repeat(first|refine lrun_ ?_|(refine lo_boxA rfl rfl ?_;intro _ _ _)|(refine lo_box1 rfl rfl rfl ?_;intro _ _ _)|(refine lo_alloc rfl ?_;intro _ _ _))
    by_cases e : l.getD i 0 = r
    · refine l_yes rfl e ?_
      refine l_go (.exit rfl) ?_
      repeat(first|refine lrun_ ?_|(refine lo_boxA rfl rfl ?_;intro _ _ _)|(refine lo_box1 rfl rfl rfl ?_;intro _ _ _)|(refine lo_alloc rfl ?_;intro _ _ _))
      exact ih (i + 1, vo) b _ ⟨hl1, hl2, D, outl, hB, hO, by simp only; omega, hdj⟩ (by simp only; omega) _ _ (by repeat (first | exact SubB.nil | refine SubB.cons rfl ?_)) (by repeat(first|exact MSub.refl|refine MSub.keep rfl ?_|exact MSub.nil|apply MSub.drop)) fun w' hw' => ⟨hl1, hl2, D, outl, hB.re hw' (by repeat(first|exact MSub.refl|refine MSub.keep rfl ?_|exact MSub.nil|apply MSub.drop)), hO.keep fun k hk => hw'.kp.block k (hO.block k hk).2 (hO.block k hk).1.2, by simp only; omega, hdj⟩
    · refine l_no rfl e ?_
      refine l_go .skip ?_
      repeat(first|refine lrun_ ?_|(refine lo_boxA rfl rfl ?_;intro _ _ _)|(refine lo_box1 rfl rfl rfl ?_;intro _ _ _)|(refine lo_alloc rfl ?_;intro _ _ _))
      refine lo_pushD (f0 := 2) (r := l.getD i 0) hB (by simp) (hrng i) (by simp) (res := ([l.getD i 0], 0, [])) (push_two e) (n_call rfl) rfl ?_
      intro w5 w6 v6 D6 hw5 kp5 ko5 hD6 hB6 hv6
      obtain ⟨A6, c6, rfl, hc6, hf6⟩ := hv6.1.form
      obtain ⟨ad6, rfl, hfa, hcell⟩ := one_list hv6.1 (by simp)
      have hnk := (hv6.2 _ hfa).1
      have hs5 := hw5.kp.size
      have hs6 := kp5.size
      have hO6 : Og kRune W w6 (MK []) (fun _ => False) vo outl := (hO.keep (F' := fun _ => False) fun k hk => hw5.kp.block k (hO.block k hk).2 (hO.block k hk).1.2).keep fun k hk => kp5.block k (by have := (hO.block k hk).2; omega) (hdj k hk)
      repeat(first|refine lrun_ ?_|(refine lo_boxA rfl rfl ?_;intro _ _ _)|(refine lo_box1 rfl rfl rfl ?_;intro _ _ _)|(refine lo_alloc rfl ?_;intro _ _ _))
      refine l_draw [(0, 0), (1, 0), (2, 0), (3, 0), (4, 0), (5, 0), (6, 0), (7, 0), (8, 0), (9, 0), (10, 0), (11, 0), (12, 0), (13, 0), (14, 0), (15, 0), (16, 0), (17, 0), (18, 0), (19, 1), (20, 0), (21, 0)] (by kernel_rfl) (by kernel_rfl) rfl (by kernel_rfl) ?_
      repeat(first|refine lrund_ ?_|(refine ld_open rfl ?_;first|(refine ld_boxA rfl wy_ rfl ?_;intro _ _ _)|(refine ld_box1 rfl rfl wy_ rfl ?_;intro _ _ _)|(refine ld_alloc wy_ rfl ?_;intro _ _ _)))
      refine ld_open rfl ?_; refine ld_index (j := 0) rfl rfl rfl (by simp) rfl wy_ rfl ?_
      repeat(first|refine lrund_ ?_|(refine ld_open rfl ?_;first|(refine ld_boxA rfl wy_ rfl ?_;intro _ _ _)|(refine ld_box1 rfl rfl wy_ rfl ?_;intro _ _ _)|(refine ld_alloc wy_ rfl ?_;intro _ _ _)))
      refine ld_open rfl ?_; refine ld_loadB rfl hcell (by rw [add_block]; exact hnk) wy_ rfl ?_
      repeat(first|refine lrund_ ?_|(refine ld_open rfl ?_;first|(refine ld_boxA rfl wy_ rfl ?_;intro _ _ _)|(refine ld_box1 rfl rfl wy_ rfl ?_;intro _ _ _)|(refine ld_alloc wy_ rfl ?_;intro _ _ _)))
      refine ld_open rfl ?_; refine ld_call (n_call rfl) wy_ rfl (fun w' hw' => waits_calls (hB6.now hw')) ?_
      repeat(first|refine lrund_ ?_|(refine ld_open rfl ?_;first|(refine ld_boxA rfl wy_ rfl ?_;intro _ _ _)|(refine ld_box1 rfl rfl wy_ rfl ?_;intro _ _ _)|(refine ld_alloc wy_ rfl ?_;intro _ _ _)))
      refine l_no rfl (by simp) ?_
      refine l_go .skip ?_
      repeat(first|refine lrun_ ?_|(refine lo_boxA rfl rfl ?_;intro _ _ _)|(refine lo_box1 rfl rfl rfl ?_;intro _ _ _)|(refine lo_alloc rfl ?_;intro _ _ _))
      refine lo_appendS (d := kRune) rfl rfl hO6 (fun w' hw' => hv6.now hw') (fun k hk e => by have := (hO.block k e).2; have := hk.1.1; omega) (by show (outl.length + 1) * 4 ≤ 140737488355328; omega) rfl rfl rfl rfl ?_
      intro w7 A7 n7 w8 hw7 ko7 kp7 hold hO8
      have hB8 : BdB W w8 (MK []) D6 g [([r, r], [1])] [] := ⟨hB6.1.kp kp7 fun k hk e => e.elim (fun hm => (mk_nil hm).elim) fun e => (hD6 k hk).elim (hdj k e) fun h => by have := (hO.block k e).2; omega, fun k hk => ⟨(hB6.2 k hk).1, by have := (hB6.2 k hk).2.1; have := kp7.size; omega, fun hm => (mk_nil hm).elim⟩⟩
      have hdj8 : ∀ k, (Value.slice A7 (outl ++ [l.getD i 0]).length n7).ownBlock = some k → ¬ D6 k := fun k hk hd => (hold k hk).elim (fun e => (hD6 k hd).elim (hdj k e) fun h => by have := (hO.block k e).2; omega) fun h => by have := (hB6.2 k hd).2.1; omega
      repeat(first|refine lrun_ ?_|(refine lo_boxA rfl rfl ?_;intro _ _ _)|(refine lo_box1 rfl rfl rfl ?_;intro _ _ _)|(refine lo_alloc rfl ?_;intro _ _ _))
      exact ih (i + 1, _) w8 _ ⟨hl1, hl2, D6, outl ++ [l.getD i 0], hB8, hO8, by simp only [List.length_append, List.length_singleton]; omega, hdj8⟩ (by simp only; omega) _ _ (by repeat (first | exact SubB.nil | refine SubB.cons rfl ?_)) (by repeat(first|exact MSub.refl|refine MSub.keep rfl ?_|exact MSub.nil|apply MSub.drop)) fun w' hw' => ⟨hl1, hl2, D6, outl ++ [l.getD i 0], hB8.re hw' (by repeat(first|exact MSub.refl|refine MSub.keep rfl ?_|exact MSub.nil|apply MSub.drop)), hO8.keep fun k hk => hw'.kp.block k (hO8.block k hk).2 (hO8.block k hk).1.2, by simp only [List.length_append, List.length_singleton]; omega, hdj8⟩
  · by_cases hl1 : i < l.length
    · have hl2 : ¬ i < 200 := fun h => hlt ⟨hl1, h⟩
      repeat(first|refine lrun_ ?_|(refine lo_boxA rfl rfl ?_;intro _ _ _)|(refine lo_box1 rfl rfl rfl ?_;intro _ _ _)|(refine lo_alloc rfl ?_;intro _ _ _))
      refine l_no rfl (by omega) ?_
      refine l_go (.exit rfl) ?_
      exact plain_tail hr _ (by repeat (first | exact SubB.nil | refine SubB.cons rfl ?_)) _ .nil
    · repeat(first|refine lrun_ ?_|(refine lo_boxA rfl rfl ?_;intro _ _ _)|(refine lo_box1 rfl rfl rfl ?_;intro _ _ _)|(refine lo_alloc rfl ?_;intro _ _ _))
      refine l_false rfl ?_
      refine l_go (.exit rfl) ?_
      exact plain_tail hr _ (by repeat (first | exact SubB.nil | refine SubB.cons rfl ?_)) _ .nil
end Go.Ink
