/-
  The reference's Paste: Runes of many lines, widest, each, filled, whole.
  The reference's Paste: whole.
  The reference's Paste: block.
  The reference's Paste: chars.
  The reference's Paste.
  The reference's Paste, as a whole.
  OperPastes.
-/
import Derived.Test.YtepjngapfmfkeaaS1
import Derived.Test.YtepjngapfmfkeaaQE
import Derived.Test.YtepjngapfmfkeaaNw
import Derived.Test.YtepjngapfmfkeaaLap
import Derived.Test.YtepjngapfmfkeaaS6
import Derived.Test.YtepjngapfmfkeaaSp
import Derived.Test.YtepjngapfmfkeaaR6
import Derived.Test.YtepjngapfmfkeaaR3
import Derived.Test.YtepjngapfmfkeaaRead
set_option linter.unusedVariables false
set_option linter.unusedSimpArgs false
namespace Go.Ink
open Go Go.Proofs Go.RowKit
section
variable {F : Nat → Prop} {w B : World} {v : Value} {l g : List (List Int)}
theorem runesB_calls (h : Sl kRow F w v l) (hb : runesM l ≤ 1099511627776) (h0 : 0 < l.length) : CallsR Try.prog 51 #[v] w fun u w' => Kn w w' ∧ u = .int .i64 (sizeM l : Nat) := by
  obtain ⟨A, c, ad, rV, rc, ra, rfl, hR⟩ := h.rws
  have hlen := hR.len
  refine l_enter (fun _ => False) Try.func51 rfl rfl ?_
  repeat(first|refine lrun_ ?_|(refine lo_boxA rfl rfl ?_;intro _ _ _)|(refine lo_box1 rfl rfl rfl ?_;intro _ _ _)|(refine lo_alloc rfl ?_;intro _ _ _))
  refine l_while (fun k : Nat => l.length - k) (fun k => [(0, .slice A l.length c), (3, .int .i64 ((l.length : Int) - 1 + (runesM (l.take k) : Nat))), (4, .int .i64 (k : Int))]) (fun _ => []) (fun k => k ≤ l.length) 0 (by rw [show (l.length : Int) - 1 + (runesM (l.take 0) : Nat) = (l.length : Int) - 1 by rw [List.take_zero, runes_nil]; omega]; exact (by repeat (first | exact SubB.nil | refine SubB.cons rfl ?_))) (by repeat(first|exact MSub.refl|refine MSub.keep rfl ?_|exact MSub.nil|apply MSub.drop)) (Nat.zero_le _) ?_
  rintro k hk ih
  by_cases hlt : k < l.length
  · have h1 := runes_take hlt
    have h2 := runes_take_le l (k + 1)
    have h3 := hR.rl k
    repeat(first|refine lrun_ ?_|(refine lo_boxA rfl rfl ?_;intro _ _ _)|(refine lo_box1 rfl rfl rfl ?_;intro _ _ _)|(refine lo_alloc rfl ?_;intro _ _ _))
    refine l_yes rfl (by omega) ?_
    repeat(first|refine lrun_ ?_|(refine lo_boxA rfl rfl ?_;intro _ _ _)|(refine lo_box1 rfl rfl rfl ?_;intro _ _ _)|(refine lo_alloc rfl ?_;intro _ _ _))
    exact ih (k + 1) hlt (by omega) _ _ (by rw [h1, show (l.length : Int) - 1 + ((runesM (l.take k) + (l.getD k []).length : Nat) : Int) = (l.length : Int) - 1 + (runesM (l.take k) : Nat) + (l.getD k []).length by omega]; exact (by repeat (first | exact SubB.nil | refine SubB.cons rfl ?_))) (by repeat(first|exact MSub.refl|refine MSub.keep rfl ?_|exact MSub.nil|apply MSub.drop))
  · obtain rfl : k = l.length := by omega
    rw [List.take_length]
    repeat(first|refine lrun_ ?_|(refine lo_boxA rfl rfl ?_;intro _ _ _)|(refine lo_box1 rfl rfl rfl ?_;intro _ _ _)|(refine lo_alloc rfl ?_;intro _ _ _))
    refine l_no rfl (by omega) ?_
    refine l_go (.exit rfl) ?_
    repeat(first|refine lrun_ ?_|(refine lo_boxA rfl rfl ?_;intro _ _ _)|(refine lo_box1 rfl rfl rfl ?_;intro _ _ _)|(refine lo_alloc rfl ?_;intro _ _ _))
    refine l_ret1 rfl rfl fun w hw => ⟨hw.org, ?_⟩
    congr 1
    unfold sizeM
    split <;> omega
theorem widest_calls (h : Sl kRow F w v l) : CallsR Try.prog 77 #[v] w fun u w' => Kn w w' ∧ u = .int .i64 (wideM l : Nat) := by
  obtain ⟨A, c, ad, rV, rc, ra, rfl, hR⟩ := h.rws
  have hlen := hR.len
  refine l_enter (fun _ => False) Try.func77 rfl rfl ?_
  repeat(first|refine lrun_ ?_|(refine lo_boxA rfl rfl ?_;intro _ _ _)|(refine lo_box1 rfl rfl rfl ?_;intro _ _ _)|(refine lo_alloc rfl ?_;intro _ _ _))
  refine l_while (fun k : Nat => l.length - k) (fun k => [(0, .slice A l.length c), (3, .int .i64 (wideM (l.take k) : Nat)), (4, .int .i64 (k : Int))]) (fun _ => []) (fun k => k ≤ l.length) 0 (by repeat (first | exact SubB.nil | refine SubB.cons rfl ?_)) (by repeat(first|exact MSub.refl|refine MSub.keep rfl ?_|exact MSub.nil|apply MSub.drop)) (Nat.zero_le _) ?_
  rintro k hk ih
  by_cases hlt : k < l.length
  · have h1 := wide_succ hlt
    have h3 := hR.rl k
    have e : (if (wideM (l.take k) : Int) < ((l.getD k []).length : Int) then ((l.getD k []).length : Int) else (wideM (l.take k) : Int)) = (wideM (l.take (k + 1)) : Nat) := by rw [h1]; split <;> split <;> omega
    repeat(first|refine lrun_ ?_|(refine lo_boxA rfl rfl ?_;intro _ _ _)|(refine lo_box1 rfl rfl rfl ?_;intro _ _ _)|(refine lo_alloc rfl ?_;intro _ _ _))
    refine l_yes rfl (by omega) ?_
    repeat(first|refine lrun_ ?_|(refine lo_boxA rfl rfl ?_;intro _ _ _)|(refine lo_box1 rfl rfl rfl ?_;intro _ _ _)|(refine lo_alloc rfl ?_;intro _ _ _))
    exact ih (k + 1) hlt (by omega) _ _ (by rw [← e]; exact (by repeat (first | exact SubB.nil | refine SubB.cons rfl ?_))) (by repeat(first|exact MSub.refl|refine MSub.keep rfl ?_|exact MSub.nil|apply MSub.drop))
  · obtain rfl : k = l.length := by omega
    rw [List.take_length]
    repeat(first|refine lrun_ ?_|(refine lo_boxA rfl rfl ?_;intro _ _ _)|(refine lo_box1 rfl rfl rfl ?_;intro _ _ _)|(refine lo_alloc rfl ?_;intro _ _ _))
    refine l_no rfl (by omega) ?_
    refine l_go (.exit rfl) ?_
    repeat(first|refine lrun_ ?_|(refine lo_boxA rfl rfl ?_;intro _ _ _)|(refine lo_box1 rfl rfl rfl ?_;intro _ _ _)|(refine lo_alloc rfl ?_;intro _ _ _))
    exact l_ret1 rfl rfl fun w hw => ⟨hw.org, rfl⟩
theorem sizeM_pos {g : List (List Int)} (h0 : 0 < g.length) : sizeM g = g.length - 1 + runesM g := rfl
theorem each_calls {kd : Int} (h : Sl kRow F w v g) (hk : 0 ≤ kd ∧ kd ≤ 2) (h0 : 0 < g.length) (hgl : g.length ≤ 4096) (hgr : runesM g ≤ 1048576) : CallsR Try.prog 57 #[.agg #[.int .i64 kd, v]] w fun u w' => Kn w w' ∧ u = .int .i64 (copiedM kd g : Nat) := by
  obtain ⟨A, c, e⟩ : ∃ A c, v = .slice A g.length c := by obtain ⟨A, c, e, _⟩ := h.form; exact ⟨A, c, e⟩
  subst e
  have hs : sizeM g ≤ 1052672 := by unfold sizeM; omega
  have hwd := wide_runes g
  have hmul : wideM g * g.length ≤ 1048576 * 4096 := Nat.mul_le_mul (by omega) hgl
  refine l_enter (fun _ => False) Try.func57 rfl rfl ?_
  unfold copiedM
  by_cases k0 : kd = 0
  · rw [if_neg (by omega), if_neg (by omega)]
    repeat(first|refine lrun_ ?_|(refine lo_boxA rfl rfl ?_;intro _ _ _)|(refine lo_box1 rfl rfl rfl ?_;intro _ _ _)|(refine lo_alloc rfl ?_;intro _ _ _))
    refine l_yes rfl k0 ?_
    repeat(first|refine lrun_ ?_|(refine lo_boxA rfl rfl ?_;intro _ _ _)|(refine lo_box1 rfl rfl rfl ?_;intro _ _ _)|(refine lo_alloc rfl ?_;intro _ _ _))
    refine lo_call (n_call rfl) rfl (fun w' hw => runesB_calls (Kn.sl hw.org h) (by omega) h0) ?_
    repeat(first|refine lrun_ ?_|(refine lo_boxA rfl rfl ?_;intro _ _ _)|(refine lo_box1 rfl rfl rfl ?_;intro _ _ _)|(refine lo_alloc rfl ?_;intro _ _ _))
    exact l_ret1 rfl rfl fun w' hw => ⟨hw.org, rfl⟩
  by_cases k1 : kd = 1
  · rw [if_pos k1]
    repeat(first|refine lrun_ ?_|(refine lo_boxA rfl rfl ?_;intro _ _ _)|(refine lo_box1 rfl rfl rfl ?_;intro _ _ _)|(refine lo_alloc rfl ?_;intro _ _ _))
    refine l_no rfl k0 ?_
    repeat(first|refine lrun_ ?_|(refine lo_boxA rfl rfl ?_;intro _ _ _)|(refine lo_box1 rfl rfl rfl ?_;intro _ _ _)|(refine lo_alloc rfl ?_;intro _ _ _))
    refine l_yes rfl k1 ?_
    repeat(first|refine lrun_ ?_|(refine lo_boxA rfl rfl ?_;intro _ _ _)|(refine lo_box1 rfl rfl rfl ?_;intro _ _ _)|(refine lo_alloc rfl ?_;intro _ _ _))
    refine lo_call (n_call rfl) rfl (fun w' hw => runesB_calls (Kn.sl hw.org h) (by omega) h0) ?_
    repeat(first|refine lrun_ ?_|(refine lo_boxA rfl rfl ?_;intro _ _ _)|(refine lo_box1 rfl rfl rfl ?_;intro _ _ _)|(refine lo_alloc rfl ?_;intro _ _ _))
    exact l_ret1 rfl rfl fun w' hw => ⟨hw.org, by congr 1⟩
  · rw [if_neg k1, if_pos (by omega)]
    repeat(first|refine lrun_ ?_|(refine lo_boxA rfl rfl ?_;intro _ _ _)|(refine lo_box1 rfl rfl rfl ?_;intro _ _ _)|(refine lo_alloc rfl ?_;intro _ _ _))
    refine l_no rfl k0 ?_
    repeat(first|refine lrun_ ?_|(refine lo_boxA rfl rfl ?_;intro _ _ _)|(refine lo_box1 rfl rfl rfl ?_;intro _ _ _)|(refine lo_alloc rfl ?_;intro _ _ _))
    refine l_no rfl k1 ?_
    repeat(first|refine lrun_ ?_|(refine lo_boxA rfl rfl ?_;intro _ _ _)|(refine lo_box1 rfl rfl rfl ?_;intro _ _ _)|(refine lo_alloc rfl ?_;intro _ _ _))
    refine l_draw [(0, 0), (1, 0), (3, 0), (4, 0), (5, 0), (2, 1), (6, 0), (7, 0)] (by kernel_rfl) (by kernel_rfl) rfl (by kernel_rfl) ?_
    repeat(first|refine lrund_ ?_|(refine ld_open rfl ?_;first|(refine ld_boxA rfl wy_ rfl ?_;intro _ _ _)|(refine ld_box1 rfl rfl wy_ rfl ?_;intro _ _ _)|(refine ld_alloc wy_ rfl ?_;intro _ _ _)))
    refine ld_open rfl ?_; refine ld_call (n_call rfl) wy_ rfl (fun w' hw => widest_calls (Kn.sl hw.org h)) ?_
    repeat(first|refine lrund_ ?_|(refine ld_open rfl ?_;first|(refine ld_boxA rfl wy_ rfl ?_;intro _ _ _)|(refine ld_box1 rfl rfl wy_ rfl ?_;intro _ _ _)|(refine ld_alloc wy_ rfl ?_;intro _ _ _)))
    exact l_ret1 rfl rfl fun w' hw => ⟨hw.org, by rw [Int.natCast_mul]⟩
theorem filled_calls {x : List Int} {n : Nat} (h : Sl kRune F w v x) (hx : x.length ≤ 4194304) (hn : n ≤ 4194304) : CallsR Try.prog 79 #[v, .int .i64 (n : Int)] w fun u w' => Kn w w' ∧ Ow kRune (noB w) (fun _ => False) w' u (padM x n) := by
  obtain ⟨A, c, e⟩ : ∃ A c, v = .slice A x.length c := by obtain ⟨A, c, e, _⟩ := h.form; exact ⟨A, c, e⟩
  subst e
  refine l_enter (fun _ => False) Try.func79 rfl rfl ?_
  repeat(first|refine lrun_ ?_|(refine lo_boxA rfl rfl ?_;intro _ _ _)|(refine lo_box1 rfl rfl rfl ?_;intro _ _ _)|(refine lo_alloc rfl ?_;intro _ _ _))
  refine lo_lit (cs := []) rfl (by decide) (by kernel_rfl) rfl ?_
  intro g5 hg5 _
  repeat(first|refine lrun_ ?_|(refine lo_boxA rfl rfl ?_;intro _ _ _)|(refine lo_box1 rfl rfl rfl ?_;intro _ _ _)|(refine lo_alloc rfl ?_;intro _ _ _))
  refine lo_take (M' := []) .nil fun w1 hw1 => ?_
  have hO1 := og_lit0 (d := kRune) (F := fun _ => False) (M' := []) hw1 .hd hg5 mk_nil
  have hs1 := hw1.org.size
  refine lo_appendS (d := kRune) (ys := x) (F2 := fun k => k < w.heap.size) rfl rfl hO1 (fun w' hw => Kn.sl hw.org h.old) (fun j hj ho => by have h8 : g5 = j := Option.some.inj ho; omega) (by show (0 + x.length) * 4 ≤ 140737488355328; omega) rfl rfl rfl rfl ?_
  intro w3 A3 n3 w4 hw3 ko3 kp3 hown hog
  rw [List.nil_append] at hog ⊢
  repeat(first|refine lrun_ ?_|(refine lo_boxA rfl rfl ?_;intro _ _ _)|(refine lo_box1 rfl rfl rfl ?_;intro _ _ _)|(refine lo_alloc rfl ?_;intro _ _ _))
  refine lo_callM (n_call rfl) rfl (fun w' hw => blanksR_calls (by omega)) ?_
  rintro w5 u w6 hw5 kn5 ko5 hO5
  have hog6 : Og kRune w w6 (MK []) (fun _ => False) (.slice A3 x.length n3) x := Kn.ow kn5 (hog.now (fun _ h => h.elim) hw5)
  have hb6 := (hog.now (fun _ h => h.elim) hw5).block
  have er : List.replicate ((n : Int) - (x.length : Int)).toNat (32 : Int) = List.replicate (n - x.length) 32 := by congr 1; omega
  rw [er] at hO5
  obtain ⟨A5, c5, rfl, _, _⟩ := hO5.form
  repeat(first|refine lrun_ ?_|(refine lo_boxA rfl rfl ?_;intro _ _ _)|(refine lo_box1 rfl rfl rfl ?_;intro _ _ _)|(refine lo_alloc rfl ?_;intro _ _ _))
  refine lo_appendS (d := kRune) (ys := List.replicate (n - x.length) 32) (F2 := noB w5) rfl rfl hog6 (fun w' hw => (hw.owN hO5 fun k hm => (mk_nil hm).elim).slF (fun _ h => h) fun _ h => h.elim) (fun k hk e => by have := (hb6 k e).2; unfold noB at hk; omega) (by rw [List.length_replicate]; show (x.length + (n - x.length)) * 4 ≤ 140737488355328; omega) rfl rfl rfl rfl ?_
  intro w7 A7 n7 w8 hw7 ko7 kp7 hown7 hog7
  repeat(first|refine lrun_ ?_|(refine lo_boxA rfl rfl ?_;intro _ _ _)|(refine lo_box1 rfl rfl rfl ?_;intro _ _ _)|(refine lo_alloc rfl ?_;intro _ _ _))
  exact l_ret1 rfl rfl fun w' hw => ⟨hw.org, (hog7.now (fun _ h => h.elim) hw).mono (fun k hk _ => hk.1) fun _ h _ => h⟩
end
end Go.Ink

set_option linter.unusedVariables false
set_option linter.unusedSimpArgs false
namespace Go.Ink
open Go Go.Proofs Go.RowKit
section
variable {F F0 : Nat → Prop} {w B : World} {l g : List (List Int)} {A Ag : Option Addr} {c cg g6 g7 g11 i n : Nat} {kd p2 : Int} {behind : Bool} {kk : List Item} {R : Value → World → Prop}
/-- Own lines: what the loops keep. -/
abbrev OwL (w : World) (K : Nat → Prop) (b : World) (v : Value) (rows : List (List Int)) : Prop := Ow kRow (fre w K) (fre w K) b v rows
theorem OwL.now {K : Nat → Prop} {b w' : World} {v : Value} {rows : List (List Int)} (h : OwL w K b v rows) (hw : Kp K b w') : OwL w K w' v rows := Kp.ow hw h (fun _ h => h.2) fun _ h => h.2
theorem OwL.kn {K : Nat → Prop} {b w' : World} {v : Value} {rows : List (List Int)} (h : OwL w K b v rows) (hw : Kn b w') : OwL w K w' v rows := Kn.ow hw h
/-- What a call made, behind it. -/
theorem OwL.of {w3 w4 O B : World} {S K : Nat → Prop} {M : Mm} {v : Value} {rows : List (List Int)} (h : Ow kRow (noB w3) (noB w3) w4 v rows) (hw : Lw O S B K M w3) : OwL O (MK M) w4 v rows :=
  h.mono (fun k hk _ => ⟨by have := hw.org.size; unfold noB at hk; omega, fun hm => by have := hw.lt hm; unfold noB at hk; omega⟩) fun k hk _ => ⟨by have := hw.org.size; unfold noB at hk; omega, fun hm => by have := hw.lt hm; unfold noB at hk; omega⟩
section
variable {P : Program} {fn : Func} {k : List Item} {σ : Sig} {O B : World} {S K : Nat → Prop} {M : Mm} {R : Pt} {ops : Array Oper} {rest : List Oper} {dd : Option Nat} {oty : TypeId} {opos : String} {oaf : Array Edge}
/-- Lines that a call has just made are appended. -/
theorem lo_appL {x y : Operand} {t e : TypeId} {z : Value} [hT : SlT P t e] [hE : ElT P e 1 24 z] {w5 : World} {v u : Value} {xs ys : List (List Int)} (hx : ev σ x = some v) (hy : ev σ y = some u)
    (hO : OwL O (MK M) B v xs) (hS : Ow kRow (noB w5) (noB w5) B u ys) (hl : ∀ k, v.ownBlock = some k → k < w5.heap.size) (hm : ∀ k, MK M k → k < w5.heap.size) (ho : O.heap.size ≤ w5.heap.size) (hlen : (xs.length + ys.length) * 24 ≤ 140737488355328) (hz : z.cells.size = 1) (hd : okD dd fn.ntmps = true)
    (h : ∀ A n w', OwL O (MK M) w' (.slice A (xs ++ ys).length n) (xs ++ ys) → WLo P fn ops rest k (putS dd (.slice A (xs ++ ys).length n) σ) O S w' (MK M) M R) :
    WLo P fn ops ((⟨dd, .call { callee := .builtin .append, args := #[x, y], argTypes := #[t, t] }, oty, opos, oaf, none⟩ : Oper) :: rest) k σ O S B (MK M) M R :=
  lo_append (d := kRow) (F2 := noB w5) hx hy hO (fun _ h => h.2) (fun w' hw => (hw.owN hS hm).slF (fun _ h => h) fun _ h => h) (fun k hk e => by have := hl k e; unfold noB at hk; omega) hlen rfl rfl hz hd fun w v' w' hw ko kp hown hog => by
    obtain ⟨A, n, rfl, _⟩ := hog.form
    exact h A n w' (hog.mono (fun _ h _ => h) fun k hk _ => hk.elim id fun hk => ⟨by unfold noB at hk; omega, fun hm' => by have := hm k hm'; unfold noB at hk; omega⟩)
end
theorem wm_get (j : Nat) : True := trivial
set_option maxHeartbeats 8000000 in
theorem wh_loop {v0 : Value} {rows : List (List Int)} {vo : Value} {i' : Nat} (hG : Sl kRow F w (.slice Ag g.length cg) g) (hgl : g.length ≤ 4096) (hn : n ≤ 65536) (hrl : rows.length ≤ 4096) (h0 : OwL w (MK [(g11, cb [.int .i64 0, .int .i64 0] 24), (g7, cb [.int .i64 kd, .slice Ag g.length cg] 30), (g6, cb [.int .i64 (i : Int), .int .i64 p2] 24)]) B vo rows)
    (done : ∀ b v, OwL w (MK [(g11, cb [.int .i64 0, .int .i64 0] 24), (g7, cb [.int .i64 kd, .slice Ag g.length cg] 30), (g6, cb [.int .i64 (i : Int), .int .i64 p2] 24)]) b v (rows ++ repL g n) → ∀ σ', SubB σ' [(0, v0), (11, .pointer (some ⟨g11, 0, none⟩)), (12, .int .i64 (i' : Int)), (13, v)] → ∀ M', MSub [(g11, cb [.int .i64 0, .int .i64 0] 24), (g7, cb [.int .i64 kd, .slice Ag g.length cg] 30), (g6, cb [.int .i64 (i : Int), .int .i64 p2] 24)] M' → WL Try.prog Try.f59 kk σ' w (fun _ => False) b (MK [(g11, cb [.int .i64 0, .int .i64 0] 24), (g7, cb [.int .i64 kd, .slice Ag g.length cg] 30), (g6, cb [.int .i64 (i : Int), .int .i64 p2] 24)]) M' R) :
    ∀ σ', SubB σ' [(0, v0), (4, .int .i64 (n : Int)), (7, .pointer (some ⟨g7, 0, none⟩)), (11, .pointer (some ⟨g11, 0, none⟩)), (12, .int .i64 (i' : Int)), (13, vo), (14, .int .i64 ((0 : Nat) : Int))] → ∀ M', MSub [(g11, cb [.int .i64 0, .int .i64 0] 24), (g7, cb [.int .i64 kd, .slice Ag g.length cg] 30), (g6, cb [.int .i64 (i : Int), .int .i64 p2] 24)] M' →
      WL Try.prog Try.f59 (.code (.loop (bodyC Try.f59 [1, 1, 1, 1, 0, 1, 0, 0])) :: .inBlock 0 :: kk) σ' w (fun _ => False) B (MK [(g11, cb [.int .i64 0, .int .i64 0] 24), (g7, cb [.int .i64 kd, .slice Ag g.length cg] 30), (g6, cb [.int .i64 (i : Int), .int .i64 p2] 24)]) M' R := by
  intro σ' hs M' hM
  refine WL.sub hs hM ?_
  refine l_whileB (fun s : Nat × Value => n - s.1) (fun s => [(0, v0), (4, .int .i64 (n : Int)), (7, .pointer (some ⟨g7, 0, none⟩)), (11, .pointer (some ⟨g11, 0, none⟩)), (12, .int .i64 (i' : Int)), (13, s.2), (14, .int .i64 (s.1 : Int))]) (fun _ => [(g11, cb [.int .i64 0, .int .i64 0] 24), (g7, cb [.int .i64 kd, .slice Ag g.length cg] 30), (g6, cb [.int .i64 (i : Int), .int .i64 p2] 24)])
    (fun s b => s.1 ≤ n ∧ OwL w (MK [(g11, cb [.int .i64 0, .int .i64 0] 24), (g7, cb [.int .i64 kd, .slice Ag g.length cg] 30), (g6, cb [.int .i64 (i : Int), .int .i64 p2] 24)]) b s.2 (rows ++ repL g s.1)) (0, vo) (by repeat (first | exact SubB.nil | refine SubB.cons rfl ?_)) (by repeat(first|exact MSub.refl|refine MSub.keep rfl ?_|exact MSub.nil|apply MSub.drop)) (fun w' hw => ⟨Nat.zero_le _, by show OwL w _ w' vo (rows ++ []); rw [List.append_nil]; exact h0.now hw.kp⟩) ?_
  rintro ⟨j, v⟩ b ⟨hj, hI⟩ hkb ih
  simp only at hj hI
  dsimp only
  by_cases hlt : j < n
  case neg =>
    obtain rfl : j = n := by omega
    repeat(first|refine lrun_ ?_|(refine lo_boxA rfl rfl ?_;intro _ _ _)|(refine lo_box1 rfl rfl rfl ?_;intro _ _ _)|(refine lo_alloc rfl ?_;intro _ _ _))
    refine l_no rfl (by omega) ?_
    refine l_go (.exit rfl) ?_
    exact done b v hI _ (by repeat (first | exact SubB.nil | refine SubB.cons rfl ?_)) _ (by repeat(first|exact MSub.refl|refine MSub.keep rfl ?_|exact MSub.nil|apply MSub.drop))
  have hrj := repL_len g j
  have hmul : j * g.length ≤ 65536 * 4096 := Nat.mul_le_mul (by omega) hgl
  repeat(first|refine lrun_ ?_|(refine lo_boxA rfl rfl ?_;intro _ _ _)|(refine lo_box1 rfl rfl rfl ?_;intro _ _ _)|(refine lo_alloc rfl ?_;intro _ _ _))
  refine l_yes rfl (by omega) ?_
  repeat(first|refine lrun_ ?_|(refine lo_boxA rfl rfl ?_;intro _ _ _)|(refine lo_box1 rfl rfl rfl ?_;intro _ _ _)|(refine lo_alloc rfl ?_;intro _ _ _))
  refine lo_callM (n_call rfl) rfl (fun w' hw => twinT_calls (Kn.sl hw.org hG)) ?_
  rintro w5 u w6 hw5 kn5 ko5 ⟨us5, hT5⟩
  have hI5 := hI.now hw5.kp
  repeat(first|refine lrun_ ?_|(refine lo_boxA rfl rfl ?_;intro _ _ _)|(refine lo_box1 rfl rfl rfl ?_;intro _ _ _)|(refine lo_alloc rfl ?_;intro _ _ _))
  refine lo_appL rfl rfl (hI5.kn kn5) (hT5.ow fun _ _ => trivial) (fun k hk => (hI5.block k hk).2) (fun k hm => hw5.lt hm) hw5.org.size (by rw [List.length_append]; omega) rfl rfl ?_
  intro A7 n7 w8 hI8
  have e1 : rows ++ repL g j ++ g = rows ++ repL g (j + 1) := by rw [List.append_assoc]; rfl
  rw [e1] at hI8 ⊢
  repeat(first|refine lrun_ ?_|(refine lo_boxA rfl rfl ?_;intro _ _ _)|(refine lo_box1 rfl rfl rfl ?_;intro _ _ _)|(refine lo_alloc rfl ?_;intro _ _ _))
  exact ih (j + 1, _) w8 _ ⟨hlt, hI8⟩ (by simp only; omega) _ _ (by repeat (first | exact SubB.nil | refine SubB.cons rfl ?_)) (by repeat(first|exact MSub.refl|refine MSub.keep rfl ?_|exact MSub.nil|apply MSub.drop)) fun w' hw' => ⟨hlt, hI8.now hw'.kp⟩
set_option maxHeartbeats 8000000 in
theorem whole_calls {behind : Bool} (hG : Sl kRow F w (.slice Ag g.length cg) g) (hgl : g.length ≤ 4096) (hn : n ≤ 65536) (hn0 : 0 < n) (hg0 : 0 < g.length) (hL : Sl kRow F0 w (.slice A l.length c) l) (hl : l.length ≤ 4096) (hil : i < l.length) :
    CallsR Try.prog 59 #[.slice A l.length c, posV ((i : Int), p2), .agg #[.int .i64 kd, .slice Ag g.length cg], .bool behind, .int .i64 (n : Int)] w fun u w' => Kn w w' ∧ ∃ s, u = .tuple #[s, posV (((if behind = true then i + 1 else i : Nat) : Int), (firstI ((l.take (if behind = true then i + 1 else i) ++ repL g n ++ l.drop (if behind = true then i + 1 else i)).getD (if behind = true then i + 1 else i) []) : Int))] ∧ Ow kRow (noB w) (noB w) w' s (l.take (if behind = true then i + 1 else i) ++ repL g n ++ l.drop (if behind = true then i + 1 else i)) := by
  have hc : l.length ≤ c := by obtain ⟨_, _, e, h1, _⟩ := hL.form; cases e; exact h1
  refine l_enter (fun _ => False) Try.func59 rfl rfl ?_
  have J : ∀ (i' : Nat) (g6 g7 g11 : Nat), w.heap.size ≤ g11 → i' ≤ l.length → ∀ σ', SubB σ' [(0, .slice A l.length c), (4, .int .i64 (n : Int)), (7, .pointer (some ⟨g7, 0, none⟩)), (11, .pointer (some ⟨g11, 0, none⟩)), (12, .int .i64 (i' : Int))] → ∀ M', MSub [(g11, cb [.int .i64 0, .int .i64 0] 24), (g7, cb [.int .i64 kd, .slice Ag g.length cg] 30), (g6, cb [.int .i64 (i : Int), .int .i64 p2] 24)] M' →
      WL Try.prog Try.f59 [.code (bodyC Try.f59 [1, 1, 1])] σ' w (fun _ => False) w (fun _ => False) M' fun u w' => Kn w w' ∧ ∃ s, u = .tuple #[s, posV ((i' : Int), (firstI ((l.take i' ++ repL g n ++ l.drop i').getD i' []) : Int))] ∧ Ow kRow (noB w) (noB w) w' s (l.take i' ++ repL g n ++ l.drop i') := by
    intro i' g6 g7 g11 hg11 hi' σ' hs M' hM
    refine WL.sub hs hM ?_
    have htl : (l.take i').length = i' := by rw [List.length_take]; omega
    have hmul : n * g.length ≤ 65536 * 4096 := Nat.mul_le_mul hn hgl
    have hmul0 : 0 < n * g.length := Nat.mul_pos hn0 hg0
    have hrn := repL_len g n
    repeat(first|refine lrun_ ?_|(refine lo_boxA rfl rfl ?_;intro _ _ _)|(refine lo_box1 rfl rfl rfl ?_;intro _ _ _)|(refine lo_alloc rfl ?_;intro _ _ _))
    refine lo_callM (n_call rfl) rfl (fun w' hw => twinT_calls ((Kn.sl hw.org hL).pre hi' (by omega))) ?_
    rintro w3 u w4 hw3 kn3 ko3 ⟨us3, hT3⟩
    have hI4 := OwL.of (hT3.ow fun _ _ => trivial) hw3
    repeat(first|refine lrun_ ?_|(refine lo_boxA rfl rfl ?_;intro _ _ _)|(refine lo_box1 rfl rfl rfl ?_;intro _ _ _)|(refine lo_alloc rfl ?_;intro _ _ _))
    refine wh_loop (v0 := .slice A l.length c) (i' := i') hG hgl hn (by omega) hI4 ?_ _ (by repeat (first | exact SubB.nil | refine SubB.cons rfl ?_)) _ (by repeat(first|exact MSub.refl|refine MSub.keep rfl ?_|exact MSub.nil|apply MSub.drop))
    intro b v hI σ' hs M' hM
    refine WL.sub hs hM ?_
    have hsuf : Sl kRow F0 w (cutV A i' l.length c 1) (l.drop i') := by
      have := Sl.cutV (d := kRow) hL hi' (Nat.le_refl _) hc (Nat.le_refl _)
      rwa [List.take_length] at this
    repeat(first|refine lrun_ ?_|(refine lo_boxA rfl rfl ?_;intro _ _ _)|(refine lo_box1 rfl rfl rfl ?_;intro _ _ _)|(refine lo_alloc rfl ?_;intro _ _ _))
    refine lo_suf rfl rfl rfl hi' hc rfl ?_
    refine lo_callM (n_call rfl) rfl (fun w' hw => twinT_calls (Kn.sl hw.org hsuf)) ?_
    rintro w5 u w6 hw5 kn5 ko5 ⟨us5, hT5⟩
    have hI5 := hI.now hw5.kp
    repeat(first|refine lrun_ ?_|(refine lo_boxA rfl rfl ?_;intro _ _ _)|(refine lo_box1 rfl rfl rfl ?_;intro _ _ _)|(refine lo_alloc rfl ?_;intro _ _ _))
    refine lo_appL rfl rfl (hI5.kn kn5) (hT5.ow fun _ _ => trivial) (fun k hk => (hI5.block k hk).2) (fun k hm => hw5.lt hm) hw5.org.size (by rw [List.length_append, List.length_drop]; omega) rfl rfl ?_
    intro A7 n7 w8 hI8
    have hol : i' < (l.take i' ++ repL g n ++ l.drop i').length := by rw [List.length_append, List.length_append]; omega
    generalize l.take i' ++ repL g n ++ l.drop i' = out at *
    obtain ⟨_, _, ad8, rV8, rc8, ra8, e8, hR8⟩ := hI8.sl.rws
    cases e8
    have ha8 := hR8.a (by omega)
    have hnk8 : ¬ MK [(g11, cb [.int .i64 0, .int .i64 0] 24), (g7, cb [.int .i64 kd, .slice Ag g.length cg] 30), (g6, cb [.int .i64 (i : Int), .int .i64 p2] 24)] (ad8.add (i' * 1)).block := fun hm => by
      rw [add_block] at hm
      exact (hI8.block ad8.block (by rw [ha8]; rfl)).1.2 hm
    have hnkr : ∀ k, fre w (MK [(g11, cb [.int .i64 0, .int .i64 0] 24), (g7, cb [.int .i64 kd, .slice Ag g.length cg] 30), (g6, cb [.int .i64 (i : Int), .int .i64 p2] 24)]) k ∨ fre w (MK [(g11, cb [.int .i64 0, .int .i64 0] 24), (g7, cb [.int .i64 kd, .slice Ag g.length cg] 30), (g6, cb [.int .i64 (i : Int), .int .i64 p2] 24)]) k → ¬ MK [(g11, cb [.int .i64 0, .int .i64 0] 24), (g7, cb [.int .i64 kd, .slice Ag g.length cg] 30), (g6, cb [.int .i64 (i : Int), .int .i64 p2] 24)] k := fun k hk => hk.elim (fun h => h.2) fun h => h.2
    repeat(first|refine lrun_ ?_|(refine lo_boxA rfl rfl ?_;intro _ _ _)|(refine lo_box1 rfl rfl rfl ?_;intro _ _ _)|(refine lo_alloc rfl ?_;intro _ _ _))
    refine lo_index (j := i') rfl rfl rfl hol ha8 rfl ?_
    refine lo_loadB rfl (hR8.row i' hol) hnk8 rfl ?_
    refine lo_call (n_call rfl) rfl (fun w' hw => firstR_calls (Kp.sl hw.kp (hR8.rs i' hol) hnkr)) ?_
    repeat(first|refine lrun_ ?_|(refine lo_boxA rfl rfl ?_;intro _ _ _)|(refine lo_box1 rfl rfl rfl ?_;intro _ _ _)|(refine lo_alloc rfl ?_;intro _ _ _))
    exact l_retR2 rfl (by repeat(first|exact LRes.nil|refine LRes.tmp rfl ?_|refine LRes.agg rfl (by(repeat(first|exact MIn.hd|refine MIn.tl ?_));done) (by rfl) (by rfl) ?_|refine LRes.one rfl (by(repeat(first|exact MIn.hd|refine MIn.tl ?_));done) (by rfl) ?_)) fun w' hw => ⟨hw.org, _, rfl, (hI8.now hw.kp).mono (fun k hk _ => hk.1) fun k hk _ => hk.1⟩
  cases behind with
  | true =>
    simp only [if_true]
    repeat(first|refine lrun_ ?_|(refine lo_boxA rfl rfl ?_;intro _ _ _)|(refine lo_box1 rfl rfl rfl ?_;intro _ _ _)|(refine lo_alloc rfl ?_;intro _ _ _))
    refine l_true rfl ?_
    refine l_region ?_;(repeat(first|refine lops_ ?_|(refine lo_boxA rfl rfl ?_;intro _ _ _)|(refine lo_box1 rfl rfl rfl ?_;intro _ _ _)|(refine lo_alloc rfl ?_;intro _ _ _)));refine lo_nil ?_
    exact J (i + 1) _ _ _ (by assumption) hil _ (by repeat (first | exact SubB.nil | refine SubB.cons rfl ?_)) _ (by repeat(first|exact MSub.refl|refine MSub.keep rfl ?_|exact MSub.nil|apply MSub.drop))
  | false =>
    simp only [Bool.false_eq_true, if_false]
    repeat(first|refine lrun_ ?_|(refine lo_boxA rfl rfl ?_;intro _ _ _)|(refine lo_box1 rfl rfl rfl ?_;intro _ _ _)|(refine lo_alloc rfl ?_;intro _ _ _))
    refine l_false rfl ?_
    refine l_go .skip ?_
    exact J i _ _ _ (by assumption) (by omega) _ (by repeat (first | exact SubB.nil | refine SubB.cons rfl ?_)) _ (by repeat(first|exact MSub.refl|refine MSub.keep rfl ?_|exact MSub.nil|apply MSub.drop))
end
end Go.Ink

set_option linter.unusedVariables false
set_option linter.unusedSimpArgs false
namespace Go.Ink
open Go Go.Proofs Go.RowKit
/-- What is kept while a row is put together. -/
structure BlI (w : World) (K : Nat → Prop) (b : World) (vo vx vy : Value) (rows : List (List Int)) (x y : List Int) : Prop where
  ho : Ow kRow (fun k => fre w K k ∧ vy.ownBlock ≠ some k) (fun k => fre w K k ∧ vy.ownBlock ≠ some k) b vo rows
  hx : Sl kRune (fun k => fre w K k ∧ vy.ownBlock ≠ some k) b vx x
  hy : Ow kRune (fre w K) (fun _ => False) b vy y
theorem BlI.now {w b w' : World} {K : Nat → Prop} {vo vx vy : Value} {rows : List (List Int)} {x y : List Int} (h : BlI w K b vo vx vy rows x y) (hw : Kp K b w') : BlI w K w' vo vx vy rows x y :=
  ⟨Kp.ow hw h.ho (fun _ h => h.1.2) fun _ h => h.1.2, Kp.sl hw h.hx fun _ h => h.1.2, Kp.ow hw h.hy (fun _ h => h.2) fun _ h => h.elim⟩
theorem BlI.kn {w b w' : World} {K : Nat → Prop} {vo vx vy : Value} {rows : List (List Int)} {x y : List Int} (h : BlI w K b vo vx vy rows x y) (hw : Kn b w') : BlI w K w' vo vx vy rows x y :=
  ⟨Kn.ow hw h.ho, Kn.sl hw h.hx, Kn.ow hw h.hy⟩
/-- Behind an append to the row. -/
theorem BlI.app {w b w' : World} {K : Nat → Prop} {vo vx vy vy' : Value} {rows : List (List Int)} {x y y' : List Int} (h : BlI w K b vo vx vy rows x y) (kp : Kp (fun k => K k ∨ vy.ownBlock = some k) b w') (hown : ∀ k, vy'.ownBlock = some k → vy.ownBlock = some k ∨ b.heap.size ≤ k) (hog : Ow kRune (fre w K) (fun _ => False) w' vy' y') : BlI w K w' vo vx vy' rows x y' := by
  have hne : ∀ k, k < b.heap.size → vy.ownBlock ≠ some k → vy'.ownBlock ≠ some k := fun k hl hk e => (hown k e).elim hk fun h => by omega
  refine ⟨?_, ?_, hog⟩
  · have h1 := h.ho.mono (G' := fun k => (fre w K k ∧ vy.ownBlock ≠ some k) ∧ k < b.heap.size) (F' := fun k => (fre w K k ∧ vy.ownBlock ≠ some k) ∧ k < b.heap.size) (fun k hk hl => ⟨hk, hl⟩) fun k hk hl => ⟨hk, hl⟩
    exact (Kp.ow kp h1 (fun k hk e => e.elim hk.1.1.2 hk.1.2) fun k hk e => e.elim hk.1.1.2 hk.1.2).mono (fun k hk _ => ⟨hk.1.1, hne k hk.2 hk.1.2⟩) fun k hk _ => ⟨hk.1.1, hne k hk.2 hk.1.2⟩
  · have h1 := h.hx.mono (F' := fun k => (fre w K k ∧ vy.ownBlock ≠ some k) ∧ k < b.heap.size) fun k hk hl => ⟨hk, hl⟩
    exact (Kp.sl kp h1 fun k hk e => e.elim hk.1.1.2 hk.1.2).mono fun k hk _ => ⟨hk.1.1, hne k hk.2 hk.1.2⟩
theorem ow_someA2 {α : Type} {d : Kd α} {G F : Nat → Prop} {w : World} {A : Option Addr} {n c : Nat} {xs : List α} (h : Ow d G F w (.slice A n c) xs) (hne : xs ≠ []) : ∃ ad, A = some ad := by
  obtain ⟨cells, h1, h2, h3⟩ := h
  rcases h3 with ⟨_, rfl⟩ | ⟨g, o, cap, cur, e, h3, _⟩
  · exact absurd rfl hne
  · cases h3; exact ⟨_, rfl⟩
section
variable {F F0 : Nat → Prop} {w B : World} {l g : List (List Int)} {A Ag : Option Addr} {c cg g6 g7 g11 i0 n m wd col at_ : Nat} {kd p2 : Int} {adg : Addr} {rV : Nat → Option Addr} {rc : Nat → Nat} {ra : Nat → Addr} {kk : List Item} {R : Value → World → Prop}
set_option maxHeartbeats 8000000 in
theorem bk_rep {vo vx vy : Value} {rows : List (List Int)} {x y : List Int} (hR : Rws F w Ag cg g adg rV rc ra) (hm : m < g.length) (hrl : (g.getD m []).length ≤ wd) (hw : wd ≤ 1048576) (hn : n ≤ 1048576) (hnw : n * wd ≤ 1048576) (hyl : y.length ≤ 1048576) (h0 : BlI w (MK [(g11, cb [.int .i64 0, .int .i64 0] 24), (g7, cb [.int .i64 kd, .slice Ag g.length cg] 30), (g6, cb [.int .i64 (i0 : Int), .int .i64 p2] 24)]) B vo vx vy rows x y)
    (done : ∀ b v, BlI w (MK [(g11, cb [.int .i64 0, .int .i64 0] 24), (g7, cb [.int .i64 kd, .slice Ag g.length cg] 30), (g6, cb [.int .i64 (i0 : Int), .int .i64 p2] 24)]) b vo vx v rows x (y ++ repX (padM (g.getD m []) wd) n) → ∀ σ', SubB σ' [(3, .int .i64 (col : Int)), (4, .int .i64 (n : Int)), (6, .pointer (some ⟨g6, 0, none⟩)), (7, .pointer (some ⟨g7, 0, none⟩)), (11, .pointer (some ⟨g11, 0, none⟩)), (12, vo), (13, .int .i64 (wd : Int)), (14, .int .i64 (m : Int)), (15, .int .i64 (at_ : Int)), (16, vx), (17, v)] → ∀ M', MSub [(g11, cb [.int .i64 0, .int .i64 0] 24), (g7, cb [.int .i64 kd, .slice Ag g.length cg] 30), (g6, cb [.int .i64 (i0 : Int), .int .i64 p2] 24)] M' → WL Try.prog Try.f60 kk σ' w (fun _ => False) b (MK [(g11, cb [.int .i64 0, .int .i64 0] 24), (g7, cb [.int .i64 kd, .slice Ag g.length cg] 30), (g6, cb [.int .i64 (i0 : Int), .int .i64 p2] 24)]) M' R) :
    ∀ σ', SubB σ' [(3, .int .i64 (col : Int)), (4, .int .i64 (n : Int)), (6, .pointer (some ⟨g6, 0, none⟩)), (7, .pointer (some ⟨g7, 0, none⟩)), (11, .pointer (some ⟨g11, 0, none⟩)), (12, vo), (13, .int .i64 (wd : Int)), (14, .int .i64 (m : Int)), (15, .int .i64 (at_ : Int)), (16, vx), (17, vy), (18, .int .i64 ((0 : Nat) : Int))] → ∀ M', MSub [(g11, cb [.int .i64 0, .int .i64 0] 24), (g7, cb [.int .i64 kd, .slice Ag g.length cg] 30), (g6, cb [.int .i64 (i0 : Int), .int .i64 p2] 24)] M' →
      WL Try.prog Try.f60 (.code (.loop (bodyC Try.f60 [1, 1, 1, 0, 1, 0, 0, 1, 0, 0, 1, 1, 1, 1, 0, 1, 0, 0])) :: .inBlock 2 :: kk) σ' w (fun _ => False) B (MK [(g11, cb [.int .i64 0, .int .i64 0] 24), (g7, cb [.int .i64 kd, .slice Ag g.length cg] 30), (g6, cb [.int .i64 (i0 : Int), .int .i64 p2] 24)]) M' R := by
  intro σ' hs M' hM
  refine WL.sub hs hM ?_
  have hlen := hR.len
  have hpl := padM_len (g.getD m []) wd
  refine l_whileB (fun s : Nat × Value => n - s.1) (fun s => [(3, .int .i64 (col : Int)), (4, .int .i64 (n : Int)), (6, .pointer (some ⟨g6, 0, none⟩)), (7, .pointer (some ⟨g7, 0, none⟩)), (11, .pointer (some ⟨g11, 0, none⟩)), (12, vo), (13, .int .i64 (wd : Int)), (14, .int .i64 (m : Int)), (15, .int .i64 (at_ : Int)), (16, vx), (17, s.2), (18, .int .i64 (s.1 : Int))]) (fun _ => [(g11, cb [.int .i64 0, .int .i64 0] 24), (g7, cb [.int .i64 kd, .slice Ag g.length cg] 30), (g6, cb [.int .i64 (i0 : Int), .int .i64 p2] 24)])
    (fun s b => s.1 ≤ n ∧ BlI w (MK [(g11, cb [.int .i64 0, .int .i64 0] 24), (g7, cb [.int .i64 kd, .slice Ag g.length cg] 30), (g6, cb [.int .i64 (i0 : Int), .int .i64 p2] 24)]) b vo vx s.2 rows x (y ++ repX (padM (g.getD m []) wd) s.1)) (0, vy) (by repeat (first | exact SubB.nil | refine SubB.cons rfl ?_)) (by repeat(first|exact MSub.refl|refine MSub.keep rfl ?_|exact MSub.nil|apply MSub.drop)) (fun w' hw => ⟨Nat.zero_le _, by show BlI w _ w' vo vx vy rows x (y ++ []); rw [List.append_nil]; exact h0.now hw.kp⟩) ?_
  rintro ⟨j, v⟩ b ⟨hj, hI⟩ hkb ih
  simp only at hj hI
  dsimp only
  by_cases hlt : j < n
  case neg =>
    obtain rfl : j = n := by omega
    repeat(first|refine lrun_ ?_|(refine lo_boxA rfl rfl ?_;intro _ _ _)|(refine lo_box1 rfl rfl rfl ?_;intro _ _ _)|(refine lo_alloc rfl ?_;intro _ _ _))
    refine l_no rfl (by omega) ?_
    refine l_go (.exit rfl) ?_
    exact done b v hI _ (by repeat (first | exact SubB.nil | refine SubB.cons rfl ?_)) _ (by repeat(first|exact MSub.refl|refine MSub.keep rfl ?_|exact MSub.nil|apply MSub.drop))
  have hmul : j * wd ≤ n * wd := Nat.mul_le_mul_right _ (by omega)
  have hrp : (repX (padM (g.getD m []) wd) j).length ≤ 1048576 := by
    rw [repX_len, hpl, Nat.max_eq_right hrl]; omega
  repeat(first|refine lrun_ ?_|(refine lo_boxA rfl rfl ?_;intro _ _ _)|(refine lo_box1 rfl rfl rfl ?_;intro _ _ _)|(refine lo_alloc rfl ?_;intro _ _ _))
  refine l_yes rfl (by omega) ?_
  repeat(first|refine lrun_ ?_|(refine lo_boxA rfl rfl ?_;intro _ _ _)|(refine lo_box1 rfl rfl rfl ?_;intro _ _ _)|(refine lo_alloc rfl ?_;intro _ _ _))
  refine lo_callM (n_call rfl) rfl (fun w' hw => filled_calls (Kn.sl hw.org (hR.rs m hm)) (by omega) (by omega)) ?_
  intro w5 u w6 hw5 kn5 ko5 hO5
  obtain ⟨A5, c5, rfl, _, _⟩ := hO5.form
  have hI6 := (hI.now hw5.kp).kn kn5
  have hvb := (hI.now hw5.kp).hy.block
  repeat(first|refine lrun_ ?_|(refine lo_boxA rfl rfl ?_;intro _ _ _)|(refine lo_box1 rfl rfl rfl ?_;intro _ _ _)|(refine lo_alloc rfl ?_;intro _ _ _))
  refine lo_appendS (d := kRune) (xs := y ++ repX (padM (g.getD m []) wd) j) (ys := padM (g.getD m []) wd) (F2 := noB w5) rfl rfl hI6.hy (fun w' hw => (hw.owN hO5 fun k hm => hw5.lt hm).slF (fun _ h => h) fun _ h => h.elim) (fun k hk e => by have := (hvb k e).2; unfold noB at hk; omega) (by rw [List.length_append, hpl, Nat.max_eq_right hrl]; show (y.length + (repX (padM (g.getD m []) wd) j).length + wd) * 4 ≤ 140737488355328; omega) rfl rfl rfl rfl ?_
  intro w7 A7 n7 w8 hw7 ko7 kp7 hown7 hog7
  have e1 : y ++ repX (padM (g.getD m []) wd) j ++ padM (g.getD m []) wd = y ++ repX (padM (g.getD m []) wd) (j + 1) := by
    rw [repX_add, List.append_assoc]
    congr 2
    simp [repX]
  rw [e1] at hown7 hog7 ⊢
  have hI8 := hI6.app kp7 hown7 hog7
  repeat(first|refine lrun_ ?_|(refine lo_boxA rfl rfl ?_;intro _ _ _)|(refine lo_box1 rfl rfl rfl ?_;intro _ _ _)|(refine lo_alloc rfl ?_;intro _ _ _))
  exact ih (j + 1, _) w8 _ ⟨hlt, hI8⟩ (by simp only; omega) _ _ (by repeat (first | exact SubB.nil | refine SubB.cons rfl ?_)) (by repeat(first|exact MSub.refl|refine MSub.keep rfl ?_|exact MSub.nil|apply MSub.drop)) fun w' hw' => ⟨hlt, hI8.now hw'.kp⟩
set_option maxHeartbeats 8000000 in
theorem bk_row {ao : Addr} {co : Nat} {rows : List (List Int)} (hR : Rws F w Ag cg g adg rV rc ra) (hm : m < g.length) (hrl : (g.getD m []).length ≤ wd) (hw : wd ≤ 1048576) (hn : n ≤ 1048576) (hnw : n * wd ≤ 1048576) (hcol : col ≤ 1048576) (hat : at_ < rows.length) (hrow : (rows.getD at_ []).length ≤ 1048576) (h0 : OwL w (MK [(g11, cb [.int .i64 0, .int .i64 0] 24), (g7, cb [.int .i64 kd, .slice Ag g.length cg] 30), (g6, cb [.int .i64 (i0 : Int), .int .i64 p2] 24)]) B (.slice (some ao) rows.length co) rows)
    (done : ∀ b, OwL w (MK [(g11, cb [.int .i64 0, .int .i64 0] 24), (g7, cb [.int .i64 kd, .slice Ag g.length cg] 30), (g6, cb [.int .i64 (i0 : Int), .int .i64 p2] 24)]) b (.slice (some ao) rows.length co) (rows.set at_ ((padM (rows.getD at_ []) col).take col ++ repX (padM (g.getD m []) wd) n ++ (padM (rows.getD at_ []) col).drop col)) → ∀ σ', SubB σ' [(3, .int .i64 (col : Int)), (4, .int .i64 (n : Int)), (6, .pointer (some ⟨g6, 0, none⟩)), (7, .pointer (some ⟨g7, 0, none⟩)), (11, .pointer (some ⟨g11, 0, none⟩)), (12, .slice (some ao) rows.length co), (13, .int .i64 (wd : Int)), (14, .int .i64 (m : Int))] → ∀ M', MSub [(g11, cb [.int .i64 0, .int .i64 0] 24), (g7, cb [.int .i64 kd, .slice Ag g.length cg] 30), (g6, cb [.int .i64 (i0 : Int), .int .i64 p2] 24)] M' → WL Try.prog Try.f60 kk σ' w (fun _ => False) b (MK [(g11, cb [.int .i64 0, .int .i64 0] 24), (g7, cb [.int .i64 kd, .slice Ag g.length cg] 30), (g6, cb [.int .i64 (i0 : Int), .int .i64 p2] 24)]) M' R) :
    ∀ σ', SubB σ' [(3, .int .i64 (col : Int)), (4, .int .i64 (n : Int)), (6, .pointer (some ⟨g6, 0, none⟩)), (7, .pointer (some ⟨g7, 0, none⟩)), (11, .pointer (some ⟨g11, 0, none⟩)), (12, .slice (some ao) rows.length co), (13, .int .i64 (wd : Int)), (14, .int .i64 (m : Int)), (15, .int .i64 (at_ : Int))] → ∀ M', MSub [(g11, cb [.int .i64 0, .int .i64 0] 24), (g7, cb [.int .i64 kd, .slice Ag g.length cg] 30), (g6, cb [.int .i64 (i0 : Int), .int .i64 p2] 24)] M' →
      WL Try.prog Try.f60 (.code (bodyC Try.f60 [1, 1, 1, 0, 1, 0, 0, 1, 0, 0, 1, 1]) :: kk) σ' w (fun _ => False) B (MK [(g11, cb [.int .i64 0, .int .i64 0] 24), (g7, cb [.int .i64 kd, .slice Ag g.length cg] 30), (g6, cb [.int .i64 (i0 : Int), .int .i64 p2] 24)]) M' R := by
  intro σ' hs M' hM
  refine WL.sub hs hM ?_
  obtain ⟨A1, c1, ra1, hcell, hX⟩ := Ow.rowAt h0 hat
  have hob := h0.block ao.block rfl
  have hnk : ¬ MK [(g11, cb [.int .i64 0, .int .i64 0] 24), (g7, cb [.int .i64 kd, .slice Ag g.length cg] 30), (g6, cb [.int .i64 (i0 : Int), .int .i64 p2] 24)] (ao.add (at_ * 1)).block := by rw [add_block]; exact hob.1.2
  have hpl := padM_len (rows.getD at_ []) col
  have hpw := padM_len (g.getD m []) wd
  generalize rows.getD at_ [] = row at *
  repeat(first|refine lrun_ ?_|(refine lo_boxA rfl rfl ?_;intro _ _ _)|(refine lo_box1 rfl rfl rfl ?_;intro _ _ _)|(refine lo_alloc rfl ?_;intro _ _ _))
  refine lo_index (j := at_) rfl rfl rfl hat rfl rfl ?_
  refine lo_loadB rfl hcell hnk rfl ?_
  repeat(first|refine lrun_ ?_|(refine lo_boxA rfl rfl ?_;intro _ _ _)|(refine lo_box1 rfl rfl rfl ?_;intro _ _ _)|(refine lo_alloc rfl ?_;intro _ _ _))
  refine lo_callM (n_call rfl) rfl (fun w' hw => filled_calls (Kp.sl hw.kp hX.sl fun k hk => hk.1.2) (by omega) (by omega)) ?_
  intro w3 u w4 hw3 kn3 ko3 hO3
  obtain ⟨A3, c3, rfl, hc3, _⟩ := hO3.form
  have hI4 := (h0.now hw3.kp).kn kn3
  have hs3o := hw3.org.size
  have hl3 : ∀ k, MK [(g11, cb [.int .i64 0, .int .i64 0] 24), (g7, cb [.int .i64 kd, .slice Ag g.length cg] 30), (g6, cb [.int .i64 (i0 : Int), .int .i64 p2] 24)] k → k < w3.heap.size := fun k hm => hw3.lt hm
  have hvo : ∀ k, fre w (MK [(g11, cb [.int .i64 0, .int .i64 0] 24), (g7, cb [.int .i64 kd, .slice Ag g.length cg] 30), (g6, cb [.int .i64 (i0 : Int), .int .i64 p2] 24)]) k → True := fun _ _ => trivial
  repeat(first|refine lrun_ ?_|(refine lo_boxA rfl rfl ?_;intro _ _ _)|(refine lo_box1 rfl rfl rfl ?_;intro _ _ _)|(refine lo_alloc rfl ?_;intro _ _ _))
  refine lo_lit (cs := []) rfl (by decide) (by kernel_rfl) rfl ?_
  intro g48 hg48 hg48'
  repeat(first|refine lrun_ ?_|(refine lo_boxA rfl rfl ?_;intro _ _ _)|(refine lo_box1 rfl rfl rfl ?_;intro _ _ _)|(refine lo_alloc rfl ?_;intro _ _ _))
  refine lo_take (M' := [(g11, cb [.int .i64 0, .int .i64 0] 24), (g7, cb [.int .i64 kd, .slice Ag g.length cg] 30), (g6, cb [.int .i64 (i0 : Int), .int .i64 p2] 24)]) (by repeat(first|exact MSub.refl|refine MSub.keep rfl ?_|exact MSub.nil|apply MSub.drop)) fun w5 hw5 => ?_
  have hs5 := hw5.kp.size
  have hI5 := hI4.now hw5.kp
  have hx5 : Sl kRune (fun k => fre w (MK [(g11, cb [.int .i64 0, .int .i64 0] 24), (g7, cb [.int .i64 kd, .slice Ag g.length cg] 30), (g6, cb [.int .i64 (i0 : Int), .int .i64 p2] 24)]) k ∧ k < w4.heap.size) w5 (.slice A3 (padM row col).length c3) (padM row col) := by
    have h8 : Ow kRune (fun k => fre w (MK [(g11, cb [.int .i64 0, .int .i64 0] 24), (g7, cb [.int .i64 kd, .slice Ag g.length cg] 30), (g6, cb [.int .i64 (i0 : Int), .int .i64 p2] 24)]) k ∧ k < w4.heap.size) (fun _ => False) w4 (.slice A3 (padM row col).length c3) (padM row col) := hO3.mono (fun k hk hl => ⟨⟨by unfold noB at hk; omega, fun hm => by have := hl3 k hm; unfold noB at hk; omega⟩, hl⟩) fun _ h _ => h
    exact (Kp.ow hw5.kp h8 (fun k hk => hk.1.2) fun _ h => h.elim).slF (fun _ h => h) fun _ h => h.elim
  have hI5b := (h0.now hw3.kp).mono (G' := fun k => fre w (MK [(g11, cb [.int .i64 0, .int .i64 0] 24), (g7, cb [.int .i64 kd, .slice Ag g.length cg] 30), (g6, cb [.int .i64 (i0 : Int), .int .i64 p2] 24)]) k ∧ k < w3.heap.size) (F' := fun k => fre w (MK [(g11, cb [.int .i64 0, .int .i64 0] 24), (g7, cb [.int .i64 kd, .slice Ag g.length cg] 30), (g6, cb [.int .i64 (i0 : Int), .int .i64 p2] 24)]) k ∧ k < w3.heap.size) (fun k hk hl => ⟨hk, hl⟩) fun k hk hl => ⟨hk, hl⟩
  have hI5c := Kp.ow hw5.kp (Kn.ow kn3 hI5b) (fun k hk => hk.1.2) fun k hk => hk.1.2
  have hs34 := kn3.size
  have hm48 : ¬ MK [(g11, cb [.int .i64 0, .int .i64 0] 24), (g7, cb [.int .i64 kd, .slice Ag g.length cg] 30), (g6, cb [.int .i64 (i0 : Int), .int .i64 p2] 24)] g48 := fun hm => by have := hl3 g48 hm; omega
  have hy5 := og_lit0 (d := kRune) (F := fun _ => False) (M' := [(g11, cb [.int .i64 0, .int .i64 0] 24), (g7, cb [.int .i64 kd, .slice Ag g.length cg] 30), (g6, cb [.int .i64 (i0 : Int), .int .i64 p2] 24)]) hw5 .hd hg48 hm48
  have hpre : Sl kRune (fun k => fre w (MK [(g11, cb [.int .i64 0, .int .i64 0] 24), (g7, cb [.int .i64 kd, .slice Ag g.length cg] 30), (g6, cb [.int .i64 (i0 : Int), .int .i64 p2] 24)]) k ∧ k < w4.heap.size) w5 (.slice A3 col c3) ((padM row col).take col) := hx5.pre (by omega) (by omega)
  refine lo_appendS (d := kRune) (xs := []) (ys := (padM row col).take col) (F2 := fun k => fre w (MK [(g11, cb [.int .i64 0, .int .i64 0] 24), (g7, cb [.int .i64 kd, .slice Ag g.length cg] 30), (g6, cb [.int .i64 (i0 : Int), .int .i64 p2] 24)]) k ∧ k < w4.heap.size) rfl rfl hy5 (fun w' hw => Kp.sl hw.kp hpre fun k hk => hk.1.2) (fun k hk e => by have h8 : g48 = k := Option.some.inj e; have := hk.2; omega) (by rw [List.length_take]; show (0 + _) * 4 ≤ 140737488355328; omega) rfl rfl rfl rfl ?_
  intro w6 A6 n6 w7 hw6 ko6 kp6 hown6 hog6
  rw [List.nil_append] at hown6 hog6 ⊢
  have hy7 : ∀ k, k < w4.heap.size → (Value.slice A6 ((padM row col).take col).length n6).ownBlock ≠ some k := fun k hk e => by
    rcases hown6 k e with h | h
    · have h8 : g48 = k := Option.some.inj h; omega
    · omega
  have hk67 : ∀ k, k < w4.heap.size → ¬ MK [(g11, cb [.int .i64 0, .int .i64 0] 24), (g7, cb [.int .i64 kd, .slice Ag g.length cg] 30), (g6, cb [.int .i64 (i0 : Int), .int .i64 p2] 24)] k → ¬ (MK [(g11, cb [.int .i64 0, .int .i64 0] 24), (g7, cb [.int .i64 kd, .slice Ag g.length cg] 30), (g6, cb [.int .i64 (i0 : Int), .int .i64 p2] 24)] k ∨ (Value.slice (some ⟨g48, 0, none⟩) 0 0).ownBlock = some k) := fun k hk hm h => h.elim hm fun e => by have h8 : g48 = k := Option.some.inj e; omega
  have hI7 : BlI w (MK [(g11, cb [.int .i64 0, .int .i64 0] 24), (g7, cb [.int .i64 kd, .slice Ag g.length cg] 30), (g6, cb [.int .i64 (i0 : Int), .int .i64 p2] 24)]) w7 (.slice (some ao) rows.length co) (.slice A3 (padM row col).length c3) (.slice A6 ((padM row col).take col).length n6) rows (padM row col) ((padM row col).take col) := by
    refine ⟨?_, ?_, hog6⟩
    · exact (Kp.ow kp6 hI5c (fun k hk => hk67 k (by have := hk.2; omega) hk.1.2) fun k hk => hk67 k (by have := hk.2; omega) hk.1.2).mono (fun k hk _ => ⟨hk.1, hy7 k (by have := hk.2; omega)⟩) fun k hk _ => ⟨hk.1, hy7 k (by have := hk.2; omega)⟩
    · exact (Kp.sl kp6 hx5 fun k hk => hk67 k hk.2 hk.1.2).mono fun k hk _ => ⟨hk.1, hy7 k hk.2⟩
  clear hog6 hy5 hI5 hI5b hI5c hx5 hpre hw6 hw5 hI4 hO3
  have htl : ((padM row col).take col).length = col := by rw [List.length_take]; omega
  repeat(first|refine lrun_ ?_|(refine lo_boxA rfl rfl ?_;intro _ _ _)|(refine lo_box1 rfl rfl rfl ?_;intro _ _ _)|(refine lo_alloc rfl ?_;intro _ _ _))
  refine bk_rep (at_ := at_) hR hm hrl hw hn hnw (by rw [htl]; exact hcol) hI7 ?_ _ (by repeat (first | exact SubB.nil | refine SubB.cons rfl ?_)) _ (by repeat(first|exact MSub.refl|refine MSub.keep rfl ?_|exact MSub.nil|apply MSub.drop))
  intro b v hI σ' hs M' hM
  refine WL.sub hs hM ?_
  have hrp : (repX (padM (g.getD m []) wd) n).length ≤ 1048576 := by
    rw [repX_len, hpw, Nat.max_eq_right hrl]; exact hnw
  have hyl : ((padM row col).take col ++ repX (padM (g.getD m []) wd) n).length ≤ 2097152 := by rw [List.length_append, htl]; omega
  generalize (padM row col).take col ++ repX (padM (g.getD m []) wd) n = y at *
  have hsuf : Sl kRune (fun k => fre w (MK [(g11, cb [.int .i64 0, .int .i64 0] 24), (g7, cb [.int .i64 kd, .slice Ag g.length cg] 30), (g6, cb [.int .i64 (i0 : Int), .int .i64 p2] 24)]) k ∧ v.ownBlock ≠ some k) b (cutV A3 col (padM row col).length c3 1) ((padM row col).drop col) := by
    have := Sl.cutV (d := kRune) hI.hx (show col ≤ (padM row col).length by omega) (Nat.le_refl _) hc3 (Nat.le_refl _)
    rwa [List.take_length] at this
  repeat(first|refine lrun_ ?_|(refine lo_boxA rfl rfl ?_;intro _ _ _)|(refine lo_box1 rfl rfl rfl ?_;intro _ _ _)|(refine lo_alloc rfl ?_;intro _ _ _))
  refine lo_suf (j := col) rfl rfl rfl (by omega) hc3 rfl ?_
  refine lo_appendS (d := kRune) (xs := y) (ys := (padM row col).drop col) (F2 := fun k => fre w (MK [(g11, cb [.int .i64 0, .int .i64 0] 24), (g7, cb [.int .i64 kd, .slice Ag g.length cg] 30), (g6, cb [.int .i64 (i0 : Int), .int .i64 p2] 24)]) k ∧ v.ownBlock ≠ some k) rfl rfl hI.hy (fun w' hw => Kp.sl hw.kp hsuf fun k hk => hk.1.2) (fun k hk e => hk.2 e) (by rw [List.length_drop]; show (y.length + _) * 4 ≤ 140737488355328; omega) rfl rfl rfl rfl ?_
  intro w8 A8 n8 w9 hw8 ko8 kp8 hown8 hog8
  have hI9 := hI.app kp8 hown8 hog8
  have hao := (hI9.ho.block ao.block rfl).1.2
  refine lo_index (j := at_) rfl rfl rfl hat rfl rfl ?_
  refine lo_setM (d := kRow) (j := at_) (q := y ++ (padM row col).drop col) rfl rfl (hI9.ho.mono (G' := fre w (MK [(g11, cb [.int .i64 0, .int .i64 0] 24), (g7, cb [.int .i64 kd, .slice Ag g.length cg] 30), (g6, cb [.int .i64 (i0 : Int), .int .i64 p2] 24)])) (F' := fre w (MK [(g11, cb [.int .i64 0, .int .i64 0] 24), (g7, cb [.int .i64 kd, .slice Ag g.length cg] 30), (g6, cb [.int .i64 (i0 : Int), .int .i64 p2] 24)])) (fun k hk _ => hk.1) fun k hk _ => hk.1) (fun _ h => h.2) hat (fun w' hw => ⟨_, rfl, (Kp.ow hw.kp hog8.nE (fun k hk => hk.1.2) fun _ h => h.elim).slF (fun k hk => ⟨hk.1, fun e => hao (e ▸ hk.2)⟩) fun _ h => h.elim⟩) rfl rfl ?_
  intro w10 w11 hw10 ko10 kp10 hog11
  refine lo_nil ?_
  exact done w11 hog11 _ (by repeat (first | exact SubB.nil | refine SubB.cons rfl ?_)) _ (by repeat(first|exact MSub.refl|refine MSub.keep rfl ?_|exact MSub.nil|apply MSub.drop))
set_option maxHeartbeats 8000000 in
theorem blockR_calls (hG : Sl kRow F w (.slice Ag g.length cg) g) (hgl : g.length ≤ 4096) (hgr : runesM g ≤ 1048576) (hn : n ≤ 65536) (hnw : n * wideM g ≤ 1048576) (hL : Sl kRow F0 w (.slice A l.length c) l) (hl : l.length ≤ 4096) (hlr : runesM l ≤ 1048576) (hil : i0 < l.length) (hcol : col ≤ 1048576) :
    CallsR Try.prog 60 #[.slice A l.length c, posV ((i0 : Int), p2), .agg #[.int .i64 kd, .slice Ag g.length cg], .int .i64 (col : Int), .int .i64 (n : Int)] w fun u w' => Kn w w' ∧ ∃ s, u = .tuple #[s, posV (clipM (blkM l i0 col g (wideM g) n g.length) ((i0 : Int), (col : Int)))] ∧ Ow kRow (noB w) (noB w) w' s (blkM l i0 col g (wideM g) n g.length) := by
  obtain ⟨_, _, adg, rV, rc, ra, e, hR⟩ := hG.rws
  cases e
  refine l_enter (fun _ => False) Try.func60 rfl rfl ?_
  repeat(first|refine lrun_ ?_|(refine lo_boxA rfl rfl ?_;intro _ _ _)|(refine lo_box1 rfl rfl rfl ?_;intro _ _ _)|(refine lo_alloc rfl ?_;intro _ _ _))
  rename_i g6 _ _ g7 _ _ g11 hg11 _
  refine lo_callM (n_call rfl) rfl (fun w' hw => twinT_calls (Kn.sl hw.org hL)) ?_
  rintro w3 u w4 hw3 kn3 ko3 ⟨us3, hT3⟩
  have hI4 := OwL.of (hT3.ow fun _ _ => trivial) hw3
  obtain ⟨A3, c3, rfl, _, _⟩ := hT3.form
  obtain ⟨ao, rfl⟩ := hT3.ad (by omega)
  clear hT3 hw3 kn3
  repeat(first|refine lrun_ ?_|(refine lo_boxA rfl rfl ?_;intro _ _ _)|(refine lo_box1 rfl rfl rfl ?_;intro _ _ _)|(refine lo_alloc rfl ?_;intro _ _ _))
  refine lo_call (n_call rfl) rfl (fun w' hw => widest_calls (Kn.sl hw.org hG)) ?_
  repeat(first|refine lrun_ ?_|(refine lo_boxA rfl rfl ?_;intro _ _ _)|(refine lo_box1 rfl rfl rfl ?_;intro _ _ _)|(refine lo_alloc rfl ?_;intro _ _ _))
  have hwr := wide_runes g
  refine l_whileB (fun s : Nat × Addr × Nat => g.length - s.1) (fun s => [(3, .int .i64 (col : Int)), (4, .int .i64 (n : Int)), (6, .pointer (some ⟨g6, 0, none⟩)), (7, .pointer (some ⟨g7, 0, none⟩)), (11, .pointer (some ⟨g11, 0, none⟩)), (12, .slice (some s.2.1) (blkM l i0 col g (wideM g) n s.1).length s.2.2), (13, .int .i64 (wideM g : Nat)), (14, .int .i64 (s.1 : Int))]) (fun _ => [(g11, cb [.int .i64 0, .int .i64 0] 24), (g7, cb [.int .i64 kd, .slice Ag g.length cg] 30), (g6, cb [.int .i64 (i0 : Int), .int .i64 p2] 24)])
    (fun s b => s.1 ≤ g.length ∧ OwL w (MK [(g11, cb [.int .i64 0, .int .i64 0] 24), (g7, cb [.int .i64 kd, .slice Ag g.length cg] 30), (g6, cb [.int .i64 (i0 : Int), .int .i64 p2] 24)]) b (.slice (some s.2.1) (blkM l i0 col g (wideM g) n s.1).length s.2.2) (blkM l i0 col g (wideM g) n s.1)) (0, ao, c3) (by repeat (first | exact SubB.nil | refine SubB.cons rfl ?_)) (by repeat(first|exact MSub.refl|refine MSub.keep rfl ?_|exact MSub.nil|apply MSub.drop)) (fun w' hw => ⟨Nat.zero_le _, hI4.now hw.kp⟩) ?_
  clear hI4
  rintro ⟨m, ao, co⟩ b ⟨hm, hI⟩ hkb ih
  simp only at hm hI
  dsimp only
  have hinv := blk_inv (l := l) (line := i0) (col := col) (rows := g) (wide := wideM g) (n := n) (by omega) m
  by_cases hlt : m < g.length
  case neg =>
    obtain rfl : m = g.length := by omega
    repeat(first|refine lrun_ ?_|(refine lo_boxA rfl rfl ?_;intro _ _ _)|(refine lo_box1 rfl rfl rfl ?_;intro _ _ _)|(refine lo_alloc rfl ?_;intro _ _ _))
    refine l_no rfl (by omega) ?_
    refine l_go (.exit rfl) ?_
    have hnkr : ∀ k, fre w (MK [(g11, cb [.int .i64 0, .int .i64 0] 24), (g7, cb [.int .i64 kd, .slice Ag g.length cg] 30), (g6, cb [.int .i64 (i0 : Int), .int .i64 p2] 24)]) k ∨ fre w (MK [(g11, cb [.int .i64 0, .int .i64 0] 24), (g7, cb [.int .i64 kd, .slice Ag g.length cg] 30), (g6, cb [.int .i64 (i0 : Int), .int .i64 p2] 24)]) k → ¬ MK [(g11, cb [.int .i64 0, .int .i64 0] 24), (g7, cb [.int .i64 kd, .slice Ag g.length cg] 30), (g6, cb [.int .i64 (i0 : Int), .int .i64 p2] 24)] k := fun k hk => hk.elim (fun h => h.2) fun h => h.2
    repeat(first|refine lrun_ ?_|(refine lo_boxA rfl rfl ?_;intro _ _ _)|(refine lo_box1 rfl rfl rfl ?_;intro _ _ _)|(refine lo_alloc rfl ?_;intro _ _ _))
    refine lo_call (n_call rfl) rfl (fun w' hw => clipR_calls (p := ((i0 : Int), (col : Int))) (Kp.sl hw.kp hI.sl hnkr) (by unfold P64; simp only; omega)) ?_
    repeat(first|refine lrun_ ?_|(refine lo_boxA rfl rfl ?_;intro _ _ _)|(refine lo_box1 rfl rfl rfl ?_;intro _ _ _)|(refine lo_alloc rfl ?_;intro _ _ _))
    exact l_retR2 rfl (by repeat(first|exact LRes.nil|refine LRes.tmp rfl ?_|refine LRes.agg rfl (by(repeat(first|exact MIn.hd|refine MIn.tl ?_));done) (by rfl) (by rfl) ?_|refine LRes.one rfl (by(repeat(first|exact MIn.hd|refine MIn.tl ?_));done) (by rfl) ?_)) fun w' hw => ⟨hw.org, _, rfl, (hI.now hw.kp).mono (fun k hk _ => hk.1) fun k hk _ => hk.1⟩
  have hstep : blkM l i0 col g (wideM g) n (m + 1) = blkStep (blkM l i0 col g (wideM g) n m) (i0 + m) col (g.getD m []) (wideM g) n := rfl
  obtain ⟨hi1, hi2⟩ := hinv
  have hi2 := hi2 (i0 + m) (Nat.le_refl _)
  generalize blkM l i0 col g (wideM g) n m = rows at *
  have hlrow := runes_getD l (i0 + m)
  have hnext : ∀ (rows2 : List (List Int)), blkStep rows (i0 + m) col (g.getD m []) (wideM g) n = rows2.set (i0 + m) ((padM (rows2.getD (i0 + m) []) col).take col ++ repX (padM (g.getD m []) (wideM g)) n ++ (padM (rows2.getD (i0 + m) []) col).drop col) → i0 + m < rows2.length → (rows2.getD (i0 + m) []).length ≤ 1048576 → ∀ (b2 : World) (ao2 : Addr) (co2 : Nat), OwL w (MK [(g11, cb [.int .i64 0, .int .i64 0] 24), (g7, cb [.int .i64 kd, .slice Ag g.length cg] 30), (g6, cb [.int .i64 (i0 : Int), .int .i64 p2] 24)]) b2 (.slice (some ao2) rows2.length co2) rows2 →
      ∀ σ', SubB σ' [(3, .int .i64 (col : Int)), (4, .int .i64 (n : Int)), (6, .pointer (some ⟨g6, 0, none⟩)), (7, .pointer (some ⟨g7, 0, none⟩)), (11, .pointer (some ⟨g11, 0, none⟩)), (12, .slice (some ao2) rows2.length co2), (13, .int .i64 (wideM g : Nat)), (14, .int .i64 (m : Int)), (15, .int .i64 ((i0 + m : Nat) : Int))] → ∀ M', MSub [(g11, cb [.int .i64 0, .int .i64 0] 24), (g7, cb [.int .i64 kd, .slice Ag g.length cg] 30), (g6, cb [.int .i64 (i0 : Int), .int .i64 p2] 24)] M' →
      WL Try.prog Try.f60 [.code (bodyC Try.f60 [1, 1, 1, 0, 1, 0, 0, 1, 0, 0, 1, 1]), .inBlock 1, .code (bodyC Try.f60 [1, 1, 1, 0, 1, 0, 0, 1, 1]), .inLoop (bodyC Try.f60 [1, 1, 1, 0, 1, 0, 0]), .inBlock 0, .code (bodyC Try.f60 [1, 1, 1, 1])] σ' w (fun _ => False) b2 (MK [(g11, cb [.int .i64 0, .int .i64 0] 24), (g7, cb [.int .i64 kd, .slice Ag g.length cg] 30), (g6, cb [.int .i64 (i0 : Int), .int .i64 p2] 24)]) M' fun u w' => Kn w w' ∧ ∃ s, u = .tuple #[s, posV (clipM (blkM l i0 col g (wideM g) n g.length) ((i0 : Int), (col : Int)))] ∧ Ow kRow (noB w) (noB w) w' s (blkM l i0 col g (wideM g) n g.length) := by
    intro rows2 he hlt2 hrl2 b2 ao2 co2 hI2 σ' hs M' hM
    refine bk_row hR hlt (wide_le g m) (by omega) (by omega) hnw hcol hlt2 hrl2 hI2 ?_ σ' hs M' hM
    intro b3 hI3 σ' hs M' hM
    refine WL.sub hs hM ?_
    rw [← he] at hI3
    have hl3 : (blkStep rows (i0 + m) col (g.getD m []) (wideM g) n).length = rows2.length := by rw [he, List.length_set]
    rw [← hl3] at hI3 ⊢
    rw [← hstep] at hI3 ⊢
    repeat(first|refine lrun_ ?_|(refine lo_boxA rfl rfl ?_;intro _ _ _)|(refine lo_box1 rfl rfl rfl ?_;intro _ _ _)|(refine lo_alloc rfl ?_;intro _ _ _))
    exact ih (m + 1, ao2, co2) b3 _ ⟨hlt, hI3⟩ (by simp only; omega) _ _ (by repeat (first | exact SubB.nil | refine SubB.cons rfl ?_)) (by repeat(first|exact MSub.refl|refine MSub.keep rfl ?_|exact MSub.nil|apply MSub.drop)) fun w' hw' => ⟨hlt, hI3.now hw'.kp⟩
  by_cases hat : i0 + m = rows.length
  · have hb1 : blkStep rows (i0 + m) col (g.getD m []) (wideM g) n = (rows ++ [[]]).set (i0 + m) ((padM ((rows ++ [[]]).getD (i0 + m) []) col).take col ++ repX (padM (g.getD m []) (wideM g)) n ++ (padM ((rows ++ [[]]).getD (i0 + m) []) col).drop col) := by unfold blkStep; rw [if_pos hat]
    have hrl3 : (rows ++ [[]]).length = rows.length + 1 := by rw [List.length_append]; rfl
    repeat(first|refine lrun_ ?_|(refine lo_boxA rfl rfl ?_;intro _ _ _)|(refine lo_box1 rfl rfl rfl ?_;intro _ _ _)|(refine lo_alloc rfl ?_;intro _ _ _))
    refine l_yes rfl (by omega) ?_
    repeat(first|refine lrun_ ?_|(refine lo_boxA rfl rfl ?_;intro _ _ _)|(refine lo_box1 rfl rfl rfl ?_;intro _ _ _)|(refine lo_alloc rfl ?_;intro _ _ _))
    refine l_yes rfl (by omega) ?_
    repeat(first|refine lrun_ ?_|(refine lo_boxA rfl rfl ?_;intro _ _ _)|(refine lo_box1 rfl rfl rfl ?_;intro _ _ _)|(refine lo_alloc rfl ?_;intro _ _ _))
    refine lo_lit (cs := [.slice none 0 0]) rfl (by decide) (by kernel_rfl) rfl ?_
    intro g40 hg40 hg40'
    refine lo_append1 (d := kRow) (q := []) rfl rfl (hI.mono (G' := fre w (MK [(g11, cb [.int .i64 0, .int .i64 0] 24), (g7, cb [.int .i64 kd, .slice Ag g.length cg] 30), (g6, cb [.int .i64 (i0 : Int), .int .i64 p2] 24)])) (F' := fun k => fre w (MK [(g11, cb [.int .i64 0, .int .i64 0] 24), (g7, cb [.int .i64 kd, .slice Ag g.length cg] 30), (g6, cb [.int .i64 (i0 : Int), .int .i64 p2] 24)]) k ∧ k < b.heap.size) (fun k hk _ => hk) fun k hk hl => ⟨hk, hl⟩) (fun _ h => h.1.2) (by(repeat(first|exact MIn.hd|refine MIn.tl ?_));done) (fun w' hw => ⟨_, rfl, Sl.nil _ _ _⟩) (show (rows.length + 1) * 24 ≤ 140737488355328 by omega) rfl rfl rfl rfl ?_
    intro w5 A5 n5 w6 hw5 ko5 kp5 hown hog
    obtain ⟨ao2, rfl⟩ := ow_someA2 hog (by simp)
    repeat(first|refine lops_ ?_|(refine lo_boxA rfl rfl ?_;intro _ _ _)|(refine lo_box1 rfl rfl rfl ?_;intro _ _ _)|(refine lo_alloc rfl ?_;intro _ _ _))
    refine lo_nil ?_
    refine l_baseM (M3 := [(g11, cb [.int .i64 0, .int .i64 0] 24), (g7, cb [.int .i64 kd, .slice Ag g.length cg] 30), (g6, cb [.int .i64 (i0 : Int), .int .i64 p2] 24)]) (by repeat(first|exact MSub.refl|refine MSub.keep rfl ?_|exact MSub.nil|apply MSub.drop)) fun w7 hw7 => ?_
    have hY : ∀ k, MK ((g40, cb [.slice none 0 0] 35) :: [(g11, cb [.int .i64 0, .int .i64 0] 24), (g7, cb [.int .i64 kd, .slice Ag g.length cg] 30), (g6, cb [.int .i64 (i0 : Int), .int .i64 p2] 24)]) k → k = g40 ∨ MK [(g11, cb [.int .i64 0, .int .i64 0] 24), (g7, cb [.int .i64 kd, .slice Ag g.length cg] 30), (g6, cb [.int .i64 (i0 : Int), .int .i64 p2] 24)] k := fun k hk => by
      rw [MK_iff, List.map_cons, List.mem_cons] at hk
      exact hk.imp id MK_iff.2
    have hI7 : OwL w (MK [(g11, cb [.int .i64 0, .int .i64 0] 24), (g7, cb [.int .i64 kd, .slice Ag g.length cg] 30), (g6, cb [.int .i64 (i0 : Int), .int .i64 p2] 24)]) w7 (.slice (some ao2) (rows ++ [[]]).length n5) (rows ++ [[]]) := (Kp.ow hw7.kp hog (fun k hk => hk.2) fun k hk hm => (hY k hm).elim (fun e => by have := hk.2; omega) hk.1.2).mono (fun k hk _ => ⟨hk.1, fun hm => hk.2 (by obtain ⟨o, hm⟩ := hm; exact ⟨o, .tl hm⟩)⟩) fun k hk _ => hk.1
    exact hnext (rows ++ [[]]) hb1 (by omega) (by rw [hat, List.getD_eq_getElem?_getD, List.getElem?_append_right (Nat.le_refl _), Nat.sub_self]; exact Nat.zero_le _) w7 ao2 n5 hI7 _ (by repeat (first | exact SubB.nil | refine SubB.cons rfl ?_)) _ (by repeat(first|exact MSub.refl|refine MSub.keep rfl ?_|exact MSub.nil|apply MSub.drop))
  · have hb1 : blkStep rows (i0 + m) col (g.getD m []) (wideM g) n = rows.set (i0 + m) ((padM (rows.getD (i0 + m) []) col).take col ++ repX (padM (g.getD m []) (wideM g)) n ++ (padM (rows.getD (i0 + m) []) col).drop col) := by unfold blkStep; rw [if_neg hat]
    repeat(first|refine lrun_ ?_|(refine lo_boxA rfl rfl ?_;intro _ _ _)|(refine lo_box1 rfl rfl rfl ?_;intro _ _ _)|(refine lo_alloc rfl ?_;intro _ _ _))
    refine l_yes rfl (by omega) ?_
    repeat(first|refine lrun_ ?_|(refine lo_boxA rfl rfl ?_;intro _ _ _)|(refine lo_box1 rfl rfl rfl ?_;intro _ _ _)|(refine lo_alloc rfl ?_;intro _ _ _))
    refine l_no rfl (by omega) ?_
    refine l_go .skip ?_
    exact hnext rows hb1 (by omega) (by rw [hi2]; omega) b ao co hI _ (by repeat (first | exact SubB.nil | refine SubB.cons rfl ?_)) _ (by repeat(first|exact MSub.refl|refine MSub.keep rfl ?_|exact MSub.nil|apply MSub.drop))
end
end Go.Ink

set_option linter.unusedVariables false
set_option linter.unusedSimpArgs false
namespace Go.Ink
open Go Go.Proofs Go.RowKit

/-! ### What is split -/
def spT (s : List (List Int) × List Int) (r : Int) : List (List Int) × List Int := if r = 10 then (s.1 ++ [s.2], []) else (s.1, s.2 ++ [r])
def spF (s : List (List Int) × List Int) (x : List Int) : List (List Int) × List Int := x.foldl spT s
theorem spF_app (s : List (List Int) × List Int) (x y : List Int) : spF s (x ++ y) = spF (spF s x) y := List.foldl_append
theorem spM_F (x : List Int) : ∀ k, k ≤ x.length → spM x k = spF ([], []) (x.take k)
  | 0, _ => rfl
  | k + 1, h => by
    rw [take_one (by omega), spF_app, ← spM_F x k (by omega)]
    rfl
theorem spF_plain {x : List Int} (h : 10 ∉ x) (s : List (List Int) × List Int) : spF s x = (s.1, s.2 ++ x) := by
  induction x generalizing s with
  | nil => simp [spF]
  | cons r x ih =>
    have hr : r ≠ 10 := fun e => h (by rw [e]; simp)
    show spF (spT s r) x = _
    rw [ih (fun hm => h (List.mem_cons_of_mem _ hm))]
    unfold spT
    rw [if_neg hr]
    simp
def preS (s : List (List Int) × List Int) (u : List (List Int)) : List (List Int) × List Int := u.foldl (fun t x => (t.1 ++ [t.2 ++ x], [])) s
theorem preS_nil (ys u : List (List Int)) : preS (ys, []) u = (ys ++ u, []) := by
  induction u generalizing ys with
  | nil => simp [preS]
  | cons x u ih =>
    show preS (ys ++ [[] ++ x], []) u = _
    rw [ih]
    simp
theorem spF_pre {u : List (List Int)} (h : ∀ x ∈ u, 10 ∉ x) (s : List (List Int) × List Int) : spF s (preJ u) = preS s u := by
  revert h
  refine snoc_ind (p := fun u => (∀ x ∈ u, 10 ∉ x) → spF s (preJ u) = preS s u) ?_ ?_ u
  · intro _; rfl
  · intro u x ih h
    rw [pre_snoc, spF_app, spF_app, ih fun y hy => h y (List.mem_append.2 (.inl hy)), spF_plain (h x (by simp))]
    show spT _ 10 = _
    unfold spT
    rw [if_pos rfl]
    unfold preS
    rw [List.foldl_append]
    rfl
theorem spF_jnd {g : List (List Int)} (h : ∀ x ∈ g, 10 ∉ x) (hg : g ≠ []) (s : List (List Int) × List Int) : spF s (jndM g) = chStep s g := by
  obtain ⟨u, x, rfl⟩ : ∃ u x, g = u ++ [x] := ⟨g.dropLast, g.getLast hg, (List.dropLast_concat_getLast hg).symm⟩
  rw [jnd_snoc, spF_app, spF_pre (fun y hy => h y (List.mem_append.2 (.inl hy))), spF_plain (h x (by simp))]
  cases u with
  | nil => simp [preS, chStep]
  | cons y u =>
    have e : preS s (y :: u) = (s.1 ++ [s.2 ++ y] ++ u, []) := by
      show preS (s.1 ++ [s.2 ++ y], []) u = _
      rw [preS_nil]
    rw [e]
    unfold chStep
    simp
theorem spF_rep {g : List (List Int)} (h : ∀ x ∈ g, 10 ∉ x) (hg : g ≠ []) {a : List Int} (ha : 10 ∉ a) : ∀ n, spF ([], []) (a ++ repX (jndM g) n) = chM a g n
  | 0 => by
    rw [show repX (jndM g) 0 = [] from rfl, List.append_nil, spF_plain ha]
    simp [chM]
  | n + 1 => by
    rw [repX_add, ← List.append_assoc, spF_app, spF_rep h hg ha n, show repX (jndM g) 1 = jndM g by simp [repX], spF_jnd h hg]
    rfl
theorem split_law {g : List (List Int)} (h : ∀ x ∈ g, 10 ∉ x) (hg : g ≠ []) {a c : List Int} (ha : 10 ∉ a) (hc : 10 ∉ c) (n : Nat) : splitM (a ++ repX (jndM g) n ++ c) = (chM a g n).1 ++ [(chM a g n).2 ++ c] := by
  unfold splitM
  rw [spM_F _ _ (Nat.le_refl _), List.take_length, spF_app, spF_rep h hg ha, spF_plain hc]
theorem ch_some {a : List Int} {g : List (List Int)} {n : Nat} (hn : 0 < n) : (0 < (chM a g n).1.length ↔ g.drop 1 ≠ []) := by
  obtain ⟨m, rfl⟩ : ∃ m, n = m + 1 := ⟨n - 1, by omega⟩
  show 0 < (chStep _ g).1.length ↔ _
  unfold chStep
  constructor
  · intro h e
    rw [if_pos e] at h
    have : ∀ k, g.drop 1 = [] → (chM a g k).1 = [] := fun k => by
      induction k with
      | zero => intro _; rfl
      | succ k ih =>
        intro e
        show (chStep _ g).1 = _
        unfold chStep
        rw [if_pos e]
        exact ih e
    rw [this m e] at h
    simp at h
  · intro h
    rw [if_neg h]
    simp only [List.length_append, List.length_singleton]
    omega
theorem ch_one {a : List Int} {g : List (List Int)} (h : g.drop 1 = []) : ∀ n, (chM a g n).2.length = a.length + n * (g.getD 0 []).length
  | 0 => by simp [chM]
  | n + 1 => by
    show (chStep _ g).2.length = _
    unfold chStep
    rw [if_pos h, List.length_append, ch_one h n, Nat.add_mul]
    omega
/-! ### The walk -/
def xM (l : List (List Int)) (i col : Nat) (g : List (List Int)) (n : Nat) : List Int := (l.getD i []).take col ++ repX (jndM g) n ++ (l.getD i []).drop col
def chOut (l : List (List Int)) (i col : Nat) (g : List (List Int)) (n : Nat) : List (List Int) := l.take i ++ splitM (xM l i col g n) ++ l.drop (i + 1)
def chPos (i col : Nat) (p2 : Int) (g : List (List Int)) (n : Nat) : Ps := if g.length = 1 then (if (g.getD 0 []).length = 0 then ((i : Int), p2) else ((i : Int), (col : Int) + (n : Int) * ((g.getD 0 []).length : Int) - 1)) else ((i : Int), (col : Int))
section
variable {F F0 : Nat → Prop} {w B : World} {l g : List (List Int)} {A Ag : Option Addr} {c cg g6 g7 g11 i n col : Nat} {kd p2 : Int} {kk : List Item} {R : Value → World → Prop}
theorem jnd_len (g : List (List Int)) : (jndM g).length ≤ runesM g + g.length := by
  have := jndP_len g g.length (Nat.le_refl _)
  rw [List.take_length] at this
  unfold jndM
  omega
set_option maxHeartbeats 8000000 in
theorem cs_loop {v0 : Value} {x : List Int} {vx : Value} (hG : Sl kRow F w (.slice Ag g.length cg) g) (hgl : g.length ≤ 4096) (hgr : runesM g ≤ 1048576) (hn : n ≤ 65536) (hnj : n * (runesM g + g.length) ≤ 2097152) (hx : x.length ≤ 1048576) (h0 : Ow kRune (fre w (MK [(g11, cb [.int .i64 0, .int .i64 0] 24), (g7, cb [.int .i64 kd, .slice Ag g.length cg] 30), (g6, cb [.int .i64 (i : Int), .int .i64 p2] 24)])) (fun _ => False) B vx x)
    (done : ∀ b v, Ow kRune (fre w (MK [(g11, cb [.int .i64 0, .int .i64 0] 24), (g7, cb [.int .i64 kd, .slice Ag g.length cg] 30), (g6, cb [.int .i64 (i : Int), .int .i64 p2] 24)])) (fun _ => False) b v (x ++ repX (jndM g) n) → ∀ σ', SubB σ' [(0, v0), (3, .int .i64 (col : Int)), (4, .int .i64 (n : Int)), (6, .pointer (some ⟨g6, 0, none⟩)), (7, .pointer (some ⟨g7, 0, none⟩)), (11, .pointer (some ⟨g11, 0, none⟩)), (12, v)] → ∀ M', MSub [(g11, cb [.int .i64 0, .int .i64 0] 24), (g7, cb [.int .i64 kd, .slice Ag g.length cg] 30), (g6, cb [.int .i64 (i : Int), .int .i64 p2] 24)] M' → WL Try.prog Try.f58 kk σ' w (fun _ => False) b (MK [(g11, cb [.int .i64 0, .int .i64 0] 24), (g7, cb [.int .i64 kd, .slice Ag g.length cg] 30), (g6, cb [.int .i64 (i : Int), .int .i64 p2] 24)]) M' R) :
    ∀ σ', SubB σ' [(0, v0), (3, .int .i64 (col : Int)), (4, .int .i64 (n : Int)), (6, .pointer (some ⟨g6, 0, none⟩)), (7, .pointer (some ⟨g7, 0, none⟩)), (11, .pointer (some ⟨g11, 0, none⟩)), (12, vx), (13, .int .i64 ((0 : Nat) : Int))] → ∀ M', MSub [(g11, cb [.int .i64 0, .int .i64 0] 24), (g7, cb [.int .i64 kd, .slice Ag g.length cg] 30), (g6, cb [.int .i64 (i : Int), .int .i64 p2] 24)] M' →
      WL Try.prog Try.f58 (.code (.loop (bodyC Try.f58 [1, 1, 1, 0, 1, 0, 0])) :: .inBlock 0 :: kk) σ' w (fun _ => False) B (MK [(g11, cb [.int .i64 0, .int .i64 0] 24), (g7, cb [.int .i64 kd, .slice Ag g.length cg] 30), (g6, cb [.int .i64 (i : Int), .int .i64 p2] 24)]) M' R := by
  intro σ' hs M' hM
  refine WL.sub hs hM ?_
  have hjl := jnd_len g
  refine l_whileB (fun s : Nat × Value => n - s.1) (fun s => [(0, v0), (3, .int .i64 (col : Int)), (4, .int .i64 (n : Int)), (6, .pointer (some ⟨g6, 0, none⟩)), (7, .pointer (some ⟨g7, 0, none⟩)), (11, .pointer (some ⟨g11, 0, none⟩)), (12, s.2), (13, .int .i64 (s.1 : Int))]) (fun _ => [(g11, cb [.int .i64 0, .int .i64 0] 24), (g7, cb [.int .i64 kd, .slice Ag g.length cg] 30), (g6, cb [.int .i64 (i : Int), .int .i64 p2] 24)])
    (fun s b => s.1 ≤ n ∧ Ow kRune (fre w (MK [(g11, cb [.int .i64 0, .int .i64 0] 24), (g7, cb [.int .i64 kd, .slice Ag g.length cg] 30), (g6, cb [.int .i64 (i : Int), .int .i64 p2] 24)])) (fun _ => False) b s.2 (x ++ repX (jndM g) s.1)) (0, vx) (by repeat (first | exact SubB.nil | refine SubB.cons rfl ?_)) (by repeat(first|exact MSub.refl|refine MSub.keep rfl ?_|exact MSub.nil|apply MSub.drop)) (fun w' hw => ⟨Nat.zero_le _, by show Ow kRune _ _ w' vx (x ++ []); rw [List.append_nil]; exact Kp.ow hw.kp h0 (fun _ h => h.2) fun _ h => h.elim⟩) ?_
  rintro ⟨j, v⟩ b ⟨hj, hI⟩ hkb ih
  simp only at hj hI
  dsimp only
  by_cases hlt : j < n
  case neg =>
    obtain rfl : j = n := by omega
    repeat(first|refine lrun_ ?_|(refine lo_boxA rfl rfl ?_;intro _ _ _)|(refine lo_box1 rfl rfl rfl ?_;intro _ _ _)|(refine lo_alloc rfl ?_;intro _ _ _))
    refine l_no rfl (by omega) ?_
    refine l_go (.exit rfl) ?_
    exact done b v hI _ (by repeat (first | exact SubB.nil | refine SubB.cons rfl ?_)) _ (by repeat(first|exact MSub.refl|refine MSub.keep rfl ?_|exact MSub.nil|apply MSub.drop))
  have hmul : j * (jndM g).length ≤ n * (runesM g + g.length) := Nat.mul_le_mul (by omega) hjl
  have hrp : (repX (jndM g) j).length ≤ 2097152 := by rw [repX_len]; omega
  repeat(first|refine lrun_ ?_|(refine lo_boxA rfl rfl ?_;intro _ _ _)|(refine lo_box1 rfl rfl rfl ?_;intro _ _ _)|(refine lo_alloc rfl ?_;intro _ _ _))
  refine l_yes rfl (by omega) ?_
  repeat(first|refine lrun_ ?_|(refine lo_boxA rfl rfl ?_;intro _ _ _)|(refine lo_box1 rfl rfl rfl ?_;intro _ _ _)|(refine lo_alloc rfl ?_;intro _ _ _))
  refine lo_callM (n_call rfl) rfl (fun w' hw => joined_calls (Kn.sl hw.org hG) (by omega)) ?_
  intro w5 u w6 hw5 kn5 ko5 hO5
  have hI5 := Kp.ow hw5.kp hI (fun _ h => h.2) fun _ h => h.elim
  have hvb := hI5.block
  repeat(first|refine lrun_ ?_|(refine lo_boxA rfl rfl ?_;intro _ _ _)|(refine lo_box1 rfl rfl rfl ?_;intro _ _ _)|(refine lo_alloc rfl ?_;intro _ _ _))
  refine lo_appendS (d := kRune) (xs := x ++ repX (jndM g) j) (ys := jndM g) (F2 := noB w5) rfl rfl (Kn.ow kn5 hI5) (fun w' hw => (hw.owN hO5 fun k hm => hw5.lt hm).slF (fun _ h => h) fun _ h => h.elim) (fun k hk e => by have := (hvb k e).2; unfold noB at hk; omega) (by rw [List.length_append]; show (x.length + (repX (jndM g) j).length + (jndM g).length) * 4 ≤ 140737488355328; omega) rfl rfl rfl rfl ?_
  intro w7 A7 n7 w8 hw7 ko7 kp7 hown7 hog7
  have e1 : x ++ repX (jndM g) j ++ jndM g = x ++ repX (jndM g) (j + 1) := by
    rw [repX_add, List.append_assoc, show repX (jndM g) 1 = jndM g by simp [repX]]
  rw [e1] at hog7 ⊢
  repeat(first|refine lrun_ ?_|(refine lo_boxA rfl rfl ?_;intro _ _ _)|(refine lo_box1 rfl rfl rfl ?_;intro _ _ _)|(refine lo_alloc rfl ?_;intro _ _ _))
  exact ih (j + 1, _) w8 _ ⟨hlt, hog7⟩ (by simp only; omega) _ _ (by repeat (first | exact SubB.nil | refine SubB.cons rfl ?_)) (by repeat(first|exact MSub.refl|refine MSub.keep rfl ?_|exact MSub.nil|apply MSub.drop)) fun w' hw' => ⟨hlt, Kp.ow hw'.kp hog7 (fun _ h => h.2) fun _ h => h.elim⟩
set_option maxHeartbeats 8000000 in
theorem chars_calls (hG : Sl kRow F w (.slice Ag g.length cg) g) (hgl : g.length ≤ 4096) (hgr : runesM g ≤ 1048576) (hg0 : 0 < g.length) (hn : n ≤ 65536) (hnj : n * (runesM g + g.length) ≤ 2097152) (hL : Sl kRow F0 w (.slice A l.length c) l) (hl : l.length ≤ 4096) (hlr : runesM l ≤ 1048576) (hil : i < l.length) (hcol : col ≤ (l.getD i []).length) (hp2 : -9223372036854775808 ≤ p2 ∧ p2 ≤ 9223372036854775807) :
    CallsR Try.prog 58 #[.slice A l.length c, posV ((i : Int), p2), .agg #[.int .i64 kd, .slice Ag g.length cg], .int .i64 (col : Int), .int .i64 (n : Int)] w fun u w' => Kn w w' ∧ ∃ s, u = .tuple #[s, posV (clipM (chOut l i col g n) (chPos i col p2 g n))] ∧ Ow kRow (noB w) (noB w) w' s (chOut l i col g n) := by
  obtain ⟨_, _, adl, rVl, rcl, ral, e, hRl⟩ := hL.rws
  cases e
  have hcl := hRl.cap
  have hrow := hRl.rs i hil
  have hrcl := hRl.rcap i hil
  have hlrow := runes_getD l i
  have hpre : Sl kRune (fun k => k < w.heap.size) w (.slice (rVl i) col (rcl i)) ((l.getD i []).take col) := hrow.old.pre hcol (by omega)
  have hsuf : Sl kRune (fun k => k < w.heap.size) w (cutV (rVl i) col (l.getD i []).length (rcl i) 1) ((l.getD i []).drop col) := by
    have := Sl.cutV (d := kRune) hrow.old hcol (Nat.le_refl _) hrcl (Nat.le_refl _)
    rwa [List.take_length] at this
  have hjl := jnd_len g
  have hmul : n * (jndM g).length ≤ n * (runesM g + g.length) := Nat.mul_le_mul_left _ hjl
  have hrp : (repX (jndM g) n).length ≤ 2097152 := by rw [repX_len]; omega
  have hxl : (xM l i col g n).length ≤ 3145728 := by unfold xM; rw [List.length_append, List.length_append, List.length_take, List.length_drop]; omega
  refine l_enter (fun _ => False) Try.func58 rfl rfl ?_
  repeat(first|refine lrun_ ?_|(refine lo_boxA rfl rfl ?_;intro _ _ _)|(refine lo_box1 rfl rfl rfl ?_;intro _ _ _)|(refine lo_alloc rfl ?_;intro _ _ _))
  rename_i g6 _ _ g7 _ _ g11 hg11 _
  refine lo_index (j := i) rfl rfl rfl hil (hRl.a (by omega)) rfl ?_
  refine lo_loadO rfl (hRl.row i hil) (fun h => h) rfl ?_
  repeat(first|refine lrun_ ?_|(refine lo_boxA rfl rfl ?_;intro _ _ _)|(refine lo_box1 rfl rfl rfl ?_;intro _ _ _)|(refine lo_alloc rfl ?_;intro _ _ _))
  refine lo_take (M' := [(g11, cb [.int .i64 0, .int .i64 0] 24), (g7, cb [.int .i64 kd, .slice Ag g.length cg] 30), (g6, cb [.int .i64 (i : Int), .int .i64 p2] 24)]) (by repeat(first|exact MSub.refl|refine MSub.keep rfl ?_|exact MSub.nil|apply MSub.drop)) fun w1 hw1 => ?_
  refine lo_appendS (d := kRune) (xs := []) (ys := (l.getD i []).take col) (F2 := fun k => k < w.heap.size) rfl rfl (Ow.nil _ _ _ _) (fun w' hw => Kn.sl hw.org hpre) (fun k hk e => by cases e) (by rw [List.length_take]; show (0 + _) * 4 ≤ 140737488355328; omega) rfl rfl rfl rfl ?_
  intro w3 A3 n3 w4 hw3 ko3 kp3 hown hog
  rw [List.nil_append] at hog ⊢
  repeat(first|refine lrun_ ?_|(refine lo_boxA rfl rfl ?_;intro _ _ _)|(refine lo_box1 rfl rfl rfl ?_;intro _ _ _)|(refine lo_alloc rfl ?_;intro _ _ _))
  refine cs_loop (v0 := .slice A l.length c) hG hgl hgr hn hnj (by rw [List.length_take]; omega) hog ?_ _ (by repeat (first | exact SubB.nil | refine SubB.cons rfl ?_)) _ (by repeat(first|exact MSub.refl|refine MSub.keep rfl ?_|exact MSub.nil|apply MSub.drop))
  clear hog hown kp3 hw3 hw1
  intro b v hI σ' hs M' hM
  refine WL.sub hs hM ?_
  have hvb := hI.block
  repeat(first|refine lrun_ ?_|(refine lo_boxA rfl rfl ?_;intro _ _ _)|(refine lo_box1 rfl rfl rfl ?_;intro _ _ _)|(refine lo_alloc rfl ?_;intro _ _ _))
  refine lo_index (j := i) rfl rfl rfl hil (hRl.a (by omega)) rfl ?_
  refine lo_loadO rfl (hRl.row i hil) (fun h => h) rfl ?_
  repeat(first|refine lrun_ ?_|(refine lo_boxA rfl rfl ?_;intro _ _ _)|(refine lo_box1 rfl rfl rfl ?_;intro _ _ _)|(refine lo_alloc rfl ?_;intro _ _ _))
  refine lo_suf (j := col) rfl rfl rfl hcol hrcl rfl ?_
  refine lo_appendS (d := kRune) (ys := (l.getD i []).drop col) (F2 := fun k => k < w.heap.size) rfl rfl hI (fun w' hw => Kn.sl hw.org hsuf) (fun k hk e => by have := (hvb k e).1.1; omega) (by rw [List.length_append, List.length_take, List.length_drop]; show (_ + _) * 4 ≤ 140737488355328; omega) rfl rfl rfl rfl ?_
  intro w5 A5 n5 w6 hw5 ko5 kp5 hown5 hog5
  rw [show (l.getD i []).take col ++ repX (jndM g) n ++ (l.getD i []).drop col = xM l i col g n from rfl] at hog5 ⊢
  clear hI hown5 kp5 hw5
  repeat(first|refine lrun_ ?_|(refine lo_boxA rfl rfl ?_;intro _ _ _)|(refine lo_box1 rfl rfl rfl ?_;intro _ _ _)|(refine lo_alloc rfl ?_;intro _ _ _))
  refine lo_callM (n_call rfl) rfl (fun w' hw => twinT_calls ((Kn.sl hw.org hL).pre (show i ≤ l.length by omega) (by omega))) ?_
  rintro w7 u w8 hw7 kn7 ko7 ⟨us7, hT7⟩
  have hx8 := Kn.ow kn7 (Kp.ow hw7.kp hog5 (fun _ h => h.2) fun _ h => h.elim)
  have hI8 := OwL.of (hT7.ow fun _ _ => trivial) hw7
  clear hog5 hT7
  have hspl : (splitM (xM l i col g n)).length ≤ 4194304 := by
    have := spM_len (xM l i col g n) (xM l i col g n).length
    unfold splitM
    rw [List.length_append, List.length_singleton]
    omega
  have htl : (l.take i).length = i := by rw [List.length_take]; omega
  have hsufl : Sl kRow F0 w (cutV A (i + 1) l.length c 1) (l.drop (i + 1)) := by
    have := Sl.cutV (d := kRow) hL (show i + 1 ≤ l.length by omega) (Nat.le_refl _) hcl (Nat.le_refl _)
    rwa [List.take_length] at this
  repeat(first|refine lrun_ ?_|(refine lo_boxA rfl rfl ?_;intro _ _ _)|(refine lo_box1 rfl rfl rfl ?_;intro _ _ _)|(refine lo_alloc rfl ?_;intro _ _ _))
  refine lo_callM (n_call rfl) rfl (fun w' hw => split_calls ((Kp.ow hw.kp hx8 (fun _ h => h.2) fun _ h => h.elim).sl) (by omega)) ?_
  intro w9 u w10 hw9 kn9 ko9 hO9
  have hI9 := hI8.now hw9.kp
  repeat(first|refine lrun_ ?_|(refine lo_boxA rfl rfl ?_;intro _ _ _)|(refine lo_box1 rfl rfl rfl ?_;intro _ _ _)|(refine lo_alloc rfl ?_;intro _ _ _))
  refine lo_appL rfl rfl (hI9.kn kn9) hO9 (fun k hk => (hI9.block k hk).2) (fun k hm => hw9.lt hm) hw9.org.size (by omega) rfl rfl ?_
  intro A11 n11 w12 hI12
  clear hI8 hI9 hO9 hx8 hw9 hw7
  repeat(first|refine lrun_ ?_|(refine lo_boxA rfl rfl ?_;intro _ _ _)|(refine lo_box1 rfl rfl rfl ?_;intro _ _ _)|(refine lo_alloc rfl ?_;intro _ _ _))
  refine lo_suf (j := i + 1) rfl rfl rfl hil hcl rfl ?_
  refine lo_callM (n_call rfl) rfl (fun w' hw => twinT_calls (Kn.sl hw.org hsufl)) ?_
  rintro w13 u w14 hw13 kn13 ko13 ⟨us13, hT13⟩
  have hI13 := hI12.now hw13.kp
  repeat(first|refine lrun_ ?_|(refine lo_boxA rfl rfl ?_;intro _ _ _)|(refine lo_box1 rfl rfl rfl ?_;intro _ _ _)|(refine lo_alloc rfl ?_;intro _ _ _))
  refine lo_appL rfl rfl (hI13.kn kn13) (hT13.ow fun _ _ => trivial) (fun k hk => (hI13.block k hk).2) (fun k hm => hw13.lt hm) hw13.org.size (by rw [List.length_append, List.length_drop]; omega) rfl rfl ?_
  intro A15 n15 w16 hI16
  clear hI12 hI13 hT13 hw13
  rw [show l.take i ++ splitM (xM l i col g n) ++ l.drop (i + 1) = chOut l i col g n from rfl] at hI16 ⊢
  have hnkr : ∀ k, fre w (MK [(g11, cb [.int .i64 0, .int .i64 0] 24), (g7, cb [.int .i64 kd, .slice Ag g.length cg] 30), (g6, cb [.int .i64 (i : Int), .int .i64 p2] 24)]) k ∨ fre w (MK [(g11, cb [.int .i64 0, .int .i64 0] 24), (g7, cb [.int .i64 kd, .slice Ag g.length cg] 30), (g6, cb [.int .i64 (i : Int), .int .i64 p2] 24)]) k → ¬ MK [(g11, cb [.int .i64 0, .int .i64 0] 24), (g7, cb [.int .i64 kd, .slice Ag g.length cg] 30), (g6, cb [.int .i64 (i : Int), .int .i64 p2] 24)] k := fun k hk => hk.elim (fun h => h.2) fun h => h.2
  have J : ∀ (g15 : Nat) (q : Ps), P64 q → q = chPos i col p2 g n → ∀ σ', SubB σ' [(11, .pointer (some ⟨g11, 0, none⟩)), (14, .slice A15 (chOut l i col g n).length n15), (15, .pointer (some ⟨g15, 0, none⟩))] → ∀ M', MSub ((g15, cb [.int .i64 q.1, .int .i64 q.2] 24) :: [(g11, cb [.int .i64 0, .int .i64 0] 24), (g7, cb [.int .i64 kd, .slice Ag g.length cg] 30), (g6, cb [.int .i64 (i : Int), .int .i64 p2] 24)]) M' →
      WL Try.prog Try.f58 [.code (bodyC Try.f58 [1, 1, 1, 1, 1, 1, 1, 1, 1, 1])] σ' w (fun _ => False) w16 (MK [(g11, cb [.int .i64 0, .int .i64 0] 24), (g7, cb [.int .i64 kd, .slice Ag g.length cg] 30), (g6, cb [.int .i64 (i : Int), .int .i64 p2] 24)]) M' fun u w' => Kn w w' ∧ ∃ s, u = .tuple #[s, posV (clipM (chOut l i col g n) (chPos i col p2 g n))] ∧ Ow kRow (noB w) (noB w) w' s (chOut l i col g n) := by
    intro g15 q hq he σ' hs M' hM
    refine WL.sub hs hM ?_
    rw [← he]
    repeat(first|refine lrun_ ?_|(refine lo_boxA rfl rfl ?_;intro _ _ _)|(refine lo_box1 rfl rfl rfl ?_;intro _ _ _)|(refine lo_alloc rfl ?_;intro _ _ _))
    refine lo_call (n_call rfl) rfl (fun w' hw => clipR_calls (p := q) (Kp.sl hw.kp hI16.sl hnkr) hq) ?_
    repeat(first|refine lrun_ ?_|(refine lo_boxA rfl rfl ?_;intro _ _ _)|(refine lo_box1 rfl rfl rfl ?_;intro _ _ _)|(refine lo_alloc rfl ?_;intro _ _ _))
    exact l_retR2 rfl (by repeat(first|exact LRes.nil|refine LRes.tmp rfl ?_|refine LRes.agg rfl (by(repeat(first|exact MIn.hd|refine MIn.tl ?_));done) (by rfl) (by rfl) ?_|refine LRes.one rfl (by(repeat(first|exact MIn.hd|refine MIn.tl ?_));done) (by rfl) ?_)) fun w' hw => ⟨hw.org, _, rfl, (hI16.now hw.kp).mono (fun k hk _ => hk.1) fun k hk _ => hk.1⟩
  obtain ⟨_, _, adg, rV, rc, ra, e, hR⟩ := hG.rws
  cases e
  have hg0l := runes_getD g 0
  have hnl : n * (g.getD 0 []).length ≤ n * (runesM g + g.length) := Nat.mul_le_mul_left _ (by omega)
  repeat(first|refine lops_ ?_|(refine lo_boxA rfl rfl ?_;intro _ _ _)|(refine lo_box1 rfl rfl rfl ?_;intro _ _ _)|(refine lo_alloc rfl ?_;intro _ _ _))
  refine lo_nil ?_
  refine l_go .seq ?_
  refine l_region ?_;(repeat(first|refine lops_ ?_|(refine lo_boxA rfl rfl ?_;intro _ _ _)|(refine lo_box1 rfl rfl rfl ?_;intro _ _ _)|(refine lo_alloc rfl ?_;intro _ _ _)));refine lo_nil ?_
  rename_i g15 _ _
  by_cases hone : g.length = 1
  case neg =>
    repeat(first|refine lrun_ ?_|(refine lo_boxA rfl rfl ?_;intro _ _ _)|(refine lo_box1 rfl rfl rfl ?_;intro _ _ _)|(refine lo_alloc rfl ?_;intro _ _ _))
    refine l_no rfl (by omega) ?_
    refine l_go .skip ?_
    exact J g15 ((i : Int), (col : Int)) (by unfold P64; simp only; omega) (by unfold chPos; rw [if_neg hone]) _ (by repeat (first | exact SubB.nil | refine SubB.cons rfl ?_)) _ (by repeat(first|exact MSub.refl|refine MSub.keep rfl ?_|exact MSub.nil|apply MSub.drop))
  have hc : (n : Int) * ((g.getD 0 []).length : Int) = ((n * (g.getD 0 []).length : Nat) : Int) := by rw [Int.natCast_mul]
  repeat(first|refine lrun_ ?_|(refine lo_boxA rfl rfl ?_;intro _ _ _)|(refine lo_box1 rfl rfl rfl ?_;intro _ _ _)|(refine lo_alloc rfl ?_;intro _ _ _))
  refine l_yes rfl (by omega) ?_
  repeat(first|refine lrun_ ?_|(refine lo_boxA rfl rfl ?_;intro _ _ _)|(refine lo_box1 rfl rfl rfl ?_;intro _ _ _)|(refine lo_alloc rfl ?_;intro _ _ _))
  refine lo_rn (fun _ => r_mul rfl rfl (by rw [hc]; omega) (by rw [hc]; omega)) rfl ?_
  obtain ⟨z, hz⟩ : ∃ z : Int, (n : Int) * ((g.getD 0 []).length : Int) = z := ⟨_, rfl⟩
  have hzb : 0 ≤ z ∧ z ≤ 2097152 := by rw [← hz, hc]; omega
  have hpos : chPos i col p2 g n = if (g.getD 0 []).length = 0 then ((i : Int), p2) else ((i : Int), (col : Int) + z - 1) := by unfold chPos; rw [if_pos hone, hz]
  rw [hz]
  clear hc hz
  repeat(first|refine lrun_ ?_|(refine lo_boxA rfl rfl ?_;intro _ _ _)|(refine lo_box1 rfl rfl rfl ?_;intro _ _ _)|(refine lo_alloc rfl ?_;intro _ _ _))
  by_cases h00 : (g.getD 0 []).length = 0
  · refine l_yes rfl (Int.natCast_eq_zero.2 h00) ?_
    refine l_region ?_;(repeat(first|refine lops_ ?_|(refine lo_boxA rfl rfl ?_;intro _ _ _)|(refine lo_box1 rfl rfl rfl ?_;intro _ _ _)|(refine lo_alloc rfl ?_;intro _ _ _)));refine lo_nil ?_
    exact J g15 ((i : Int), p2) (by unfold P64; simp only; omega) (by rw [hpos, if_pos h00]) _ (by repeat (first | exact SubB.nil | refine SubB.cons rfl ?_)) _ (by repeat(first|exact MSub.refl|refine MSub.keep rfl ?_|exact MSub.nil|apply MSub.drop))
  · refine l_no rfl (fun h => h00 (Int.natCast_eq_zero.1 h)) ?_
    refine l_go .skip ?_
    exact J g15 ((i : Int), (col : Int) + z - 1) (by unfold P64; simp only; omega) (by rw [hpos, if_neg h00]) _ (by repeat (first | exact SubB.nil | refine SubB.cons rfl ?_)) _ (by repeat(first|exact MSub.refl|refine MSub.keep rfl ?_|exact MSub.nil|apply MSub.drop))
end
end Go.Ink

set_option linter.unusedVariables false
set_option linter.unusedSimpArgs false
namespace Go.Ink
open Go Go.Proofs Go.RowKit
section
variable {F F0 K : Nat → Prop} {w B : World} {l g o : List (List Int)} {A Ag Ao : Option Addr} {c cg co g6 g7 g11 g15 i k n col : Nat} {kd : Int} {q : Ps} {behind : Bool} {kk : List Item} {R' : Value → World → Prop}
set_option maxHeartbeats 8000000 in
theorem pr_end (hI : OwL w K B (.slice Ao o.length co) o) (ho : 0 < o.length) (hro : runesM o ≤ 1099511627776) (hRe : R' = PsR w (fitsM o q)) :
    ∀ σ', SubB σ' [(11, .pointer (some ⟨g11, 0, none⟩)), (14, .slice Ao o.length co), (15, .pointer (some ⟨g15, 0, none⟩))] → ∀ M', MSub [(g15, cb [.int .i64 q.1, .int .i64 q.2] 24), (g11, cb [.int .i64 0, .int .i64 0] 24), (g7, cb [.int .i64 kd, .slice Ag g.length cg] 30), (g6, cb [.int .i64 (i : Int), .int .i64 (k : Int)] 24)] M' →
      WL Try.prog Try.f23 [.code (bodyC Try.f23 [1, 1, 1, 1, 1, 1, 1, 1, 1, 1, 1, 1])] σ' w (fun _ => False) B K M' R' := by
  intro σ' hs M' hM
  refine WL.sub hs hM ?_
  have hnkr : ∀ k, fre w K k ∨ fre w K k → ¬ K k := fun k hk => hk.elim (fun h => h.2) fun h => h.2
  subst hRe
  repeat(first|refine lrun_ ?_|(refine lo_boxA rfl rfl ?_;intro _ _ _)|(refine lo_box1 rfl rfl rfl ?_;intro _ _ _)|(refine lo_alloc rfl ?_;intro _ _ _))
  refine lo_call (n_call rfl) rfl (fun w' hw => runesB_calls (Kp.sl hw.kp hI.sl hnkr) hro ho) ?_
  unfold fitsM
  by_cases h6 : 65536 < sizeM o
  · rw [if_pos h6]
    repeat(first|refine lrun_ ?_|(refine lo_boxA rfl rfl ?_;intro _ _ _)|(refine lo_box1 rfl rfl rfl ?_;intro _ _ _)|(refine lo_alloc rfl ?_;intro _ _ _))
    refine l_yes rfl (by omega) ?_
    repeat(first|refine lrun_ ?_|(refine lo_boxA rfl rfl ?_;intro _ _ _)|(refine lo_box1 rfl rfl rfl ?_;intro _ _ _)|(refine lo_alloc rfl ?_;intro _ _ _))
    exact l_retR3 rfl (by repeat(first|exact LRes.nil|refine LRes.tmp rfl ?_|refine LRes.agg rfl (by(repeat(first|exact MIn.hd|refine MIn.tl ?_));done) (by rfl) (by rfl) ?_|refine LRes.one rfl (by(repeat(first|exact MIn.hd|refine MIn.tl ?_));done) (by rfl) ?_)) fun w' hw => ⟨hw.org, _, rfl, Ow.nil _ _ _ _⟩
  · rw [if_neg h6]
    repeat(first|refine lrun_ ?_|(refine lo_boxA rfl rfl ?_;intro _ _ _)|(refine lo_box1 rfl rfl rfl ?_;intro _ _ _)|(refine lo_alloc rfl ?_;intro _ _ _))
    refine l_no rfl (by omega) ?_
    refine l_go .skip ?_
    repeat(first|refine lrun_ ?_|(refine lo_boxA rfl rfl ?_;intro _ _ _)|(refine lo_box1 rfl rfl rfl ?_;intro _ _ _)|(refine lo_alloc rfl ?_;intro _ _ _))
    refine l_draw [(0, 0), (1, 0), (2, 0), (3, 1), (4, 0)] (by kernel_rfl) (by kernel_rfl) rfl (by kernel_rfl) ?_
    repeat(first|refine lrund_ ?_|(refine ld_open rfl ?_;first|(refine ld_boxA rfl wy_ rfl ?_;intro _ _ _)|(refine ld_box1 rfl rfl wy_ rfl ?_;intro _ _ _)|(refine ld_alloc wy_ rfl ?_;intro _ _ _)))
    repeat(first|refine lrun_ ?_|(refine lo_boxA rfl rfl ?_;intro _ _ _)|(refine lo_box1 rfl rfl rfl ?_;intro _ _ _)|(refine lo_alloc rfl ?_;intro _ _ _))
    exact l_retR3 rfl (by repeat(first|exact LRes.nil|refine LRes.tmp rfl ?_|refine LRes.agg rfl (by(repeat(first|exact MIn.hd|refine MIn.tl ?_));done) (by rfl) (by rfl) ?_|refine LRes.one rfl (by(repeat(first|exact MIn.hd|refine MIn.tl ?_));done) (by rfl) ?_)) fun w' hw => ⟨hw.org, _, rfl, (hI.now hw.kp).mono (fun k hk _ => hk.1) fun k hk _ => hk.1⟩
theorem plain_row {l : List (List Int)} (h : ∀ x ∈ l, 10 ∉ x) (i : Nat) : 10 ∉ l.getD i [] := by
  by_cases hi : i < l.length
  · exact h _ (by rw [List.getD_eq_getElem?_getD, List.getElem?_eq_getElem hi]; exact List.getElem_mem hi)
  · have e : l.getD i [] = [] := by rw [List.getD_eq_getElem?_getD, List.getElem?_eq_none (by omega)]; rfl
    rw [e]; simp
theorem chOut_law (hpl : ∀ x ∈ l, 10 ∉ x) (hpg : ∀ x ∈ g, 10 ∉ x) (hg : g ≠ []) : chOut l i col g n = l.take i ++ ((chM ((l.getD i []).take col) g n).1 ++ [(chM ((l.getD i []).take col) g n).2 ++ (l.getD i []).drop col]) ++ l.drop (i + 1) := by
  unfold chOut xM
  rw [split_law hpg hg (fun h => plain_row hpl i (List.mem_of_mem_take h)) (fun h => plain_row hpl i (List.mem_of_mem_drop h))]
theorem chPos_law (hn : 0 < n) (hg : 0 < g.length) (hcol : col ≤ (l.getD i []).length) : chPos i col (k : Int) g n = ((i : Int), if 0 < (chM ((l.getD i []).take col) g n).1.length then (col : Int) else if 0 < (g.getD 0 []).length then ((chM ((l.getD i []).take col) g n).2.length : Int) - 1 else (k : Int)) := by
  have h1 := ch_some (a := (l.getD i []).take col) (g := g) hn
  have hd : g.drop 1 ≠ [] ↔ g.length ≠ 1 := by
    rw [ne_eq, List.drop_eq_nil_iff]; omega
  unfold chPos
  by_cases ho : g.length = 1
  · have hd1 : g.drop 1 = [] := Decidable.byContradiction fun h => hd.1 h ho
    rw [if_pos ho, if_neg (fun h => (h1.1 h) hd1), ch_one hd1, List.length_take, Nat.min_eq_left hcol]
    by_cases h0 : (g.getD 0 []).length = 0
    · rw [if_pos h0, if_neg (by omega)]
    · rw [if_neg h0, if_pos (by omega), Int.natCast_add, Int.natCast_mul]
  · rw [if_neg ho, if_pos (h1.2 (hd.2 ho))]
set_option maxHeartbeats 8000000 in
theorem pr_kind (hp : PsOk l g i col (wideM g) n) (hpl : ∀ x ∈ l, 10 ∉ x) (hpg : ∀ x ∈ g, 10 ∉ x) (hnj : n * (runesM g + g.length) ≤ 2097152) (hk : k ≤ 1048576) (hkd : 0 ≤ kd ∧ kd ≤ 2) (hG : Sl kRow F w (.slice Ag g.length cg) g) (hL : Sl kRow F0 w (.slice A l.length c) l) (hRe : R' = PsR w (fitsM (pasteOut l i k col kd g behind (wideM g) n).1 (pasteOut l i k col kd g behind (wideM g) n).2)) :
    ∀ σ', SubB σ' [(0, .slice A l.length c), (3, .bool behind), (4, .int .i64 (n : Int)), (6, .pointer (some ⟨g6, 0, none⟩)), (7, .pointer (some ⟨g7, 0, none⟩)), (11, .pointer (some ⟨g11, 0, none⟩)), (13, .int .i64 (col : Int))] → ∀ M', MSub [(g11, cb [.int .i64 0, .int .i64 0] 24), (g7, cb [.int .i64 kd, .slice Ag g.length cg] 30), (g6, cb [.int .i64 (i : Int), .int .i64 (k : Int)] 24)] M' →
      WL Try.prog Try.f23 [.code (bodyC Try.f23 [1, 1, 1, 1, 1, 1, 1, 1, 1])] σ' w (fun _ => False) B (MK [(g11, cb [.int .i64 0, .int .i64 0] 24), (g7, cb [.int .i64 kd, .slice Ag g.length cg] 30), (g6, cb [.int .i64 (i : Int), .int .i64 (k : Int)] 24)]) M' R' := by
  intro σ' hs M' hM
  refine WL.sub hs hM ?_
  have hll := hp.ll
  have hil := hp.il
  have hgl := hp.gl
  have hg0 := hp.g0
  have hcol := hp.col
  have hnn := hp.n
  have hn0 := hp.n0
  have hlr := hp.lr
  have hgr := hp.gr
  have hkl := fun j => Nat.le_trans (runes_getD l j) hp.lr
  have hrl := hkl i
  have hgne : g ≠ [] := List.ne_nil_of_length_pos hg0
  have htl : (l.take i).length = i := by rw [List.length_take]; omega
  have hb3 : n * runesM g ≤ 65536 * 1048576 := Nat.mul_le_mul hnn hp.gr
  have a3 := hp.lr
  refine l_go .seq ?_
  refine l_region ?_
  repeat(first|refine lops_ ?_|(refine lo_boxA rfl rfl ?_;intro _ _ _)|(refine lo_box1 rfl rfl rfl ?_;intro _ _ _)|(refine lo_alloc rfl ?_;intro _ _ _))
  refine lo_callM (n_call rfl) rfl (fun w' hw => chars_calls (p2 := (k : Int)) (Kn.sl hw.org hG) hgl hgr hg0 hnn hnj (Kn.sl hw.org hL) hll hlr hil hcol (by omega)) ?_
  rintro w3 _ w4 hw3 kn3 ko3 ⟨s, rfl, hO3⟩
  have hI4 := OwL.of hO3 hw3
  obtain ⟨A3, c3, rfl, _, _⟩ := hO3.form
  clear hO3 hw3
  repeat(first|refine lops_ ?_|(refine lo_boxA rfl rfl ?_;intro _ _ _)|(refine lo_box1 rfl rfl rfl ?_;intro _ _ _)|(refine lo_alloc rfl ?_;intro _ _ _))
  rename_i g15 _ _
  refine lo_nil ?_
  unfold pasteOut at hRe
  by_cases h1 : kd = 1
  · rw [if_pos h1] at hRe
    have hi' : (if behind = true then i + 1 else i) ≤ l.length := by split <;> omega
    have hrn := repL_len g n
    have hmul0 : 0 < n * g.length := Nat.mul_pos hn0 hg0
    dsimp only at hRe
    have hro : runesM (l.take (if behind = true then i + 1 else i) ++ repL g n ++ l.drop (if behind = true then i + 1 else i)) ≤ 1099511627776 := by
      rw [runes_app, runes_app, runes_repL]
      have a1 := runes_tk l (if behind = true then i + 1 else i)
      have a2 := runes_dr l (if behind = true then i + 1 else i)
      omega
    repeat(first|refine lrun_ ?_|(refine lo_boxA rfl rfl ?_;intro _ _ _)|(refine lo_box1 rfl rfl rfl ?_;intro _ _ _)|(refine lo_alloc rfl ?_;intro _ _ _))
    refine l_yes rfl h1 ?_
    refine l_region ?_
    repeat(first|refine lops_ ?_|(refine lo_boxA rfl rfl ?_;intro _ _ _)|(refine lo_box1 rfl rfl rfl ?_;intro _ _ _)|(refine lo_alloc rfl ?_;intro _ _ _))
    refine lo_callM (n_call rfl) rfl (fun w' hw => whole_calls (p2 := (k : Int)) (Kn.sl hw.org hG) hgl hnn hn0 hg0 (Kn.sl hw.org hL) hll hil) ?_
    rintro w5 _ w6 hw5 kn5 ko5 ⟨s, rfl, hO5⟩
    have hI6 := OwL.of hO5 hw5
    obtain ⟨A5, c5, rfl, _, _⟩ := hO5.form
    clear hO5 hw5 hI4
    repeat(first|refine lops_ ?_|(refine lo_boxA rfl rfl ?_;intro _ _ _)|(refine lo_box1 rfl rfl rfl ?_;intro _ _ _)|(refine lo_alloc rfl ?_;intro _ _ _))
    refine lo_nil ?_
    repeat(first|refine lrun_ ?_|(refine lo_boxA rfl rfl ?_;intro _ _ _)|(refine lo_box1 rfl rfl rfl ?_;intro _ _ _)|(refine lo_alloc rfl ?_;intro _ _ _))
    refine l_no rfl (by omega) ?_
    refine l_go .skip ?_
    exact pr_end hI6 (by rw [List.length_append, List.length_append]; omega) hro hRe _ (by repeat (first | exact SubB.nil | refine SubB.cons rfl ?_)) _ (by repeat(first|exact MSub.refl|refine MSub.keep rfl ?_|exact MSub.nil|apply MSub.drop))
  rw [if_neg h1] at hRe
  by_cases h2 : kd = 2
  · rw [if_pos h2] at hRe
    dsimp only at hRe
    have hro : runesM (blkM l i col g (wideM g) n g.length) ≤ 1099511627776 := by
      have a1 := blk_runes (n := n) (c := 1048576) (Nat.le_of_lt hil) hkl (Nat.le_trans hcol hrl) hp.wide g.length
      have a2 : g.length * (1048576 + n * wideM g) ≤ 4096 * 2097152 := Nat.mul_le_mul hgl (by have := hp.nw; omega)
      omega
    have hbl := (blk_inv (l := l) (line := i) (col := col) (rows := g) (wide := wideM g) (n := n) (Nat.le_of_lt hil) g.length).1
    repeat(first|refine lrun_ ?_|(refine lo_boxA rfl rfl ?_;intro _ _ _)|(refine lo_box1 rfl rfl rfl ?_;intro _ _ _)|(refine lo_alloc rfl ?_;intro _ _ _))
    refine l_no rfl h1 ?_
    refine l_go .skip ?_
    repeat(first|refine lrun_ ?_|(refine lo_boxA rfl rfl ?_;intro _ _ _)|(refine lo_box1 rfl rfl rfl ?_;intro _ _ _)|(refine lo_alloc rfl ?_;intro _ _ _))
    refine l_yes rfl h2 ?_
    refine l_region ?_
    repeat(first|refine lops_ ?_|(refine lo_boxA rfl rfl ?_;intro _ _ _)|(refine lo_box1 rfl rfl rfl ?_;intro _ _ _)|(refine lo_alloc rfl ?_;intro _ _ _))
    refine lo_callM (n_call rfl) rfl (fun w' hw => blockR_calls (p2 := (k : Int)) (Kn.sl hw.org hG) hgl hgr hnn hp.nw (Kn.sl hw.org hL) hll hlr hil (by omega)) ?_
    rintro w5 _ w6 hw5 kn5 ko5 ⟨s, rfl, hO5⟩
    have hI6 := OwL.of hO5 hw5
    obtain ⟨A5, c5, rfl, _, _⟩ := hO5.form
    clear hO5 hw5 hI4
    repeat(first|refine lops_ ?_|(refine lo_boxA rfl rfl ?_;intro _ _ _)|(refine lo_box1 rfl rfl rfl ?_;intro _ _ _)|(refine lo_alloc rfl ?_;intro _ _ _))
    refine lo_nil ?_
    exact pr_end hI6 (by omega) hro hRe _ (by repeat (first | exact SubB.nil | refine SubB.cons rfl ?_)) _ (by repeat(first|exact MSub.refl|refine MSub.keep rfl ?_|exact MSub.nil|apply MSub.drop))
  rw [if_neg h2] at hRe
  dsimp only at hRe
  have hro : runesM (l.take i ++ ((chM ((l.getD i []).take col) g n).1 ++ [(chM ((l.getD i []).take col) g n).2 ++ (l.getD i []).drop col]) ++ l.drop (i + 1)) ≤ 1099511627776 := by
    have htot := chM_runes (x := (l.getD i []).take col) hgne n
    rw [runes_app, runes_app, runes_app, runes_cons, runes_nil, List.length_append, List.length_drop]
    have a1 := runes_tk l i
    have a2 := runes_dr l (i + 1)
    have hx : ((l.getD i []).take col).length = col := by rw [List.length_take]; omega
    omega
  rw [← chPos_law (l := l) hn0 hg0 hcol] at hRe
  rw [← chOut_law hpl hpg hgne] at hRe hro
  repeat(first|refine lrun_ ?_|(refine lo_boxA rfl rfl ?_;intro _ _ _)|(refine lo_box1 rfl rfl rfl ?_;intro _ _ _)|(refine lo_alloc rfl ?_;intro _ _ _))
  refine l_no rfl h1 ?_
  refine l_go .skip ?_
  repeat(first|refine lrun_ ?_|(refine lo_boxA rfl rfl ?_;intro _ _ _)|(refine lo_box1 rfl rfl rfl ?_;intro _ _ _)|(refine lo_alloc rfl ?_;intro _ _ _))
  refine l_no rfl h2 ?_
  refine l_go .skip ?_
  exact pr_end hI4 (by unfold chOut splitM; simp only [List.length_append, List.length_singleton]; omega) hro hRe _ (by repeat (first | exact SubB.nil | refine SubB.cons rfl ?_)) _ (by repeat(first|exact MSub.refl|refine MSub.keep rfl ?_|exact MSub.nil|apply MSub.drop))
end
end Go.Ink

set_option linter.unusedVariables false
set_option linter.unusedSimpArgs false
namespace Go.Ink
open Go Go.Proofs Go.RowKit
theorem runes_le_mul {W : Nat} : ∀ (l : List (List Int)), (∀ x ∈ l, x.length ≤ W) → runesM l ≤ W * l.length
  | [], _ => by simp [runes_nil]
  | x :: l, h => by
    have h1 := runes_le_mul l fun y hy => h y (List.mem_cons_of_mem _ hy)
    have h2 := h x (by simp)
    rw [runes_cons, List.length_cons, Nat.mul_add]
    omega
theorem runes_wide (g : List (List Int)) : runesM g ≤ wideM g * g.length := runes_le_mul g fun x hx => by
  have := (wide_fold g 0).2.1 x hx
  exact this
theorem two_copied {kd : Int} {g : List (List Int)} (h : 0 < copiedM kd g) (hg : 0 < g.length) : runesM g + g.length ≤ 2 * copiedM kd g := by
  have hw := runes_wide g
  unfold copiedM at h ⊢
  by_cases h1 : kd = 1
  · rw [if_pos h1] at h ⊢
    unfold sizeM
    omega
  rw [if_neg h1] at h ⊢
  by_cases h2 : kd = 2
  · rw [if_pos h2] at h ⊢
    have h3 : 0 < wideM g := Nat.pos_of_ne_zero fun e => by rw [e, Nat.zero_mul] at h; omega
    have h4 : g.length ≤ wideM g * g.length := Nat.le_mul_of_pos_left _ h3
    omega
  · rw [if_neg h2] at h ⊢
    unfold sizeM at h ⊢
    omega
section
variable {F F0 K : Nat → Prop} {w B : World} {l g : List (List Int)} {A Ag : Option Addr} {c cg g6 g7 g11 i k : Nat} {kd n : Int} {p : Ps} {behind : Bool} {kk : List Item} {R' : Value → World → Prop}
set_option maxHeartbeats 8000000 in
theorem pr_col (hl : l.length ≤ 4096) (hlr : runesM l ≤ 1048576) (hgl : g.length ≤ 4096) (hgr : runesM g ≤ 1048576) (hg0 : 0 < g.length) (hpl : ∀ x ∈ l, 10 ∉ x) (hpg : ∀ x ∈ g, 10 ∉ x) (hkd : 0 ≤ kd ∧ kd ≤ 2) (hG : Sl kRow F w (.slice Ag g.length cg) g) (hL : Sl kRow F0 w (.slice A l.length c) l) {m : Nat} (hi : i < l.length) (hk : (l.getD i []).length = 0 ∧ k = 0 ∨ k < (l.getD i []).length) (hm : m ≤ 65536) (hm0 : 0 < m) (hmw : m * wideM g ≤ 1048576) (hnj : m * (runesM g + g.length) ≤ 2097152)
    (hRe : R' = PsR w (fitsM (pasteOut l i k (k + if behind = true ∧ 0 < (l.getD i []).length then 1 else 0) kd g behind (wideM g) m).1 (pasteOut l i k (k + if behind = true ∧ 0 < (l.getD i []).length then 1 else 0) kd g behind (wideM g) m).2)) :
    ∀ σ', SubB σ' [(0, .slice A l.length c), (3, .bool behind), (4, .int .i64 (m : Int)), (6, .pointer (some ⟨g6, 0, none⟩)), (7, .pointer (some ⟨g7, 0, none⟩)), (11, .pointer (some ⟨g11, 0, none⟩))] → ∀ M', MSub [(g11, cb [.int .i64 0, .int .i64 0] 24), (g7, cb [.int .i64 kd, .slice Ag g.length cg] 30), (g6, cb [.int .i64 (i : Int), .int .i64 (k : Int)] 24)] M' →
      WL Try.prog Try.f23 [.code (bodyC Try.f23 [1, 1, 1, 1, 1, 1, 1])] σ' w (fun _ => False) B (MK [(g11, cb [.int .i64 0, .int .i64 0] 24), (g7, cb [.int .i64 kd, .slice Ag g.length cg] 30), (g6, cb [.int .i64 (i : Int), .int .i64 (k : Int)] 24)]) M' R' := by
  intro σ' hs M' hM
  refine WL.sub hs hM ?_
  obtain ⟨_, _, ad, rV, rc, ra, e, hR⟩ := hL.rws
  cases e
  have hrl := runes_getD l i
  have hok : ∀ q, q ≤ (l.getD i []).length → PsOk l g i q (wideM g) m := fun q hq => ⟨hl, hlr, hgl, hgr, hg0, hi, hq, wide_le g, Nat.le_trans (wide_runes g) hgr, hm, hm0, hmw⟩
  cases behind with
  | false =>
    have e : (k + if (false : Bool) = true ∧ 0 < (l.getD i []).length then 1 else 0) = k := by rw [if_neg (fun h => Bool.noConfusion h.1)]; rfl
    rw [e] at hRe
    repeat(first|refine lrun_ ?_|(refine lo_boxA rfl rfl ?_;intro _ _ _)|(refine lo_box1 rfl rfl rfl ?_;intro _ _ _)|(refine lo_alloc rfl ?_;intro _ _ _))
    refine l_false rfl ?_
    refine l_go .skip ?_
    exact pr_kind (hok k (by omega)) hpl hpg hnj (by omega) hkd hG hL hRe _ (by repeat (first | exact SubB.nil | refine SubB.cons rfl ?_)) _ (by repeat(first|exact MSub.refl|refine MSub.keep rfl ?_|exact MSub.nil|apply MSub.drop))
  | true =>
    by_cases h0 : 0 < (l.getD i []).length
    · have e : (k + if (true : Bool) = true ∧ 0 < (l.getD i []).length then 1 else 0) = k + 1 := by rw [if_pos ⟨rfl, h0⟩]
      rw [e] at hRe
      repeat(first|refine lrun_ ?_|(refine lo_boxA rfl rfl ?_;intro _ _ _)|(refine lo_box1 rfl rfl rfl ?_;intro _ _ _)|(refine lo_alloc rfl ?_;intro _ _ _))
      refine l_yes rfl (Int.ofNat_lt.2 h0) ?_
      refine l_region ?_;(repeat(first|refine lops_ ?_|(refine lo_boxA rfl rfl ?_;intro _ _ _)|(refine lo_box1 rfl rfl rfl ?_;intro _ _ _)|(refine lo_alloc rfl ?_;intro _ _ _)));refine lo_nil ?_
      exact pr_kind (hok (k + 1) (by omega)) hpl hpg hnj (by omega) hkd hG hL hRe _ (by repeat (first | exact SubB.nil | refine SubB.cons rfl ?_)) _ (by repeat(first|exact MSub.refl|refine MSub.keep rfl ?_|exact MSub.nil|apply MSub.drop))
    · have e : (k + if (true : Bool) = true ∧ 0 < (l.getD i []).length then 1 else 0) = k := by rw [if_neg (fun h => h0 h.2)]; rfl
      rw [e] at hRe
      repeat(first|refine lrun_ ?_|(refine lo_boxA rfl rfl ?_;intro _ _ _)|(refine lo_box1 rfl rfl rfl ?_;intro _ _ _)|(refine lo_alloc rfl ?_;intro _ _ _))
      refine l_no rfl (fun h => h0 (Int.ofNat_lt.1 h)) ?_
      refine l_go .skip ?_
      exact pr_kind (hok k (by omega)) hpl hpg hnj (by omega) hkd hG hL hRe _ (by repeat (first | exact SubB.nil | refine SubB.cons rfl ?_)) _ (by repeat(first|exact MSub.refl|refine MSub.keep rfl ?_|exact MSub.nil|apply MSub.drop))
set_option maxHeartbeats 8000000 in
theorem pr_mid (hl : l.length ≤ 4096) (hlr : runesM l ≤ 1048576) (hgl : g.length ≤ 4096) (hgr : runesM g ≤ 1048576) (hg0 : 0 < g.length) (hpl : ∀ x ∈ l, 10 ∉ x) (hpg : ∀ x ∈ g, 10 ∉ x) (hkd : 0 ≤ kd ∧ kd ≤ 2) (hG : Sl kRow F w (.slice Ag g.length cg) g) (hL : Sl kRow F0 w (.slice A l.length c) l) (hp : P64 p) (hn : -9223372036854775808 ≤ n ∧ n ≤ 9223372036854775807) (hRe : R' = PsR w (pasteR l p kd g behind n)) :
    ∀ σ', SubB σ' [(0, .slice A l.length c), (3, .bool behind), (4, .int .i64 n), (6, .pointer (some ⟨g6, 0, none⟩)), (7, .pointer (some ⟨g7, 0, none⟩)), (11, .pointer (some ⟨g11, 0, none⟩))] → ∀ M', MSub [(g11, cb [.int .i64 0, .int .i64 0] 24), (g7, cb [.int .i64 kd, .slice Ag g.length cg] 30), (g6, cb [.int .i64 p.1, .int .i64 p.2] 24)] M' →
      WL Try.prog Try.f23 [.code (bodyC Try.f23 [1, 1])] σ' w (fun _ => False) B (MK [(g11, cb [.int .i64 0, .int .i64 0] 24), (g7, cb [.int .i64 kd, .slice Ag g.length cg] 30), (g6, cb [.int .i64 p.1, .int .i64 p.2] 24)]) M' R' := by
  intro σ' hs M' hM
  refine WL.sub hs hM ?_
  unfold pasteR at hRe
  by_cases h0 : l = []
  · rw [if_pos h0] at hRe
    subst hRe
    have h0' : l.length = 0 := by rw [h0]; rfl
    repeat(first|refine lrun_ ?_|(refine lo_boxA rfl rfl ?_;intro _ _ _)|(refine lo_box1 rfl rfl rfl ?_;intro _ _ _)|(refine lo_alloc rfl ?_;intro _ _ _))
    refine l_yes rfl (by omega) ?_
    repeat(first|refine lrun_ ?_|(refine lo_boxA rfl rfl ?_;intro _ _ _)|(refine lo_box1 rfl rfl rfl ?_;intro _ _ _)|(refine lo_alloc rfl ?_;intro _ _ _))
    exact l_retR3 rfl (by repeat(first|exact LRes.nil|refine LRes.tmp rfl ?_|refine LRes.agg rfl (by(repeat(first|exact MIn.hd|refine MIn.tl ?_));done) (by rfl) (by rfl) ?_|refine LRes.one rfl (by(repeat(first|exact MIn.hd|refine MIn.tl ?_));done) (by rfl) ?_)) fun w hw => ⟨hw.org, _, rfl, Ow.nil _ _ _ _⟩
  rw [if_neg h0] at hRe
  have hl0 := List.length_pos_iff.2 h0
  have hq := clip_at (p := p) h0
  obtain ⟨i, hi⟩ : ∃ i : Nat, (clipM l p).1 = (i : Int) := ⟨(clipM l p).1.toNat, by have := hq.i; omega⟩
  have hk' := hq.k
  obtain ⟨k, hk⟩ : ∃ k : Nat, (clipM l p).2 = (k : Int) := ⟨(clipM l p).2.toNat, by omega⟩
  have hqe : clipM l p = ((i : Int), (k : Int)) := by rw [← hi, ← hk]
  have hii := hq.i
  rw [hqe] at hRe hk' hii
  unfold rowOf at hk'
  simp only [Int.toNat_natCast] at hRe hk' hii
  have hw := wide_runes g
  have hwc := wide_copied (kd := kd) hg0
  have hn1 : (1 : Int) ≤ if 1 < n then n else 1 := by split <;> omega
  have hn2 : (if 1 < n then n else 1) ≤ 9223372036854775807 := by split <;> omega
  have hnm : (if 1 < n then n else 1) = (if (1 : Int) < n then n else 1) := rfl
  have hea := fun (w' : World) (hk2 : Kn w w') => each_calls (kd := kd) (Kn.sl hk2 hG) hkd hg0 hgl hgr
  have htc := two_copied (kd := kd) (g := g)
  repeat(first|refine lrun_ ?_|(refine lo_boxA rfl rfl ?_;intro _ _ _)|(refine lo_box1 rfl rfl rfl ?_;intro _ _ _)|(refine lo_alloc rfl ?_;intro _ _ _))
  refine l_no rfl (by omega) ?_
  refine l_go .skip ?_
  repeat(first|refine lrun_ ?_|(refine lo_boxA rfl rfl ?_;intro _ _ _)|(refine lo_box1 rfl rfl rfl ?_;intro _ _ _)|(refine lo_alloc rfl ?_;intro _ _ _))
  refine lo_call (n_call rfl) rfl (fun w' hw' => clipR_calls (Kn.sl hw'.org hL) hp) ?_
  rw [hqe]
  repeat(first|refine lrun_ ?_|(refine lo_boxA rfl rfl ?_;intro _ _ _)|(refine lo_box1 rfl rfl rfl ?_;intro _ _ _)|(refine lo_alloc rfl ?_;intro _ _ _))
  generalize hne : (if 1 < n then n else 1) = n1 at *
  refine lo_call (n_call rfl) rfl (fun w' hw' => hea w' hw'.org) ?_
  generalize hce : copiedM kd g = c0 at *
  by_cases hc0 : c0 = 0
  · rw [if_neg (fun h => by omega), if_pos hc0] at hRe
    repeat(first|refine lrun_ ?_|(refine lo_boxA rfl rfl ?_;intro _ _ _)|(refine lo_box1 rfl rfl rfl ?_;intro _ _ _)|(refine lo_alloc rfl ?_;intro _ _ _))
    refine l_false rfl ?_
    refine l_go .skip ?_
    repeat(first|refine lrun_ ?_|(refine lo_boxA rfl rfl ?_;intro _ _ _)|(refine lo_box1 rfl rfl rfl ?_;intro _ _ _)|(refine lo_alloc rfl ?_;intro _ _ _))
    refine lo_call (n_call rfl) rfl (fun w' hw' => hea w' hw'.org) ?_
    repeat(first|refine lrun_ ?_|(refine lo_boxA rfl rfl ?_;intro _ _ _)|(refine lo_box1 rfl rfl rfl ?_;intro _ _ _)|(refine lo_alloc rfl ?_;intro _ _ _))
    refine l_yes rfl (by omega) ?_
    refine l_region ?_;(repeat(first|refine lops_ ?_|(refine lo_boxA rfl rfl ?_;intro _ _ _)|(refine lo_box1 rfl rfl rfl ?_;intro _ _ _)|(refine lo_alloc rfl ?_;intro _ _ _)));refine lo_nil ?_
    refine l_baseM (M3 := [(g11, cb [.int .i64 0, .int .i64 0] 24), (g7, cb [.int .i64 kd, .slice Ag g.length cg] 30), (g6, cb [.int .i64 (i : Int), .int .i64 (k : Int)] 24)]) .refl fun wb hwb => ?_
    exact pr_col (m := 1) hl hlr hgl hgr hg0 hpl hpg hkd hG hL (by omega) (by omega) (by decide) (by decide) (by omega) (by omega) hRe _ (by repeat (first | exact SubB.nil | refine SubB.cons rfl ?_)) _ (by repeat(first|exact MSub.refl|refine MSub.keep rfl ?_|exact MSub.nil|apply MSub.drop))
  have e1 : IntKind.i64.wrap ((65536 : Int).tdiv (c0 : Int)) = ((65536 / c0 : Nat) : Int) := by
    have e2 : (65536 : Int).tdiv (c0 : Int) = ((65536 / c0 : Nat) : Int) := by
      rw [Int.tdiv_eq_ediv_of_nonneg (by decide)]
      exact (Int.natCast_ediv 65536 c0).symm
    rw [e2]
    have := Nat.div_le_self 65536 c0
    exact wrap_in64 (Int.le_trans (by decide) (Int.natCast_nonneg _)) (Int.le_trans (Int.ofNat_le.2 this) (by decide))
  repeat(first|refine lrun_ ?_|(refine lo_boxA rfl rfl ?_;intro _ _ _)|(refine lo_box1 rfl rfl rfl ?_;intro _ _ _)|(refine lo_alloc rfl ?_;intro _ _ _))
  refine lo_call (n_call rfl) rfl (fun w' hw' => hea w' hw'.org) ?_
  repeat(first|refine lrun_ ?_|(refine lo_boxA rfl rfl ?_;intro _ _ _)|(refine lo_box1 rfl rfl rfl ?_;intro _ _ _)|(refine lo_alloc rfl ?_;intro _ _ _))
  refine lo_rn (fun _ => r_quo (a := 65536) rfl rfl (by omega)) rfl ?_
  rw [e1]
  repeat(first|refine lrun_ ?_|(refine lo_boxA rfl rfl ?_;intro _ _ _)|(refine lo_box1 rfl rfl rfl ?_;intro _ _ _)|(refine lo_alloc rfl ?_;intro _ _ _))
  by_cases hf : ((65536 / c0 : Nat) : Int) < n1
  · rw [if_pos ⟨by omega, hf⟩] at hRe
    subst hRe
    refine l_yes rfl hf ?_
    repeat(first|refine lrun_ ?_|(refine lo_boxA rfl rfl ?_;intro _ _ _)|(refine lo_box1 rfl rfl rfl ?_;intro _ _ _)|(refine lo_alloc rfl ?_;intro _ _ _))
    exact l_retR3 rfl (by repeat(first|exact LRes.nil|refine LRes.tmp rfl ?_|refine LRes.agg rfl (by(repeat(first|exact MIn.hd|refine MIn.tl ?_));done) (by rfl) (by rfl) ?_|refine LRes.one rfl (by(repeat(first|exact MIn.hd|refine MIn.tl ?_));done) (by rfl) ?_)) fun w hw => ⟨hw.org, _, rfl, Ow.nil _ _ _ _⟩
  rw [if_neg (fun h => hf h.2), if_neg hc0] at hRe
  obtain ⟨m, rfl⟩ : ∃ m : Nat, n1 = (m : Int) := ⟨n1.toNat, by omega⟩
  simp only [Int.toNat_natCast] at hRe
  have hmc : m ≤ 65536 / c0 := by omega
  have hmc2 : m * c0 ≤ 65536 := by
    have := Nat.mul_le_mul_right c0 hmc
    have := Nat.div_mul_le_self 65536 c0
    omega
  have hmw : m * wideM g ≤ m * c0 := Nat.mul_le_mul_left _ hwc
  have hmj : m * (runesM g + g.length) ≤ m * (2 * c0) := Nat.mul_le_mul_left _ (htc (by omega) hg0)
  have hmj2 : m * (2 * c0) = 2 * (m * c0) := by rw [Nat.mul_left_comm]
  have := Nat.div_le_self 65536 c0
  refine l_no rfl hf ?_
  refine l_go .skip ?_
  repeat(first|refine lrun_ ?_|(refine lo_boxA rfl rfl ?_;intro _ _ _)|(refine lo_box1 rfl rfl rfl ?_;intro _ _ _)|(refine lo_alloc rfl ?_;intro _ _ _))
  refine lo_call (n_call rfl) rfl (fun w' hw' => hea w' hw'.org) ?_
  repeat(first|refine lrun_ ?_|(refine lo_boxA rfl rfl ?_;intro _ _ _)|(refine lo_box1 rfl rfl rfl ?_;intro _ _ _)|(refine lo_alloc rfl ?_;intro _ _ _))
  refine l_no rfl (by omega) ?_
  refine l_go .skip ?_
  refine l_baseM (M3 := [(g11, cb [.int .i64 0, .int .i64 0] 24), (g7, cb [.int .i64 kd, .slice Ag g.length cg] 30), (g6, cb [.int .i64 (i : Int), .int .i64 (k : Int)] 24)]) .refl fun wb hwb => ?_
  exact pr_col (m := m) hl hlr hgl hgr hg0 hpl hpg hkd hG hL (by omega) (by omega) (by omega) (by omega) (by omega) (by omega) hRe _ (by repeat (first | exact SubB.nil | refine SubB.cons rfl ?_)) _ (by repeat(first|exact MSub.refl|refine MSub.keep rfl ?_|exact MSub.nil|apply MSub.drop))
end
end Go.Ink

set_option linter.unusedVariables false
set_option linter.unusedSimpArgs false
namespace Go.Ink
open Go Go.Proofs Go.RowKit
theorem plainB_iff {g : List (List Int)} : plainB g = true ↔ ∀ x ∈ g, 10 ∉ x := by
  unfold plainB
  rw [List.all_eq_true]
  exact ⟨fun h x hx => of_decide_eq_true (h x hx), fun h x hx => decide_eq_true (h x hx)⟩
theorem badG_plain {kd : Int} {g : List (List Int)} (hp : plainB g = true) : badG kd g = decide (kd < 0 ∨ 2 < kd ∨ g = []) := by
  unfold badG
  have : (g.any fun x => decide (10 ∈ x)) = false := by
    rw [List.any_eq_false]
    intro x hx h
    exact plainB_iff.1 hp x hx (of_decide_eq_true h)
  rw [this, Bool.or_false]
theorem badG_not {kd : Int} {g : List (List Int)} (hp : plainB g = false) : badG kd g = true := by
  unfold badG
  have : (g.any fun x => decide (10 ∈ x)) = true := by
    refine Decidable.byContradiction fun h => ?_
    have h2 : plainB g = true := plainB_iff.2 fun x hx hm => h (List.any_eq_true.2 ⟨x, hx, decide_eq_true hm⟩)
    rw [hp] at h2
    cases h2
  rw [this, Bool.or_true]
section
variable {F F0 K : Nat → Prop} {w B : World} {l g : List (List Int)} {A Ag : Option Addr} {c cg g6 g7 g11 i k : Nat} {kd n : Int} {p : Ps} {behind : Bool}
set_option maxHeartbeats 8000000 in
theorem pasteT_calls {vg v : Value} (hL : Sl kRow F0 w v l) (hG : Sl kRow F w vg g) (hl : l.length ≤ 4096) (hlr : runesM l ≤ 1048576) (hgl : g.length ≤ 4096) (hgr : runesM g ≤ 1048576) (hpl : ∀ x ∈ l, 10 ∉ x) (hp : P64 p) (hn : -9223372036854775808 ≤ n ∧ n ≤ 9223372036854775807) :
    CallsR Try.prog 23 #[v, posV p, .agg #[.int .i64 kd, vg], .bool behind, .int .i64 n] w (PsR w (pasteM l p kd g behind n)) := by
  obtain ⟨A, c, e⟩ : ∃ A c, v = .slice A l.length c := by obtain ⟨A, c, e, _⟩ := hL.form; exact ⟨A, c, e⟩
  subst e
  obtain ⟨Ag, cg, e⟩ : ∃ A c, vg = .slice A g.length c := by obtain ⟨A, c, e, _⟩ := hG.form; exact ⟨A, c, e⟩
  subst e
  refine l_enter (fun _ => False) Try.func23 rfl rfl ?_
  unfold pasteM
  by_cases h1 : kd < 0
  · have hb : badG kd g = true := by unfold badG; rw [decide_eq_true (.inl h1), Bool.true_or]
    rw [if_pos hb]
    repeat(first|refine lrun_ ?_|(refine lo_boxA rfl rfl ?_;intro _ _ _)|(refine lo_box1 rfl rfl rfl ?_;intro _ _ _)|(refine lo_alloc rfl ?_;intro _ _ _))
    refine l_true rfl ?_
    repeat(first|refine lrun_ ?_|(refine lo_boxA rfl rfl ?_;intro _ _ _)|(refine lo_box1 rfl rfl rfl ?_;intro _ _ _)|(refine lo_alloc rfl ?_;intro _ _ _))
    exact l_retR3 rfl (by repeat(first|exact LRes.nil|refine LRes.tmp rfl ?_|refine LRes.agg rfl (by(repeat(first|exact MIn.hd|refine MIn.tl ?_));done) (by rfl) (by rfl) ?_|refine LRes.one rfl (by(repeat(first|exact MIn.hd|refine MIn.tl ?_));done) (by rfl) ?_)) fun w' hw => ⟨hw.org, _, rfl, Ow.nil _ _ _ _⟩
  by_cases h2 : 2 < kd
  · have hb : badG kd g = true := by unfold badG; rw [decide_eq_true (.inr (.inl h2)), Bool.true_or]
    rw [if_pos hb]
    repeat(first|refine lrun_ ?_|(refine lo_boxA rfl rfl ?_;intro _ _ _)|(refine lo_box1 rfl rfl rfl ?_;intro _ _ _)|(refine lo_alloc rfl ?_;intro _ _ _))
    refine l_true rfl ?_
    repeat(first|refine lrun_ ?_|(refine lo_boxA rfl rfl ?_;intro _ _ _)|(refine lo_box1 rfl rfl rfl ?_;intro _ _ _)|(refine lo_alloc rfl ?_;intro _ _ _))
    exact l_retR3 rfl (by repeat(first|exact LRes.nil|refine LRes.tmp rfl ?_|refine LRes.agg rfl (by(repeat(first|exact MIn.hd|refine MIn.tl ?_));done) (by rfl) (by rfl) ?_|refine LRes.one rfl (by(repeat(first|exact MIn.hd|refine MIn.tl ?_));done) (by rfl) ?_)) fun w' hw => ⟨hw.org, _, rfl, Ow.nil _ _ _ _⟩
  by_cases h3 : g = []
  · have hb : badG kd g = true := by unfold badG; rw [decide_eq_true (.inr (.inr h3)), Bool.true_or]
    have h3' : g.length = 0 := by rw [h3]; rfl
    rw [if_pos hb]
    repeat(first|refine lrun_ ?_|(refine lo_boxA rfl rfl ?_;intro _ _ _)|(refine lo_box1 rfl rfl rfl ?_;intro _ _ _)|(refine lo_alloc rfl ?_;intro _ _ _))
    refine l_true rfl ?_
    repeat(first|refine lrun_ ?_|(refine lo_boxA rfl rfl ?_;intro _ _ _)|(refine lo_box1 rfl rfl rfl ?_;intro _ _ _)|(refine lo_alloc rfl ?_;intro _ _ _))
    exact l_retR3 rfl (by repeat(first|exact LRes.nil|refine LRes.tmp rfl ?_|refine LRes.agg rfl (by(repeat(first|exact MIn.hd|refine MIn.tl ?_));done) (by rfl) (by rfl) ?_|refine LRes.one rfl (by(repeat(first|exact MIn.hd|refine MIn.tl ?_));done) (by rfl) ?_)) fun w' hw => ⟨hw.org, _, rfl, Ow.nil _ _ _ _⟩
  have hg0 := List.length_pos_iff.2 h3
  repeat(first|refine lrun_ ?_|(refine lo_boxA rfl rfl ?_;intro _ _ _)|(refine lo_box1 rfl rfl rfl ?_;intro _ _ _)|(refine lo_alloc rfl ?_;intro _ _ _))
  refine lo_call (n_call rfl) rfl (fun w' hw => plain_calls (Kn.sl hw.org hG)) ?_
  cases hpb : plainB g with
  | false =>
    rw [if_pos (badG_not hpb)]
    repeat(first|refine lrun_ ?_|(refine lo_boxA rfl rfl ?_;intro _ _ _)|(refine lo_box1 rfl rfl rfl ?_;intro _ _ _)|(refine lo_alloc rfl ?_;intro _ _ _))
    refine l_true rfl ?_
    repeat(first|refine lrun_ ?_|(refine lo_boxA rfl rfl ?_;intro _ _ _)|(refine lo_box1 rfl rfl rfl ?_;intro _ _ _)|(refine lo_alloc rfl ?_;intro _ _ _))
    exact l_retR3 rfl (by repeat(first|exact LRes.nil|refine LRes.tmp rfl ?_|refine LRes.agg rfl (by(repeat(first|exact MIn.hd|refine MIn.tl ?_));done) (by rfl) (by rfl) ?_|refine LRes.one rfl (by(repeat(first|exact MIn.hd|refine MIn.tl ?_));done) (by rfl) ?_)) fun w' hw => ⟨hw.org, _, rfl, Ow.nil _ _ _ _⟩
  | true =>
  have hbad : badG kd g = false := by rw [badG_plain hpb]; exact decide_eq_false fun h => h.elim h1 fun h => h.elim h2 h3
  rw [if_neg (by rw [hbad]; decide)]
  repeat(first|refine lrun_ ?_|(refine lo_boxA rfl rfl ?_;intro _ _ _)|(refine lo_box1 rfl rfl rfl ?_;intro _ _ _)|(refine lo_alloc rfl ?_;intro _ _ _))
  refine l_false rfl ?_
  refine l_go .skip ?_
  refine l_baseM (M3 := _) .refl fun wb hwb => ?_
  exact pr_mid hl hlr hgl hgr hg0 hpl (plainB_iff.1 hpb) (by omega) hG hL hp hn rfl _ (by repeat (first | exact SubB.nil | refine SubB.cons rfl ?_)) _ (by repeat(first|exact MSub.refl|refine MSub.keep rfl ?_|exact MSub.nil|apply MSub.drop))
end
theorem nd_r {N M : Mm} (h : ((N ++ M).map (·.1)).Nodup) : (M.map (·.1)).Nodup := by rw [List.map_append, List.nodup_append] at h; exact h.2.1
theorem nd_c2 {p : Nat × Obj} {N2 N1 M : Mm} (h : ((p :: (N2 ++ (N1 ++ M))).map (·.1)).Nodup) {k : Nat} (hk : MK N1 k) (hm : MK (p :: M) k) : False := by
  rw [List.map_cons, List.nodup_cons] at h
  rw [MK_iff, List.map_cons, List.mem_cons] at hm
  rcases hm with rfl | hm
  · exact h.1 (by rw [List.map_append, List.map_append]; exact List.mem_append.2 (.inr (List.mem_append.2 (.inl (MK_iff.1 hk)))))
  · exact nd_l (nd_r h.2) hk (MK_iff.2 hm)
section
variable {F F0 : Nat → Prop} {w : World} {l g : List (List Int)} {A Ag : Option Addr} {c cg g4 g5 g8 : Nat} {kd n : Int} {p : Ps} {behind : Bool}
def TwG (kd : Int) (g : List (List Int)) (u : Value) (N : Mm) : Prop := ∃ s, u = .agg #[.int .i64 kd, s] ∧ NwT g s N
theorem twinGN_calls {v : Value} (h : Sl kRow F w v g) : CallsR Try.prog 21 #[.agg #[.int .i64 kd, v]] w fun u w' => ∃ N, News w w' N ∧ TwG kd g u N :=
  (twinG_calls h).mono fun u w' ⟨h1, s, us, e, h2⟩ => by
    obtain ⟨N, h3, h4⟩ := nwT_of h1 (h2.ow fun _ _ => trivial)
    exact ⟨N, h3, s, e, h4⟩
set_option maxHeartbeats 8000000 in
theorem op_tail {B : World} {A7 A8 : Option Addr} {c7 c8 : Nat} (h : Sl kRow F w (.slice A l.length c) l) (hgw : Sl kRow F0 w (.slice Ag g.length cg) g) (hp : P64 p) (hn : -9223372036854775808 ≤ n ∧ n ≤ 9223372036854775807) (hl : l.length ≤ 300) (hlr : runesM l ≤ 4096) (hgl : g.length ≤ 300) (hgr : runesM g ≤ 4096) (hpl : ∀ x ∈ l, 10 ∉ x)
    (h7 : Hd kRow B (MK ((g8, cb [.int .i64 kd, .slice A8 g.length c8] 30) :: [(g5, cb [.int .i64 kd, .slice Ag g.length cg, .bool behind, .int .i64 n] 42), (g4, cb [.int .i64 p.1, .int .i64 p.2] 24)])) (.slice A7 l.length c7) l) (hg : Hd kRow B (MK ((g8, cb [.int .i64 kd, .slice A8 g.length c8] 30) :: [(g5, cb [.int .i64 kd, .slice Ag g.length cg, .bool behind, .int .i64 n] 42), (g4, cb [.int .i64 p.1, .int .i64 p.2] 24)])) (.slice A8 g.length c8) g) :
    ∀ σ', SubB σ' [(0, .slice A l.length c), (4, .pointer (some ⟨g4, 0, none⟩)), (5, .pointer (some ⟨g5, 0, none⟩)), (7, .slice A7 l.length c7), (8, .pointer (some ⟨g8, 0, none⟩))] → ∀ M', MSub ((g8, cb [.int .i64 kd, .slice A8 g.length c8] 30) :: [(g5, cb [.int .i64 kd, .slice Ag g.length cg, .bool behind, .int .i64 n] 42), (g4, cb [.int .i64 p.1, .int .i64 p.2] 24)]) M' →
      WL Try.prog Try.f5 [.code (bodyC Try.f5 [1, 1, 1])] σ' w (fun _ => False) B (MK ((g8, cb [.int .i64 kd, .slice A8 g.length c8] 30) :: [(g5, cb [.int .i64 kd, .slice Ag g.length cg, .bool behind, .int .i64 n] 42), (g4, cb [.int .i64 p.1, .int .i64 p.2] 24)])) M' fun u w' => Kn w w' ∧ u = .bool true := by
  intro σ' hs M' hM
  refine WL.sub hs hM ?_
  obtain ⟨J, hJ⟩ : ∃ J, pasteM l p kd g behind n = J := ⟨_, rfl⟩
  repeat(first|refine lrun_ ?_|(refine lo_boxA rfl rfl ?_;intro _ _ _)|(refine lo_box1 rfl rfl rfl ?_;intro _ _ _)|(refine lo_alloc rfl ?_;intro _ _ _))
  refine lo_callM (n_call rfl) rfl (fun w' hw => paste_calls (h7.now hw) (hg.now hw) (by omega) (by omega) (by omega) (by omega) hp hn) ?_
  rw [hJ]
  rintro w5 _ w6 hw5 kn5 ko5 ⟨s, rfl, hO5⟩
  have h7 := h7.next hw5 kn5
  have hg := hg.next hw5 kn5
  have h9 := Hd.of hO5 hw5
  obtain ⟨A9, c9, rfl, _, _⟩ := hO5.form
  clear hO5
  repeat(first|refine lrun_ ?_|(refine lo_boxA rfl rfl ?_;intro _ _ _)|(refine lo_box1 rfl rfl rfl ?_;intro _ _ _)|(refine lo_alloc rfl ?_;intro _ _ _))
  rename_i g10 _ _
  refine lo_callM (n_call rfl) rfl (fun w' hw => pasteT_calls (Kn.sl hw.org h) (Kn.sl hw.org hgw) (by omega) (by omega) (by omega) (by omega) hpl hp hn) ?_
  rw [hJ]
  rintro w7 _ w8 hw7 kn7 ko7 ⟨s, rfl, hO7⟩
  have h7 := h7.next hw7 kn7
  have hg := hg.next hw7 kn7
  have h9 := h9.next hw7 kn7
  have h12 := Hd.of hO7 hw7
  obtain ⟨A12, c12, rfl, _, _⟩ := hO7.form
  clear hO7
  repeat(first|refine lrun_ ?_|(refine lo_boxA rfl rfl ?_;intro _ _ _)|(refine lo_box1 rfl rfl rfl ?_;intro _ _ _)|(refine lo_alloc rfl ?_;intro _ _ _))
  rw [decide_eq_true (rfl : J.2.2 = J.2.2)]
  repeat(first|refine lrun_ ?_|(refine lo_boxA rfl rfl ?_;intro _ _ _)|(refine lo_box1 rfl rfl rfl ?_;intro _ _ _)|(refine lo_alloc rfl ?_;intro _ _ _))
  rw [decide_eq_true (⟨rfl, rfl⟩ : J.2.1.1 = J.2.1.1 ∧ J.2.1.2 = J.2.1.2)]
  repeat(first|refine lrun_ ?_|(refine lo_boxA rfl rfl ?_;intro _ _ _)|(refine lo_box1 rfl rfl rfl ?_;intro _ _ _)|(refine lo_alloc rfl ?_;intro _ _ _))
  refine lo_call (n_call rfl) rfl (fun w' hw => same04_calls (h9.now hw) (h12.now hw)) ?_
  rw [decide_eq_true (rfl : J.1 = J.1)]
  repeat(first|refine lrun_ ?_|(refine lo_boxA rfl rfl ?_;intro _ _ _)|(refine lo_box1 rfl rfl rfl ?_;intro _ _ _)|(refine lo_alloc rfl ?_;intro _ _ _))
  refine lo_call (n_call rfl) rfl (fun w' hw => same04_calls (h7.now hw) (Kn.sl hw.org h)) ?_
  rw [decide_eq_true (rfl : l = l)]
  repeat(first|refine lrun_ ?_|(refine lo_boxA rfl rfl ?_;intro _ _ _)|(refine lo_box1 rfl rfl rfl ?_;intro _ _ _)|(refine lo_alloc rfl ?_;intro _ _ _))
  refine lo_call (n_call rfl) rfl (fun w' hw => sameG_calls (hg.now hw) (Kn.sl hw.org hgw)) ?_
  rw [decide_eq_true (⟨rfl, rfl⟩ : kd = kd ∧ g = g)]
  repeat(first|refine lrun_ ?_|(refine lo_boxA rfl rfl ?_;intro _ _ _)|(refine lo_box1 rfl rfl rfl ?_;intro _ _ _)|(refine lo_alloc rfl ?_;intro _ _ _))
  refine lo_call (n_call (args := []) rfl) rfl (fun w' hw => awake_calls) ?_
  repeat(first|refine lrun_ ?_|(refine lo_boxA rfl rfl ?_;intro _ _ _)|(refine lo_box1 rfl rfl rfl ?_;intro _ _ _)|(refine lo_alloc rfl ?_;intro _ _ _))
  exact l_ret1 rfl rfl fun w' hw => ⟨hw.org, rfl⟩
set_option maxHeartbeats 8000000 in
theorem pastes_calls {v vg : Value} (h : Sl kRow F w v l) (hgw : Sl kRow F0 w vg g) (hp : P64 p) (hn : -9223372036854775808 ≤ n ∧ n ≤ 9223372036854775807) :
    CallsR Try.prog 5 #[v, posV p, .agg #[.int .i64 kd, vg, .bool behind, .int .i64 n]] w fun u w' => Kn w w' ∧ u = .bool true := by
  obtain ⟨A, c, e⟩ : ∃ A c, v = .slice A l.length c := by obtain ⟨A, c, e, _⟩ := h.form; exact ⟨A, c, e⟩
  subst e
  obtain ⟨Ag, cg, e⟩ : ∃ A c, vg = .slice A g.length c := by obtain ⟨A, c, e, _⟩ := hgw.form; exact ⟨A, c, e⟩
  subst e
  refine l_enter (fun _ => False) Try.func5 rfl rfl ?_
  repeat(first|refine lrun_ ?_|(refine lo_boxA rfl rfl ?_;intro _ _ _)|(refine lo_box1 rfl rfl rfl ?_;intro _ _ _)|(refine lo_alloc rfl ?_;intro _ _ _))
  rename_i g4 _ _ g5 _ _
  refine lo_call (n_call rfl) rfl (fun w' hw => fit_calls (Kn.sl hw.org h)) ?_
  cases hf : fitB l with
  | false =>
    repeat(first|refine lrun_ ?_|(refine lo_boxA rfl rfl ?_;intro _ _ _)|(refine lo_box1 rfl rfl rfl ?_;intro _ _ _)|(refine lo_alloc rfl ?_;intro _ _ _))
    refine l_true rfl ?_
    repeat(first|refine lrun_ ?_|(refine lo_boxA rfl rfl ?_;intro _ _ _)|(refine lo_box1 rfl rfl rfl ?_;intro _ _ _)|(refine lo_alloc rfl ?_;intro _ _ _))
    exact l_ret1 rfl rfl fun w' hw => ⟨hw.org, rfl⟩
  | true =>
  obtain ⟨⟨hll, hlr⟩, hpl⟩ := fit_iff.1 hf
  repeat(first|refine lrun_ ?_|(refine lo_boxA rfl rfl ?_;intro _ _ _)|(refine lo_box1 rfl rfl rfl ?_;intro _ _ _)|(refine lo_alloc rfl ?_;intro _ _ _))
  refine lo_callP (n_call rfl) rfl (fun w' hw => small_calls (Kn.sl hw.org hgw)) ?_
  cases hsm : smallM g with
  | false =>
    repeat(first|refine lrun_ ?_|(refine lo_boxA rfl rfl ?_;intro _ _ _)|(refine lo_box1 rfl rfl rfl ?_;intro _ _ _)|(refine lo_alloc rfl ?_;intro _ _ _))
    refine l_true rfl ?_
    repeat(first|refine lrun_ ?_|(refine lo_boxA rfl rfl ?_;intro _ _ _)|(refine lo_box1 rfl rfl rfl ?_;intro _ _ _)|(refine lo_alloc rfl ?_;intro _ _ _))
    exact l_ret1 rfl rfl fun w' hw => ⟨hw.org, rfl⟩
  | true =>
  obtain ⟨hgl, hgr⟩ := small_iff.1 hsm
  repeat(first|refine lrun_ ?_|(refine lo_boxA rfl rfl ?_;intro _ _ _)|(refine lo_box1 rfl rfl rfl ?_;intro _ _ _)|(refine lo_alloc rfl ?_;intro _ _ _))
  refine l_false rfl ?_
  refine l_go .skip ?_
  repeat(first|refine lrun_ ?_|(refine lo_boxA rfl rfl ?_;intro _ _ _)|(refine lo_box1 rfl rfl rfl ?_;intro _ _ _)|(refine lo_alloc rfl ?_;intro _ _ _))
  refine l_draw [(0, 0), (2, 0), (3, 0), (0, 2), (0, 0), (0, 0), (0, 0), (0, 0)] (by kernel_rfl) (by kernel_rfl) rfl (by kernel_rfl) ?_
  repeat(first|refine lrund_ ?_|(refine ld_open rfl ?_;first|(refine ld_boxA rfl wy_ rfl ?_;intro _ _ _)|(refine ld_box1 rfl rfl wy_ rfl ?_;intro _ _ _)|(refine ld_alloc wy_ rfl ?_;intro _ _ _)))
  refine ld_branch2 1 5 [(0, 2), (0, 0), (0, 0), (0, 0)] [(1, 1), (4, 1), (6, 0), (7, 1)] (by kernel_rfl) rfl rfl (by kernel_rfl) (by kernel_rfl) ?_ ?_
  · refine lb_open rfl ?_
    refine lb_callX (n_call rfl) wy_ rfl (fun w' hw' => twinN_calls (Kn.sl hw'.org h)) ?_
    intro u1 N1 hN1
    obtain ⟨A1, c1, rfl⟩ := hN1.1
    refine ld_branch2 4 5 [(5, 1), (6, 0), (7, 1)] [(4, 1), (6, 0), (7, 1)] (by kernel_rfl) rfl rfl (by kernel_rfl) (by kernel_rfl) ?_ ?_
    · refine lb_open rfl ?_
      refine lb_callX (n_call rfl) wy_ rfl (fun w' hw' => twinGN_calls (Kn.sl hw'.org hgw)) ?_
      rintro _ N2 ⟨s2, rfl, hN2⟩
      obtain ⟨A8, c8, rfl⟩ := hN2.1
      refine ld_open rfl ?_; refine ld_alloc wy_ rfl ?_
      intro g8 _ _
      refine st_ ?_
      refine st_ ?_
      refine ld_nil (MCat.cons (mcat_app (mcat_app .nil))) ?_
      refine l_baseM (M3 := (g8, _) :: [(g5, cb [.int .i64 kd, .slice Ag g.length cg, .bool behind, .int .i64 n] 42), (g4, cb [.int .i64 p.1, .int .i64 p.2] 24)]) (.keep rfl (msub_appL msub_app)) fun w9 hw9 => ?_
      exact op_tail h hgw hp hn hll (by omega) hgl (by omega) hpl (hN1.hd hw9 (fun g o hm => .tl (min_app (min_l hm))) (.keep rfl (msub_appL msub_app)) fun k hk hm => nd_c2 hw9.nd hk hm) (hN2.hd hw9 (fun g o hm => .tl (min_l hm)) (.keep rfl (msub_appL msub_app)) fun k hk hm => nd_c hw9.nd hk (msub_mk msub_app) hm) _ (by repeat (first | exact SubB.nil | refine SubB.cons rfl ?_)) _ (by repeat(first|exact MSub.refl|refine MSub.keep rfl ?_|exact MSub.nil|apply MSub.drop))
    · refine lb_open rfl ?_
      refine lb_alloc wy_ rfl ?_
      intro g8 _ _
      refine ld_open rfl ?_; refine ld_callX (n_call rfl) wy_ rfl (fun w' hw' => twinGN_calls (Kn.sl hw'.org hgw)) ?_
      rintro _ N2 ⟨s2, rfl, hN2⟩
      obtain ⟨A8, c8, rfl⟩ := hN2.1
      repeat(first|refine lrund_ ?_|(refine ld_open rfl ?_;first|(refine ld_boxA rfl wy_ rfl ?_;intro _ _ _)|(refine ld_box1 rfl rfl wy_ rfl ?_;intro _ _ _)|(refine ld_alloc wy_ rfl ?_;intro _ _ _)))
      refine ld_open rfl ?_; refine ld_storeWX rfl rfl (min_l (min_app .hd)) (by rfl) rfl (by rfl) (by rfl) (mup_app .hd) wy_ rfl ?_
      repeat(first|refine lrund_ ?_|(refine ld_open rfl ?_;first|(refine ld_boxA rfl wy_ rfl ?_;intro _ _ _)|(refine ld_box1 rfl rfl wy_ rfl ?_;intro _ _ _)|(refine ld_alloc wy_ rfl ?_;intro _ _ _)))
      refine ld_nil (mcat_app (MCat.cons (mcat_app .nil))) ?_
      refine l_baseM (M3 := (g8, _) :: [(g5, cb [.int .i64 kd, .slice Ag g.length cg, .bool behind, .int .i64 n] 42), (g4, cb [.int .i64 p.1, .int .i64 p.2] 24)]) (msub_appL (.keep rfl msub_app)) fun w9 hw9 => ?_
      exact op_tail h hgw hp hn hll (by omega) hgl (by omega) hpl (hN1.hd hw9 (fun g o hm => min_app (.tl (min_l hm))) (msub_appL (.keep rfl msub_app)) fun k hk hm => nd_c (nd_r hw9.nd) hk (fun _ h => h) hm) (hN2.hd hw9 (fun g o hm => min_l hm) (msub_appL (.keep rfl msub_app)) fun k hk hm => nd_l hw9.nd hk (msub_mk (.keep rfl msub_app) k hm)) _ (by repeat (first | exact SubB.nil | refine SubB.cons rfl ?_)) _ (by repeat(first|exact MSub.refl|refine MSub.keep rfl ?_|exact MSub.nil|apply MSub.drop))
  · refine lb_open rfl ?_
    refine lb_alloc wy_ rfl ?_
    intro g8 _ _
    refine ld_open rfl ?_; refine ld_callX (n_call rfl) wy_ rfl (fun w' hw' => twinN_calls (Kn.sl hw'.org h)) ?_
    intro u1 N1 hN1
    obtain ⟨A1, c1, rfl⟩ := hN1.1
    refine ld_open rfl ?_; refine ld_callX (n_call rfl) wy_ rfl (fun w' hw' => twinGN_calls (Kn.sl hw'.org hgw)) ?_
    rintro _ N2 ⟨s2, rfl, hN2⟩
    obtain ⟨A8, c8, rfl⟩ := hN2.1
    repeat(first|refine lrund_ ?_|(refine ld_open rfl ?_;first|(refine ld_boxA rfl wy_ rfl ?_;intro _ _ _)|(refine ld_box1 rfl rfl wy_ rfl ?_;intro _ _ _)|(refine ld_alloc wy_ rfl ?_;intro _ _ _)))
    refine ld_open rfl ?_; refine ld_storeWX rfl rfl (min_l (min_app (min_app .hd))) (by rfl) rfl (by rfl) (by rfl) (mup_app (mup_app .hd)) wy_ rfl ?_
    repeat(first|refine lrund_ ?_|(refine ld_open rfl ?_;first|(refine ld_boxA rfl wy_ rfl ?_;intro _ _ _)|(refine ld_box1 rfl rfl wy_ rfl ?_;intro _ _ _)|(refine ld_alloc wy_ rfl ?_;intro _ _ _)))
    refine ld_nil (mcat_app (mcat_app (MCat.cons .nil))) ?_
    refine l_baseM (M3 := (g8, _) :: [(g5, cb [.int .i64 kd, .slice Ag g.length cg, .bool behind, .int .i64 n] 42), (g4, cb [.int .i64 p.1, .int .i64 p.2] 24)]) (msub_appL msub_app) fun w9 hw9 => ?_
    exact op_tail h hgw hp hn hll (by omega) hgl (by omega) hpl (hN1.hd hw9 (fun g o hm => min_app (min_l hm)) (msub_appL msub_app) fun k hk hm => nd_l (nd_r hw9.nd) hk hm) (hN2.hd hw9 (fun g o hm => min_l hm) (msub_appL msub_app) fun k hk hm => nd_l hw9.nd hk (msub_mk msub_app k hm)) _ (by repeat (first | exact SubB.nil | refine SubB.cons rfl ?_)) _ (by repeat(first|exact MSub.refl|refine MSub.keep rfl ?_|exact MSub.nil|apply MSub.drop))
end
abbrev kRegP : Kd (Int × List (List Int)) := kIso (kPair kI64 (kSl kRow)) (fun a => a) 32 (by decide)
instance : StrucT Try.prog 30 [3, 22] := ⟨by kernel_rfl, by kernel_rfl⟩
instance : RdT Try.prog 30 kRegP := rd_struct (g := fun a => a) inferInstance inferInstance (fun _ => rfl) (by kernel_rfl) (by kernel_rfl)
abbrev kPut : Kd ((Int × List (List Int)) × Bool × Int) := kIso (kPair kRegP (kPair kBool kI64)) (fun a => a) 48 (by decide)
instance : StrucT Try.prog 42 [30, 4, 3] := ⟨by kernel_rfl, by kernel_rfl⟩
instance : RdT Try.prog 42 kPut := rd_struct (g := fun a => a) inferInstance inferInstance (fun _ => rfl) (by kernel_rfl) (by kernel_rfl)
theorem law_OperPastes {W : World} {u : Value} {l : List (List Int)} {p : Ps} {cs ds : List Value} {x : (Int × List (List Int)) × Bool × Int} (h : Sl kRow (fun _ => True) W u l) (hp : kPs.R (fun _ => True) W p cs) (hx : kPut.R (fun _ => True) W x ds) :
    CallsR Try.prog 5 #[u, .agg cs.toArray, .agg ds.toArray] W fun r w' => r = .bool true ∧ Kn W w' := by
  obtain ⟨rfl, hp'⟩ := ps_form hp
  obtain ⟨c1, c2, rfl, ⟨c3, c4, rfl, ⟨rfl, h1⟩, ⟨vg, rfl, hg⟩⟩, ⟨c5, c6, rfl, h2, ⟨rfl, h3⟩⟩⟩ := hx
  have h2' : c5 = [.bool x.2.1] := h2
  subst h2'
  exact (pastes_calls h hg hp' h3).mono fun r w' ⟨h1, h2⟩ => ⟨h2, h1⟩
end Go.Ink
