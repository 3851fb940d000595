/-
  OperFlat.
  OperFlat: up to the offsets.
-/
import Derived.Test.YtepjngapfmfkeaaR1
import Derived.Test.YtepjngapfmfkeaaR6
import Derived.Test.YtepjngapfmfkeaaLap
import Derived.Test.YtepjngapfmfkeaaW2r
import Derived.Test.YtepjngapfmfkeaaW3
set_option linter.unusedVariables false
set_option linter.unusedSimpArgs false
namespace Go.Ink
open Go Go.Proofs Go.RowKit

theorem chr_of {l : List (List Int)} {r : Rg} (h : thereR l r = 0) (hk : r.kind = 0) : ∃ i0 k1 i1 k2, ChR l r i0 k1 i1 k2 := by
  have ok := there_ok h
  have ha := ok.a
  have hb := ok.b
  have ai := ha.i
  have ak := ha.k
  have bi := hb.i
  have bk := hb.k
  have le := ok.le
  unfold rowOf at ak bk
  refine ⟨(endsR r).1.1.toNat, (endsR r).1.2.toNat, (endsR r).2.1.toNat, (endsR r).2.2.toNat, ?_, hk, h, by omega, by omega, by omega, by omega, by omega⟩
  refine Prod.ext (Prod.ext ?_ ?_) (Prod.ext ?_ ?_) <;> simp only <;> omega
theorem ofs_mono {l : List (List Int)} {i j : Nat} (h : i ≤ j) : j ≤ l.length → ofs l i ≤ ofs l j := by
  induction j with
  | zero => intro _; rw [show i = 0 by omega]; exact Nat.le_refl _
  | succ j ih =>
    intro hj
    by_cases e : i = j + 1
    · rw [e]; exact Nat.le_refl _
    · have := ih (by omega) (by omega)
      have := ofs_succ (l := l) (i := j) (by omega)
      omega
theorem ChR.bounds {l : List (List Int)} {r : Rg} {i0 k1 i1 k2 : Nat} (h : ChR l r i0 k1 i1 k2) : ofs l i0 + k1 ≤ ofs l i1 + toC l i1 k2 ∧ ofs l i1 + toC l i1 k2 ≤ (jndM l).length := by
  have h1 := h.hk1
  have h2 := h.hk2
  have h3 := h.toC_le
  have hi := h.hi1
  have hi0 := h.hi0
  constructor
  · rcases h.le with hlt | ⟨e, hk⟩
    · have := ofs_mono (l := l) (show i0 + 1 ≤ i1 by omega) (by omega)
      have := ofs_succ hi0
      omega
    · subst e; unfold toC; omega
  · have := jndP_len l l.length (Nat.le_refl _)
    rw [List.take_length] at this
    unfold jndM
    rw [this]
    have a1 := take_getD l i1
    have a2 := runes_tk l (i1 + 1)
    unfold ofs
    omega
section
variable {F : Nat → Prop} {w B : World} {K : Nat → Prop} {l : List (List Int)} {r : Rg} {A AT AC : Option Addr} {c cT cC i0 k1 i1 k2 g4 g5 g8 : Nat} {kd : Int}
set_option maxHeartbeats 8000000 in
theorem flat_tail (h : Sl kRow F w (.slice A l.length c) l) (hr : ChR l r i0 k1 i1 k2) (hll : l.length ≤ 300) (hlr : runesM l ≤ 3000) (hT : Hd kRow B (MK [(g8, cb [.int .i64 kd, .slice AT (takeM l r).length cT] 30), (g5, cb [.int .i64 i1, .int .i64 k2] 24), (g4, cb [.int .i64 i0, .int .i64 k1] 24)]) (.slice AT (takeM l r).length cT) (takeM l r)) (hC : Hd kRow B (MK [(g8, cb [.int .i64 kd, .slice AT (takeM l r).length cT] 30), (g5, cb [.int .i64 i1, .int .i64 k2] 24), (g4, cb [.int .i64 i0, .int .i64 k1] 24)]) (.slice AC (cutM l r).1.length cC) (cutM l r).1) (htl : runesM (takeM l r) + (takeM l r).length ≤ 4194304) (hcl : runesM (cutM l r).1 + (cutM l r).1.length ≤ 4194304) :
    ∀ σ', SubB σ' [(0, .slice A l.length c), (4, .pointer (some ⟨g4, 0, none⟩)), (5, .pointer (some ⟨g5, 0, none⟩)), (8, .pointer (some ⟨g8, 0, none⟩)), (10, .slice AC (cutM l r).1.length cC)] → ∀ M', MSub [(g8, cb [.int .i64 kd, .slice AT (takeM l r).length cT] 30), (g5, cb [.int .i64 i1, .int .i64 k2] 24), (g4, cb [.int .i64 i0, .int .i64 k1] 24)] M' →
      WL Try.prog Try.f6 [.code (bodyC Try.f6 [1, 1, 1, 1, 1, 1, 1, 1])] σ' w (fun _ => False) B (MK [(g8, cb [.int .i64 kd, .slice AT (takeM l r).length cT] 30), (g5, cb [.int .i64 i1, .int .i64 k2] 24), (g4, cb [.int .i64 i0, .int .i64 k1] 24)]) M' fun u w' => Kn w w' ∧ u = .bool true := by
  intro σ' hs M' hM
  refine WL.sub hs hM ?_
  obtain ⟨_, _, ad, rV, rc, ra, e, hR⟩ := h.rws
  cases e
  have hi0 := hr.hi0
  have hi1 := hr.hi1
  have hk1 := hr.hk1
  have hk2 := hr.hk2
  have hle := hr.le
  have htc := hr.toC_le
  have hrl0 := runes_getD l i0
  have hrl1 := runes_getD l i1
  have ho0 := ofs_le (l := l) i0
  have ho1 := ofs_le (l := l) i1
  have hlaw := flat_law hr
  have ht0 : thereP l ((i0 : Int), (k1 : Int)) := ⟨by simp only; omega, by simp only; omega, by simp only; omega, by simp only [Int.toNat_natCast]; omega⟩
  have ht1 : thereP l ((i1 : Int), (k2 : Int)) := ⟨by simp only; omega, by simp only; omega, by simp only; omega, by simp only [Int.toNat_natCast]; omega⟩
  repeat(first|refine lrun_ ?_|(refine lo_boxA rfl rfl ?_;intro _ _ _)|(refine lo_box1 rfl rfl rfl ?_;intro _ _ _)|(refine lo_alloc rfl ?_;intro _ _ _))
  rename_i g13 _ _
  refine lo_call (n_call rfl) rfl (fun w' hw => offset_calls (p := ((i0 : Int), (k1 : Int))) (by rw [blk_cell (hw.mem g13 _ .hd)]; rfl) (Kn.sl hw.org h) (by omega) (by unfold P64; simp only; omega)) ?_
  rw [if_pos ht0, if_pos ht0]
  simp only [Int.toNat_natCast]
  repeat(first|refine lrun_ ?_|(refine lo_boxA rfl rfl ?_;intro _ _ _)|(refine lo_box1 rfl rfl rfl ?_;intro _ _ _)|(refine lo_alloc rfl ?_;intro _ _ _))
  refine lo_call (n_call rfl) rfl (fun w' hw => offset_calls (p := ((i1 : Int), (k2 : Int))) (by rw [blk_cell (hw.mem g13 _ .hd)]; rfl) (Kn.sl hw.org h) (by omega) (by unfold P64; simp only; omega)) ?_
  rw [if_pos ht1, if_pos ht1]
  simp only [Int.toNat_natCast]
  repeat(first|refine lrun_ ?_|(refine lo_boxA rfl rfl ?_;intro _ _ _)|(refine lo_box1 rfl rfl rfl ?_;intro _ _ _)|(refine lo_alloc rfl ?_;intro _ _ _))
  obtain ⟨hab, hbx⟩ := hr.bounds
  have hxl : (jndM l).length ≤ 4000 := by have : (jndM l).length ≤ runesM l + l.length := jndP_le l l.length (Nat.le_refl _); omega
  have J : ∀ σ', SubB σ' [(0, .slice A l.length c), (8, .pointer (some ⟨g8, 0, none⟩)), (10, .slice AC (cutM l r).1.length cC), (14, .int .i64 (ofs l i0 + k1 : Nat)), (16, .int .i64 (ofs l i1 + toC l i1 k2 : Nat))] → ∀ M', MSub [(g8, cb [.int .i64 kd, .slice AT (takeM l r).length cT] 30)] M' →
      WL Try.prog Try.f6 [.code (bodyC Try.f6 [1, 1, 1, 1, 1, 1, 1, 1, 1, 1, 1, 1])] σ' w (fun _ => False) B (MK [(g8, cb [.int .i64 kd, .slice AT (takeM l r).length cT] 30), (g5, cb [.int .i64 i1, .int .i64 k2] 24), (g4, cb [.int .i64 i0, .int .i64 k1] 24)]) M' fun u w' => Kn w w' ∧ u = .bool true := by
    generalize ofs l i0 + k1 = aa at *
    generalize ofs l i1 + toC l i1 k2 = bb at *
    intro σ' hs M' hM
    refine WL.sub hs hM ?_
    repeat(first|refine lrun_ ?_|(refine lo_boxA rfl rfl ?_;intro _ _ _)|(refine lo_box1 rfl rfl rfl ?_;intro _ _ _)|(refine lo_alloc rfl ?_;intro _ _ _))
    refine lo_callM (n_call rfl) rfl (fun w' hw => joined_calls (Kn.sl hw.org h) (by omega)) ?_
    intro w1 u w2 hw1 kn1 ko1 hOX
    have hT := hT.next hw1 kn1
    have hC := hC.next hw1 kn1
    have hX := Hd.of hOX hw1
    obtain ⟨AX, cX, rfl, hcX, _⟩ := hOX.form
    clear hOX hw1 kn1 ko1
    generalize hje : jndM l = x at *
    obtain ⟨FX, hXs, hXF⟩ := hX
    repeat(first|refine lrun_ ?_|(refine lo_boxA rfl rfl ?_;intro _ _ _)|(refine lo_box1 rfl rfl rfl ?_;intro _ _ _)|(refine lo_alloc rfl ?_;intro _ _ _))
    refine l_draw [(1, 0), (2, 0), (3, 0), (5, 0), (6, 0), (7, 0), (0, 1), (4, 1), (8, 1), (9, 0)] (by kernel_rfl) (by kernel_rfl) rfl (by kernel_rfl) ?_
    repeat(first|refine lrund_ ?_|(refine ld_open rfl ?_;first|(refine ld_boxA rfl wy_ rfl ?_;intro _ _ _)|(refine ld_box1 rfl rfl wy_ rfl ?_;intro _ _ _)|(refine ld_alloc wy_ rfl ?_;intro _ _ _)))
    refine ld_open rfl ?_; refine ld_pre (j := aa) rfl rfl rfl (by omega) wy_ rfl ?_
    repeat(first|refine lrund_ ?_|(refine ld_open rfl ?_;first|(refine ld_boxA rfl wy_ rfl ?_;intro _ _ _)|(refine ld_box1 rfl rfl wy_ rfl ?_;intro _ _ _)|(refine ld_alloc wy_ rfl ?_;intro _ _ _)))
    refine ld_open rfl ?_; refine ld_suf (j := bb) rfl rfl rfl hbx hcX wy_ rfl ?_
    refine ld_open rfl ?_; refine ld_lit (cs := []) rfl (by decide) (by kernel_rfl) wy_ rfl ?_
    intro g9 hg9 hg9'
    refine ld_open rfl ?_; refine ld_appendN (d := kRune) (F2 := FX) (xs := []) (ys := x.take aa) rfl rfl (fun w' hw' => ⟨[], rfl, Fits.zero _, .inr ⟨g9, 0, 0, #[], _, rfl, ⟨_, .hd⟩, hw'.mem g9 _ .hd, Nat.le_refl _, Nat.zero_le _, by simp, fun j u hu => by simp at hu⟩⟩) (fun w' hw' => (Kp.sl hw'.kp hXs fun k hk => (hXF k hk).1).pre (by omega) (by omega)) (fun k hk e => by have h8 : g9 = k := Option.some.inj e; have := (hXF k hk).2; omega) (by rw [List.length_take]; show (0 + min aa x.length) * 4 ≤ 140737488355328; omega) rfl rfl rfl wy_ rfl ?_
    intro A1 n1 X1 hX1k hX1o hX1
    have hX1b : ∀ k, MK X1 k → w2.heap.size ≤ k := fun k hk => by
      rcases hX1k k hk with ⟨o, h8⟩ | h8
      · cases h8 with
        | hd => exact hg9'
        | tl h8 => cases h8
      · exact h8.2
    rw [List.nil_append] at hX1 ⊢
    refine ld_open rfl ?_; refine ld_appendN (d := kRune) (F2 := FX) (xs := x.take aa) (ys := x.drop bb) rfl rfl (fun w' hw' => hX1 w' fun g o hm => hw'.mem g o (min_l hm)) (fun w' hw' => by
      have := Sl.cutV (Kp.sl hw'.kp hXs fun k hk => (hXF k hk).1) hbx (Nat.le_refl _) hcX (Nat.le_refl _)
      rwa [List.take_length] at this) (fun k hk e => by
      have h9 := hX1b k (hX1o k e)
      have := (hXF k hk).2; omega) (by rw [List.length_take, List.length_drop]; show (min aa x.length + (x.length - bb)) * 4 ≤ 140737488355328; omega) rfl rfl rfl wy_ rfl ?_
    intro A2 n2 X2 hX2k hX2o hX2
    repeat(first|refine lrund_ ?_|(refine ld_open rfl ?_;first|(refine ld_boxA rfl wy_ rfl ?_;intro _ _ _)|(refine ld_box1 rfl rfl wy_ rfl ?_;intro _ _ _)|(refine ld_alloc wy_ rfl ?_;intro _ _ _)))
    refine ld_nil mcat_self ?_
    refine l_baseM (M3 := [(g8, cb [.int .i64 kd, .slice AT (takeM l r).length cT] 30)]) msub_app fun w3 hw3 => ?_
    have hX' := Hd.re (d := kRune) ⟨FX, hXs, hXF⟩ hw3 msub_app
    have hT' := hT.re hw3 msub_app
    have hC' := hC.re hw3 msub_app
    have hR' := Hd.here (d := kRune) (F := MK X2) ((hX2 w3 fun g o hm => hw3.mem g o (min_l hm)).slF (fun _ h => h) fun _ h => h.elim) hw3 (M3 := [(g8, cb [.int .i64 kd, .slice AT (takeM l r).length cT] 30)]) msub_app (fun k hk hm => by
      have hnd := hw3.nd
      rw [List.map_append, List.nodup_append] at hnd
      exact hnd.2.2 k (MK_iff.1 hk) k (MK_iff.1 hm) rfl)
    clear hXs hXF hT hC hX1 hX2 hX1b hX1k hX2k hX1o hX2o hw3
    repeat(first|refine lrun_ ?_|(refine lo_boxA rfl rfl ?_;intro _ _ _)|(refine lo_box1 rfl rfl rfl ?_;intro _ _ _)|(refine lo_alloc rfl ?_;intro _ _ _))
    refine l_draw [(0, 0), (1, 0), (3, 0), (4, 0), (5, 0), (6, 0), (2, 1), (7, 1), (8, 0), (9, 0), (11, 0), (10, 1), (12, 1), (13, 0), (14, 0), (15, 1), (16, 0), (17, 0)] (by kernel_rfl) (by kernel_rfl) rfl (by kernel_rfl) ?_
    repeat(first|refine lrund_ ?_|(refine ld_open rfl ?_;first|(refine ld_boxA rfl wy_ rfl ?_;intro _ _ _)|(refine ld_box1 rfl rfl wy_ rfl ?_;intro _ _ _)|(refine ld_alloc wy_ rfl ?_;intro _ _ _)))
    refine ld_open rfl ?_; refine ld_still (fun w' _ => r_slice rfl aa bb cX rfl ⟨_, rfl⟩ ⟨_, rfl⟩ hab (by omega) (Nat.le_refl _)) wy_ rfl ?_
    refine ld_open rfl ?_; refine ld_callO (d := kRune) (F := fun _ => False) (xs := jndM (takeM l r)) (n_call rfl) wy_ rfl (fun w' hw' => (joined_calls (hT'.now hw') htl).mono fun u w'' ⟨h1, h2⟩ => ⟨h1, h2.mono (fun _ h _ => h) fun _ h _ => h.elim⟩) ?_
    intro A3 n3 N3 _ hN3
    refine ld_open rfl ?_; refine ld_call (n_call rfl) wy_ rfl (fun w' hw' => runes_calls (hN3 w' fun g o hm => hw'.mem g o (min_l (min_l hm))).sl (Sl.cutV (hX'.now hw') hab hbx (by omega) (Nat.le_refl _))) ?_
    rw [hlaw.1, decide_eq_true rfl]
    repeat(first|refine lrund_ ?_|(refine ld_open rfl ?_;first|(refine ld_boxA rfl wy_ rfl ?_;intro _ _ _)|(refine ld_box1 rfl rfl wy_ rfl ?_;intro _ _ _)|(refine ld_alloc wy_ rfl ?_;intro _ _ _)))
    refine ld_open rfl ?_; refine ld_callO (d := kRune) (F := fun _ => False) (xs := jndM (cutM l r).1) (n_call rfl) wy_ rfl (fun w' hw' => (joined_calls (hC'.now hw') hcl).mono fun u w'' ⟨h1, h2⟩ => ⟨h1, h2.mono (fun _ h _ => h) fun _ h _ => h.elim⟩) ?_
    intro A4 n4 N4 _ hN4
    refine ld_open rfl ?_; refine ld_call (n_call rfl) wy_ rfl (fun w' hw' => runes_calls (hN4 w' fun g o hm => hw'.mem g o (min_l (min_l hm))).sl (hR'.now hw')) ?_
    rw [hlaw.2, decide_eq_true rfl]
    repeat(first|refine lrund_ ?_|(refine ld_open rfl ?_;first|(refine ld_boxA rfl wy_ rfl ?_;intro _ _ _)|(refine ld_box1 rfl rfl wy_ rfl ?_;intro _ _ _)|(refine ld_alloc wy_ rfl ?_;intro _ _ _)))
    refine ld_open rfl ?_; refine ld_call (n_call (args := []) rfl) wy_ rfl (fun w' hw' => awake_calls) ?_
    repeat(first|refine lrund_ ?_|(refine ld_open rfl ?_;first|(refine ld_boxA rfl wy_ rfl ?_;intro _ _ _)|(refine ld_box1 rfl rfl wy_ rfl ?_;intro _ _ _)|(refine ld_alloc wy_ rfl ?_;intro _ _ _)))
    refine ld_nil mcat_self ?_
    repeat(first|refine lrun_ ?_|(refine lo_boxA rfl rfl ?_;intro _ _ _)|(refine lo_box1 rfl rfl rfl ?_;intro _ _ _)|(refine lo_alloc rfl ?_;intro _ _ _))
    exact l_ret1 rfl rfl fun w' hw => ⟨hw.org, rfl⟩
  by_cases h0 : 0 < (l.getD i1 []).length
  · have e1 : ((k1 : Nat) : Int) + ((ofs l i0 : Nat) : Int) = ((ofs l i0 + k1 : Nat) : Int) := by omega
    have e2 : ((k2 : Nat) : Int) + ((ofs l i1 : Nat) : Int) + 1 = ((ofs l i1 + toC l i1 k2 : Nat) : Int) := by unfold toC; rw [if_pos h0]; omega
    refine l_yes rfl (Int.ofNat_lt.2 h0) ?_
    refine l_region ?_;(repeat(first|refine lops_ ?_|(refine lo_boxA rfl rfl ?_;intro _ _ _)|(refine lo_box1 rfl rfl rfl ?_;intro _ _ _)|(refine lo_alloc rfl ?_;intro _ _ _)));refine lo_nil ?_
    rw [e1, e2]
    exact J _ (by repeat (first | exact SubB.nil | refine SubB.cons rfl ?_)) _ (by repeat(first|exact MSub.refl|refine MSub.keep rfl ?_|exact MSub.nil|apply MSub.drop))
  · have e1 : ((k1 : Nat) : Int) + ((ofs l i0 : Nat) : Int) = ((ofs l i0 + k1 : Nat) : Int) := by omega
    have e2 : ((k2 : Nat) : Int) + ((ofs l i1 : Nat) : Int) = ((ofs l i1 + toC l i1 k2 : Nat) : Int) := by unfold toC; rw [if_neg h0]; omega
    refine l_no rfl (fun h => h0 (Int.ofNat_lt.1 h)) ?_
    refine l_go .skip ?_
    rw [e1, e2]
    exact J _ (by repeat (first | exact SubB.nil | refine SubB.cons rfl ?_)) _ (by repeat(first|exact MSub.refl|refine MSub.keep rfl ?_|exact MSub.nil|apply MSub.drop))
end
end Go.Ink

set_option linter.unusedVariables false
set_option linter.unusedSimpArgs false
namespace Go.Ink
open Go Go.Proofs Go.RowKit

theorem gat_lenrunes (l : List (List Int)) (r : Rg) (h : thereR l r = 0) (hk : r.kind = 0) : runesM (takeM l r) + (takeM l r).length ≤ runesM l + l.length ∧ runesM (cutM l r).1 + (cutM l r).1.length ≤ runesM l + runesM l + runesM l + runesM l + l.length := by
  obtain ⟨i0, k1, i1, k2, hr⟩ := chr_of h hk
  obtain ⟨e0, en⟩ := hr.nums
  have hi1 := hr.hi1
  have hle := hr.le
  constructor
  · have et : takeM l r = gatM (inR l r) i0 (i1 + 1 - i0) := by
      unfold takeM
      rw [if_pos h]
      show gatM (inR l r) (r0 r) (rn r) = _
      rw [e0, en]
    rw [et]
    have a1 : ∀ n, runesM (gatM (inR l r) i0 n) ≤ runesM ((l.drop i0).take n) := by
      intro n
      induction n with
      | zero => exact Nat.zero_le _
      | succ n ih =>
        have e := take_getD (l.drop i0) n
        have e2 : (l.drop i0).getD n [] = l.getD (i0 + n) [] := by rw [List.getD_eq_getElem?_getD, List.getElem?_drop, List.getD_eq_getElem?_getD]
        have e3 : (inR l r (i0 + n)).length ≤ (l.getD (i0 + n) []).length := by unfold inR; rw [List.length_drop, List.length_take]; omega
        rw [gatM, runes_app, runes_cons, runes_nil, e, e2]
        omega
    have a2 := a1 (i1 + 1 - i0)
    have a3 := runes_tk (l.drop i0) (i1 + 1 - i0)
    have a4 := runes_dr l i0
    rw [gat_len]
    omega
  · have ec : (cutM l r).1 = l.take i0 ++ [(gatM (outR l r) i0 (i1 + 1 - i0)).flatten] ++ l.drop (i1 + 1) := by
      unfold cutM
      rw [if_neg (fun e => e h), if_neg (by rw [hk]; decide), if_pos hk, e0, en, show i0 + (i1 + 1 - i0) = i1 + 1 by omega]
    rw [ec]
    have a1 := gat_out l r i0 (i1 + 1 - i0)
    have a2 := runes_tk l i0
    have a3 := runes_dr l (i1 + 1)
    rw [runes_app, runes_app, runes_cons, runes_nil, flat_len]
    simp only [List.length_append, List.length_take, List.length_drop, List.length_singleton]
    omega
section
variable {F : Nat → Prop} {w : World} {v : Value} {l : List (List Int)} {p q : Ps}
set_option maxHeartbeats 8000000 in
theorem flat_calls (h : Sl kRow F w v l) (hp : P64 p) (hq : P64 q) : CallsR Try.prog 6 #[v, posV p, posV q] w fun u w' => Kn w w' ∧ u = .bool true := by
  obtain ⟨A, c, e⟩ : ∃ A c, v = .slice A l.length c := by obtain ⟨A, c, e, _⟩ := h.form; exact ⟨A, c, e⟩
  subst e
  refine l_enter (fun _ => False) Try.func6 rfl rfl ?_
  repeat(first|refine lrun_ ?_|(refine lo_boxA rfl rfl ?_;intro _ _ _)|(refine lo_box1 rfl rfl rfl ?_;intro _ _ _)|(refine lo_alloc rfl ?_;intro _ _ _))
  rename_i g4 _ _ g5 _ _
  refine lo_call (n_call rfl) rfl (fun w' hw => fit_calls (Kn.sl hw.org h)) ?_
  cases hf : fitB l with
  | false =>
    repeat(first|refine lrun_ ?_|(refine lo_boxA rfl rfl ?_;intro _ _ _)|(refine lo_box1 rfl rfl rfl ?_;intro _ _ _)|(refine lo_alloc rfl ?_;intro _ _ _))
    refine l_true rfl ?_
    repeat(first|refine lrun_ ?_|(refine lo_boxA rfl rfl ?_;intro _ _ _)|(refine lo_box1 rfl rfl rfl ?_;intro _ _ _)|(refine lo_alloc rfl ?_;intro _ _ _))
    refine lo_call (n_call (args := []) rfl) rfl (fun w' hw => awake_calls) ?_
    repeat(first|refine lrun_ ?_|(refine lo_boxA rfl rfl ?_;intro _ _ _)|(refine lo_box1 rfl rfl rfl ?_;intro _ _ _)|(refine lo_alloc rfl ?_;intro _ _ _))
    exact l_ret1 rfl rfl fun w' hw => ⟨hw.org, rfl⟩
  | true =>
  obtain ⟨⟨hll, hlr⟩, hpl⟩ := fit_iff.1 hf
  by_cases h0 : l.length = 0
  · repeat(first|refine lrun_ ?_|(refine lo_boxA rfl rfl ?_;intro _ _ _)|(refine lo_box1 rfl rfl rfl ?_;intro _ _ _)|(refine lo_alloc rfl ?_;intro _ _ _))
    refine l_yes rfl (by omega) ?_
    repeat(first|refine lrun_ ?_|(refine lo_boxA rfl rfl ?_;intro _ _ _)|(refine lo_box1 rfl rfl rfl ?_;intro _ _ _)|(refine lo_alloc rfl ?_;intro _ _ _))
    refine lo_call (n_call (args := []) rfl) rfl (fun w' hw => awake_calls) ?_
    repeat(first|refine lrun_ ?_|(refine lo_boxA rfl rfl ?_;intro _ _ _)|(refine lo_box1 rfl rfl rfl ?_;intro _ _ _)|(refine lo_alloc rfl ?_;intro _ _ _))
    exact l_ret1 rfl rfl fun w' hw => ⟨hw.org, rfl⟩
  have hne : l ≠ [] := fun e => h0 (by rw [e]; rfl)
  have hap := clip_at (p := p) hne
  have haq := clip_at (p := q) hne
  have hr : thereR l ⟨clipM l p, clipM l q, 0⟩ = 0 := by
    unfold thereR
    rw [if_neg (by simp only; omega), if_neg (fun h => h.elim hne fun h => h.elim (fun h => h (at_clip hap)) fun h => h (at_clip haq))]
  have hb := gat_lenrunes l ⟨clipM l p, clipM l q, 0⟩ hr rfl
  obtain ⟨i0, k1, i1, k2, hch⟩ := chr_of hr rfl
  have hP : ∀ x : Ps, At l x → P64 x := fun x hx => by
    have h1 := hx.i
    have h2 := hx.k
    have h3 := runes_getD l x.1.toNat
    unfold rowOf at h2
    unfold P64
    omega
  have hrg : RgP ⟨clipM l p, clipM l q, 0⟩ := ⟨hP _ hap, hP _ haq, by simp only; omega⟩
  have hsum : (l.map List.length).sum = runesM l := rfl
  repeat(first|refine lrun_ ?_|(refine lo_boxA rfl rfl ?_;intro _ _ _)|(refine lo_box1 rfl rfl rfl ?_;intro _ _ _)|(refine lo_alloc rfl ?_;intro _ _ _))
  refine l_no rfl (by omega) ?_
  refine l_go .skip ?_
  repeat(first|refine lrun_ ?_|(refine lo_boxA rfl rfl ?_;intro _ _ _)|(refine lo_box1 rfl rfl rfl ?_;intro _ _ _)|(refine lo_alloc rfl ?_;intro _ _ _))
  refine l_draw [(0, 0), (1, 0), (3, 0), (4, 0), (2, 1), (5, 1), (6, 1), (7, 1)] (by kernel_rfl) (by kernel_rfl) rfl (by kernel_rfl) ?_
  repeat(first|refine lrund_ ?_|(refine ld_open rfl ?_;first|(refine ld_boxA rfl wy_ rfl ?_;intro _ _ _)|(refine ld_box1 rfl rfl wy_ rfl ?_;intro _ _ _)|(refine ld_alloc wy_ rfl ?_;intro _ _ _)))
  refine ld_open rfl ?_; refine ld_call (n_call rfl) wy_ rfl (fun w' hw => clipR_calls (Kn.sl hw.org h) hp) ?_
  repeat(first|refine lrund_ ?_|(refine ld_open rfl ?_;first|(refine ld_boxA rfl wy_ rfl ?_;intro _ _ _)|(refine ld_box1 rfl rfl wy_ rfl ?_;intro _ _ _)|(refine ld_alloc wy_ rfl ?_;intro _ _ _)))
  refine ld_open rfl ?_; refine ld_call (n_call rfl) wy_ rfl (fun w' hw => clipR_calls (Kn.sl hw.org h) hq) ?_
  repeat(first|refine lrund_ ?_|(refine ld_open rfl ?_;first|(refine ld_boxA rfl wy_ rfl ?_;intro _ _ _)|(refine ld_box1 rfl rfl wy_ rfl ?_;intro _ _ _)|(refine ld_alloc wy_ rfl ?_;intro _ _ _)))
  repeat(first|refine lrun_ ?_|(refine lo_boxA rfl rfl ?_;intro _ _ _)|(refine lo_box1 rfl rfl rfl ?_;intro _ _ _)|(refine lo_alloc rfl ?_;intro _ _ _))
  refine lo_callM (n_call rfl) rfl (fun w' hw => take_calls (r := ⟨clipM l p, clipM l q, 0⟩) (Kn.sl hw.org h) hrg (by omega)) ?_
  rintro w3 _ w4 hw3 kn3 ko3 ⟨sT, rfl, hOT⟩
  rw [hr]
  have hT := Hd.of hOT hw3
  obtain ⟨AT, cT, rfl, _, _⟩ := hOT.form
  clear hOT hw3 kn3 ko3
  repeat(first|refine lrun_ ?_|(refine lo_boxA rfl rfl ?_;intro _ _ _)|(refine lo_box1 rfl rfl rfl ?_;intro _ _ _)|(refine lo_alloc rfl ?_;intro _ _ _))
  rename_i g8 _ _
  refine lo_callM (n_call rfl) rfl (fun w' hw => cut_calls (r := ⟨clipM l p, clipM l q, 0⟩) (Kn.sl hw.org h) hrg (by omega) (fun j => Nat.le_trans (runes_getD _ j) (by omega)) (Nat.le_trans (gat_out _ _ _ _) (by omega))) ?_
  rintro w5 _ w6 hw5 kn5 ko5 ⟨sC, rfl, hOC⟩
  rw [hr]
  have hT := hT.next hw5 kn5
  have hC := Hd.of hOC hw5
  obtain ⟨AC, cC, rfl, _, _⟩ := hOC.form
  clear hOC hw5 kn5 ko5
  repeat(first|refine lrun_ ?_|(refine lo_boxA rfl rfl ?_;intro _ _ _)|(refine lo_box1 rfl rfl rfl ?_;intro _ _ _)|(refine lo_alloc rfl ?_;intro _ _ _))
  refine l_no rfl (by decide) ?_
  refine l_go .skip ?_
  repeat(first|refine lrun_ ?_|(refine lo_boxA rfl rfl ?_;intro _ _ _)|(refine lo_box1 rfl rfl rfl ?_;intro _ _ _)|(refine lo_alloc rfl ?_;intro _ _ _))
  refine lo_call (n_call rfl) rfl (fun w' hw => ahead_calls (p := clipM l q) (q := clipM l p)) ?_
  generalize hre : (⟨clipM l p, clipM l q, 0⟩ : Rg) = r at *
  have hen := hch.ends
  unfold endsR at hen
  rw [← hre] at hen
  simp only at hen
  cases ha : aheadM (clipM l q) (clipM l p) with
  | true =>
    rw [if_pos ha] at hen
    obtain ⟨e1, e2⟩ := Prod.mk.inj hen
    repeat(first|refine lrun_ ?_|(refine lo_boxA rfl rfl ?_;intro _ _ _)|(refine lo_box1 rfl rfl rfl ?_;intro _ _ _)|(refine lo_alloc rfl ?_;intro _ _ _))
    refine l_true rfl ?_
    refine l_region ?_;(repeat(first|refine lops_ ?_|(refine lo_boxA rfl rfl ?_;intro _ _ _)|(refine lo_box1 rfl rfl rfl ?_;intro _ _ _)|(refine lo_alloc rfl ?_;intro _ _ _)));refine lo_nil ?_
    rw [e1, e2] at hT hC ⊢
    refine l_baseM (M3 := [(g8, _), (g5, _), (g4, _)]) (by repeat(first|exact MSub.refl|refine MSub.keep rfl ?_|exact MSub.nil|apply MSub.drop)) fun w7 hw7 => ?_
    exact flat_tail h hch hll (by omega) (hT.re hw7 (by repeat(first|exact MSub.refl|refine MSub.keep rfl ?_|exact MSub.nil|apply MSub.drop))) (hC.re hw7 (by repeat(first|exact MSub.refl|refine MSub.keep rfl ?_|exact MSub.nil|apply MSub.drop))) (by omega) (by omega) _ (by repeat (first | exact SubB.nil | refine SubB.cons rfl ?_)) _ (by repeat(first|exact MSub.refl|refine MSub.keep rfl ?_|exact MSub.nil|apply MSub.drop))
  | false =>
    rw [if_neg (by rw [ha]; decide)] at hen
    obtain ⟨e1, e2⟩ := Prod.mk.inj hen
    repeat(first|refine lrun_ ?_|(refine lo_boxA rfl rfl ?_;intro _ _ _)|(refine lo_box1 rfl rfl rfl ?_;intro _ _ _)|(refine lo_alloc rfl ?_;intro _ _ _))
    refine l_false rfl ?_
    refine l_go .skip ?_
    rw [e1, e2] at hT hC ⊢
    refine l_baseM (M3 := [(g8, _), (g5, _), (g4, _)]) (by repeat(first|exact MSub.refl|refine MSub.keep rfl ?_|exact MSub.nil|apply MSub.drop)) fun w7 hw7 => ?_
    exact flat_tail h hch hll (by omega) (hT.re hw7 (by repeat(first|exact MSub.refl|refine MSub.keep rfl ?_|exact MSub.nil|apply MSub.drop))) (hC.re hw7 (by repeat(first|exact MSub.refl|refine MSub.keep rfl ?_|exact MSub.nil|apply MSub.drop))) (by omega) (by omega) _ (by repeat (first | exact SubB.nil | refine SubB.cons rfl ?_)) _ (by repeat(first|exact MSub.refl|refine MSub.keep rfl ?_|exact MSub.nil|apply MSub.drop))
end
theorem law_OperFlat {W : World} {u : Value} {l : List (List Int)} {p q : Ps} {cs ds : List Value} (h : Sl kRow (fun _ => True) W u l) (hp : kPs.R (fun _ => True) W p cs) (hq : kPs.R (fun _ => True) W q ds) :
    CallsR Try.prog 6 #[u, .agg cs.toArray, .agg ds.toArray] W fun r w' => r = .bool true ∧ Kn W w' := by
  obtain ⟨rfl, hp'⟩ := ps_form hp
  obtain ⟨rfl, hq'⟩ := ps_form hq
  exact (flat_calls h hp' hq').mono fun r w' ⟨h1, h2⟩ => ⟨h2, h1⟩
end Go.Ink
