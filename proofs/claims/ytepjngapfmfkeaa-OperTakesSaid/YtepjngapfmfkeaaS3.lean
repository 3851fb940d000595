/-
  The reference: Take; Same and Twin of registers.
-/
import Derived.Test.YtepjngapfmfkeaaS2
import Derived.Test.YtepjngapfmfkeaaTw
import Derived.Test.YtepjngapfmfkeaaV2
import Derived.Test.YtepjngapfmfkeaaLap
set_option linter.unusedVariables false
set_option linter.unusedSimpArgs false
namespace Go.Ink
open Go Go.Proofs Go.RowKit

section
variable {F : Nat → Prop} {w B : World} {A : Option Addr} {c : Nat} {l : List (List Int)} {r : Rg} {a b : Ps} {g3 g4 g7 g8 g9 : Nat} {kk : List Item} {R : Value → World → Prop}
set_option maxHeartbeats 8000000 in
theorem rt_loop (h : Sl kRow F w (.slice A l.length c) l) (hr : RgOk l r) (ha : (endsR r).1 = a) (hb : (endsR r).2 = b) (hl : l.length ≤ 4096) (hk : ∀ j, (l.getD j []).length ≤ 1048576) {i0 n : Nat} (ha0 : a.1 = (i0 : Int)) (hn : b.1 + 1 = ((i0 + n : Nat) : Int)) (hin : i0 + n ≤ l.length)
    (done : ∀ (bw : World) (s : Value) (us : List Value), Tab (fun k => w.heap.size ≤ k ∧ k ≠ g9 ∧ k ≠ g8 ∧ k ≠ g7 ∧ k ≠ g4 ∧ k ≠ g3) (fun _ => True) bw s us (gatM (inR l r) i0 n) → ∀ σ', SubB σ' [(4, .pointer (some ⟨g4, 0, none⟩)), (9, .pointer (some ⟨g9, 0, none⟩))] → ∀ M', MSub [(g9, cb [.int .i64 r.kind, s] 30), (g8, cb [.int .i64 b.1, .int .i64 b.2] 24), (g7, cb [.int .i64 a.1, .int .i64 a.2] 24), (g4, cb [.int .i64 0, .slice none 0 0] 30), (g3, cb [.int .i64 r.fr.1, .int .i64 r.fr.2, .int .i64 r.to.1, .int .i64 r.to.2, .int .i64 r.kind] 26)] M' → WL Try.prog Try.f14 kk σ' w (fun _ => False) bw (MK [(g9, cb [.int .i64 r.kind, s] 30), (g8, cb [.int .i64 b.1, .int .i64 b.2] 24), (g7, cb [.int .i64 a.1, .int .i64 a.2] 24), (g4, cb [.int .i64 0, .slice none 0 0] 30), (g3, cb [.int .i64 r.fr.1, .int .i64 r.fr.2, .int .i64 r.to.1, .int .i64 r.to.2, .int .i64 r.kind] 26)]) M' R) :
    ∀ σ', SubB σ' [(0, .slice A l.length c), (3, .pointer (some ⟨g3, 0, none⟩)), (4, .pointer (some ⟨g4, 0, none⟩)), (8, .pointer (some ⟨g8, 0, none⟩)), (9, .pointer (some ⟨g9, 0, none⟩)), (10, .int .i64 ((i0 + 0 : Nat) : Int))] → ∀ M', MSub [(g9, cb [.int .i64 r.kind, .slice none 0 0] 30), (g8, cb [.int .i64 b.1, .int .i64 b.2] 24), (g7, cb [.int .i64 a.1, .int .i64 a.2] 24), (g4, cb [.int .i64 0, .slice none 0 0] 30), (g3, cb [.int .i64 r.fr.1, .int .i64 r.fr.2, .int .i64 r.to.1, .int .i64 r.to.2, .int .i64 r.kind] 26)] M' →
      WL Try.prog Try.f14 (.code (.loop (bodyC Try.f14 [1, 1, 1, 1, 1, 0, 1, 0, 0])) :: .inBlock 0 :: kk) σ' w (fun _ => False) B (MK [(g9, cb [.int .i64 r.kind, .slice none 0 0] 30), (g8, cb [.int .i64 b.1, .int .i64 b.2] 24), (g7, cb [.int .i64 a.1, .int .i64 a.2] 24), (g4, cb [.int .i64 0, .slice none 0 0] 30), (g3, cb [.int .i64 r.fr.1, .int .i64 r.fr.2, .int .i64 r.to.1, .int .i64 r.to.2, .int .i64 r.kind] 26)]) M' R := by
  intro σ' hs M' hM
  refine WL.sub hs hM ?_
  have hmk : ∀ (s : Value) k, ¬ MK [(g9, cb [.int .i64 r.kind, s] 30), (g8, cb [.int .i64 b.1, .int .i64 b.2] 24), (g7, cb [.int .i64 a.1, .int .i64 a.2] 24), (g4, cb [.int .i64 0, .slice none 0 0] 30), (g3, cb [.int .i64 r.fr.1, .int .i64 r.fr.2, .int .i64 r.to.1, .int .i64 r.to.2, .int .i64 r.kind] 26)] k ↔ (k ≠ g9 ∧ k ≠ g8 ∧ k ≠ g7 ∧ k ≠ g4 ∧ k ≠ g3) := fun s k => by
    rw [MK_iff]; simp
  refine l_whileB (fun s : Nat × Option Addr × Nat × List Value => n - s.1) (fun s => [(0, .slice A l.length c), (3, .pointer (some ⟨g3, 0, none⟩)), (4, .pointer (some ⟨g4, 0, none⟩)), (8, .pointer (some ⟨g8, 0, none⟩)), (9, .pointer (some ⟨g9, 0, none⟩)), (10, .int .i64 ((i0 + s.1 : Nat) : Int))]) (fun s => [(g9, cb [.int .i64 r.kind, .slice s.2.1 (gatM (inR l r) i0 s.1).length s.2.2.1] 30), (g8, cb [.int .i64 b.1, .int .i64 b.2] 24), (g7, cb [.int .i64 a.1, .int .i64 a.2] 24), (g4, cb [.int .i64 0, .slice none 0 0] 30), (g3, cb [.int .i64 r.fr.1, .int .i64 r.fr.2, .int .i64 r.to.1, .int .i64 r.to.2, .int .i64 r.kind] 26)])
    (fun s bw => s.1 ≤ n ∧ Tab (fun k => w.heap.size ≤ k ∧ k ≠ g9 ∧ k ≠ g8 ∧ k ≠ g7 ∧ k ≠ g4 ∧ k ≠ g3) (fun _ => True) bw (.slice s.2.1 (gatM (inR l r) i0 s.1).length s.2.2.1) s.2.2.2 (gatM (inR l r) i0 s.1)) (0, none, 0, []) (by repeat (first | exact SubB.nil | refine SubB.cons rfl ?_)) (by repeat(first|exact MSub.refl|refine MSub.keep rfl ?_|exact MSub.nil|apply MSub.drop)) (fun w' hw => ⟨Nat.zero_le _, Tab.nil _ _ _⟩) ?_
  rintro ⟨j, A1, c1, us⟩ bw ⟨hj, hT⟩ hkb ih
  simp only at hj hT
  have hgl := gat_len (inR l r) i0 j
  dsimp only
  by_cases hlt : j < n
  · have hil : i0 + j < l.length := by omega
    have hpe := parted_eq (l := l) (i := i0 + j) hr (by rw [ha, ha0]; omega) (by rw [hb]; omega)
    repeat(first|refine lrun_ ?_|(refine lo_boxA rfl rfl ?_;intro _ _ _)|(refine lo_box1 rfl rfl rfl ?_;intro _ _ _)|(refine lo_alloc rfl ?_;intro _ _ _))
    refine l_yes rfl (by omega) ?_
    repeat(first|refine lrun_ ?_|(refine lo_boxA rfl rfl ?_;intro _ _ _)|(refine lo_box1 rfl rfl rfl ?_;intro _ _ _)|(refine lo_alloc rfl ?_;intro _ _ _))
    refine lo_callM (n_call rfl) rfl (fun w' hw => parted_calls (r := r) (i := i0 + j) (Kn.sl hw.org h) hil (hk _)) ?_
    rintro w1 _ w2 hw1 kn1 ko1 ⟨s, t, rfl, hOs, _⟩
    rw [hpe.1] at hOs
    obtain ⟨As, cs, rfl, _, _⟩ := hOs.form
    have hs1 := hw1.kp.size
    have hs1o := hw1.org.size
    have hsb := hOs.block
    have hT1 := (hT.less (L' := fun i => i < (gatM (inR l r) i0 j).length) fun _ _ => trivial).bound
    have hT2 := (hT1.kp hw1.kp fun k hk hm => (hmk _ k).2 hk.1.2 hm).kn kn1
    have hT3 := hT2.mono (G' := fre w (MK [(g9, cb [.int .i64 r.kind, .slice A1 (gatM (inR l r) i0 j).length c1] 30), (g8, cb [.int .i64 b.1, .int .i64 b.2] 24), (g7, cb [.int .i64 a.1, .int .i64 a.2] 24), (g4, cb [.int .i64 0, .slice none 0 0] 30), (g3, cb [.int .i64 r.fr.1, .int .i64 r.fr.2, .int .i64 r.to.1, .int .i64 r.to.2, .int .i64 r.kind] 26)])) fun k hk _ => ⟨hk.1.1, (hmk _ k).2 hk.1.2⟩
    have hvb : ∀ k, (Value.slice A1 (gatM (inR l r) i0 j).length c1).ownBlock = some k → k < bw.heap.size := fun k hk => (hT1.t.block k hk).2
    have hrb : ∀ i u2 k, i < (gatM (inR l r) i0 j).length → us[i]? = some u2 → u2.ownBlock = some k → k < bw.heap.size := fun i u2 k hi hu hk => (hT1.blk hi hu hk).2.1
    have hlm : ∀ k, MK [(g9, cb [.int .i64 r.kind, .slice A1 (gatM (inR l r) i0 j).length c1] 30), (g8, cb [.int .i64 b.1, .int .i64 b.2] 24), (g7, cb [.int .i64 a.1, .int .i64 a.2] 24), (g4, cb [.int .i64 0, .slice none 0 0] 30), (g3, cb [.int .i64 r.fr.1, .int .i64 r.fr.2, .int .i64 r.to.1, .int .i64 r.to.2, .int .i64 r.kind] 26)] k → k < w1.heap.size := fun k hm => hw1.lt hm
    repeat(first|refine lrun_ ?_|(refine lo_boxA rfl rfl ?_;intro _ _ _)|(refine lo_box1 rfl rfl rfl ?_;intro _ _ _)|(refine lo_alloc rfl ?_;intro _ _ _))
    refine lo_lit (cs := [.slice As (inR l r (i0 + j)).length cs]) rfl (by decide) (by kernel_rfl) rfl ?_
    intro g46 _ hg46
    refine lo_tabPush (r := inR l r (i0 + j)) rfl rfl hT3 (by(repeat(first|exact MIn.hd|refine MIn.tl ?_));done) (hOs.nE.mono (fun k hk _ => ⟨⟨by have := hk.1; unfold noB at this; omega, fun hm => by have := hlm k hm; have := hk.1; unfold noB at this; omega⟩, fun e => by have := hvb k e; have := hk.1; unfold noB at this; omega⟩) fun _ h _ => h) (Nat.lt_irrefl _) (fun i u2 k hi hu hk hk2 => by have := hrb i u2 k hi hu hk; have := (hsb k hk2).1; unfold noB at this; omega) (by omega) rfl rfl ?_
    intro w3 A4 n4 w4 hw3 ko3 kp3 hT4
    have eg : gatM (inR l r) i0 j ++ [inR l r (i0 + j)] = gatM (inR l r) i0 (j + 1) := rfl
    rw [eg] at hT4 ⊢
    have hT5 := (hT4.all fun i hi => by rw [gat_len] at hi; rw [hgl]; omega).mono (G' := fun k => (w.heap.size ≤ k ∧ k ≠ g9 ∧ k ≠ g8 ∧ k ≠ g7 ∧ k ≠ g4 ∧ k ≠ g3) ∧ k ≠ g46) fun k hk _ => ⟨⟨hk.1, (hmk (.slice A1 (gatM (inR l r) i0 j).length c1) k).1 fun ⟨o, hm⟩ => hk.2 ⟨o, .tl hm⟩⟩, fun e => hk.2 ⟨_, by subst e; exact .hd⟩⟩
    clear hT hT1 hT2 hT3 hT4
    repeat(first|refine lrun_ ?_|(refine lo_boxA rfl rfl ?_;intro _ _ _)|(refine lo_box1 rfl rfl rfl ?_;intro _ _ _)|(refine lo_alloc rfl ?_;intro _ _ _))
    refine l_baseM (M3 := [(g9, cb [.int .i64 r.kind, .slice A4 (gatM (inR l r) i0 (j + 1)).length n4] 30), (g8, cb [.int .i64 b.1, .int .i64 b.2] 24), (g7, cb [.int .i64 a.1, .int .i64 a.2] 24), (g4, cb [.int .i64 0, .slice none 0 0] 30), (g3, cb [.int .i64 r.fr.1, .int .i64 r.fr.2, .int .i64 r.to.1, .int .i64 r.to.2, .int .i64 r.kind] 26)]) (by repeat(first|exact MSub.refl|refine MSub.keep rfl ?_|exact MSub.nil|apply MSub.drop)) fun w5 hw5 => ?_
    have hT6 := (hT5.kp hw5.kp fun k hk hm => by
      rcases mk_app (A := [(g46, _)]).1 hm with ⟨o, hm⟩ | hm
      · cases hm with
        | hd => exact hk.2 rfl
        | tl hm => cases hm
      · exact (hmk _ k).2 hk.1.2 hm).mono (G' := fun k => w.heap.size ≤ k ∧ k ≠ g9 ∧ k ≠ g8 ∧ k ≠ g7 ∧ k ≠ g4 ∧ k ≠ g3) fun k hk _ => hk.1
    rw [show ((i0 + j : Nat) : Int) + 1 = ((i0 + (j + 1) : Nat) : Int) by omega]
    exact ih (j + 1, A4, n4, _) w5 _ ⟨hlt, hT6⟩ (by simp only; omega) _ _ (by repeat (first | exact SubB.nil | refine SubB.cons rfl ?_)) (by repeat(first|exact MSub.refl|refine MSub.keep rfl ?_|exact MSub.nil|apply MSub.drop)) fun w' hw' => ⟨hlt, hT6.kp hw'.kp fun k hk hm => (hmk _ k).2 hk.2 hm⟩
  · obtain rfl : j = n := by omega
    repeat(first|refine lrun_ ?_|(refine lo_boxA rfl rfl ?_;intro _ _ _)|(refine lo_box1 rfl rfl rfl ?_;intro _ _ _)|(refine lo_alloc rfl ?_;intro _ _ _))
    refine l_no rfl (by omega) ?_
    refine l_go (.exit rfl) ?_
    exact done bw _ us hT _ (by repeat (first | exact SubB.nil | refine SubB.cons rfl ?_)) _ (by repeat(first|exact MSub.refl|refine MSub.keep rfl ?_|exact MSub.nil|apply MSub.drop))
end
section
variable {F : Nat → Prop} {w : World} {v : Value} {l : List (List Int)} {r : Rg}
set_option maxHeartbeats 8000000 in
theorem takeR_calls (h : Sl kRow F w v l) (hr : RgP r) (hl : l.length ≤ 4096) (hk : ∀ j, (l.getD j []).length ≤ 1048576) :
    CallsR Try.prog 14 #[v, rgV r] w fun u w' => Kn w w' ∧ ∃ s, u = .tuple #[.agg #[.int .i64 (if thereR l r = 0 then r.kind else 0), s], .int .i64 (thereR l r)] ∧ Ow kRow (noB w) (noB w) w' s (takeM l r) := by
  obtain ⟨A, c, e⟩ : ∃ A c, v = .slice A l.length c := by obtain ⟨A, c, e, _⟩ := h.form; exact ⟨A, c, e⟩
  subst e
  refine l_enter (fun _ => False) Try.func14 rfl rfl ?_
  repeat(first|refine lrun_ ?_|(refine lo_boxA rfl rfl ?_;intro _ _ _)|(refine lo_box1 rfl rfl rfl ?_;intro _ _ _)|(refine lo_alloc rfl ?_;intro _ _ _))
  rename_i g3 _ _ g4 _ _
  refine lo_call (n_call rfl) rfl (fun w' hw => thereR_calls (Kn.sl hw.org h) hr) ?_
  by_cases h0 : thereR l r = 0
  case neg =>
    unfold takeM
    rw [if_neg h0, if_neg h0]
    repeat(first|refine lrun_ ?_|(refine lo_boxA rfl rfl ?_;intro _ _ _)|(refine lo_box1 rfl rfl rfl ?_;intro _ _ _)|(refine lo_alloc rfl ?_;intro _ _ _))
    refine l_yes rfl h0 ?_
    repeat(first|refine lrun_ ?_|(refine lo_boxA rfl rfl ?_;intro _ _ _)|(refine lo_box1 rfl rfl rfl ?_;intro _ _ _)|(refine lo_alloc rfl ?_;intro _ _ _))
    exact l_retR2 rfl (by repeat(first|exact LRes.nil|refine LRes.tmp rfl ?_|refine LRes.agg rfl (by(repeat(first|exact MIn.hd|refine MIn.tl ?_));done) (by rfl) (by rfl) ?_|refine LRes.one rfl (by(repeat(first|exact MIn.hd|refine MIn.tl ?_));done) (by rfl) ?_)) fun w' hw => ⟨hw.org, _, rfl, Ow.nil _ _ _ _⟩
  have ok := there_ok h0
  have ha1 := ok.a.i
  have hb1 := ok.b.i
  have hle := ok.le
  unfold takeM
  rw [if_pos h0, if_pos h0, h0]
  obtain ⟨i0, hi0⟩ : ∃ i0 : Nat, (endsR r).1.1 = (i0 : Int) := ⟨(endsR r).1.1.toNat, by omega⟩
  obtain ⟨n, hn⟩ : ∃ n : Nat, (endsR r).2.1 + 1 = ((i0 + n : Nat) : Int) := ⟨((endsR r).2.1 + 1 - i0).toNat, by omega⟩
  have e1 : (endsR r).1.1.toNat = i0 := by omega
  have e2 : ((endsR r).2.1 + 1 - (endsR r).1.1).toNat = n := by omega
  rw [e1, e2]
  repeat(first|refine lrun_ ?_|(refine lo_boxA rfl rfl ?_;intro _ _ _)|(refine lo_box1 rfl rfl rfl ?_;intro _ _ _)|(refine lo_alloc rfl ?_;intro _ _ _))
  refine l_no rfl (fun h => h rfl) ?_
  refine l_go .skip ?_
  repeat(first|refine lrun_ ?_|(refine lo_boxA rfl rfl ?_;intro _ _ _)|(refine lo_box1 rfl rfl rfl ?_;intro _ _ _)|(refine lo_alloc rfl ?_;intro _ _ _))
  refine lo_call (n_call rfl) rfl (fun w' hw => ends_calls (r := r)) ?_
  generalize hae : (endsR r).1 = a at *
  generalize hbe : (endsR r).2 = b at *
  obtain ⟨a1, a2⟩ := a
  simp only at hi0
  subst hi0
  repeat(first|refine lrun_ ?_|(refine lo_boxA rfl rfl ?_;intro _ _ _)|(refine lo_box1 rfl rfl rfl ?_;intro _ _ _)|(refine lo_alloc rfl ?_;intro _ _ _))
  rename_i g7 _ _ g8 _ _ g9 _ _
  refine l_baseM (M3 := [(g9, cb [.int .i64 r.kind, .slice none 0 0] 30), (g8, cb [.int .i64 b.1, .int .i64 b.2] 24), (g7, cb [.int .i64 (i0 : Int), .int .i64 a2] 24), (g4, cb [.int .i64 0, .slice none 0 0] 30), (g3, cb [.int .i64 r.fr.1, .int .i64 r.fr.2, .int .i64 r.to.1, .int .i64 r.to.2, .int .i64 r.kind] 26)]) (by repeat(first|exact MSub.refl|refine MSub.keep rfl ?_|exact MSub.nil|apply MSub.drop)) fun w5 hw5 => ?_
  refine rt_loop h ok hae hbe hl hk rfl hn (by omega) ?_ _ (by repeat (first | exact SubB.nil | refine SubB.cons rfl ?_)) _ (by repeat(first|exact MSub.refl|refine MSub.keep rfl ?_|exact MSub.nil|apply MSub.drop))
  intro bw s us hT σ' hs M' hM
  refine WL.sub hs hM ?_
  obtain ⟨As, cs, rfl, _, _⟩ := hT.form
  repeat(first|refine lrun_ ?_|(refine lo_boxA rfl rfl ?_;intro _ _ _)|(refine lo_box1 rfl rfl rfl ?_;intro _ _ _)|(refine lo_alloc rfl ?_;intro _ _ _))
  refine l_retR2 rfl (by repeat(first|exact LRes.nil|refine LRes.tmp rfl ?_|refine LRes.agg rfl (by(repeat(first|exact MIn.hd|refine MIn.tl ?_));done) (by rfl) (by rfl) ?_|refine LRes.one rfl (by(repeat(first|exact MIn.hd|refine MIn.tl ?_));done) (by rfl) ?_)) fun w' hw => ⟨hw.org, _, rfl, ?_⟩
  exact (((hT.kp hw.kp fun k hk hm => by rw [MK_iff] at hm; simp at hm; omega).ow fun _ _ => trivial).mono (fun k hk _ => hk.1) fun k hk _ => hk.1)
/-! ### Registers -/
theorem sameG_calls {F' : Nat → Prop} {u v : Value} {l m : List (List Int)} {a b : Int} (h : Sl kRow F w u l) (h' : Sl kRow F' w v m) : CallsR Try.prog 15 #[.agg #[.int .i64 a, u], .agg #[.int .i64 b, v]] w fun x w' => Kn w w' ∧ x = .bool (decide (a = b ∧ l = m)) := by
  obtain ⟨A, c, rfl, _⟩ := h.form
  obtain ⟨A', c', rfl, _⟩ := h'.form
  refine l_enter (fun _ => False) Try.func15 rfl rfl ?_
  by_cases h0 : a = b
  · rw [show decide (a = b ∧ l = m) = decide (l = m) from decide_eq_decide.2 ⟨fun h => h.2, fun h => ⟨h0, h⟩⟩]
    repeat(first|refine lrun_ ?_|(refine lo_boxA rfl rfl ?_;intro _ _ _)|(refine lo_box1 rfl rfl rfl ?_;intro _ _ _)|(refine lo_alloc rfl ?_;intro _ _ _))
    refine lo_call (n_call rfl) rfl (fun w' hw => same04_calls (Kn.sl hw.org h) (Kn.sl hw.org h')) ?_
    repeat(first|refine lrun_ ?_|(refine lo_boxA rfl rfl ?_;intro _ _ _)|(refine lo_box1 rfl rfl rfl ?_;intro _ _ _)|(refine lo_alloc rfl ?_;intro _ _ _))
    exact l_ret1 rfl rfl fun w' hw => ⟨hw.org, rfl⟩
  · rw [decide_eq_false fun h => h0 h.1]
    repeat(first|refine lrun_ ?_|(refine lo_boxA rfl rfl ?_;intro _ _ _)|(refine lo_box1 rfl rfl rfl ?_;intro _ _ _)|(refine lo_alloc rfl ?_;intro _ _ _))
    exact l_ret1 rfl rfl fun w' hw => ⟨hw.org, rfl⟩
theorem twinG_calls {u : Value} {l : List (List Int)} {a : Int} (h : Sl kRow F w u l) : CallsR Try.prog 21 #[.agg #[.int .i64 a, u]] w fun x w' => Kn w w' ∧ ∃ s us, x = .agg #[.int .i64 a, s] ∧ Tab (noB w) (fun _ => True) w' s us l := by
  obtain ⟨A, c, rfl, _⟩ := h.form
  refine l_enter (fun _ => False) Try.func21 rfl rfl ?_
  repeat(first|refine lrun_ ?_|(refine lo_boxA rfl rfl ?_;intro _ _ _)|(refine lo_box1 rfl rfl rfl ?_;intro _ _ _)|(refine lo_alloc rfl ?_;intro _ _ _))
  rename_i g1 _ _ g2 _ _
  refine l_draw [(0, 0), (1, 0), (2, 0), (3, 0), (4, 1), (5, 0), (6, 1)] (by kernel_rfl) (by kernel_rfl) rfl (by kernel_rfl) ?_
  repeat(first|refine lrund_ ?_|(refine ld_open rfl ?_;first|(refine ld_boxA rfl wy_ rfl ?_;intro _ _ _)|(refine ld_box1 rfl rfl wy_ rfl ?_;intro _ _ _)|(refine ld_alloc wy_ rfl ?_;intro _ _ _)))
  refine ld_open rfl ?_; refine ld_callN (n_call rfl) wy_ rfl (fun w' hw => twinT_calls (Kn.sl hw.org h)) ?_
  rintro w1 s w2 N hw1 kn1 ⟨us, hT⟩ hN
  obtain ⟨As, cs, rfl, _, _⟩ := hT.form
  repeat(first|refine lrund_ ?_|(refine ld_open rfl ?_;first|(refine ld_boxA rfl wy_ rfl ?_;intro _ _ _)|(refine ld_box1 rfl rfl wy_ rfl ?_;intro _ _ _)|(refine ld_alloc wy_ rfl ?_;intro _ _ _)))
  refine ld_open rfl ?_
  refine ld_storeWM (mcat_app (by repeat constructor)) rfl rfl (min_app (by(repeat(first|exact MIn.hd|refine MIn.tl ?_));done)) (by rfl) rfl (by rfl) (by rfl) (mup_app (by first|exact .hd|exact .tl .hd|exact .tl (.tl .hd)|exact .tl (.tl (.tl .hd))|exact .tl (.tl (.tl (.tl .hd)))|exact .tl (.tl (.tl (.tl (.tl .hd))))|exact .tl (.tl (.tl (.tl (.tl (.tl .hd)))))|exact .tl (.tl (.tl (.tl (.tl (.tl (.tl .hd))))))|exact .tl (.tl (.tl (.tl (.tl (.tl (.tl (.tl .hd))))))))) (by kernel_rfl) wy_ rfl ?_
  repeat(first|refine lrund_ ?_|(refine ld_open rfl ?_;first|(refine ld_boxA rfl wy_ rfl ?_;intro _ _ _)|(refine ld_box1 rfl rfl wy_ rfl ?_;intro _ _ _)|(refine ld_alloc wy_ rfl ?_;intro _ _ _)))
  refine l_cover hN fun w3 hw3 ko _ => ?_
  have h1 := hT.move fun k hk hl => hw3 k hk hl
  refine l_retR1 rfl (by repeat(first|exact LRes.nil|refine LRes.tmp rfl ?_|refine LRes.agg rfl (by(repeat(first|exact MIn.hd|refine MIn.tl ?_));done) (by rfl) (by rfl) ?_|refine LRes.one rfl (by(repeat(first|exact MIn.hd|refine MIn.tl ?_));done) (by rfl) ?_)) fun w4 hw => ⟨hw.org, _, us, rfl, ?_⟩
  have hs1 := hw1.org.size
  have h2 := h1.kp hw.kp fun k hk hm => by have := hw1.ltI (by rfl) hm; unfold noB at hk; omega
  exact h2.mono fun k hk _ => by unfold noB at *; omega
end
end Go.Ink
