/-
  Paste of characters: the loop.
  Paste of characters: the loop around a round.
  Paste of characters: behind the loop.
-/
import Derived.Test.YtepjngapfmfkeaaQB
import Derived.Test.YtepjngapfmfkeaaTb
import Derived.Test.YtepjngapfmfkeaaV1
set_option linter.unusedVariables false
set_option linter.unusedSimpArgs false
namespace Go.Ink
open Go Go.Proofs Go.RowKit

/-- The rows ahead of the last one, and the last one, behind one copy. -/
def chStep (s : List (List Int) × List Int) (g : List (List Int)) : List (List Int) × List Int :=
  if g.drop 1 = [] then (s.1, s.2 ++ g.getD 0 []) else (s.1 ++ [s.2 ++ g.getD 0 []] ++ (g.drop 1).dropLast, (g.drop 1).getLastD [])
def chM (x : List Int) (g : List (List Int)) : Nat → List (List Int) × List Int
  | 0 => ([], x)
  | r + 1 => chStep (chM x g r) g
/-- A table of own rows, of which the last one is apart. -/
structure NowI (w b : World) (K : Nat → Prop) (an : Addr) (cn : Nat) (Az : Option Addr) (cz : Nat) (cs : List Value) (ys : List (List Int)) (z : List Int) : Prop where
  hn : Og kRaw w b K (fun _ => False) (.slice (some an) (ys.length + 1) cn) (cs ++ [.slice Az z.length cz])
  hz : Og kRune w b K (fun _ => False) (.slice Az z.length cz) z
  hy : Els kRow (fun k => fre w K k ∧ (Value.slice Az z.length cz).ownBlock ≠ some k ∧ an.block ≠ k) b ys cs
  ne : (Value.slice Az z.length cz).ownBlock ≠ some an.block
section
variable {w b w' : World} {K S : Nat → Prop} {an : Addr} {cn cz : Nat} {Az : Option Addr} {cs : List Value} {ys : List (List Int)} {z : List Int} {M : Mm}
theorem NowI.now (h : NowI w b K an cn Az cz cs ys z) (hw : Lw w S b K M w') : NowI w w' K an cn Az cz cs ys z :=
  ⟨h.hn.now (fun _ h => h.elim) hw, h.hz.now (fun _ h => h.elim) hw, h.hy.move fun k hk hl => hw.kp.block k hl hk.1.2, h.ne⟩
theorem NowI.len (h : NowI w b K an cn Az cz cs ys z) : cs.length = ys.length := by
  have := h.hy.len
  rwa [show kRow.sz = 1 from rfl, Nat.mul_one] at this
end
theorem raw_nil {F F2 : Nat → Prop} {w w' : World} {v : Value} (h : Sl kRow F w v []) : Sl kRaw F2 w' v [] := by
  obtain ⟨A, c, cells, rfl, h1, h2, h3, h4, h5⟩ := h
  exact ⟨A, c, [], rfl, h1, h2, Fits.zero _, rfl, .inl rfl⟩
theorem Ow.blkG {α : Type} {d : Kd α} {G F : Nat → Prop} {w : World} {v : Value} {xs : List α} (h : Ow d G F w v xs) : Ow d (fun k => v.ownBlock = some k) F w v xs := by
  obtain ⟨cells, h1, h2, h3⟩ := h
  refine ⟨cells, h1, h2, h3.imp id ?_⟩
  rintro ⟨g, o, cap, cur, e, rfl, hg, r⟩
  exact ⟨g, o, cap, cur, e, rfl, rfl, r⟩
theorem Ow.someA {α : Type} {d : Kd α} {G F : Nat → Prop} {w : World} {A : Option Addr} {n c : Nat} {xs : List α} (h : Ow d G F w (.slice A n c) xs) (hne : xs ≠ []) : ∃ ad, A = some ad := by
  obtain ⟨cells, h1, h2, h3⟩ := h
  rcases h3 with ⟨_, rfl⟩ | ⟨g, o, cap, cur, e, h3, _⟩
  · exact absurd rfl hne
  · cases h3; exact ⟨_, rfl⟩
section
variable {F : Nat → Prop} {w B : World} {Ag : Option Addr} {cg : Nat} {g : List (List Int)} {adg : Addr} {rV : Nat → Option Addr} {rc : Nat → Nat} {ra : Nat → Addr} {x0 : List Int} {g6 g7 g11 : Nat} {p : Ps} {kd col : Int} {v0 v23 : Value} {n : Nat} {kk : List Item} {R : Value → World → Prop}
set_option maxHeartbeats 8000000 in
theorem ch_round (hR : Rws F w Ag cg g adg rV rc ra) (hg0 : 0 < g.length) {b : World} {an : Addr} {cn cz : Nat} {Az : Option Addr} {cs : List Value} {ys : List (List Int)} {z : List Int} {i : Nat} {rest : List Item} (hI : NowI w b (MK [(g11, cb [.int .i64 0, .int .i64 0] 24), (g7, cb [.int .i64 kd, .slice Ag g.length cg] 30), (g6, cb [.int .i64 p.1, .int .i64 p.2] 24)]) an cn Az cz cs ys z)
    (next : ∀ (b' : World) (an' : Addr) (cn' cz' : Nat) (Az' : Option Addr) (cs' : List Value), NowI w b' (MK [(g11, cb [.int .i64 0, .int .i64 0] 24), (g7, cb [.int .i64 kd, .slice Ag g.length cg] 30), (g6, cb [.int .i64 p.1, .int .i64 p.2] 24)]) an' cn' Az' cz' cs' (chStep (ys, z) g).1 (chStep (ys, z) g).2 → ∀ σ', SubB σ' [(0, v0), (6, .pointer (some ⟨g6, 0, none⟩)), (7, .pointer (some ⟨g7, 0, none⟩)), (11, .pointer (some ⟨g11, 0, none⟩)), (18, .int .i64 col), (23, v23), (24, .slice (some an') ((chStep (ys, z) g).1.length + 1) cn'), (171, .int .i64 n), (172, .int .i64 ((i : Int) + 1))] → ∀ M', MSub [(g11, cb [.int .i64 0, .int .i64 0] 24), (g7, cb [.int .i64 kd, .slice Ag g.length cg] 30), (g6, cb [.int .i64 p.1, .int .i64 p.2] 24)] M' → WL Try.prog Try.f22 rest σ' w (fun _ => False) b' (MK [(g11, cb [.int .i64 0, .int .i64 0] 24), (g7, cb [.int .i64 kd, .slice Ag g.length cg] 30), (g6, cb [.int .i64 p.1, .int .i64 p.2] 24)]) M' R)
    (hiu : (i : Int) + 1 ≤ 9223372036854775807) (hgl : g.length ≤ 1099511627776) (hyl : ys.length ≤ 1099511627776) (hzl : z.length + (g.getD 0 []).length ≤ 1099511627776) :
    WL Try.prog Try.f22 (.code (bodyC Try.f22 [1, 1, 1, 1, 1, 1, 1, 1, 1, 1, 1, 1, 1, 1, 1, 0, 1, 0, 0, 1, 1]) :: rest) [(0, v0), (6, .pointer (some ⟨g6, 0, none⟩)), (7, .pointer (some ⟨g7, 0, none⟩)), (11, .pointer (some ⟨g11, 0, none⟩)), (18, .int .i64 col), (23, v23), (24, .slice (some an) (ys.length + 1) cn), (171, .int .i64 n), (172, .int .i64 i)] w (fun _ => False) b (MK [(g11, cb [.int .i64 0, .int .i64 0] 24), (g7, cb [.int .i64 kd, .slice Ag g.length cg] 30), (g6, cb [.int .i64 p.1, .int .i64 p.2] 24)]) [(g11, cb [.int .i64 0, .int .i64 0] 24), (g7, cb [.int .i64 kd, .slice Ag g.length cg] 30), (g6, cb [.int .i64 p.1, .int .i64 p.2] 24)] R := by
  have hlen := hR.len
  have hcl := hI.len
  have hcell : b.cell? (an.add (ys.length * 1)) = some (.slice Az z.length cz) := hI.hn.rawCell (by rw [List.getElem?_append_right (by omega), hcl, Nat.sub_self]; rfl)
  have hnb := hI.hn.block an.block rfl
  repeat(first|refine lrun_ ?_|(refine lo_boxA rfl rfl ?_;intro _ _ _)|(refine lo_box1 rfl rfl rfl ?_;intro _ _ _)|(refine lo_alloc rfl ?_;intro _ _ _))
  refine l_draw [(0, 0), (1, 0), (2, 0), (3, 0), (4, 0), (5, 0), (6, 0), (7, 0), (8, 0), (9, 0), (10, 1), (11, 0), (12, 1)] (by kernel_rfl) (by kernel_rfl) rfl (by kernel_rfl) ?_
  repeat(first|refine lrund_ ?_|(refine ld_open rfl ?_;first|(refine ld_boxA rfl wy_ rfl ?_;intro _ _ _)|(refine ld_box1 rfl rfl wy_ rfl ?_;intro _ _ _)|(refine ld_alloc wy_ rfl ?_;intro _ _ _)))
  refine ld_open rfl ?_; refine ld_index (j := ys.length) rfl rfl (by omega) (by omega) rfl wy_ rfl ?_
  refine ld_open rfl ?_; refine ld_loadB rfl hcell (by rw [add_block]; exact hnb.1.2) wy_ rfl ?_
  repeat(first|refine lrund_ ?_|(refine ld_open rfl ?_;first|(refine ld_boxA rfl wy_ rfl ?_;intro _ _ _)|(refine ld_box1 rfl rfl wy_ rfl ?_;intro _ _ _)|(refine ld_alloc wy_ rfl ?_;intro _ _ _)))
  have hzb := hI.hz.block
  refine ld_open rfl ?_
  refine ld_appendE (d := kRune) (ys := g.getD 0 []) (F2 := fun k => k < w.heap.size) (by repeat constructor) (by kernel_rfl) rfl rfl hI.hz (fun _ h => h.elim) (fun w' hw => (Kn.sl hw.org (hR.rs 0 hg0).old).e) (fun k hk ho => by have := (hzb k ho).1.1; omega) (by show (z.length + (g.getD 0 []).length) * 4 ≤ 140737488355328; omega) rfl rfl rfl wy_ rfl ?_
  intro w1 A1 n1 w2 hw1 ko1 kp1 hown1 hog1
  have hz1 : Og kRune w w2 (MK [(g11, cb [.int .i64 0, .int .i64 0] 24), (g7, cb [.int .i64 kd, .slice Ag g.length cg] 30), (g6, cb [.int .i64 p.1, .int .i64 p.2] 24)]) (fun _ => False) (.slice A1 (z ++ g.getD 0 []).length n1) (z ++ g.getD 0 []) := hog1.sc
  have hn1 : Og kRaw w w2 (MK [(g11, cb [.int .i64 0, .int .i64 0] 24), (g7, cb [.int .i64 kd, .slice Ag g.length cg] 30), (g6, cb [.int .i64 p.1, .int .i64 p.2] 24)]) (fun _ => False) (.slice (some an) (ys.length + 1) cn) (cs ++ [.slice Az z.length cz]) := hI.hn.keep fun k hk => by
    cases hk
    exact kp1.block an.block hnb.2 fun h => h.elim hnb.1.2 hI.ne
  have hy1 : Els kRow (fun k => (fre w (MK [(g11, cb [.int .i64 0, .int .i64 0] 24), (g7, cb [.int .i64 kd, .slice Ag g.length cg] 30), (g6, cb [.int .i64 p.1, .int .i64 p.2] 24)]) k ∧ (Value.slice Az z.length cz).ownBlock ≠ some k ∧ an.block ≠ k) ∧ k < b.heap.size) w2 ys cs := (els_bound hI.hy).move fun k hk hl => kp1.block k hk.2 fun h => h.elim hk.1.1.2 hk.1.2.1
  have hs1 := hw1.kp.size
  have hne1 : (Value.slice A1 (z ++ g.getD 0 []).length n1).ownBlock ≠ some an.block := fun e => by
    rcases hown1 an.block e with h | h
    · exact hI.ne h
    · omega
  clear hcell hog1 kp1 hw1 ko1
  repeat(first|refine lrund_ ?_|(refine ld_open rfl ?_;first|(refine ld_boxA rfl wy_ rfl ?_;intro _ _ _)|(refine ld_box1 rfl rfl wy_ rfl ?_;intro _ _ _)|(refine ld_alloc wy_ rfl ?_;intro _ _ _)))
  refine ld_open rfl ?_; refine ld_index (j := ys.length) rfl rfl (by omega) (by omega) rfl wy_ rfl ?_
  refine ld_open rfl ?_
  refine ld_setM (d := kRaw) (j := ys.length) (q := .slice A1 (z ++ g.getD 0 []).length n1) (by repeat constructor) (by kernel_rfl) rfl rfl hn1 (fun _ h => h.elim) (by rw [List.length_append, hcl]; simp) (fun w' hw => ⟨rfl, rfl⟩) rfl wy_ rfl ?_
  intro w3 w4 hw3 ko4 kp4 hn4
  rw [show (cs ++ [Value.slice Az z.length cz]).set ys.length (.slice A1 (z ++ g.getD 0 []).length n1) = cs ++ [.slice A1 (z ++ g.getD 0 []).length n1] by
    rw [List.set_append_right _ _ (by omega), hcl, Nat.sub_self]; rfl] at hn4
  have hz4 : Og kRune w w4 (MK [(g11, cb [.int .i64 0, .int .i64 0] 24), (g7, cb [.int .i64 kd, .slice Ag g.length cg] 30), (g6, cb [.int .i64 p.1, .int .i64 p.2] 24)]) (fun _ => False) (.slice A1 (z ++ g.getD 0 []).length n1) (z ++ g.getD 0 []) := (hz1.now (fun _ h => h.elim) hw3).keep fun k hk => kp4.block k ((hz1.now (fun _ h => h.elim) hw3).block k hk).2 fun e => hne1 (e ▸ hk)
  have hy4 : Els kRow (fun k => (fre w (MK [(g11, cb [.int .i64 0, .int .i64 0] 24), (g7, cb [.int .i64 kd, .slice Ag g.length cg] 30), (g6, cb [.int .i64 p.1, .int .i64 p.2] 24)]) k ∧ (Value.slice Az z.length cz).ownBlock ≠ some k ∧ an.block ≠ k) ∧ k < b.heap.size) w4 ys cs := (hy1.move fun k hk hl => hw3.kp.block k hl hk.1.1.2).move fun k hk hl => kp4.block k hl fun e => hk.1.2.2 e.symm
  have hI4 : NowI w w4 (MK [(g11, cb [.int .i64 0, .int .i64 0] 24), (g7, cb [.int .i64 kd, .slice Ag g.length cg] 30), (g6, cb [.int .i64 p.1, .int .i64 p.2] 24)]) an cn A1 n1 cs ys (z ++ g.getD 0 []) := ⟨hn4, hz4, hy4.mono fun k hk hl => ⟨hk.1.1, fun e => by
    rcases hown1 k e with h | h
    · exact hk.1.2.1 h
    · have := hk.2; omega, hk.1.2.2⟩, hne1⟩
  clear hn1 hz1 hy1 hn4 hz4 hy4 hw3 kp4 ko4 hI hnb hzb
  repeat(first|refine lrund_ ?_|(refine ld_open rfl ?_;first|(refine ld_boxA rfl wy_ rfl ?_;intro _ _ _)|(refine ld_box1 rfl rfl wy_ rfl ?_;intro _ _ _)|(refine ld_alloc wy_ rfl ?_;intro _ _ _)))
  have hcg := hR.cap
  have hI5 := hI4
  by_cases hg1 : g.drop 1 = []
  · have e1 : chStep (ys, z) g = (ys, z ++ g.getD 0 []) := by unfold chStep; rw [if_pos hg1]
    have e2 : (g.take g.length).drop 1 = [] := by rw [List.take_length]; exact hg1
    rw [e1] at next
    repeat(first|refine lrun_ ?_|(refine lo_boxA rfl rfl ?_;intro _ _ _)|(refine lo_box1 rfl rfl rfl ?_;intro _ _ _)|(refine lo_alloc rfl ?_;intro _ _ _))
    refine lo_suf rfl rfl rfl hg0 hcg rfl ?_
    refine lo_callM (n_call rfl) rfl (fun w' hw => lines_calls (Sl.cutV (d := kRow) (Kn.sl hw.org hR.sl) hg0 (Nat.le_refl _) hcg (Nat.le_refl _))) ?_
    intro w5 u w6 hw5 kn5 ko5 hO6
    rw [e2] at hO6
    have hn6 := Kn.ow kn5 (hI4.now hw5).hn
    have hz6 := Kn.ow kn5 (hI4.now hw5).hz
    have hy6 := (hI4.now hw5).hy.move fun k hk hl => kn5.block k hl id
    have hyb := (els_bound (hI4.now hw5).hy).move fun k hk hl => kn5.block k hl id
    have hs5 := kn5.size
    have hzb := (hI4.now hw5).hz.block
    refine lo_appendS (d := kRaw) (ys := []) (F2 := fun _ => False) rfl rfl hn6 (fun w' hw => ?_) (fun _ h => h.elim) (by show ((cs ++ [Value.slice A1 (z ++ g.getD 0 []).length n1]).length + 0) * 24 ≤ 140737488355328; rw [List.length_append, hcl]; simp only [List.length_singleton]; omega) rfl rfl rfl rfl ?_
    · exact raw_nil hO6.sl
    intro w7 A7 n7 w8 hw7 ko7 kp7 hown7 hog7
    have e3 : (cs ++ [Value.slice A1 (z ++ g.getD 0 []).length n1] ++ []).length = ys.length + 1 := by rw [List.append_nil, List.length_append, hcl]; rfl
    rw [e3] at hog7
    rw [e3] at hown7
    rw [e3]
    rw [List.append_nil] at hog7
    obtain ⟨an', rfl⟩ := hog7.someA (by simp)
    have hor : an'.block = an.block ∨ w6.heap.size ≤ an'.block := (hown7 an'.block rfl).imp (fun h => (Option.some.inj h).symm) id
    have hI8 : NowI w w8 (MK [(g11, cb [.int .i64 0, .int .i64 0] 24), (g7, cb [.int .i64 kd, .slice Ag g.length cg] 30), (g6, cb [.int .i64 p.1, .int .i64 p.2] 24)]) an' n7 A1 n1 cs ys (z ++ g.getD 0 []) := by
      refine ⟨hog7, hz6.keep fun k hk => kp7.block k (hz6.block k hk).2 fun h => h.elim (hz6.block k hk).1.2 fun h => hne1 (by cases h; exact hk), ?_, fun e => ?_⟩
      · exact (hyb.move fun k hk hl => kp7.block k hl fun h => h.elim hk.1.1.2 fun h => hk.1.2.2 (by cases h; rfl)).mono fun k hk _ => ⟨hk.1.1, hk.1.2.1, fun e => by
          rcases hor with h | h
          · exact hk.1.2.2 (h ▸ e)
          · have := hk.2; omega⟩
      · rcases hor with h | h
        · exact hne1 (h ▸ e)
        · have := (hzb _ e).2; omega
    clear hog7 hz6 hn6 hy6 hyb hw7 kp7 ko7 hI5
    repeat(first|refine lrun_ ?_|(refine lo_boxA rfl rfl ?_;intro _ _ _)|(refine lo_box1 rfl rfl rfl ?_;intro _ _ _)|(refine lo_alloc rfl ?_;intro _ _ _))
    exact next w8 an' n7 n1 A1 cs hI8 _ (by repeat (first | exact SubB.nil | refine SubB.cons rfl ?_)) _ (by repeat(first|exact MSub.refl|refine MSub.keep rfl ?_|exact MSub.nil|apply MSub.drop))
  · have e2 : (g.take g.length).drop 1 = g.drop 1 := by rw [List.take_length]
    repeat(first|refine lrun_ ?_|(refine lo_boxA rfl rfl ?_;intro _ _ _)|(refine lo_box1 rfl rfl rfl ?_;intro _ _ _)|(refine lo_alloc rfl ?_;intro _ _ _))
    refine lo_suf rfl rfl rfl hg0 hcg rfl ?_
    refine lo_callM (n_call rfl) rfl (fun w' hw => linesL_calls (Sl.cutV (d := kRow) (Kn.sl hw.org hR.sl) hg0 (Nat.le_refl _) hcg (Nat.le_refl _)) (by rw [e2]; exact hg1)) ?_
    rintro w5 u w6 hw5 kn5 ko5 ⟨g2, cs2, e, rfl, hg2, hb2, hL⟩
    rw [e2] at hL ⊢
    obtain ⟨r0, x, c0, u2, er, rfl, hE0, hOx⟩ := hL
    obtain ⟨A2, n2, rfl, _, _⟩ := hOx.form
    have e1 : chStep (ys, z) g = (ys ++ [z ++ g.getD 0 []] ++ r0, x) := by unfold chStep; rw [if_neg hg1, er]; simp
    rw [e1] at next
    simp only at next
    have hc0 : c0.length = r0.length := by
      have := hE0.len
      rwa [show kRow.sz = 1 from rfl, Nat.mul_one] at this
    have hlg : (g.drop 1).length = r0.length + 1 := by rw [er, List.length_append]; rfl
    have hlg1 : (g.drop 1).length = g.length - 1 := List.length_drop
    have hfg : g.length * 24 ≤ 140737488355328 := by obtain ⟨_, _, ee, _, h4⟩ := hR.sl.form; exact h4
    have hn6 := Kn.ow kn5 (hI4.now hw5).hn
    have hz6 := Kn.ow kn5 (hI4.now hw5).hz
    have hyb := (els_bound (hI4.now hw5).hy).move fun k hk hl => kn5.block k hl id
    have hs5 := kn5.size
    have hzb := (hI4.now hw5).hz.block
    have hnb5 := ((hI4.now hw5).hn.block an.block rfl).2
    have hK5 : ∀ k, MK [(g11, cb [.int .i64 0, .int .i64 0] 24), (g7, cb [.int .i64 kd, .slice Ag g.length cg] 30), (g6, cb [.int .i64 p.1, .int .i64 p.2] 24)] k → k < w5.heap.size := fun k hm => hw5.lt hm
    have hone : ∀ y ∈ c0 ++ [Value.slice A2 x.length n2], y.oneCell' = true := fun y hy => by
      rcases List.mem_append.1 hy with h | h
      · exact hE0.one y h
      · simp at h; subst h; rfl
    have hl2 : (c0 ++ [Value.slice A2 x.length n2]).length = (g.drop 1).length := by rw [List.length_append, hc0, hlg]; rfl
    rw [← hl2]
    refine lo_appendS (d := kRaw) (ys := c0 ++ [Value.slice A2 x.length n2]) (F2 := fun k => k = g2) rfl rfl hn6 (fun w' hw => sl_blk (d := kRaw) (hw.kp.blk hb2 fun hm => by have := hK5 _ hm; omega) (raw_els hone) rfl (by show (c0 ++ [Value.slice A2 x.length n2]).length * 24 ≤ 140737488355328; omega)) (fun k hk ho => by cases ho; omega) (by show ((cs ++ [Value.slice A1 (z ++ g.getD 0 []).length n1]).length + (c0 ++ [Value.slice A2 x.length n2]).length) * 24 ≤ 140737488355328; rw [List.length_append, hcl]; simp only [List.length_singleton]; omega) rfl rfl rfl rfl ?_
    intro w7 A7 n7 w8 hw7 ko7 kp7 hown7 hog7
    have hvl : (cs ++ [Value.slice A1 (z ++ g.getD 0 []).length n1] ++ (c0 ++ [Value.slice A2 x.length n2])).length = (ys ++ [z ++ g.getD 0 []] ++ r0).length + 1 := by simp only [List.length_append, hcl, hc0, List.length_singleton]; omega
    rw [hvl] at hog7 hown7
    rw [hvl]
    obtain ⟨an', rfl⟩ := hog7.someA (by simp)
    have hor : an'.block = an.block ∨ w6.heap.size ≤ an'.block := (hown7 an'.block rfl).imp (fun h => (Option.some.inj h).symm) id
    have hob := fun k hk => hOx.block k hk
    rw [← List.append_assoc] at hog7
    have hI8 : NowI w w8 (MK [(g11, cb [.int .i64 0, .int .i64 0] 24), (g7, cb [.int .i64 kd, .slice Ag g.length cg] 30), (g6, cb [.int .i64 p.1, .int .i64 p.2] 24)]) an' n7 A2 n2 (cs ++ [Value.slice A1 (z ++ g.getD 0 []).length n1] ++ c0) (ys ++ [z ++ g.getD 0 []] ++ r0) x := by
      have hso := hw5.org.size
      have hmv : ∀ k, k < w6.heap.size → (k < w5.heap.size → fre w (MK [(g11, cb [.int .i64 0, .int .i64 0] 24), (g7, cb [.int .i64 kd, .slice Ag g.length cg] 30), (g6, cb [.int .i64 p.1, .int .i64 p.2] 24)]) k ∧ k ≠ an.block) → w8.heap[k]? = w6.heap[k]? := fun k hl hk => kp7.block k hl fun h => by
        by_cases hk5 : k < w5.heap.size
        · exact h.elim (hk hk5).1.2 fun h => (hk hk5).2 (Option.some.inj h).symm
        · rcases h with h | h
          · have := hK5 k h; omega
          · have := Option.some.inj h; omega
      have hna : ∀ k, k < w6.heap.size → (k < w5.heap.size → k ≠ an.block) → an'.block ≠ k := fun k hl hk e => by
        rcases hor with h | h
        · by_cases hk5 : k < w5.heap.size
          · exact hk hk5 (e ▸ h)
          · omega
        · omega
      refine ⟨hog7, ?_, ?_, fun e => ?_⟩
      · exact (hOx.keep fun k hk => hmv k (hob k hk).2 fun h => by have := (hob k hk).1.1; unfold noB at this; omega).mono (fun k hk _ => ⟨by have := hk.1; unfold noB at this; omega, fun hm => by have := hK5 k hm; have := hk.1; unfold noB at this; omega⟩) fun _ h _ => h
      · have p1 : Els kRow (fun k => fre w (MK [(g11, cb [.int .i64 0, .int .i64 0] 24), (g7, cb [.int .i64 kd, .slice Ag g.length cg] 30), (g6, cb [.int .i64 p.1, .int .i64 p.2] 24)]) k ∧ (Value.slice A2 x.length n2).ownBlock ≠ some k ∧ an'.block ≠ k) w8 ys cs := (hyb.move fun k hk hl => hmv k hl fun _ => ⟨hk.1.1, fun e => hk.1.2.2 e.symm⟩).mono fun k hk _ => ⟨hk.1.1, fun e => by
          have := (hob k e).1.1
          have := hk.2
          unfold noB at *
          omega, hna k (by have := hk.2; omega) fun _ e => hk.1.2.2 e.symm⟩
        have p2 : Sl kRune (fun k => fre w (MK [(g11, cb [.int .i64 0, .int .i64 0] 24), (g7, cb [.int .i64 kd, .slice Ag g.length cg] 30), (g6, cb [.int .i64 p.1, .int .i64 p.2] 24)]) k ∧ (Value.slice A2 x.length n2).ownBlock ≠ some k ∧ an'.block ≠ k) w8 (.slice A1 (z ++ g.getD 0 []).length n1) (z ++ g.getD 0 []) := by
          have q : Ow kRune (fun k => (Value.slice A1 (z ++ g.getD 0 []).length n1).ownBlock = some k) (fun _ => False) w8 (.slice A1 (z ++ g.getD 0 []).length n1) (z ++ g.getD 0 []) := hz6.blkG.keep fun k hk => hmv k (hz6.block k hk).2 fun _ => ⟨(hz6.block k hk).1, fun e => hne1 (e ▸ hk)⟩
          exact q.slF (fun k hk => ⟨(hz6.block k hk).1, fun e => by
            have := (hob k e).1.1
            have := (hzb k hk).2
            unfold noB at *
            omega, hna k (hz6.block k hk).2 fun _ e => hne1 (e ▸ hk)⟩) fun _ h => h.elim
        have p3 : Els kRow (fun k => fre w (MK [(g11, cb [.int .i64 0, .int .i64 0] 24), (g7, cb [.int .i64 kd, .slice Ag g.length cg] 30), (g6, cb [.int .i64 p.1, .int .i64 p.2] 24)]) k ∧ (Value.slice A2 x.length n2).ownBlock ≠ some k ∧ an'.block ≠ k) w8 r0 c0 := ((els_bound hE0).move fun k hk hl => hmv k hl fun h => by have := hk.1.1; unfold noB at this; omega).mono fun k hk _ => ⟨⟨by have := hk.1.1; unfold noB at this; omega, fun hm => by have := hK5 k hm; have := hk.1.1; unfold noB at this; omega⟩, hk.1.2.2, hna k hk.2 fun h => by have := hk.1.1; unfold noB at this; omega⟩
        exact (p1.snoc ⟨_, rfl, p2⟩).append p3
      · have := (hob _ e).1.1
        have := (hob _ e).2
        rcases hor with h | h
        · unfold noB at *; omega
        · omega
    clear hog7 hz6 hn6 hyb hw7 kp7 ko7 hI5
    repeat(first|refine lrun_ ?_|(refine lo_boxA rfl rfl ?_;intro _ _ _)|(refine lo_box1 rfl rfl rfl ?_;intro _ _ _)|(refine lo_alloc rfl ?_;intro _ _ _))
    exact next w8 an' n7 n2 A2 _ hI8 _ (by repeat (first | exact SubB.nil | refine SubB.cons rfl ?_)) _ (by repeat(first|exact MSub.refl|refine MSub.keep rfl ?_|exact MSub.nil|apply MSub.drop))
end
end Go.Ink

set_option linter.unusedVariables false
set_option linter.unusedSimpArgs false
namespace Go.Ink
open Go Go.Proofs Go.RowKit

theorem chStep_len (s : List (List Int) × List Int) (g : List (List Int)) : (chStep s g).1.length ≤ s.1.length + g.length ∧ (chStep s g).2.length ≤ s.2.length + (g.getD 0 []).length + runesM g := by
  unfold chStep
  split
  · simp only [List.length_append]; omega
  · next h =>
    simp only [List.length_append, List.length_dropLast, List.length_drop, List.length_singleton]
    have h1 : 1 < g.length := by
      rcases Nat.lt_or_ge 1 g.length with h2 | h2
      · exact h2
      · exact absurd (List.drop_eq_nil_of_le h2) h
    refine ⟨by omega, ?_⟩
    have : ∀ (l : List (List Int)) (y : List Int), y ∈ l → y.length ≤ runesM l := by
      intro l y hy
      unfold runesM
      induction l with
      | nil => cases hy
      | cons a l ih =>
        rcases List.mem_cons.1 hy with rfl | hy
        · simp
        · have := ih hy; simp; omega
    have h3 : (g.drop 1).getLastD [] ∈ g := by
      rw [List.getLastD_eq_getLast?, List.getLast?_eq_some_getLast h]
      exact List.mem_of_mem_drop (List.getLast_mem h)
    have := this g _ h3
    omega
theorem ch_len {x : List Int} {g : List (List Int)} : ∀ r, (chM x g r).1.length ≤ r * g.length ∧ (chM x g r).2.length ≤ x.length + r * ((g.getD 0 []).length + runesM g)
  | 0 => ⟨Nat.zero_le _, by show x.length ≤ _; omega⟩
  | r + 1 => by
    have h1 := ch_len (x := x) (g := g) r
    have h2 := chStep_len (chM x g r) g
    show (chStep _ _).1.length ≤ _ ∧ (chStep _ _).2.length ≤ _
    rw [Nat.add_mul, Nat.add_mul]
    omega
section
variable {F : Nat → Prop} {w B : World} {Ag : Option Addr} {cg : Nat} {g : List (List Int)} {adg : Addr} {rV : Nat → Option Addr} {rc : Nat → Nat} {ra : Nat → Addr} {x : List Int} {g6 g7 g11 : Nat} {p : Ps} {kd col : Int} {v0 v23 : Value} {n : Nat} {kk : List Item} {R : Value → World → Prop}
set_option maxHeartbeats 8000000 in
theorem ch_loop (hR : Rws F w Ag cg g adg rV rc ra) (hg0 : 0 < g.length) (hgl : g.length ≤ 4096) (hgr : runesM g ≤ 4194304) (hg00 : (g.getD 0 []).length ≤ 4194304) (hx : x.length ≤ 4194304) (hn : n ≤ 65536) {an : Addr} {cn cz : Nat} {Az : Option Addr} {cs : List Value} (hI : NowI w B (MK [(g11, cb [.int .i64 0, .int .i64 0] 24), (g7, cb [.int .i64 kd, .slice Ag g.length cg] 30), (g6, cb [.int .i64 p.1, .int .i64 p.2] 24)]) an cn Az cz cs [] x)
    (done : ∀ (b : World) (an' : Addr) (cn' cz' : Nat) (Az' : Option Addr) (cs' : List Value), NowI w b (MK [(g11, cb [.int .i64 0, .int .i64 0] 24), (g7, cb [.int .i64 kd, .slice Ag g.length cg] 30), (g6, cb [.int .i64 p.1, .int .i64 p.2] 24)]) an' cn' Az' cz' cs' (chM x g n).1 (chM x g n).2 → ∀ σ', SubB σ' [(0, v0), (6, .pointer (some ⟨g6, 0, none⟩)), (7, .pointer (some ⟨g7, 0, none⟩)), (11, .pointer (some ⟨g11, 0, none⟩)), (18, .int .i64 col), (23, v23), (24, .slice (some an') ((chM x g n).1.length + 1) cn')] → ∀ M', MSub [(g11, cb [.int .i64 0, .int .i64 0] 24), (g7, cb [.int .i64 kd, .slice Ag g.length cg] 30), (g6, cb [.int .i64 p.1, .int .i64 p.2] 24)] M' → WL Try.prog Try.f22 kk σ' w (fun _ => False) b (MK [(g11, cb [.int .i64 0, .int .i64 0] 24), (g7, cb [.int .i64 kd, .slice Ag g.length cg] 30), (g6, cb [.int .i64 p.1, .int .i64 p.2] 24)]) M' R) :
    ∀ σ', SubB σ' [(0, v0), (6, .pointer (some ⟨g6, 0, none⟩)), (7, .pointer (some ⟨g7, 0, none⟩)), (11, .pointer (some ⟨g11, 0, none⟩)), (18, .int .i64 col), (23, v23), (24, .slice (some an) 1 cn), (171, .int .i64 n), (172, .int .i64 (0 : Nat))] → ∀ M', MSub [(g11, cb [.int .i64 0, .int .i64 0] 24), (g7, cb [.int .i64 kd, .slice Ag g.length cg] 30), (g6, cb [.int .i64 p.1, .int .i64 p.2] 24)] M' →
      WL Try.prog Try.f22 (.code (.loop (bodyC Try.f22 [1, 1, 1, 1, 1, 1, 1, 1, 1, 1, 1, 1, 1, 1, 1, 0, 1, 0, 0])) :: .inBlock 6 :: kk) σ' w (fun _ => False) B (MK [(g11, cb [.int .i64 0, .int .i64 0] 24), (g7, cb [.int .i64 kd, .slice Ag g.length cg] 30), (g6, cb [.int .i64 p.1, .int .i64 p.2] 24)]) M' R := by
  intro σ' hs M' hM
  refine WL.sub hs hM ?_
  refine l_whileB (fun s : Nat × Addr × Nat × Option Addr × Nat × List Value => n - s.1) (fun s => [(0, v0), (6, .pointer (some ⟨g6, 0, none⟩)), (7, .pointer (some ⟨g7, 0, none⟩)), (11, .pointer (some ⟨g11, 0, none⟩)), (18, .int .i64 col), (23, v23), (24, .slice (some s.2.1) ((chM x g s.1).1.length + 1) s.2.2.1), (171, .int .i64 n), (172, .int .i64 (s.1 : Nat))]) (fun _ => [(g11, cb [.int .i64 0, .int .i64 0] 24), (g7, cb [.int .i64 kd, .slice Ag g.length cg] 30), (g6, cb [.int .i64 p.1, .int .i64 p.2] 24)])
    (fun s b => s.1 ≤ n ∧ NowI w b (MK [(g11, cb [.int .i64 0, .int .i64 0] 24), (g7, cb [.int .i64 kd, .slice Ag g.length cg] 30), (g6, cb [.int .i64 p.1, .int .i64 p.2] 24)]) s.2.1 s.2.2.1 s.2.2.2.1 s.2.2.2.2.1 s.2.2.2.2.2 (chM x g s.1).1 (chM x g s.1).2) (0, an, cn, Az, cz, cs) (by repeat (first | exact SubB.nil | refine SubB.cons rfl ?_)) (by repeat(first|exact MSub.refl|refine MSub.keep rfl ?_|exact MSub.nil|apply MSub.drop)) (fun w' hw => ⟨Nat.zero_le _, hI.now hw⟩) ?_
  rintro ⟨r, an1, cn1, Az1, cz1, cs1⟩ b ⟨hr, hI1⟩ hkb ih
  simp only at hr hI1
  have hl := ch_len (x := x) (g := g) r
  have hb1 : r * g.length ≤ 65536 * 4096 := Nat.mul_le_mul (by omega) hgl
  have hb2 : r * ((g.getD 0 []).length + runesM g) ≤ 65536 * 8388608 := Nat.mul_le_mul (by omega) (by omega)
  dsimp only
  by_cases hlt : r < n
  · repeat(first|refine lrun_ ?_|(refine lo_boxA rfl rfl ?_;intro _ _ _)|(refine lo_box1 rfl rfl rfl ?_;intro _ _ _)|(refine lo_alloc rfl ?_;intro _ _ _))
    refine l_yes rfl (by omega) ?_
    refine l_go .skip ?_
    refine WL.sub (by repeat (first | exact SubB.nil | refine SubB.cons rfl ?_)) .refl (ch_round (i := r) (rest := .inLoop (bodyC Try.f22 [1, 1, 1, 1, 1, 1, 1, 1, 1, 1, 1, 1, 1, 1, 1, 0, 1, 0, 0]) :: .inBlock 6 :: kk) hR hg0 hI1 ?_ (by omega) (by omega) (by omega) (by omega))
    intro b' an' cn' cz' Az' cs' hI2 σ2 hs2 M2 hM2
    exact ih (r + 1, an', cn', Az', cz', cs') b' _ ⟨hlt, hI2⟩ (by simp only; omega) σ2 M2 hs2 hM2 (fun w' hw' => ⟨hlt, hI2.now hw'⟩)
  · obtain rfl : r = n := by omega
    repeat(first|refine lrun_ ?_|(refine lo_boxA rfl rfl ?_;intro _ _ _)|(refine lo_box1 rfl rfl rfl ?_;intro _ _ _)|(refine lo_alloc rfl ?_;intro _ _ _))
    refine l_no rfl (by omega) ?_
    refine l_go (.exit rfl) ?_
    exact done b an1 cn1 cz1 Az1 cs1 hI1 _ (by repeat (first | exact SubB.nil | refine SubB.cons rfl ?_)) _ (by repeat(first|exact MSub.refl|refine MSub.keep rfl ?_|exact MSub.nil|apply MSub.drop))
end
end Go.Ink

set_option linter.unusedVariables false
set_option linter.unusedSimpArgs false
namespace Go.Ink
open Go Go.Proofs Go.RowKit

section
variable {F F0 : Nat → Prop} {w B : World} {Ag A : Option Addr} {cg c : Nat} {g l : List (List Int)} {adg ad0 : Addr} {rV : Nat → Option Addr} {rc : Nat → Nat} {ra : Nat → Addr} {g6 g7 g11 : Nat} {kd : Int} {an : Addr} {cn cz : Nat} {Az : Option Addr} {cs : List Value} {ys : List (List Int)} {z row : List Int} {col i : Nat} {p2 : Int} {Ar : Option Addr} {cr : Nat}
set_option maxHeartbeats 8000000 in
theorem ch_tail (hR : Rws F w Ag cg g adg rV rc ra) (hg0 : 0 < g.length) (hL : Sl kRow F0 w (.slice A l.length c) l) (hrow : Sl kRune F0 w (.slice Ar row.length cr) row) (hil : i < l.length) (hl : l.length ≤ 4096) (hcol : col ≤ row.length) (hrl : row.length ≤ 4194304) (hyl : ys.length ≤ 268435456) (hzl : z.length ≤ 549764202496)
    (hro : runesM (l.take i ++ (ys ++ [z ++ row.drop col]) ++ l.drop (i + 1)) ≤ 1099511627776)
    (hI : NowI w B (MK [(g11, cb [.int .i64 0, .int .i64 0] 24), (g7, cb [.int .i64 kd, .slice Ag g.length cg] 30), (g6, cb [.int .i64 i, .int .i64 p2] 24)]) an cn Az cz cs ys z) {R' : Value → World → Prop} (hp2 : P64 ((i : Int), p2)) (hRe : R' = (fun u w' => Kn w w' ∧ ∃ s, u = .tuple #[s, posV (fitsM (l.take i ++ (ys ++ [z ++ row.drop col]) ++ l.drop (i + 1)) (clipM (l.take i ++ (ys ++ [z ++ row.drop col]) ++ l.drop (i + 1)) ((i : Int), (if 0 < ys.length then (col : Int) else if 0 < (g.getD 0 []).length then (z.length : Int) - 1 else p2)))).2.1, .int .i64 (fitsM (l.take i ++ (ys ++ [z ++ row.drop col]) ++ l.drop (i + 1)) (clipM (l.take i ++ (ys ++ [z ++ row.drop col]) ++ l.drop (i + 1)) ((i : Int), (if 0 < ys.length then (col : Int) else if 0 < (g.getD 0 []).length then (z.length : Int) - 1 else p2)))).2.2] ∧ Ow kRow (noB w) (noB w) w' s (fitsM (l.take i ++ (ys ++ [z ++ row.drop col]) ++ l.drop (i + 1)) (clipM (l.take i ++ (ys ++ [z ++ row.drop col]) ++ l.drop (i + 1)) ((i : Int), (if 0 < ys.length then (col : Int) else if 0 < (g.getD 0 []).length then (z.length : Int) - 1 else p2)))).1)) :
    ∀ σ', SubB σ' [(0, .slice A l.length c), (6, .pointer (some ⟨g6, 0, none⟩)), (7, .pointer (some ⟨g7, 0, none⟩)), (11, .pointer (some ⟨g11, 0, none⟩)), (18, .int .i64 col), (23, .slice Ar row.length cr), (24, .slice (some an) (ys.length + 1) cn)] → ∀ M', MSub [(g11, cb [.int .i64 0, .int .i64 0] 24), (g7, cb [.int .i64 kd, .slice Ag g.length cg] 30), (g6, cb [.int .i64 i, .int .i64 p2] 24)] M' →
      WL Try.prog Try.f22 [.code (bodyC Try.f22 [1, 1, 1, 1, 1, 1, 1, 1, 1, 1, 1, 1, 1, 1, 1, 1])] σ' w (fun _ => False) B (MK [(g11, cb [.int .i64 0, .int .i64 0] 24), (g7, cb [.int .i64 kd, .slice Ag g.length cg] 30), (g6, cb [.int .i64 i, .int .i64 p2] 24)]) M' R' := by
  intro σ' hs M' hM
  refine WL.sub hs hM ?_
  have hcl := hI.len
  have hcell : B.cell? (an.add (ys.length * 1)) = some (.slice Az z.length cz) := hI.hn.rawCell (by rw [List.getElem?_append_right (by omega), hcl, Nat.sub_self]; rfl)
  have hnb := hI.hn.block an.block rfl
  repeat(first|refine lrun_ ?_|(refine lo_boxA rfl rfl ?_;intro _ _ _)|(refine lo_box1 rfl rfl rfl ?_;intro _ _ _)|(refine lo_alloc rfl ?_;intro _ _ _))
  refine lo_index (j := ys.length) rfl rfl (by omega) (by omega) rfl rfl ?_
  refine lo_loadB rfl hcell (by rw [add_block]; exact hnb.1.2) rfl ?_
  repeat(first|refine lrun_ ?_|(refine lo_boxA rfl rfl ?_;intro _ _ _)|(refine lo_box1 rfl rfl rfl ?_;intro _ _ _)|(refine lo_alloc rfl ?_;intro _ _ _))
  refine l_draw [(0, 0), (1, 0), (2, 0), (3, 0), (4, 0), (5, 0), (6, 0), (7, 0), (8, 0), (9, 1), (10, 0), (11, 1)] (by kernel_rfl) (by kernel_rfl) rfl (by kernel_rfl) ?_
  repeat(first|refine lrund_ ?_|(refine ld_open rfl ?_;first|(refine ld_boxA rfl wy_ rfl ?_;intro _ _ _)|(refine ld_box1 rfl rfl wy_ rfl ?_;intro _ _ _)|(refine ld_alloc wy_ rfl ?_;intro _ _ _)))
  refine ld_open rfl ?_; refine ld_index (j := ys.length) rfl rfl (by omega) (by omega) rfl wy_ rfl ?_
  refine ld_open rfl ?_; refine ld_loadB rfl hcell (by rw [add_block]; exact hnb.1.2) wy_ rfl ?_
  repeat(first|refine lrund_ ?_|(refine ld_open rfl ?_;first|(refine ld_boxA rfl wy_ rfl ?_;intro _ _ _)|(refine ld_box1 rfl rfl wy_ rfl ?_;intro _ _ _)|(refine ld_alloc wy_ rfl ?_;intro _ _ _)))
  obtain ⟨Ar', cr', ar, er, hX⟩ := hrow.rns
  cases er
  have hcr := hX.cap
  refine ld_open rfl ?_; refine ld_suf rfl rfl rfl hcol hcr wy_ rfl ?_
  have hzb := hI.hz.block
  have hd : (row.take row.length).drop col = row.drop col := by rw [List.take_length]
  have hsuf : Sl kRune (fun k => k < w.heap.size) w (cutV Ar col row.length cr 1) (row.drop col) := by
    have := Sl.cutV (d := kRune) hrow.old hcol (Nat.le_refl _) hcr (Nat.le_refl _)
    rwa [hd] at this
  refine ld_open rfl ?_
  refine ld_appendE (d := kRune) (ys := row.drop col) (F2 := fun k => k < w.heap.size) (by repeat constructor) (by kernel_rfl) rfl rfl hI.hz (fun _ h => h.elim) (fun w' hw => (Kn.sl hw.org hsuf).e) (fun k hk ho => by have := (hzb k ho).1.1; omega) (by rw [List.length_drop]; show (z.length + (row.length - col)) * 4 ≤ 140737488355328; omega) rfl rfl rfl wy_ rfl ?_
  intro w1 A1 n1 w2 hw1 ko1 kp1 hown1 hog1
  have hz1 : Og kRune w w2 (MK [(g11, cb [.int .i64 0, .int .i64 0] 24), (g7, cb [.int .i64 kd, .slice Ag g.length cg] 30), (g6, cb [.int .i64 i, .int .i64 p2] 24)]) (fun _ => False) (.slice A1 (z ++ row.drop col).length n1) (z ++ row.drop col) := hog1.sc
  have hn1 : Og kRaw w w2 (MK [(g11, cb [.int .i64 0, .int .i64 0] 24), (g7, cb [.int .i64 kd, .slice Ag g.length cg] 30), (g6, cb [.int .i64 i, .int .i64 p2] 24)]) (fun _ => False) (.slice (some an) (ys.length + 1) cn) (cs ++ [.slice Az z.length cz]) := hI.hn.keep fun k hk => by
    cases hk
    exact kp1.block an.block hnb.2 fun h => h.elim hnb.1.2 hI.ne
  have hy1 : Els kRow (fun k => (fre w (MK [(g11, cb [.int .i64 0, .int .i64 0] 24), (g7, cb [.int .i64 kd, .slice Ag g.length cg] 30), (g6, cb [.int .i64 i, .int .i64 p2] 24)]) k ∧ (Value.slice Az z.length cz).ownBlock ≠ some k ∧ an.block ≠ k) ∧ k < B.heap.size) w2 ys cs := (els_bound hI.hy).move fun k hk hl => kp1.block k hk.2 fun h => h.elim hk.1.1.2 hk.1.2.1
  have hs1 := hw1.kp.size
  have hne1 : (Value.slice A1 (z ++ row.drop col).length n1).ownBlock ≠ some an.block := fun e => by
    rcases hown1 an.block e with h | h
    · exact hI.ne h
    · omega
  clear hcell hog1 kp1 hw1 ko1
  repeat(first|refine lrund_ ?_|(refine ld_open rfl ?_;first|(refine ld_boxA rfl wy_ rfl ?_;intro _ _ _)|(refine ld_box1 rfl rfl wy_ rfl ?_;intro _ _ _)|(refine ld_alloc wy_ rfl ?_;intro _ _ _)))
  refine ld_open rfl ?_; refine ld_index (j := ys.length) rfl rfl (by omega) (by omega) rfl wy_ rfl ?_
  refine ld_open rfl ?_
  refine ld_setM (d := kRaw) (j := ys.length) (q := .slice A1 (z ++ row.drop col).length n1) (by repeat constructor) (by kernel_rfl) rfl rfl hn1 (fun _ h => h.elim) (by rw [List.length_append, hcl]; simp) (fun w' hw => ⟨rfl, rfl⟩) rfl wy_ rfl ?_
  intro w3 w4 hw3 ko4 kp4 hn4
  rw [show (cs ++ [Value.slice Az z.length cz]).set ys.length (.slice A1 (z ++ row.drop col).length n1) = cs ++ [.slice A1 (z ++ row.drop col).length n1] by
    rw [List.set_append_right _ _ (by omega), hcl, Nat.sub_self]; rfl] at hn4
  have hz4 : Og kRune w w4 (MK [(g11, cb [.int .i64 0, .int .i64 0] 24), (g7, cb [.int .i64 kd, .slice Ag g.length cg] 30), (g6, cb [.int .i64 i, .int .i64 p2] 24)]) (fun _ => False) (.slice A1 (z ++ row.drop col).length n1) (z ++ row.drop col) := (hz1.now (fun _ h => h.elim) hw3).keep fun k hk => kp4.block k ((hz1.now (fun _ h => h.elim) hw3).block k hk).2 fun e => hne1 (e ▸ hk)
  have hy4 : Els kRow (fun k => fre w (MK [(g11, cb [.int .i64 0, .int .i64 0] 24), (g7, cb [.int .i64 kd, .slice Ag g.length cg] 30), (g6, cb [.int .i64 i, .int .i64 p2] 24)]) k) w4 ys cs := ((hy1.move fun k hk hl => hw3.kp.block k hl hk.1.1.2).move fun k hk hl => kp4.block k hl fun e => hk.1.2.2 e.symm).mono fun k hk _ => hk.1.1
  have hE : Els kRow (fun k => fre w (MK [(g11, cb [.int .i64 0, .int .i64 0] 24), (g7, cb [.int .i64 kd, .slice Ag g.length cg] 30), (g6, cb [.int .i64 i, .int .i64 p2] 24)]) k) w4 (ys ++ [z ++ row.drop col]) (cs ++ [.slice A1 (z ++ row.drop col).length n1]) := hy4.snoc ⟨_, rfl, hz4.slF (fun _ h => h) fun _ h => h.elim⟩
  have hS := raw_slE hn4 hE
  have hSb : ∀ k, (Value.slice (some an) (ys.length + 1) cn).ownBlock = some k → ¬ MK [(g11, cb [.int .i64 0, .int .i64 0] 24), (g7, cb [.int .i64 kd, .slice Ag g.length cg] 30), (g6, cb [.int .i64 i, .int .i64 p2] 24)] k := fun k e => by cases e; exact hnb.1.2
  have hyz : (ys ++ [z ++ row.drop col]).length = ys.length + 1 := by rw [List.length_append]; rfl
  clear hn1 hz1 hy1 hn4 hz4 hy4 hw3 kp4 ko4 hI hnb hzb hE
  repeat(first|refine lrund_ ?_|(refine ld_open rfl ?_;first|(refine ld_boxA rfl wy_ rfl ?_;intro _ _ _)|(refine ld_box1 rfl rfl wy_ rfl ?_;intro _ _ _)|(refine ld_alloc wy_ rfl ?_;intro _ _ _)))
  repeat(first|refine lrun_ ?_|(refine lo_boxA rfl rfl ?_;intro _ _ _)|(refine lo_box1 rfl rfl rfl ?_;intro _ _ _)|(refine lo_alloc rfl ?_;intro _ _ _))
  refine lo_callM (n_call rfl) rfl (fun w' hw => putI_calls (F2 := fun k => fre w (MK [(g11, cb [.int .i64 0, .int .i64 0] 24), (g7, cb [.int .i64 kd, .slice Ag g.length cg] 30), (g6, cb [.int .i64 i, .int .i64 p2] 24)]) k) (i0 := i) (i1 := i + 1) (ys := ys ++ [z ++ row.drop col]) (Kn.sl hw.org hL) (hS.kp hw.kp hSb fun k hk => hk.2) rfl rfl (by omega) hil (by rw [hyz]; omega)) ?_
  intro w5 u w6 hw5 kn5 ko5 hO6
  obtain ⟨Ao, co, rfl, _, _⟩ := hO6.form
  have hs5 := hw5.org.size
  have hK5 : ∀ k, MK [(g11, cb [.int .i64 0, .int .i64 0] 24), (g7, cb [.int .i64 kd, .slice Ag g.length cg] 30), (g6, cb [.int .i64 i, .int .i64 p2] 24)] k → k < w5.heap.size := fun k hm => hw5.lt hm
  have J : ∀ (q : Int), P64 ((i : Int), q) → R' = (fun u w' => Kn w w' ∧ ∃ s, u = .tuple #[s, posV (fitsM (l.take i ++ (ys ++ [z ++ row.drop col]) ++ l.drop (i + 1)) (clipM (l.take i ++ (ys ++ [z ++ row.drop col]) ++ l.drop (i + 1)) ((i : Int), q))).2.1, .int .i64 (fitsM (l.take i ++ (ys ++ [z ++ row.drop col]) ++ l.drop (i + 1)) (clipM (l.take i ++ (ys ++ [z ++ row.drop col]) ++ l.drop (i + 1)) ((i : Int), q))).2.2] ∧ Ow kRow (noB w) (noB w) w' s (fitsM (l.take i ++ (ys ++ [z ++ row.drop col]) ++ l.drop (i + 1)) (clipM (l.take i ++ (ys ++ [z ++ row.drop col]) ++ l.drop (i + 1)) ((i : Int), q))).1) →
      ∀ σ', SubB σ' [(6, .pointer (some ⟨g6, 0, none⟩)), (11, .pointer (some ⟨g11, 0, none⟩)), (28, .slice Ao (l.take i ++ (ys ++ [z ++ row.drop col]) ++ l.drop (i + 1)).length co)] → ∀ M', MSub [(g11, cb [.int .i64 0, .int .i64 0] 24), (g6, cb [.int .i64 i, .int .i64 q] 24)] M' →
      WL Try.prog Try.f22 [.code (bodyC Try.f22 [1, 1, 1, 1, 1, 1, 1, 1, 1, 1, 1, 1, 1, 1, 1, 1, 1, 1, 1, 1, 1])] σ' w (fun _ => False) w6 (MK [(g11, cb [.int .i64 0, .int .i64 0] 24), (g7, cb [.int .i64 kd, .slice Ag g.length cg] 30), (g6, cb [.int .i64 i, .int .i64 p2] 24)]) M' R' := by
    intro q hq hRe σ' hs M' hM
    subst hRe
    refine WL.sub hs hM ?_
    have hF : ∀ w', Kp (MK [(g11, cb [.int .i64 0, .int .i64 0] 24), (g7, cb [.int .i64 kd, .slice Ag g.length cg] 30), (g6, cb [.int .i64 i, .int .i64 p2] 24)]) w6 w' → Ow kRow (noB w5) (fun k => noB w5 k ∨ fre w (MK [(g11, cb [.int .i64 0, .int .i64 0] 24), (g7, cb [.int .i64 kd, .slice Ag g.length cg] 30), (g6, cb [.int .i64 i, .int .i64 p2] 24)]) k) w' (.slice Ao (l.take i ++ (ys ++ [z ++ row.drop col]) ++ l.drop (i + 1)).length co) (l.take i ++ (ys ++ [z ++ row.drop col]) ++ l.drop (i + 1)) := fun w' hk => Kp.ow hk hO6 (fun k hk hm => by have := hK5 k hm; unfold noB at hk; omega) (fun k hk hm => hk.elim (fun hk => by have := hK5 k hm; unfold noB at hk; omega) fun hk => hk.2 hm)
    repeat(first|refine lrun_ ?_|(refine lo_boxA rfl rfl ?_;intro _ _ _)|(refine lo_box1 rfl rfl rfl ?_;intro _ _ _)|(refine lo_alloc rfl ?_;intro _ _ _))
    refine lo_call (n_call rfl) rfl (fun w' hw => clipP_calls (p := ((i : Int), q)) (hF w' hw.kp).sl hq) ?_
    refine lo_callM (n_call rfl) rfl (fun w' hw => fits_calls (hF w' hw.kp) hro) ?_
    rintro w7 _ w8 hw7 kn7 ko7 ⟨so, rfl, hOs⟩
    repeat(first|refine lrun_ ?_|(refine lo_boxA rfl rfl ?_;intro _ _ _)|(refine lo_box1 rfl rfl rfl ?_;intro _ _ _)|(refine lo_alloc rfl ?_;intro _ _ _))
    refine l_retR3 rfl (by repeat(first|exact LRes.nil|refine LRes.tmp rfl ?_|refine LRes.agg rfl (by(repeat(first|exact MIn.hd|refine MIn.tl ?_));done) (by rfl) (by rfl) ?_|refine LRes.one rfl (by(repeat(first|exact MIn.hd|refine MIn.tl ?_));done) (by rfl) ?_)) fun w9 hw => ⟨hw.org, _, rfl, ?_⟩
    have hm3 : ∀ k, MK [(g11, cb [.int .i64 0, .int .i64 0] 24), (g6, cb [.int .i64 i, .int .i64 q] 24)] k → MK [(g11, cb [.int .i64 0, .int .i64 0] 24), (g7, cb [.int .i64 kd, .slice Ag g.length cg] 30), (g6, cb [.int .i64 i, .int .i64 p2] 24)] k := fun k ⟨o, hm⟩ => by
      cases hm with
      | hd => exact ⟨_, .hd⟩
      | tl hm => cases hm with
        | hd => exact ⟨_, .tl (.tl .hd)⟩
        | tl hm => cases hm
    have hw5' := hw5.org.size
    exact (Kp.ow hw.kp hOs (fun k hk hm => by have := hK5 k (hm3 k hm); unfold noB at hk; omega) (fun k hk hm => hk.elim (fun hk => by have := hK5 k (hm3 k hm); unfold noB at hk; omega) fun hk => hk.2 (hm3 k hm))).mono (fun k hk _ => by unfold noB at *; omega) fun k hk _ => hk.elim (fun hk => by unfold noB at *; omega) fun hk => hk.1
  by_cases h1 : 0 < ys.length
  · rw [if_pos h1] at hRe
    repeat(first|refine lrun_ ?_|(refine lo_boxA rfl rfl ?_;intro _ _ _)|(refine lo_box1 rfl rfl rfl ?_;intro _ _ _)|(refine lo_alloc rfl ?_;intro _ _ _))
    refine l_yes rfl (by omega) ?_
    refine l_region ?_;(repeat(first|refine lops_ ?_|(refine lo_boxA rfl rfl ?_;intro _ _ _)|(refine lo_box1 rfl rfl rfl ?_;intro _ _ _)|(refine lo_alloc rfl ?_;intro _ _ _)));refine lo_nil ?_
    exact J col (by unfold P64; simp only; omega) hRe _ (by repeat (first | exact SubB.nil | refine SubB.cons rfl ?_)) _ (by repeat(first|exact MSub.refl|refine MSub.keep rfl ?_|exact MSub.nil|apply MSub.drop))
  · rw [if_neg h1] at hRe
    by_cases h2 : 0 < (g.getD 0 []).length
    · rw [if_pos h2] at hRe
      repeat(first|refine lrun_ ?_|(refine lo_boxA rfl rfl ?_;intro _ _ _)|(refine lo_box1 rfl rfl rfl ?_;intro _ _ _)|(refine lo_alloc rfl ?_;intro _ _ _))
      refine l_no rfl (by omega) ?_
      repeat(first|refine lrun_ ?_|(refine lo_boxA rfl rfl ?_;intro _ _ _)|(refine lo_box1 rfl rfl rfl ?_;intro _ _ _)|(refine lo_alloc rfl ?_;intro _ _ _))
      refine l_yes rfl (Int.ofNat_lt.2 h2) ?_
      refine l_region ?_;(repeat(first|refine lops_ ?_|(refine lo_boxA rfl rfl ?_;intro _ _ _)|(refine lo_box1 rfl rfl rfl ?_;intro _ _ _)|(refine lo_alloc rfl ?_;intro _ _ _)));refine lo_nil ?_
      exact J ((z.length : Int) - 1) (by unfold P64; simp only; omega) hRe _ (by repeat (first | exact SubB.nil | refine SubB.cons rfl ?_)) _ (by repeat(first|exact MSub.refl|refine MSub.keep rfl ?_|exact MSub.nil|apply MSub.drop))
    · rw [if_neg h2] at hRe
      repeat(first|refine lrun_ ?_|(refine lo_boxA rfl rfl ?_;intro _ _ _)|(refine lo_box1 rfl rfl rfl ?_;intro _ _ _)|(refine lo_alloc rfl ?_;intro _ _ _))
      refine l_no rfl (by omega) ?_
      repeat(first|refine lrun_ ?_|(refine lo_boxA rfl rfl ?_;intro _ _ _)|(refine lo_box1 rfl rfl rfl ?_;intro _ _ _)|(refine lo_alloc rfl ?_;intro _ _ _))
      refine l_no rfl (fun h => h2 (Int.ofNat_lt.1 h)) ?_
      refine l_go .skip ?_
      exact J p2 hp2 hRe _ (by repeat (first | exact SubB.nil | refine SubB.cons rfl ?_)) _ (by repeat(first|exact MSub.refl|refine MSub.keep rfl ?_|exact MSub.nil|apply MSub.drop))
end
end Go.Ink
