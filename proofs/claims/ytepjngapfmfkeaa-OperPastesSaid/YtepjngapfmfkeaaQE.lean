/-
  Paste of lines.
  Paste: what each kind leaves; behind the column.
  Paste, behind the register's look.
  Paste.
-/
import Derived.Test.YtepjngapfmfkeaaQB
import Derived.Test.YtepjngapfmfkeaaQC
import Derived.Test.YtepjngapfmfkeaaQD
import Derived.Test.YtepjngapfmfkeaaIdx
set_option linter.unusedVariables false
set_option linter.unusedSimpArgs false
namespace Go.Ink
open Go Go.Proofs Go.RowKit

def repL (g : List (List Int)) : Nat → List (List Int)
  | 0 => []
  | r + 1 => repL g r ++ g
theorem repL_len (g : List (List Int)) : ∀ r, (repL g r).length = r * g.length
  | 0 => by simp [repL]
  | r + 1 => by rw [repL, List.length_append, repL_len g r, Nat.add_mul]; omega
section
variable {F F0 : Nat → Prop} {w B : World} {Ag A : Option Addr} {cg c : Nat} {g l : List (List Int)} {g6 g7 g11 : Nat} {p : Ps} {kd i : Int} {v0 : Value} {n : Nat} {kk : List Item} {R : Value → World → Prop}
set_option maxHeartbeats 8000000 in
theorem ln_loop (hG : Sl kRow F w (.slice Ag g.length cg) g) (hgl : g.length ≤ 4096) (hn : n ≤ 65536)
    (done : ∀ (b : World) (v : Value), Og kRow w b (MK [(g11, cb [.int .i64 0, .int .i64 0] 24), (g7, cb [.int .i64 kd, .slice Ag g.length cg] 30), (g6, cb [.int .i64 p.1, .int .i64 p.2] 24)]) (fre w (MK [(g11, cb [.int .i64 0, .int .i64 0] 24), (g7, cb [.int .i64 kd, .slice Ag g.length cg] 30), (g6, cb [.int .i64 p.1, .int .i64 p.2] 24)])) v (repL g n) → ∀ σ', SubB σ' [(0, v0), (6, .pointer (some ⟨g6, 0, none⟩)), (7, .pointer (some ⟨g7, 0, none⟩)), (11, .pointer (some ⟨g11, 0, none⟩)), (19, .int .i64 i), (20, v)] → ∀ M', MSub [(g11, cb [.int .i64 0, .int .i64 0] 24), (g7, cb [.int .i64 kd, .slice Ag g.length cg] 30), (g6, cb [.int .i64 p.1, .int .i64 p.2] 24)] M' → WL Try.prog Try.f22 kk σ' w (fun _ => False) b (MK [(g11, cb [.int .i64 0, .int .i64 0] 24), (g7, cb [.int .i64 kd, .slice Ag g.length cg] 30), (g6, cb [.int .i64 p.1, .int .i64 p.2] 24)]) M' R) :
    ∀ σ', SubB σ' [(0, v0), (6, .pointer (some ⟨g6, 0, none⟩)), (7, .pointer (some ⟨g7, 0, none⟩)), (11, .pointer (some ⟨g11, 0, none⟩)), (19, .int .i64 i), (20, .slice none 0 0), (117, .int .i64 n), (118, .int .i64 (0 : Nat))] → ∀ M', MSub [(g11, cb [.int .i64 0, .int .i64 0] 24), (g7, cb [.int .i64 kd, .slice Ag g.length cg] 30), (g6, cb [.int .i64 p.1, .int .i64 p.2] 24)] M' →
      WL Try.prog Try.f22 (.code (.loop (bodyC Try.f22 [1, 1, 1, 1, 1, 1, 1, 1, 1, 1, 1, 1, 0, 1, 0, 1, 0, 1, 1, 1, 0, 1, 0, 0])) :: .inBlock 4 :: kk) σ' w (fun _ => False) B (MK [(g11, cb [.int .i64 0, .int .i64 0] 24), (g7, cb [.int .i64 kd, .slice Ag g.length cg] 30), (g6, cb [.int .i64 p.1, .int .i64 p.2] 24)]) M' R := by
  intro σ' hs M' hM
  refine WL.sub hs hM ?_
  refine l_whileB (fun s : Nat × Value => n - s.1) (fun s => [(0, v0), (6, .pointer (some ⟨g6, 0, none⟩)), (7, .pointer (some ⟨g7, 0, none⟩)), (11, .pointer (some ⟨g11, 0, none⟩)), (19, .int .i64 i), (20, s.2), (117, .int .i64 n), (118, .int .i64 (s.1 : Nat))]) (fun _ => [(g11, cb [.int .i64 0, .int .i64 0] 24), (g7, cb [.int .i64 kd, .slice Ag g.length cg] 30), (g6, cb [.int .i64 p.1, .int .i64 p.2] 24)])
    (fun s b => s.1 ≤ n ∧ Og kRow w b (MK [(g11, cb [.int .i64 0, .int .i64 0] 24), (g7, cb [.int .i64 kd, .slice Ag g.length cg] 30), (g6, cb [.int .i64 p.1, .int .i64 p.2] 24)]) (fre w (MK [(g11, cb [.int .i64 0, .int .i64 0] 24), (g7, cb [.int .i64 kd, .slice Ag g.length cg] 30), (g6, cb [.int .i64 p.1, .int .i64 p.2] 24)])) s.2 (repL g s.1)) (0, .slice none 0 0) (by repeat (first | exact SubB.nil | refine SubB.cons rfl ?_)) (by repeat(first|exact MSub.refl|refine MSub.keep rfl ?_|exact MSub.nil|apply MSub.drop)) (fun w' hw => ⟨Nat.zero_le _, Ow.nil _ _ _ _⟩) ?_
  rintro ⟨r, v⟩ b ⟨hr, hO⟩ hkb ih
  simp only at hr hO
  have hl := repL_len g r
  have hb1 : r * g.length ≤ 65536 * 4096 := Nat.mul_le_mul (by omega) hgl
  dsimp only
  by_cases hlt : r < n
  · repeat(first|refine lrun_ ?_|(refine lo_boxA rfl rfl ?_;intro _ _ _)|(refine lo_box1 rfl rfl rfl ?_;intro _ _ _)|(refine lo_alloc rfl ?_;intro _ _ _))
    refine l_yes rfl (by omega) ?_
    repeat(first|refine lrun_ ?_|(refine lo_boxA rfl rfl ?_;intro _ _ _)|(refine lo_box1 rfl rfl rfl ?_;intro _ _ _)|(refine lo_alloc rfl ?_;intro _ _ _))
    refine lo_callM (n_call rfl) rfl (fun w' hw => lines_calls (Kn.sl hw.org hG)) ?_
    intro w1 u w2 hw1 kn1 ko1 hO1
    have hs1 := hw1.org.size
    have hK1 : ∀ k, MK [(g11, cb [.int .i64 0, .int .i64 0] 24), (g7, cb [.int .i64 kd, .slice Ag g.length cg] 30), (g6, cb [.int .i64 p.1, .int .i64 p.2] 24)] k → k < w1.heap.size := fun k hm => hw1.lt hm
    have hO1' : Ow kRow (fre w (MK [(g11, cb [.int .i64 0, .int .i64 0] 24), (g7, cb [.int .i64 kd, .slice Ag g.length cg] 30), (g6, cb [.int .i64 p.1, .int .i64 p.2] 24)])) (fre w (MK [(g11, cb [.int .i64 0, .int .i64 0] 24), (g7, cb [.int .i64 kd, .slice Ag g.length cg] 30), (g6, cb [.int .i64 p.1, .int .i64 p.2] 24)])) w2 v (repL g r) := Kn.ow kn1 (Ow.move hO fun k hk hl => hw1.kp.block k hl (hk.elim (fun h => h.2) fun h => h.2))
    have hvb := fun k hk => (Ow.block (Ow.move (w' := w1) hO fun k hk hl => hw1.kp.block k hl (hk.elim (fun h => h.2) fun h => h.2)) k hk).2
    clear hO
    refine lo_append (d := kRow) rfl rfl hO1' (fun k hk => hk.2) (fun w' hw => (Kp.ow hw.kp hO1 (fun k hk hm => by have := hK1 k hm; unfold noB at hk; omega) (fun k hk hm => by have := hK1 k hm; unfold noB at hk; omega)).slF (F' := noB w1) (fun _ h => h) fun _ h => h) (fun k hk ho => by have := hvb k ho; unfold noB at hk; omega) (by rw [hl]; show (r * g.length + g.length) * 24 ≤ 140737488355328; omega) rfl rfl rfl rfl ?_
    intro w3 v' w4 hw3 ko3 kp3 hown hog
    have hog' : Og kRow w w4 (MK [(g11, cb [.int .i64 0, .int .i64 0] 24), (g7, cb [.int .i64 kd, .slice Ag g.length cg] 30), (g6, cb [.int .i64 p.1, .int .i64 p.2] 24)]) (fre w (MK [(g11, cb [.int .i64 0, .int .i64 0] 24), (g7, cb [.int .i64 kd, .slice Ag g.length cg] 30), (g6, cb [.int .i64 p.1, .int .i64 p.2] 24)])) v' (repL g (r + 1)) := hog.mono (fun _ h _ => h) fun k hk _ => hk.elim id fun hk => ⟨by unfold noB at hk; omega, fun hm => by have := hK1 k hm; unfold noB at hk; omega⟩
    repeat(first|refine lrun_ ?_|(refine lo_boxA rfl rfl ?_;intro _ _ _)|(refine lo_box1 rfl rfl rfl ?_;intro _ _ _)|(refine lo_alloc rfl ?_;intro _ _ _))
    exact ih (r + 1, v') w4 _ ⟨hlt, hog'⟩ (by simp only; omega) _ _ (by repeat (first | exact SubB.nil | refine SubB.cons rfl ?_)) (by repeat(first|exact MSub.refl|refine MSub.keep rfl ?_|exact MSub.nil|apply MSub.drop)) fun w' hw' => ⟨hlt, Ow.move hog' fun k hk hl => hw'.kp.block k hl (hk.elim (fun h => h.2) fun h => h.2)⟩
  · obtain rfl : r = n := by omega
    repeat(first|refine lrun_ ?_|(refine lo_boxA rfl rfl ?_;intro _ _ _)|(refine lo_box1 rfl rfl rfl ?_;intro _ _ _)|(refine lo_alloc rfl ?_;intro _ _ _))
    refine l_no rfl (by omega) ?_
    refine l_go (.exit rfl) ?_
    exact done b v hO _ (by repeat (first | exact SubB.nil | refine SubB.cons rfl ?_)) _ (by repeat(first|exact MSub.refl|refine MSub.keep rfl ?_|exact MSub.nil|apply MSub.drop))
end
section
variable {F F0 : Nat → Prop} {w B : World} {Ag A : Option Addr} {cg c : Nat} {g l : List (List Int)} {g6 g7 g11 : Nat} {p : Ps} {kd : Int} {i n : Nat}
set_option maxHeartbeats 8000000 in
theorem ln_tail (hG : Sl kRow F w (.slice Ag g.length cg) g) (hg0 : 0 < g.length) (hgl : g.length ≤ 4096) (hn : n ≤ 65536) (hn0 : 0 < n) (hL : Sl kRow F0 w (.slice A l.length c) l) (hl : l.length ≤ 4096) (hil : i ≤ l.length)
    (hro : runesM (l.take i ++ repL g n ++ l.drop i) ≤ 1099511627776) {R' : Value → World → Prop}
    (hRe : R' = (fun u w' => Kn w w' ∧ ∃ s, u = .tuple #[s, posV (fitsM (l.take i ++ repL g n ++ l.drop i) ((i : Int), (firstI ((l.take i ++ repL g n ++ l.drop i).getD i []) : Int))).2.1, .int .i64 (fitsM (l.take i ++ repL g n ++ l.drop i) ((i : Int), (firstI ((l.take i ++ repL g n ++ l.drop i).getD i []) : Int))).2.2] ∧ Ow kRow (noB w) (noB w) w' s (fitsM (l.take i ++ repL g n ++ l.drop i) ((i : Int), (firstI ((l.take i ++ repL g n ++ l.drop i).getD i []) : Int))).1)) :
    ∀ σ', SubB σ' [(0, .slice A l.length c), (4, .int .i64 n), (6, .pointer (some ⟨g6, 0, none⟩)), (7, .pointer (some ⟨g7, 0, none⟩)), (11, .pointer (some ⟨g11, 0, none⟩)), (19, .int .i64 i)] → ∀ M', MSub [(g11, cb [.int .i64 0, .int .i64 0] 24), (g7, cb [.int .i64 kd, .slice Ag g.length cg] 30), (g6, cb [.int .i64 p.1, .int .i64 p.2] 24)] M' →
      WL Try.prog Try.f22 [.code (bodyC Try.f22 [1, 1, 1, 1, 1, 1, 1, 1, 1, 1, 1, 1, 0, 1, 0, 1, 0, 1, 1]), .inBlock 3, .code (bodyC Try.f22 [1, 1, 1, 1, 1, 1, 1, 1, 1, 1, 1, 1, 1])] σ' w (fun _ => False) B (MK [(g11, cb [.int .i64 0, .int .i64 0] 24), (g7, cb [.int .i64 kd, .slice Ag g.length cg] 30), (g6, cb [.int .i64 p.1, .int .i64 p.2] 24)]) M' R' := by
  intro σ' hs M' hM
  refine WL.sub hs hM ?_
  have hrl := repL_len g n
  have hb1 : n * g.length ≤ 65536 * 4096 := Nat.mul_le_mul hn hgl
  have hb2 : 1 ≤ n * g.length := Nat.mul_pos hn0 hg0
  repeat(first|refine lrun_ ?_|(refine lo_boxA rfl rfl ?_;intro _ _ _)|(refine lo_box1 rfl rfl rfl ?_;intro _ _ _)|(refine lo_alloc rfl ?_;intro _ _ _))
  refine ln_loop hG hgl hn ?_ _ (by repeat (first | exact SubB.nil | refine SubB.cons rfl ?_)) _ (by repeat(first|exact MSub.refl|refine MSub.keep rfl ?_|exact MSub.nil|apply MSub.drop))
  intro b v hO σ' hs M' hM
  refine WL.sub hs hM ?_
  subst hRe
  have hS := hO.sl.e
  have hvb := fun k hk => (hO.block k hk).1.2
  repeat(first|refine lrun_ ?_|(refine lo_boxA rfl rfl ?_;intro _ _ _)|(refine lo_box1 rfl rfl rfl ?_;intro _ _ _)|(refine lo_alloc rfl ?_;intro _ _ _))
  refine lo_callM (n_call rfl) rfl (fun w' hw => put_calls (F2 := fun k => fre w (MK [(g11, cb [.int .i64 0, .int .i64 0] 24), (g7, cb [.int .i64 kd, .slice Ag g.length cg] 30), (g6, cb [.int .i64 p.1, .int .i64 p.2] 24)]) k ∨ fre w (MK [(g11, cb [.int .i64 0, .int .i64 0] 24), (g7, cb [.int .i64 kd, .slice Ag g.length cg] 30), (g6, cb [.int .i64 p.1, .int .i64 p.2] 24)]) k) (i0 := i) (i1 := i) (ys := repL g n) (Kn.sl hw.org hL) (hS.kp hw.kp hvb fun k hk => hk.elim (fun h => h.2) fun h => h.2) hil hil (by rw [hrl]; omega)) ?_
  intro w5 u w6 hw5 kn5 ko5 hO6
  obtain ⟨Ao, co, rfl, _, _⟩ := hO6.form
  have hs5 := hw5.org.size
  have hK5 : ∀ k, MK [(g11, cb [.int .i64 0, .int .i64 0] 24), (g7, cb [.int .i64 kd, .slice Ag g.length cg] 30), (g6, cb [.int .i64 p.1, .int .i64 p.2] 24)] k → k < w5.heap.size := fun k hm => hw5.lt hm
  have hF : ∀ w', Kp (MK [(g11, cb [.int .i64 0, .int .i64 0] 24), (g7, cb [.int .i64 kd, .slice Ag g.length cg] 30), (g6, cb [.int .i64 p.1, .int .i64 p.2] 24)]) w6 w' → Ow kRow (noB w5) (fun k => noB w5 k ∨ fre w (MK [(g11, cb [.int .i64 0, .int .i64 0] 24), (g7, cb [.int .i64 kd, .slice Ag g.length cg] 30), (g6, cb [.int .i64 p.1, .int .i64 p.2] 24)]) k ∨ fre w (MK [(g11, cb [.int .i64 0, .int .i64 0] 24), (g7, cb [.int .i64 kd, .slice Ag g.length cg] 30), (g6, cb [.int .i64 p.1, .int .i64 p.2] 24)]) k) w' (.slice Ao (l.take i ++ repL g n ++ l.drop i).length co) (l.take i ++ repL g n ++ l.drop i) := fun w' hk => Kp.ow hk hO6 (fun k hk hm => by have := hK5 k hm; unfold noB at hk; omega) (fun k hk hm => hk.elim (fun hk => by have := hK5 k hm; unfold noB at hk; omega) fun hk => hk.elim (fun h => h.2 hm) fun h => h.2 hm)
  have hol : i < (l.take i ++ repL g n ++ l.drop i).length := by rw [List.length_append, List.length_append, List.length_take, hrl, Nat.min_eq_left hil]; omega
  clear hO hS hO6
  repeat(first|refine lrun_ ?_|(refine lo_boxA rfl rfl ?_;intro _ _ _)|(refine lo_box1 rfl rfl rfl ?_;intro _ _ _)|(refine lo_alloc rfl ?_;intro _ _ _))
  refine lo_call (n_call rfl) rfl (fun w' hw => first_calls (hF w' hw.kp).sl hol) ?_
  refine lo_callM (n_call rfl) rfl (fun w' hw => fits_calls (p := ((i : Int), _)) (hF w' hw.kp) hro) ?_
  rintro w7 _ w8 hw7 kn7 ko7 ⟨so, rfl, hOs⟩
  repeat(first|refine lrun_ ?_|(refine lo_boxA rfl rfl ?_;intro _ _ _)|(refine lo_box1 rfl rfl rfl ?_;intro _ _ _)|(refine lo_alloc rfl ?_;intro _ _ _))
  refine l_retR3 rfl (by repeat(first|exact LRes.nil|refine LRes.tmp rfl ?_|refine LRes.agg rfl (by(repeat(first|exact MIn.hd|refine MIn.tl ?_));done) (by rfl) (by rfl) ?_|refine LRes.one rfl (by(repeat(first|exact MIn.hd|refine MIn.tl ?_));done) (by rfl) ?_)) fun w9 hw => ⟨hw.org, _, rfl, ?_⟩
  exact (Kp.ow hw.kp hOs (fun k hk hm => by have := hK5 k hm; unfold noB at hk; omega) (fun k hk hm => hk.elim (fun hk => by have := hK5 k hm; unfold noB at hk; omega) fun hk => hk.elim (fun h => h.2 hm) fun h => h.2 hm)).mono (fun k hk _ => by unfold noB at *; omega) fun k hk _ => hk.elim (fun hk => by unfold noB at *; omega) fun hk => hk.elim (fun h => h.1) fun h => h.1
end
end Go.Ink

set_option linter.unusedVariables false
set_option linter.unusedSimpArgs false
namespace Go.Ink
open Go Go.Proofs Go.RowKit

theorem runes_app (a b : List (List Int)) : runesM (a ++ b) = runesM a + runesM b := by unfold runesM; rw [List.map_append, List.sum_append]
theorem runes_cons (x : List Int) (b : List (List Int)) : runesM (x :: b) = x.length + runesM b := by unfold runesM; rw [List.map_cons, List.sum_cons]
theorem runes_nil : runesM [] = 0 := rfl
theorem runes_mem {l : List (List Int)} {x : List Int} (h : x ∈ l) : x.length ≤ runesM l := by
  induction l with
  | nil => cases h
  | cons a l ih =>
    rw [runes_cons]
    rcases List.mem_cons.1 h with rfl | h
    · omega
    · have := ih h; omega
theorem runes_getD (l : List (List Int)) (j : Nat) : (l.getD j []).length ≤ runesM l := by
  by_cases h : j < l.length
  · rw [List.getD_eq_getElem?_getD, List.getElem?_eq_getElem h]; exact runes_mem (List.getElem_mem h)
  · rw [List.getD_eq_getElem?_getD, List.getElem?_eq_none (by omega)]; exact Nat.zero_le _
theorem runes_tk (l : List (List Int)) (i : Nat) : runesM (l.take i) ≤ runesM l := runes_take_le l i
theorem runes_dr (l : List (List Int)) (i : Nat) : runesM (l.drop i) ≤ runesM l := by
  have := runes_app (l.take i) (l.drop i)
  rw [List.take_append_drop] at this
  omega
theorem runes_repL (g : List (List Int)) : ∀ n, runesM (repL g n) = n * runesM g
  | 0 => by simp [repL, runesM]
  | n + 1 => by rw [repL, runes_app, runes_repL g n, Nat.add_mul]; omega
theorem ch_runes (s : List (List Int) × List Int) (g : List (List Int)) (hg : g ≠ []) : runesM (chStep s g).1 + (chStep s g).2.length = runesM s.1 + s.2.length + runesM g := by
  obtain ⟨a, t, rfl⟩ := List.exists_cons_of_ne_nil hg
  unfold chStep
  rw [List.drop_one, List.tail_cons, List.getD_cons_zero, runes_cons]
  split
  · next h => subst h; rw [List.length_append, runes_nil]; simp only; omega
  · next h =>
    have e : runesM t = runesM t.dropLast + (t.getLastD []).length := by
      conv => lhs; rw [← List.dropLast_concat_getLast h]
      rw [runes_app, runes_cons, runes_nil, List.getLastD_eq_getLast?, List.getLast?_eq_some_getLast h]
      rfl
    simp only
    rw [runes_app, runes_app, runes_cons, runes_nil, List.length_append, e]
    omega
theorem chM_runes {x : List Int} {g : List (List Int)} (hg : g ≠ []) : ∀ r, runesM (chM x g r).1 + (chM x g r).2.length = x.length + r * runesM g
  | 0 => by show runesM [] + x.length = _; rw [runes_nil]; omega
  | r + 1 => by
    have := chM_runes (x := x) hg r
    show runesM (chStep _ _).1 + (chStep _ _).2.length = _
    rw [ch_runes _ _ hg, this, Nat.add_mul]
    omega
theorem runes_set {l : List (List Int)} {x : List Int} : ∀ {j : Nat}, runesM (l.set j x) ≤ runesM l + x.length := by
  induction l with
  | nil => intro j; rw [List.set_nil, runes_nil]; omega
  | cons a l ih =>
    intro j
    cases j with
    | zero => rw [List.set_cons_zero, runes_cons, runes_cons]; omega
    | succ j => rw [List.set_cons_succ, runes_cons, runes_cons]; have := ih (j := j); omega
theorem blk_runes {l : List (List Int)} {line col : Nat} {rows : List (List Int)} {wide n c : Nat} (hl : line ≤ l.length) (hk : ∀ j, (l.getD j []).length ≤ c) (hc : col ≤ c) (hw : ∀ i, (rows.getD i []).length ≤ wide) : ∀ i, runesM (blkM l line col rows wide n i) ≤ runesM l + i * (c + n * wide)
  | 0 => by show runesM l ≤ _; omega
  | i + 1 => by
    have ih := blk_runes (n := n) hl hk hc hw i
    have hi := blk_inv (col := col) (rows := rows) (wide := wide) (n := n) hl i
    have e : (blkM l line col rows wide n (i + 1)) = blkStep (blkM l line col rows wide n i) (line + i) col (rows.getD i []) wide n := rfl
    rw [e]
    unfold blkStep
    refine Nat.le_trans runes_set ?_
    generalize ho2 : (if line + i = (blkM l line col rows wide n i).length then blkM l line col rows wide n i ++ [[]] else blkM l line col rows wide n i) = o2
    have h1 : runesM o2 ≤ runesM l + i * (c + n * wide) := by
      rw [← ho2]; split
      · rw [runes_app, runes_cons, runes_nil]; simp only [List.length_nil]; omega
      · exact ih
    have h2 : (o2.getD (line + i) []).length ≤ c := by
      rw [← ho2]; split
      · next h => rw [List.getD_eq_getElem?_getD, List.getElem?_append_right (by omega), h, Nat.sub_self]; exact Nat.zero_le _
      · rw [hi.2 _ (Nat.le_refl _)]; exact hk _
    have h3 := padM_len (o2.getD (line + i) []) col
    have h4 := repX_len (padM (rows.getD i []) wide) n
    have h5 : (padM (rows.getD i []) wide).length = wide := by have := hw i; rw [padM_len]; omega
    rw [h5] at h4
    rw [List.length_append, List.length_append, h4, List.length_take, List.length_drop, Nat.add_mul]
    omega
/-- What a register put in leaves, and where one is then. -/
def pasteOut (l : List (List Int)) (i k col : Nat) (kd : Int) (g : List (List Int)) (behind : Bool) (wide n : Nat) : List (List Int) × Ps :=
  if kd = 1 then
    let i' := if behind = true then i + 1 else i
    let o := l.take i' ++ repL g n ++ l.drop i'
    (o, ((i' : Int), (firstI (o.getD i' []) : Int)))
  else if kd = 2 then
    let o := blkM l i col g wide n g.length
    (o, clipM o ((i : Int), (col : Int)))
  else
    let s := chM ((l.getD i []).take col) g n
    let o := l.take i ++ (s.1 ++ [s.2 ++ (l.getD i []).drop col]) ++ l.drop (i + 1)
    (o, clipM o ((i : Int), if 0 < s.1.length then (col : Int) else if 0 < (g.getD 0 []).length then (s.2.length : Int) - 1 else (k : Int)))
/-- The bounds under which it is shown. -/
structure PsOk (l g : List (List Int)) (i q wd m : Nat) : Prop where
  ll : l.length ≤ 4096
  lr : runesM l ≤ 1048576
  gl : g.length ≤ 4096
  gr : runesM g ≤ 1048576
  g0 : 0 < g.length
  il : i < l.length
  col : q ≤ (l.getD i []).length
  wide : ∀ j, (g.getD j []).length ≤ wd
  wl : wd ≤ 1048576
  n : m ≤ 65536
  n0 : 0 < m
  nw : m * wd ≤ 1048576
theorem SlN {F : Nat → Prop} {w : World} {v : Value} {xs : List Int} (h : Sl kRune F w v xs) (hne : xs ≠ []) : ∃ ad c, v = .slice (some ad) xs.length c := by
  obtain ⟨A, c, cells, e, h1, h2, h3, h4, h5⟩ := h
  rcases h5 with h5 | ⟨ad, h5, _⟩
  · exact absurd h5 hne
  · subst h5; exact ⟨ad, c, e⟩
section
variable {F F0 : Nat → Prop} {w B : World} {Ag A : Option Addr} {cg c : Nat} {g l : List (List Int)} {g6 g7 g11 : Nat} {kd : Int} {i k col wide n : Nat} {behind : Bool}
set_option maxHeartbeats 8000000 in
theorem ps_tail (hp : PsOk l g i col wide n) (hG : Sl kRow F w (.slice Ag g.length cg) g) (hL : Sl kRow F0 w (.slice A l.length c) l) (hk : k ≤ 1048576) {R' : Value → World → Prop}
    (hRe : R' = (fun u w' => Kn w w' ∧ ∃ s, u = .tuple #[s, posV (fitsM (pasteOut l i k col kd g behind wide n).1 (pasteOut l i k col kd g behind wide n).2).2.1, .int .i64 (fitsM (pasteOut l i k col kd g behind wide n).1 (pasteOut l i k col kd g behind wide n).2).2.2] ∧ Ow kRow (noB w) (noB w) w' s (fitsM (pasteOut l i k col kd g behind wide n).1 (pasteOut l i k col kd g behind wide n).2).1)) :
    ∀ σ', SubB σ' [(0, .slice A l.length c), (3, .bool behind), (4, .int .i64 n), (6, .pointer (some ⟨g6, 0, none⟩)), (7, .pointer (some ⟨g7, 0, none⟩)), (11, .pointer (some ⟨g11, 0, none⟩)), (13, .int .i64 wide), (18, .int .i64 col)] → ∀ M', MSub [(g11, cb [.int .i64 0, .int .i64 0] 24), (g7, cb [.int .i64 kd, .slice Ag g.length cg] 30), (g6, cb [.int .i64 i, .int .i64 k] 24)] M' →
      WL Try.prog Try.f22 [.code (bodyC Try.f22 [1, 1, 1, 1, 1, 1, 1, 1, 1, 1, 1, 1])] σ' w (fun _ => False) B (MK [(g11, cb [.int .i64 0, .int .i64 0] 24), (g7, cb [.int .i64 kd, .slice Ag g.length cg] 30), (g6, cb [.int .i64 i, .int .i64 k] 24)]) M' R' := by
  intro σ' hs M' hM
  refine WL.sub hs hM ?_
  have hll := hp.ll
  have hil := hp.il
  have hgl := hp.gl
  have hg0 := hp.g0
  have hcol := hp.col
  have hnn := hp.n
  have hkl := fun j => Nat.le_trans (runes_getD l j) hp.lr
  have hrl := hkl i
  unfold pasteOut at hRe
  by_cases h1 : kd = 1
  · rw [if_pos h1] at hRe
    have hi' : (if behind = true then i + 1 else i) ≤ l.length := by split <;> omega
    have hro : runesM (l.take (if behind = true then i + 1 else i) ++ repL g n ++ l.drop (if behind = true then i + 1 else i)) ≤ 1099511627776 := by
      rw [runes_app, runes_app, runes_repL]
      have a1 := runes_tk l (if behind = true then i + 1 else i)
      have a2 := runes_dr l (if behind = true then i + 1 else i)
      have a3 : n * runesM g ≤ 65536 * 1048576 := Nat.mul_le_mul hp.n hp.gr
      have := hp.lr
      omega
    repeat(first|refine lrun_ ?_|(refine lo_boxA rfl rfl ?_;intro _ _ _)|(refine lo_box1 rfl rfl rfl ?_;intro _ _ _)|(refine lo_alloc rfl ?_;intro _ _ _))
    refine l_yes rfl h1 ?_
    repeat(first|refine lrun_ ?_|(refine lo_boxA rfl rfl ?_;intro _ _ _)|(refine lo_box1 rfl rfl rfl ?_;intro _ _ _)|(refine lo_alloc rfl ?_;intro _ _ _))
    cases behind with
    | true =>
      refine l_true rfl ?_
      refine l_region ?_;(repeat(first|refine lops_ ?_|(refine lo_boxA rfl rfl ?_;intro _ _ _)|(refine lo_box1 rfl rfl rfl ?_;intro _ _ _)|(refine lo_alloc rfl ?_;intro _ _ _)));refine lo_nil ?_
      exact ln_tail (p := ((i : Int), (k : Int))) hG hg0 hgl hp.n hp.n0 hL hll hi' hro hRe _ (by repeat (first | exact SubB.nil | refine SubB.cons rfl ?_)) _ (by repeat(first|exact MSub.refl|refine MSub.keep rfl ?_|exact MSub.nil|apply MSub.drop))
    | false =>
      refine l_false rfl ?_
      refine l_go .skip ?_
      exact ln_tail (p := ((i : Int), (k : Int))) hG hg0 hgl hp.n hp.n0 hL hll hi' hro hRe _ (by repeat (first | exact SubB.nil | refine SubB.cons rfl ?_)) _ (by repeat(first|exact MSub.refl|refine MSub.keep rfl ?_|exact MSub.nil|apply MSub.drop))
  rw [if_neg h1] at hRe
  by_cases h2 : kd = 2
  · rw [if_pos h2] at hRe
    dsimp only at hRe
    have hro : runesM (blkM l i col g wide n g.length) ≤ 1099511627776 := by
      have a1 := blk_runes (n := n) (c := 1048576) (Nat.le_of_lt hil) hkl (Nat.le_trans hcol hrl) hp.wide g.length
      have a2 : g.length * (1048576 + n * wide) ≤ 4096 * 2097152 := Nat.mul_le_mul hgl (by have := hp.nw; omega)
      have := hp.lr
      omega
    subst hRe
    repeat(first|refine lrun_ ?_|(refine lo_boxA rfl rfl ?_;intro _ _ _)|(refine lo_box1 rfl rfl rfl ?_;intro _ _ _)|(refine lo_alloc rfl ?_;intro _ _ _))
    refine l_no rfl h1 ?_
    repeat(first|refine lrun_ ?_|(refine lo_boxA rfl rfl ?_;intro _ _ _)|(refine lo_box1 rfl rfl rfl ?_;intro _ _ _)|(refine lo_alloc rfl ?_;intro _ _ _))
    refine l_yes rfl h2 ?_
    repeat(first|refine lrun_ ?_|(refine lo_boxA rfl rfl ?_;intro _ _ _)|(refine lo_box1 rfl rfl rfl ?_;intro _ _ _)|(refine lo_alloc rfl ?_;intro _ _ _))
    refine lo_callM (n_call rfl) rfl (fun w' hw => block_calls (Kn.sl hw.org hL) (Kn.sl hw.org hG) hil hll hgl hkl hp.wide (by omega) hp.wl (by omega) hp.nw) ?_
    intro w5 u w6 hw5 kn5 ko5 hO6
    obtain ⟨Ao, co, rfl, _, _⟩ := hO6.form
    have hs5 := hw5.org.size
    have hK5 : ∀ k', MK [(g11, cb [.int .i64 0, .int .i64 0] 24), (g7, cb [.int .i64 kd, .slice Ag g.length cg] 30), (g6, cb [.int .i64 i, .int .i64 k] 24)] k' → k' < w5.heap.size := fun k' hm => hw5.lt hm
    have hF : ∀ w', Kp (MK [(g11, cb [.int .i64 0, .int .i64 0] 24), (g7, cb [.int .i64 kd, .slice Ag g.length cg] 30), (g6, cb [.int .i64 i, .int .i64 k] 24)]) w6 w' → Ow kRow (noB w5) (noB w5) w' (.slice Ao (blkM l i col g wide n g.length).length co) (blkM l i col g wide n g.length) := fun w' hk => Kp.ow hk hO6 (fun k' hk hm => by have := hK5 k' hm; unfold noB at hk; omega) fun k' hk hm => by have := hK5 k' hm; unfold noB at hk; omega
    clear hO6
    repeat(first|refine lrun_ ?_|(refine lo_boxA rfl rfl ?_;intro _ _ _)|(refine lo_box1 rfl rfl rfl ?_;intro _ _ _)|(refine lo_alloc rfl ?_;intro _ _ _))
    refine lo_call (n_call rfl) rfl (fun w' hw => clipP_calls (p := ((i : Int), (col : Int))) (hF w' hw.kp).sl (by unfold P64; simp only; omega)) ?_
    refine lo_callM (n_call rfl) rfl (fun w' hw => fits_calls (hF w' hw.kp) hro) ?_
    rintro w7 _ w8 hw7 kn7 ko7 ⟨so, rfl, hOs⟩
    repeat(first|refine lrun_ ?_|(refine lo_boxA rfl rfl ?_;intro _ _ _)|(refine lo_box1 rfl rfl rfl ?_;intro _ _ _)|(refine lo_alloc rfl ?_;intro _ _ _))
    refine l_retR3 rfl (by repeat(first|exact LRes.nil|refine LRes.tmp rfl ?_|refine LRes.agg rfl (by(repeat(first|exact MIn.hd|refine MIn.tl ?_));done) (by rfl) (by rfl) ?_|refine LRes.one rfl (by(repeat(first|exact MIn.hd|refine MIn.tl ?_));done) (by rfl) ?_)) fun w9 hw => ⟨hw.org, _, rfl, ?_⟩
    exact (Kp.ow hw.kp hOs (fun k' hk hm => by have := hK5 k' hm; unfold noB at hk; omega) fun k' hk hm => by have := hK5 k' hm; unfold noB at hk; omega).mono (fun k' hk _ => by unfold noB at *; omega) fun k' hk _ => by unfold noB at *; omega
  rw [if_neg h2] at hRe
  dsimp only at hRe
  obtain ⟨A', c', ad, rV, rc, ra, e, hR⟩ := hL.rws
  cases e
  obtain ⟨Ag', cg', adg, rVg, rcg, rag, e, hRg⟩ := hG.rws
  cases e
  have hx : ((l.getD i []).take col).length = col := by rw [List.length_take]; omega
  have hlen := ch_len (x := (l.getD i []).take col) (g := g) n
  have htot := chM_runes (x := (l.getD i []).take col) (List.ne_nil_of_length_pos hg0) n
  have hb1 : n * g.length ≤ 65536 * 4096 := Nat.mul_le_mul hnn hgl
  have hg00 := runes_getD g 0
  have hgr := hp.gr
  have hb2 : n * ((g.getD 0 []).length + runesM g) ≤ 65536 * 2097152 := Nat.mul_le_mul hnn (by omega)
  have hb3 : n * runesM g ≤ 65536 * 1048576 := Nat.mul_le_mul hnn hp.gr
  have hrcap := hR.rcap i hil
  repeat(first|refine lrun_ ?_|(refine lo_boxA rfl rfl ?_;intro _ _ _)|(refine lo_box1 rfl rfl rfl ?_;intro _ _ _)|(refine lo_alloc rfl ?_;intro _ _ _))
  refine l_no rfl h1 ?_
  repeat(first|refine lrun_ ?_|(refine lo_boxA rfl rfl ?_;intro _ _ _)|(refine lo_box1 rfl rfl rfl ?_;intro _ _ _)|(refine lo_alloc rfl ?_;intro _ _ _))
  refine l_no rfl h2 ?_
  refine l_go .skip ?_
  repeat(first|refine lrun_ ?_|(refine lo_boxA rfl rfl ?_;intro _ _ _)|(refine lo_box1 rfl rfl rfl ?_;intro _ _ _)|(refine lo_alloc rfl ?_;intro _ _ _))
  refine lo_callM (n_call rfl) rfl (fun w' hw => clone_calls ((Kn.sl hw.org (hR.rs i hil)).pre hcol (by omega))) ?_
  intro w5 u w6 hw5 kn5 ko5 hO6
  have hs5 := hw5.org.size
  have hK5 : ∀ k', MK [(g11, cb [.int .i64 0, .int .i64 0] 24), (g7, cb [.int .i64 kd, .slice Ag g.length cg] 30), (g6, cb [.int .i64 i, .int .i64 k] 24)] k' → k' < w5.heap.size := fun k' hm => hw5.lt hm
  obtain ⟨Au, cu, rfl, _, _⟩ := hO6.form
  have hub := hO6.block
  refine lo_lit (cs := [.slice Au ((l.getD i []).take col).length cu]) rfl (by decide) (by kernel_rfl) rfl ?_
  intro g9 hg9 hg9'
  repeat(first|refine lrun_ ?_|(refine lo_boxA rfl rfl ?_;intro _ _ _)|(refine lo_box1 rfl rfl rfl ?_;intro _ _ _)|(refine lo_alloc rfl ?_;intro _ _ _))
  refine l_baseM (M3 := [(g11, cb [.int .i64 0, .int .i64 0] 24), (g7, cb [.int .i64 kd, .slice Ag g.length cg] 30), (g6, cb [.int .i64 i, .int .i64 k] 24)]) (by repeat(first|exact MSub.refl|refine MSub.keep rfl ?_|exact MSub.nil|apply MSub.drop)) fun wb hwb => ?_
  have hb9 := hwb.mem g9 _ .hd
  have hzb : Og kRune w wb (MK [(g11, cb [.int .i64 0, .int .i64 0] 24), (g7, cb [.int .i64 kd, .slice Ag g.length cg] 30), (g6, cb [.int .i64 i, .int .i64 k] 24)]) (fun _ => False) (.slice Au ((l.getD i []).take col).length cu) ((l.getD i []).take col) := (Kp.ow hwb.kp hO6 (fun k' hk hm => by have := hK5 k' hm; unfold noB at hk; omega) fun _ h => h.elim).mono (fun k' hk _ => ⟨by unfold noB at hk; omega, fun hm => by have := hK5 k' hm; unfold noB at hk; omega⟩) fun _ h _ => h
  have hg9m : ¬ MK [(g11, cb [.int .i64 0, .int .i64 0] 24), (g7, cb [.int .i64 kd, .slice Ag g.length cg] 30), (g6, cb [.int .i64 i, .int .i64 k] 24)] g9 := fun hm => by have := hK5 g9 hm; have := kn5.size; omega
  have hI : NowI w wb (MK [(g11, cb [.int .i64 0, .int .i64 0] 24), (g7, cb [.int .i64 kd, .slice Ag g.length cg] 30), (g6, cb [.int .i64 i, .int .i64 k] 24)]) ⟨g9, 0, none⟩ 1 Au cu [] [] ((l.getD i []).take col) := ⟨⟨_, raw_els (xs := [.slice Au ((l.getD i []).take col).length cu]) (fun y hy => by rcases List.mem_cons.1 hy with rfl | hy; exact rfl; cases hy), by show 1 * 24 ≤ 140737488355328; decide, .inr ⟨g9, 0, 1, _, _, rfl, ⟨hg9, hg9m⟩, hb9, Nat.le_refl _, by decide, Nat.le_refl _, fun j u hu => by simpa using hu⟩⟩, hzb, rfl, fun e => by have := (hub g9 e).2; omega⟩
  clear hb9 hzb hO6 hwb hw5 kn5 ko5
  refine ch_loop (p := ((i : Int), (k : Int))) hRg hg0 hgl (by omega) (by omega) (by omega) hnn hI ?_ _ (by repeat (first | exact SubB.nil | refine SubB.cons rfl ?_)) _ (by repeat(first|exact MSub.refl|refine MSub.keep rfl ?_|exact MSub.nil|apply MSub.drop))
  intro b an' cn' cz' Az' cs' hI2 σ' hs M' hM
  refine ch_tail hRg hg0 hL (hR.rs i hil) hil hll hcol (by omega) (by omega) (by omega) ?_ hI2 (by unfold P64; simp only; omega) hRe σ' hs M' hM
  rw [runes_app, runes_app, runes_app, runes_cons, runes_nil, List.length_append, List.length_drop]
  have a1 := runes_tk l i
  have a2 := runes_dr l (i + 1)
  have a3 := hp.lr
  omega
end
end Go.Ink

set_option linter.unusedVariables false
set_option linter.unusedSimpArgs false
namespace Go.Ink
open Go Go.Proofs Go.RowKit

def wideM (g : List (List Int)) : Nat := g.foldl (fun m x => if m < x.length then x.length else m) 0
def copiedM (kd : Int) (g : List (List Int)) : Nat := if kd = 1 then sizeM g + 1 else if kd = 2 then wideM g * g.length else sizeM g
/-- What is told: lines, a place, an error. -/
abbrev PsR (w : World) (x : List (List Int) × Ps × Int) : Value → World → Prop := fun u w' => Kn w w' ∧ ∃ s, u = .tuple #[s, posV x.2.1, .int .i64 x.2.2] ∧ Ow kRow (noB w) (noB w) w' s x.1
/-- Paste of a register that may be put in. -/
def pasteR (l : List (List Int)) (p : Ps) (kd : Int) (g : List (List Int)) (behind : Bool) (n : Int) : List (List Int) × Ps × Int :=
  if l = [] then ([], (0, 0), 2)
  else if 0 < copiedM kd g ∧ ((65536 / copiedM kd g : Nat) : Int) < (if 1 < n then n else 1) then ([], (0, 0), 3)
  else
    let q := clipM l p
    let r := pasteOut l q.1.toNat q.2.toNat (q.2.toNat + if behind = true ∧ 0 < (l.getD q.1.toNat []).length then 1 else 0) kd g behind (wideM g) (if copiedM kd g = 0 then 1 else (if 1 < n then n else 1).toNat)
    fitsM r.1 r.2
theorem wide_succ {g : List (List Int)} {j : Nat} (h : j < g.length) : wideM (g.take (j + 1)) = if wideM (g.take j) < (g.getD j []).length then (g.getD j []).length else wideM (g.take j) := by
  unfold wideM
  rw [List.take_succ_eq_append_getElem h, List.foldl_append, List.getD_eq_getElem?_getD, List.getElem?_eq_getElem h]
  rfl
theorem wide_fold : ∀ (g : List (List Int)) (m : Nat), m ≤ g.foldl (fun m x => if m < x.length then x.length else m) m ∧ (∀ x ∈ g, x.length ≤ g.foldl (fun m x => if m < x.length then x.length else m) m) ∧ g.foldl (fun m x => if m < x.length then x.length else m) m ≤ m + runesM g
  | [], m => ⟨Nat.le_refl _, (fun x hx => by cases hx), by simp [runesM]⟩
  | a :: g, m => by
    obtain ⟨h1, h2, h3⟩ := wide_fold g (if m < a.length then a.length else m)
    rw [List.foldl_cons, runes_cons]
    refine ⟨?_, fun x hx => ?_, ?_⟩
    · refine Nat.le_trans ?_ h1
      split <;> omega
    · rcases List.mem_cons.1 hx with rfl | hx
      · refine Nat.le_trans ?_ h1
        split <;> omega
      · exact h2 x hx
    · refine Nat.le_trans h3 ?_
      split <;> omega
theorem wide_le (g : List (List Int)) (j : Nat) : (g.getD j []).length ≤ wideM g := by
  by_cases h : j < g.length
  · rw [List.getD_eq_getElem?_getD, List.getElem?_eq_getElem h]; exact (wide_fold g 0).2.1 _ (List.getElem_mem h)
  · rw [List.getD_eq_getElem?_getD, List.getElem?_eq_none (by omega)]; exact Nat.zero_le _
theorem wide_runes (g : List (List Int)) : wideM g ≤ runesM g := by have := (wide_fold g 0).2.2; unfold wideM; omega
theorem wide_copied {kd : Int} {g : List (List Int)} (h : 0 < g.length) : wideM g ≤ copiedM kd g := by
  have h1 := wide_runes g
  unfold copiedM sizeM
  split
  · omega
  split
  · exact Nat.le_mul_of_pos_right _ h
  · omega
section
variable {F F0 : Nat → Prop} {w B : World} {Ag A : Option Addr} {cg c : Nat} {g l : List (List Int)} {g6 g7 g11 : Nat} {kd : Int} {p : Ps} {n : Int} {behind : Bool}
set_option maxHeartbeats 8000000 in
theorem ps_col (hl : l.length ≤ 4096) (hlr : runesM l ≤ 1048576) (hgl : g.length ≤ 4096) (hgr : runesM g ≤ 1048576) (hg0 : 0 < g.length) (hG : Sl kRow F w (.slice Ag g.length cg) g) (hL : Sl kRow F0 w (.slice A l.length c) l) {i k m : Nat} (hi : i < l.length) (hk : (l.getD i []).length = 0 ∧ k = 0 ∨ k < (l.getD i []).length) (hm : m ≤ 65536) (hm0 : 0 < m) (hmw : m * wideM g ≤ 1048576) {R' : Value → World → Prop}
    (hRe : R' = PsR w (fitsM (pasteOut l i k (k + if behind = true ∧ 0 < (l.getD i []).length then 1 else 0) kd g behind (wideM g) m).1 (pasteOut l i k (k + if behind = true ∧ 0 < (l.getD i []).length then 1 else 0) kd g behind (wideM g) m).2)) :
    ∀ σ', SubB σ' [(0, .slice A l.length c), (3, .bool behind), (4, .int .i64 m), (6, .pointer (some ⟨g6, 0, none⟩)), (7, .pointer (some ⟨g7, 0, none⟩)), (11, .pointer (some ⟨g11, 0, none⟩)), (13, .int .i64 (wideM g : Nat))] → ∀ M', MSub [(g11, cb [.int .i64 0, .int .i64 0] 24), (g7, cb [.int .i64 kd, .slice Ag g.length cg] 30), (g6, cb [.int .i64 i, .int .i64 k] 24)] M' →
      WL Try.prog Try.f22 [.code (bodyC Try.f22 [1, 1, 1, 1, 1, 1, 1, 1, 1, 1])] σ' w (fun _ => False) B (MK [(g11, cb [.int .i64 0, .int .i64 0] 24), (g7, cb [.int .i64 kd, .slice Ag g.length cg] 30), (g6, cb [.int .i64 i, .int .i64 k] 24)]) M' R' := by
  intro σ' hs M' hM
  refine WL.sub hs hM ?_
  obtain ⟨A', c', ad, rV, rc, ra, e, hR⟩ := hL.rws
  cases e
  have hrl := Nat.le_trans (runes_getD l i) hlr
  have hlen := hR.len
  have hw := wide_runes g
  have hok : ∀ q, q ≤ (l.getD i []).length → PsOk l g i q (wideM g) m := fun q hq => ⟨hl, hlr, hgl, hgr, hg0, hi, hq, wide_le g, by omega, hm, hm0, hmw⟩
  have hkb : k ≤ 1048576 := by omega
  cases behind with
  | false =>
    rw [if_neg (fun h => by cases h.1)] at hRe
    repeat(first|refine lrun_ ?_|(refine lo_boxA rfl rfl ?_;intro _ _ _)|(refine lo_box1 rfl rfl rfl ?_;intro _ _ _)|(refine lo_alloc rfl ?_;intro _ _ _))
    refine l_false rfl ?_
    refine l_go .skip ?_
    exact ps_tail (hok _ (by omega)) hG hL hkb hRe _ (by repeat (first | exact SubB.nil | refine SubB.cons rfl ?_)) _ (by repeat(first|exact MSub.refl|refine MSub.keep rfl ?_|exact MSub.nil|apply MSub.drop))
  | true =>
    by_cases h0 : 0 < (l.getD i []).length
    · rw [if_pos ⟨rfl, h0⟩] at hRe
      repeat(first|refine lrun_ ?_|(refine lo_boxA rfl rfl ?_;intro _ _ _)|(refine lo_box1 rfl rfl rfl ?_;intro _ _ _)|(refine lo_alloc rfl ?_;intro _ _ _))
      refine l_yes rfl (Int.ofNat_lt.2 h0) ?_
      refine l_region ?_;(repeat(first|refine lops_ ?_|(refine lo_boxA rfl rfl ?_;intro _ _ _)|(refine lo_box1 rfl rfl rfl ?_;intro _ _ _)|(refine lo_alloc rfl ?_;intro _ _ _)));refine lo_nil ?_
      exact ps_tail (hok _ (by omega)) hG hL hkb hRe _ (by repeat (first | exact SubB.nil | refine SubB.cons rfl ?_)) _ (by repeat(first|exact MSub.refl|refine MSub.keep rfl ?_|exact MSub.nil|apply MSub.drop))
    · rw [if_neg (fun h => h0 h.2)] at hRe
      repeat(first|refine lrun_ ?_|(refine lo_boxA rfl rfl ?_;intro _ _ _)|(refine lo_box1 rfl rfl rfl ?_;intro _ _ _)|(refine lo_alloc rfl ?_;intro _ _ _))
      refine l_no rfl (fun h => h0 (Int.ofNat_lt.1 h)) ?_
      refine l_go .skip ?_
      exact ps_tail (hok _ (by omega)) hG hL hkb hRe _ (by repeat (first | exact SubB.nil | refine SubB.cons rfl ?_)) _ (by repeat(first|exact MSub.refl|refine MSub.keep rfl ?_|exact MSub.nil|apply MSub.drop))
set_option maxHeartbeats 8000000 in
theorem ps_mid (hl : l.length ≤ 4096) (hlr : runesM l ≤ 1048576) (hgl : g.length ≤ 4096) (hgr : runesM g ≤ 1048576) (hg0 : 0 < g.length) (hG : Sl kRow F w (.slice Ag g.length cg) g) (hL : Sl kRow F0 w (.slice A l.length c) l) (hp : P64 p) (hn : -9223372036854775808 ≤ n ∧ n ≤ 9223372036854775807) {R' : Value → World → Prop} (hRe : R' = PsR w (pasteR l p kd g behind n)) :
    ∀ σ', SubB σ' [(0, .slice A l.length c), (3, .bool behind), (4, .int .i64 n), (6, .pointer (some ⟨g6, 0, none⟩)), (7, .pointer (some ⟨g7, 0, none⟩)), (11, .pointer (some ⟨g11, 0, none⟩)), (13, .int .i64 (wideM g : Nat))] → ∀ M', MSub [(g11, cb [.int .i64 0, .int .i64 0] 24), (g7, cb [.int .i64 kd, .slice Ag g.length cg] 30), (g6, cb [.int .i64 p.1, .int .i64 p.2] 24)] M' →
      WL Try.prog Try.f22 [.code (bodyC Try.f22 [1, 1, 1, 1, 1])] σ' w (fun _ => False) B (MK [(g11, cb [.int .i64 0, .int .i64 0] 24), (g7, cb [.int .i64 kd, .slice Ag g.length cg] 30), (g6, cb [.int .i64 p.1, .int .i64 p.2] 24)]) M' R' := by
  intro σ' hs M' hM
  refine WL.sub hs hM ?_
  unfold pasteR at hRe
  by_cases h0 : l = []
  · rw [if_pos h0] at hRe
    subst hRe
    have h0' : l.length = 0 := by rw [h0]; rfl
    repeat(first|refine lrun_ ?_|(refine lo_boxA rfl rfl ?_;intro _ _ _)|(refine lo_box1 rfl rfl rfl ?_;intro _ _ _)|(refine lo_alloc rfl ?_;intro _ _ _))
    refine l_yes rfl (by omega) ?_
    repeat(first|refine lrun_ ?_|(refine lo_boxA rfl rfl ?_;intro _ _ _)|(refine lo_box1 rfl rfl rfl ?_;intro _ _ _)|(refine lo_alloc rfl ?_;intro _ _ _))
    exact l_retR3 rfl (by repeat(first|exact LRes.nil|refine LRes.tmp rfl ?_|refine LRes.agg rfl (by(repeat(first|exact MIn.hd|refine MIn.tl ?_));done) (by rfl) (by rfl) ?_|refine LRes.one rfl (by(repeat(first|exact MIn.hd|refine MIn.tl ?_));done) (by rfl) ?_)) fun w hw => ⟨hw.org, _, rfl, Ow.nil _ _ _ _⟩
  rw [if_neg h0] at hRe
  have hl0 := List.length_pos_iff.2 h0
  have hq := clip_at (p := p) h0
  obtain ⟨i, hi⟩ : ∃ i : Nat, (clipM l p).1 = (i : Int) := ⟨(clipM l p).1.toNat, by have := hq.i; omega⟩
  have hk' := hq.k
  obtain ⟨k, hk⟩ : ∃ k : Nat, (clipM l p).2 = (k : Int) := ⟨(clipM l p).2.toNat, by omega⟩
  have hqe : clipM l p = ((i : Int), (k : Int)) := by rw [← hi, ← hk]
  have hii := hq.i
  rw [hqe] at hRe hk' hii
  unfold rowOf at hk'
  simp only [Int.toNat_natCast] at hRe hk' hii
  have hw := wide_runes g
  have hwc := wide_copied (kd := kd) hg0
  have hn1 : (1 : Int) ≤ if 1 < n then n else 1 := by split <;> omega
  have hn2 : (if 1 < n then n else 1) ≤ 9223372036854775807 := by split <;> omega
  have hsz : sizeM g ≤ 1052672 := by unfold sizeM; omega
  repeat(first|refine lrun_ ?_|(refine lo_boxA rfl rfl ?_;intro _ _ _)|(refine lo_box1 rfl rfl rfl ?_;intro _ _ _)|(refine lo_alloc rfl ?_;intro _ _ _))
  refine l_no rfl (by omega) ?_
  refine l_go .skip ?_
  repeat(first|refine lrun_ ?_|(refine lo_boxA rfl rfl ?_;intro _ _ _)|(refine lo_box1 rfl rfl rfl ?_;intro _ _ _)|(refine lo_alloc rfl ?_;intro _ _ _))
  refine lo_call (n_call rfl) rfl (fun w' hw' => clipP_calls (Kn.sl hw'.org hL) hp) ?_
  rw [hqe]
  repeat(first|refine lrun_ ?_|(refine lo_boxA rfl rfl ?_;intro _ _ _)|(refine lo_box1 rfl rfl rfl ?_;intro _ _ _)|(refine lo_alloc rfl ?_;intro _ _ _))
  generalize hne : (if 1 < n then n else 1) = n1 at *
  refine lo_call (n_call rfl) rfl (fun w' hw' => size_calls (Kn.sl hw'.org hG) (by omega)) ?_
  have J : ∀ σ', SubB σ' [(0, .slice A l.length c), (3, .bool behind), (4, .int .i64 n1), (6, .pointer (some ⟨g6, 0, none⟩)), (7, .pointer (some ⟨g7, 0, none⟩)), (11, .pointer (some ⟨g11, 0, none⟩)), (13, .int .i64 (wideM g : Nat)), (17, .int .i64 (copiedM kd g : Nat))] → ∀ M', MSub [(g11, cb [.int .i64 0, .int .i64 0] 24), (g7, cb [.int .i64 kd, .slice Ag g.length cg] 30), (g6, cb [.int .i64 i, .int .i64 k] 24)] M' →
      WL Try.prog Try.f22 [.inBlock 2, .code (bodyC Try.f22 [1, 1, 1, 1, 1, 1, 1, 1, 1])] σ' w (fun _ => False) B (MK [(g11, cb [.int .i64 0, .int .i64 0] 24), (g7, cb [.int .i64 kd, .slice Ag g.length cg] 30), (g6, cb [.int .i64 p.1, .int .i64 p.2] 24)]) M' R' := by
    intro σ' hs M' hM
    refine WL.sub hs hM ?_
    refine l_baseM (M3 := [(g11, cb [.int .i64 0, .int .i64 0] 24), (g7, cb [.int .i64 kd, .slice Ag g.length cg] 30), (g6, cb [.int .i64 i, .int .i64 k] 24)]) .refl fun wb hwb => ?_
    clear hwb
    generalize hce : copiedM kd g = c0 at *
    by_cases hc0 : c0 = 0
    · rw [if_neg (fun h => by omega), if_pos hc0] at hRe
      repeat(first|refine lrun_ ?_|(refine lo_boxA rfl rfl ?_;intro _ _ _)|(refine lo_box1 rfl rfl rfl ?_;intro _ _ _)|(refine lo_alloc rfl ?_;intro _ _ _))
      refine l_yes rfl (by omega) ?_
      refine l_region ?_;(repeat(first|refine lops_ ?_|(refine lo_boxA rfl rfl ?_;intro _ _ _)|(refine lo_box1 rfl rfl rfl ?_;intro _ _ _)|(refine lo_alloc rfl ?_;intro _ _ _)));refine lo_nil ?_
      exact ps_col (m := 1) hl hlr hgl hgr hg0 hG hL (by omega) (by omega) (by decide) (by decide) (by omega) hRe _ (by repeat (first | exact SubB.nil | refine SubB.cons rfl ?_)) _ (by repeat(first|exact MSub.refl|refine MSub.keep rfl ?_|exact MSub.nil|apply MSub.drop))
    · have e1 : IntKind.i64.wrap ((65536 : Int).tdiv (c0 : Int)) = ((65536 / c0 : Nat) : Int) := by
        have e2 : (65536 : Int).tdiv (c0 : Int) = ((65536 / c0 : Nat) : Int) := by
          rw [Int.tdiv_eq_ediv_of_nonneg (by decide)]
          exact (Int.natCast_ediv 65536 c0).symm
        rw [e2]
        have := Nat.div_le_self 65536 c0
        exact wrap_in64 (Int.le_trans (by decide) (Int.natCast_nonneg _)) (Int.le_trans (Int.ofNat_le.2 this) (by decide))
      repeat(first|refine lrun_ ?_|(refine lo_boxA rfl rfl ?_;intro _ _ _)|(refine lo_box1 rfl rfl rfl ?_;intro _ _ _)|(refine lo_alloc rfl ?_;intro _ _ _))
      refine l_no rfl (by omega) ?_
      repeat(first|refine lrun_ ?_|(refine lo_boxA rfl rfl ?_;intro _ _ _)|(refine lo_box1 rfl rfl rfl ?_;intro _ _ _)|(refine lo_alloc rfl ?_;intro _ _ _))
      refine lo_rn (fun _ => r_quo (a := 65536) rfl rfl (by omega)) rfl ?_
      rw [e1]
      by_cases hf : ((65536 / c0 : Nat) : Int) < n1
      · rw [if_pos ⟨by omega, hf⟩] at hRe
        subst hRe
        repeat(first|refine lrun_ ?_|(refine lo_boxA rfl rfl ?_;intro _ _ _)|(refine lo_box1 rfl rfl rfl ?_;intro _ _ _)|(refine lo_alloc rfl ?_;intro _ _ _))
        refine l_yes rfl hf ?_
        repeat(first|refine lrun_ ?_|(refine lo_boxA rfl rfl ?_;intro _ _ _)|(refine lo_box1 rfl rfl rfl ?_;intro _ _ _)|(refine lo_alloc rfl ?_;intro _ _ _))
        exact l_retR3 rfl (by repeat(first|exact LRes.nil|refine LRes.tmp rfl ?_|refine LRes.agg rfl (by(repeat(first|exact MIn.hd|refine MIn.tl ?_));done) (by rfl) (by rfl) ?_|refine LRes.one rfl (by(repeat(first|exact MIn.hd|refine MIn.tl ?_));done) (by rfl) ?_)) fun w hw => ⟨hw.org, _, rfl, Ow.nil _ _ _ _⟩
      · rw [if_neg (fun h => hf h.2), if_neg hc0] at hRe
        obtain ⟨m, rfl⟩ : ∃ m : Nat, n1 = (m : Int) := ⟨n1.toNat, by omega⟩
        simp only [Int.toNat_natCast] at hRe
        have hmc : m ≤ 65536 / c0 := by omega
        have hmc2 : m * c0 ≤ 65536 := by
          have := Nat.mul_le_mul_right c0 hmc
          have := Nat.div_mul_le_self 65536 c0
          omega
        have hmw : m * wideM g ≤ m * c0 := Nat.mul_le_mul_left _ hwc
        have := Nat.div_le_self 65536 c0
        repeat(first|refine lrun_ ?_|(refine lo_boxA rfl rfl ?_;intro _ _ _)|(refine lo_box1 rfl rfl rfl ?_;intro _ _ _)|(refine lo_alloc rfl ?_;intro _ _ _))
        refine l_no rfl hf ?_
        refine l_go .skip ?_
        exact ps_col (m := m) hl hlr hgl hgr hg0 hG hL (by omega) (by omega) (by omega) (by omega) (by omega) hRe _ (by repeat (first | exact SubB.nil | refine SubB.cons rfl ?_)) _ (by repeat(first|exact MSub.refl|refine MSub.keep rfl ?_|exact MSub.nil|apply MSub.drop))
  by_cases h1 : kd = 1
  · have hc : copiedM kd g = sizeM g + 1 := by unfold copiedM; rw [if_pos h1]
    rw [hc] at J
    repeat(first|refine lrun_ ?_|(refine lo_boxA rfl rfl ?_;intro _ _ _)|(refine lo_box1 rfl rfl rfl ?_;intro _ _ _)|(refine lo_alloc rfl ?_;intro _ _ _))
    refine l_yes rfl h1 ?_
    refine l_region ?_;(repeat(first|refine lops_ ?_|(refine lo_boxA rfl rfl ?_;intro _ _ _)|(refine lo_box1 rfl rfl rfl ?_;intro _ _ _)|(refine lo_alloc rfl ?_;intro _ _ _)));refine lo_nil ?_
    exact J _ (by repeat (first | exact SubB.nil | refine SubB.cons rfl ?_)) _ (by repeat(first|exact MSub.refl|refine MSub.keep rfl ?_|exact MSub.nil|apply MSub.drop))
  by_cases h2 : kd = 2
  · have hc : copiedM kd g = wideM g * g.length := by unfold copiedM; rw [if_neg h1, if_pos h2]
    rw [hc] at J
    have hm1 : wideM g * g.length ≤ 1048576 * 4096 := Nat.mul_le_mul (by omega) hgl
    have hm2 : ((wideM g : Nat) : Int) * (g.length : Int) = ((wideM g * g.length : Nat) : Int) := (Int.natCast_mul _ _).symm
    have hm3 : -9223372036854775808 ≤ ((wideM g : Nat) : Int) * (g.length : Int) := by omega
    have hm4 : ((wideM g : Nat) : Int) * (g.length : Int) ≤ 9223372036854775807 := by omega
    repeat(first|refine lrun_ ?_|(refine lo_boxA rfl rfl ?_;intro _ _ _)|(refine lo_box1 rfl rfl rfl ?_;intro _ _ _)|(refine lo_alloc rfl ?_;intro _ _ _))
    refine l_no rfl h1 ?_
    repeat(first|refine lrun_ ?_|(refine lo_boxA rfl rfl ?_;intro _ _ _)|(refine lo_box1 rfl rfl rfl ?_;intro _ _ _)|(refine lo_alloc rfl ?_;intro _ _ _))
    refine l_yes rfl h2 ?_
    refine l_region ?_;(repeat(first|refine lops_ ?_|(refine lo_boxA rfl rfl ?_;intro _ _ _)|(refine lo_box1 rfl rfl rfl ?_;intro _ _ _)|(refine lo_alloc rfl ?_;intro _ _ _)));refine lo_nil ?_
    rw [hm2]
    exact J _ (by repeat (first | exact SubB.nil | refine SubB.cons rfl ?_)) _ (by repeat(first|exact MSub.refl|refine MSub.keep rfl ?_|exact MSub.nil|apply MSub.drop))
  have hc : copiedM kd g = sizeM g := by unfold copiedM; rw [if_neg h1, if_neg h2]
  rw [hc] at J
  repeat(first|refine lrun_ ?_|(refine lo_boxA rfl rfl ?_;intro _ _ _)|(refine lo_box1 rfl rfl rfl ?_;intro _ _ _)|(refine lo_alloc rfl ?_;intro _ _ _))
  refine l_no rfl h1 ?_
  repeat(first|refine lrun_ ?_|(refine lo_boxA rfl rfl ?_;intro _ _ _)|(refine lo_box1 rfl rfl rfl ?_;intro _ _ _)|(refine lo_alloc rfl ?_;intro _ _ _))
  refine l_no rfl h2 ?_
  refine l_go .skip ?_
  exact J _ (by repeat (first | exact SubB.nil | refine SubB.cons rfl ?_)) _ (by repeat(first|exact MSub.refl|refine MSub.keep rfl ?_|exact MSub.nil|apply MSub.drop))
end
end Go.Ink

set_option linter.unusedVariables false
set_option linter.unusedSimpArgs false
namespace Go.Ink
open Go Go.Proofs Go.RowKit

def badG (kd : Int) (g : List (List Int)) : Bool := decide (kd < 0 ∨ 2 < kd ∨ g = []) || g.any fun x => decide (10 ∈ x)
def pasteM (l : List (List Int)) (p : Ps) (kd : Int) (g : List (List Int)) (behind : Bool) (n : Int) : List (List Int) × Ps × Int :=
  if badG kd g = true then ([], (0, 0), 1) else pasteR l p kd g behind n
theorem any_succ {g : List (List Int)} {f : List Int → Bool} {j : Nat} (h : j < g.length) : (g.take (j + 1)).any f = ((g.take j).any f || f (g.getD j [])) := by
  rw [List.take_succ_eq_append_getElem h, List.any_append, List.getD_eq_getElem?_getD, List.getElem?_eq_getElem h]
  simp
section
variable {F F0 : Nat → Prop} {w B : World} {Ag A : Option Addr} {cg c : Nat} {g l : List (List Int)} {adg : Addr} {rV : Nat → Option Addr} {rc : Nat → Nat} {ra : Nat → Addr} {g6 g7 g11 : Nat} {kd : Int} {p : Ps} {n : Int} {behind b0 : Bool}
set_option maxHeartbeats 8000000 in
theorem ps_look (hgl : g.length ≤ 4096) (hgr : runesM g ≤ 1048576) (hR : Rws F w Ag cg g adg rV rc ra) {kk : List Item} {R' : Value → World → Prop}
    (done : ∀ σ', SubB σ' [(0, .slice A l.length c), (3, .bool behind), (4, .int .i64 n), (6, .pointer (some ⟨g6, 0, none⟩)), (7, .pointer (some ⟨g7, 0, none⟩)), (11, .pointer (some ⟨g11, 0, none⟩)), (13, .int .i64 (wideM g : Nat)), (14, .bool (b0 || g.any fun x => decide (10 ∈ x)))] → ∀ M', MSub [(g11, cb [.int .i64 0, .int .i64 0] 24), (g7, cb [.int .i64 kd, .slice Ag g.length cg] 30), (g6, cb [.int .i64 p.1, .int .i64 p.2] 24)] M' → WL Try.prog Try.f22 kk σ' w (fun _ => False) B (MK [(g11, cb [.int .i64 0, .int .i64 0] 24), (g7, cb [.int .i64 kd, .slice Ag g.length cg] 30), (g6, cb [.int .i64 p.1, .int .i64 p.2] 24)]) M' R') :
    ∀ σ', SubB σ' [(0, .slice A l.length c), (3, .bool behind), (4, .int .i64 n), (6, .pointer (some ⟨g6, 0, none⟩)), (7, .pointer (some ⟨g7, 0, none⟩)), (11, .pointer (some ⟨g11, 0, none⟩)), (13, .int .i64 (0 : Nat)), (14, .bool b0), (44, .slice Ag g.length cg), (45, .int .i64 g.length), (46, .int .i64 (0 : Nat))] → ∀ M', MSub [(g11, cb [.int .i64 0, .int .i64 0] 24), (g7, cb [.int .i64 kd, .slice Ag g.length cg] 30), (g6, cb [.int .i64 p.1, .int .i64 p.2] 24)] M' →
      WL Try.prog Try.f22 (.code (.loop (bodyC Try.f22 [1, 1, 1, 0, 1, 0, 0])) :: .inBlock 0 :: kk) σ' w (fun _ => False) B (MK [(g11, cb [.int .i64 0, .int .i64 0] 24), (g7, cb [.int .i64 kd, .slice Ag g.length cg] 30), (g6, cb [.int .i64 p.1, .int .i64 p.2] 24)]) M' R' := by
  intro σ' hs M' hM
  refine WL.sub hs hM ?_
  refine l_while (fun j : Nat => g.length - j) (fun j => [(0, .slice A l.length c), (3, .bool behind), (4, .int .i64 n), (6, .pointer (some ⟨g6, 0, none⟩)), (7, .pointer (some ⟨g7, 0, none⟩)), (11, .pointer (some ⟨g11, 0, none⟩)), (13, .int .i64 (wideM (g.take j) : Nat)), (14, .bool (b0 || (g.take j).any fun x => decide (10 ∈ x))), (44, .slice Ag g.length cg), (45, .int .i64 g.length), (46, .int .i64 (j : Int))]) (fun _ => [(g11, cb [.int .i64 0, .int .i64 0] 24), (g7, cb [.int .i64 kd, .slice Ag g.length cg] 30), (g6, cb [.int .i64 p.1, .int .i64 p.2] 24)])
    (fun j => j ≤ g.length) 0 (by simp only [List.take_zero, List.any_nil, Bool.or_false]; exact (by repeat (first | exact SubB.nil | refine SubB.cons rfl ?_))) (by repeat(first|exact MSub.refl|refine MSub.keep rfl ?_|exact MSub.nil|apply MSub.drop)) (Nat.zero_le _) ?_
  intro j hj ih
  by_cases hlt : j < g.length
  · have hrl := hR.rl j
    have hws := wide_succ hlt
    have has := any_succ (f := fun x => decide (10 ∈ x)) hlt
    have hmx : (if ((wideM (g.take j) : Nat) : Int) < ((g.getD j []).length : Int) then ((g.getD j []).length : Int) else ((wideM (g.take j) : Nat) : Int)) = ((wideM (g.take (j + 1)) : Nat) : Int) := by
      rw [hws]
      by_cases h : wideM (g.take j) < (g.getD j []).length
      · rw [if_pos h, if_pos (Int.ofNat_lt.2 h)]
      · rw [if_neg h, if_neg (fun h' => h (Int.ofNat_lt.1 h'))]
    have hnext : (b0 || (g.take (j + 1)).any fun x => decide (10 ∈ x)) = ((b0 || (g.take j).any fun x => decide (10 ∈ x)) || decide (10 ∈ g.getD j [])) := by rw [has, Bool.or_assoc]
    have ih2 := ih (j + 1) hlt (by omega)
    rw [hnext] at ih2
    cases hb : (b0 || (g.take j).any fun x => decide (10 ∈ x)) with
    | true =>
      rw [hb] at ih2
      repeat(first|refine lrun_ ?_|(refine lo_boxA rfl rfl ?_;intro _ _ _)|(refine lo_box1 rfl rfl rfl ?_;intro _ _ _)|(refine lo_alloc rfl ?_;intro _ _ _))
      refine l_yes rfl (by omega) ?_
      repeat(first|refine lrun_ ?_|(refine lo_boxA rfl rfl ?_;intro _ _ _)|(refine lo_box1 rfl rfl rfl ?_;intro _ _ _)|(refine lo_alloc rfl ?_;intro _ _ _))
      rw [hmx]
      exact ih2 _ _ (by repeat (first | exact SubB.nil | refine SubB.cons rfl ?_)) (by repeat(first|exact MSub.refl|refine MSub.keep rfl ?_|exact MSub.nil|apply MSub.drop))
    | false =>
      rw [hb] at ih2
      repeat(first|refine lrun_ ?_|(refine lo_boxA rfl rfl ?_;intro _ _ _)|(refine lo_box1 rfl rfl rfl ?_;intro _ _ _)|(refine lo_alloc rfl ?_;intro _ _ _))
      refine l_yes rfl (by omega) ?_
      repeat(first|refine lrun_ ?_|(refine lo_boxA rfl rfl ?_;intro _ _ _)|(refine lo_box1 rfl rfl rfl ?_;intro _ _ _)|(refine lo_alloc rfl ?_;intro _ _ _))
      refine lo_call (n_call rfl) rfl (fun w' hw => contains_calls (Kn.sl hw.org (hR.rs j hlt))) ?_
      repeat(first|refine lrun_ ?_|(refine lo_boxA rfl rfl ?_;intro _ _ _)|(refine lo_box1 rfl rfl rfl ?_;intro _ _ _)|(refine lo_alloc rfl ?_;intro _ _ _))
      rw [hmx]
      exact ih2 _ _ (by repeat (first | exact SubB.nil | refine SubB.cons rfl ?_)) (by repeat(first|exact MSub.refl|refine MSub.keep rfl ?_|exact MSub.nil|apply MSub.drop))
  · obtain rfl : j = g.length := by omega
    rw [List.take_length]
    repeat(first|refine lrun_ ?_|(refine lo_boxA rfl rfl ?_;intro _ _ _)|(refine lo_box1 rfl rfl rfl ?_;intro _ _ _)|(refine lo_alloc rfl ?_;intro _ _ _))
    refine l_no rfl (by omega) ?_
    refine l_go (.exit rfl) ?_
    exact done _ (by repeat (first | exact SubB.nil | refine SubB.cons rfl ?_)) _ (by repeat(first|exact MSub.refl|refine MSub.keep rfl ?_|exact MSub.nil|apply MSub.drop))
end
theorem badG_iff {kd : Int} {g : List (List Int)} : badG kd g = (decide (kd < 0 ∨ 2 < kd ∨ g = []) || g.any fun x => decide (10 ∈ x)) := rfl
section
variable {F F0 : Nat → Prop} {w : World} {v vg : Value} {g l : List (List Int)} {kd : Int} {p : Ps} {n : Int} {behind : Bool}
set_option maxHeartbeats 8000000 in
theorem paste_calls (hL : Sl kRow F0 w v l) (hG : Sl kRow F w vg g) (hl : l.length ≤ 4096) (hlr : runesM l ≤ 1048576) (hgl : g.length ≤ 4096) (hgr : runesM g ≤ 1048576) (hp : P64 p) (hn : -9223372036854775808 ≤ n ∧ n ≤ 9223372036854775807) :
    CallsR Try.prog 22 #[v, posV p, .agg #[.int .i64 kd, vg], .bool behind, .int .i64 n] w (PsR w (pasteM l p kd g behind n)) := by
  obtain ⟨A, c, e, _⟩ := hL.form
  obtain ⟨e, _⟩ := And.intro e trivial
  subst e
  obtain ⟨Ag, cg, adg, rV, rc, ra, rfl, hR⟩ := hG.rws
  have hlen := hR.len
  refine l_enter (fun _ => False) Try.func22 rfl rfl ?_
  have J : ∀ (g6 g7 g11 : Nat) (b0 : Bool) (B : World), b0 = decide (kd < 0 ∨ 2 < kd ∨ g = []) → ∀ σ', SubB σ' [(0, .slice A l.length c), (3, .bool behind), (4, .int .i64 n), (6, .pointer (some ⟨g6, 0, none⟩)), (7, .pointer (some ⟨g7, 0, none⟩)), (11, .pointer (some ⟨g11, 0, none⟩)), (13, .int .i64 (0 : Nat)), (14, .bool b0), (44, .slice Ag g.length cg), (45, .int .i64 g.length), (46, .int .i64 (0 : Nat))] → ∀ M', MSub [(g11, cb [.int .i64 0, .int .i64 0] 24), (g7, cb [.int .i64 kd, .slice Ag g.length cg] 30), (g6, cb [.int .i64 p.1, .int .i64 p.2] 24)] M' →
      WL Try.prog Try.f22 (.code (.loop (bodyC Try.f22 [1, 1, 1, 0, 1, 0, 0])) :: .inBlock 0 :: [.code (bodyC Try.f22 [1, 1, 1, 1])]) σ' w (fun _ => False) B (MK [(g11, cb [.int .i64 0, .int .i64 0] 24), (g7, cb [.int .i64 kd, .slice Ag g.length cg] 30), (g6, cb [.int .i64 p.1, .int .i64 p.2] 24)]) M' (PsR w (pasteM l p kd g behind n)) := by
    intro g6 g7 g11 b0 B hb0 σ' hs M' hM
    refine ps_look hgl hgr hR ?_ σ' hs M' hM
    clear hs hM σ' M'
    intro σ' hs M' hM
    refine WL.sub hs hM ?_
    have e : (b0 || g.any fun x => decide (10 ∈ x)) = badG kd g := by rw [hb0]; rfl
    rw [e]
    unfold pasteM
    cases hbad : badG kd g with
    | true =>
      rw [if_pos rfl]
      repeat(first|refine lrun_ ?_|(refine lo_boxA rfl rfl ?_;intro _ _ _)|(refine lo_box1 rfl rfl rfl ?_;intro _ _ _)|(refine lo_alloc rfl ?_;intro _ _ _))
      refine l_true rfl ?_
      repeat(first|refine lrun_ ?_|(refine lo_boxA rfl rfl ?_;intro _ _ _)|(refine lo_box1 rfl rfl rfl ?_;intro _ _ _)|(refine lo_alloc rfl ?_;intro _ _ _))
      exact l_retR3 rfl (by repeat(first|exact LRes.nil|refine LRes.tmp rfl ?_|refine LRes.agg rfl (by(repeat(first|exact MIn.hd|refine MIn.tl ?_));done) (by rfl) (by rfl) ?_|refine LRes.one rfl (by(repeat(first|exact MIn.hd|refine MIn.tl ?_));done) (by rfl) ?_)) fun w hw => ⟨hw.org, _, rfl, Ow.nil _ _ _ _⟩
    | false =>
      rw [if_neg (by decide)]
      have hg0 : 0 < g.length := by
        rcases Nat.eq_zero_or_pos g.length with h | h
        · unfold badG at hbad
          rw [decide_eq_true (.inr (.inr (List.length_eq_zero_iff.1 h))), Bool.true_or] at hbad
          cases hbad
        · exact h
      repeat(first|refine lrun_ ?_|(refine lo_boxA rfl rfl ?_;intro _ _ _)|(refine lo_box1 rfl rfl rfl ?_;intro _ _ _)|(refine lo_alloc rfl ?_;intro _ _ _))
      refine l_false rfl ?_
      refine l_go .skip ?_
      exact ps_mid hl hlr hgl hgr hg0 hG hL hp hn rfl _ (by repeat (first | exact SubB.nil | refine SubB.cons rfl ?_)) _ (by repeat(first|exact MSub.refl|refine MSub.keep rfl ?_|exact MSub.nil|apply MSub.drop))
  by_cases h1 : kd < 0
  · repeat(first|refine lrun_ ?_|(refine lo_boxA rfl rfl ?_;intro _ _ _)|(refine lo_box1 rfl rfl rfl ?_;intro _ _ _)|(refine lo_alloc rfl ?_;intro _ _ _))
    refine l_baseM (M3 := [_, _, _]) .refl fun wb hwb => ?_
    exact J _ _ _ true wb (decide_eq_true (.inl h1)).symm _ (by repeat (first | exact SubB.nil | refine SubB.cons rfl ?_)) _ (by repeat(first|exact MSub.refl|refine MSub.keep rfl ?_|exact MSub.nil|apply MSub.drop))
  by_cases h2 : 2 < kd
  · repeat(first|refine lrun_ ?_|(refine lo_boxA rfl rfl ?_;intro _ _ _)|(refine lo_box1 rfl rfl rfl ?_;intro _ _ _)|(refine lo_alloc rfl ?_;intro _ _ _))
    refine l_baseM (M3 := [_, _, _]) .refl fun wb hwb => ?_
    exact J _ _ _ true wb (decide_eq_true (.inr (.inl h2))).symm _ (by repeat (first | exact SubB.nil | refine SubB.cons rfl ?_)) _ (by repeat(first|exact MSub.refl|refine MSub.keep rfl ?_|exact MSub.nil|apply MSub.drop))
  have e : decide ((g.length : Int) = 0) = decide (kd < 0 ∨ 2 < kd ∨ g = []) := by
    by_cases h3 : g.length = 0
    · rw [decide_eq_true (by omega), decide_eq_true (.inr (.inr (List.length_eq_zero_iff.1 h3)))]
    · rw [decide_eq_false (by omega), decide_eq_false (fun h => h.elim h1 fun h => h.elim h2 fun h => h3 (by rw [h]; rfl))]
  repeat(first|refine lrun_ ?_|(refine lo_boxA rfl rfl ?_;intro _ _ _)|(refine lo_box1 rfl rfl rfl ?_;intro _ _ _)|(refine lo_alloc rfl ?_;intro _ _ _))
  refine l_baseM (M3 := [_, _, _]) .refl fun wb hwb => ?_
  exact J _ _ _ _ wb e _ (by repeat (first | exact SubB.nil | refine SubB.cons rfl ?_)) _ (by repeat(first|exact MSub.refl|refine MSub.keep rfl ?_|exact MSub.nil|apply MSub.drop))
end
end Go.Ink
