/-
  TextPlays.
-/
import Derived.Test.YtfgajbilegjbpaaZB
import Derived.Test.YtfgajbilegjbpaaY9
set_option linter.unusedVariables false
set_option linter.unusedSimpArgs false
namespace Go.Ink
open Go Go.Proofs Go.RowKit

set_option maxHeartbeats 8000000 in
theorem plays_loop {W w : World} {D E : Nat → Prop} {L : List (List Int)} {gt gx b c : Nat} {A : Option Addr} {ds : List Deed04} (h : Two D E gt gx w L b) (hDE : ∀ k, D k ∨ E k → W.heap.size ≤ k) (hb : b ≤ 3001) (hW : Kn W w) (hd : Sl kDeed04 (fun k => k < W.heap.size) W (.slice A ds.length c) ds) :
    ∀ σ', SubB σ' [(1, .slice A ds.length c), (5, .pointer (some ⟨gt, 0, none⟩)), (6, .pointer (some ⟨gx, 0, none⟩))] → ∀ M', MSub [] M' →
      WL Try.prog Try.f5 (.code (bodyC Try.f5 [1, 1, 1, 1]) :: []) σ' W (fun _ => False) w (MK []) M' fun u w' => Kn W w' ∧ u = .bool true := by
  intro σ' hs M' hM
  refine WL.sub hs hM ?_
  repeat(first|refine lrun_ ?_|(refine lo_boxA rfl rfl ?_;intro _ _ _)|(refine lo_box1 rfl rfl rfl ?_;intro _ _ _)|(refine lo_alloc rfl ?_;intro _ _ _))
  refine l_whileB (fun j : Nat => ds.length - j) (fun j => [(1, .slice A ds.length c), (5, .pointer (some ⟨gt, 0, none⟩)), (6, .pointer (some ⟨gx, 0, none⟩)), (8, .int .i64 (j : Int))]) (fun _ => [])
    (fun j b2 => (j ≤ ds.length ∧ j ≤ 40) ∧ ∃ D E L, Two D E gt gx b2 L (b + 66000 * j) ∧ ∀ k, D k ∨ E k → W.heap.size ≤ k) 0 (by repeat (first | exact SubB.nil | refine SubB.cons rfl ?_)) (by repeat(first|exact MSub.refl|refine MSub.keep rfl ?_|exact MSub.nil|apply MSub.drop)) (fun w' hw => ⟨⟨Nat.zero_le _, Nat.zero_le _⟩, D, E, L, h.kp hw.kp fun k _ => mk_nil, hDE⟩) ?_
  rintro j b2 ⟨⟨hj, hj40⟩, D, E, L, h, hDE⟩ hkb ih
  have out : ∀ σ' M', SubB σ' [(1, .slice A ds.length c)] → MSub [] M' → WL Try.prog Try.f5 (.code (bodyC Try.f5 [1, 1, 1, 1, 1]) :: []) σ' W (fun _ => False) b2 (MK []) M' fun u w' => Kn W w' ∧ u = .bool true := by
    intro σ' M' hs hM
    refine WL.sub hs hM ?_
    repeat(first|refine lrun_ ?_|(refine lo_boxA rfl rfl ?_;intro _ _ _)|(refine lo_box1 rfl rfl rfl ?_;intro _ _ _)|(refine lo_alloc rfl ?_;intro _ _ _))
    refine lo_call (n_call (args := []) rfl) rfl (fun w' hw => awake_calls) ?_
    repeat(first|refine lrun_ ?_|(refine lo_boxA rfl rfl ?_;intro _ _ _)|(refine lo_box1 rfl rfl rfl ?_;intro _ _ _)|(refine lo_alloc rfl ?_;intro _ _ _))
    exact l_ret1 rfl rfl fun w' hw => ⟨hw.org, rfl⟩
  by_cases hlt : j < ds.length
  case neg =>
    repeat(first|refine lrun_ ?_|(refine lo_boxA rfl rfl ?_;intro _ _ _)|(refine lo_box1 rfl rfl rfl ?_;intro _ _ _)|(refine lo_alloc rfl ?_;intro _ _ _))
    refine l_false rfl ?_
    refine l_go (.exit rfl) ?_
    exact out _ _ (by repeat (first | exact SubB.nil | refine SubB.cons rfl ?_)) .nil
  by_cases hlt4 : j < 40
  case neg =>
    repeat(first|refine lrun_ ?_|(refine lo_boxA rfl rfl ?_;intro _ _ _)|(refine lo_box1 rfl rfl rfl ?_;intro _ _ _)|(refine lo_alloc rfl ?_;intro _ _ _))
    refine l_no rfl (by omega) ?_
    refine l_go (.exit rfl) ?_
    exact out _ _ (by repeat (first | exact SubB.nil | refine SubB.cons rfl ?_)) .nil
  obtain ⟨ad, cs, rfl, hr, hcell⟩ := hd.at_ (List.getElem?_eq_getElem hlt)
  obtain ⟨vl, vs, rfl, hl, hls, hk, hn, hp, hq⟩ := deed04_cells hr
  generalize ds[j] = d at *
  have c6 : W.cell? ((ad.add (j * 8)).add 6) = some vl := by rw [add_add]; exact hcell 6 _ rfl
  have c7 : W.cell? ((ad.add (j * 8)).add 7) = some vs := by rw [add_add]; exact hcell 7 _ rfl
  obtain ⟨Al, cl, rfl, _⟩ := hl.form
  obtain ⟨As, cs, rfl, _⟩ := hls.form
  have again : ∀ (b' : World), (∃ D E L, Two D E gt gx b' L (b + 66000 * (j + 1)) ∧ ∀ k, D k ∨ E k → W.heap.size ≤ k) → ∀ σ', SubB σ' [(1, .slice (some ad) ds.length c), (5, .pointer (some ⟨gt, 0, none⟩)), (6, .pointer (some ⟨gx, 0, none⟩)), (8, .int .i64 (j : Int))] → ∀ M', MSub [] M' →
      WL Try.prog Try.f5 (.code (bodyC Try.f5 [1, 1, 1, 1, 0, 1, 0, 0, 1, 1]) :: .inLoop (bodyC Try.f5 [1, 1, 1, 1, 0, 1, 0, 0]) :: .inBlock 0 :: .code (bodyC Try.f5 [1, 1, 1, 1, 1]) :: []) σ' W (fun _ => False) b' (MK []) M' fun u w' => Kn W w' ∧ u = .bool true := by
    rintro b' ⟨D', E', L', h1, h2⟩ σ' hs M' hM
    refine WL.sub hs hM ?_
    repeat(first|refine lrun_ ?_|(refine lo_boxA rfl rfl ?_;intro _ _ _)|(refine lo_box1 rfl rfl rfl ?_;intro _ _ _)|(refine lo_alloc rfl ?_;intro _ _ _))
    exact ih (j + 1) b' _ ⟨⟨hlt, hlt4⟩, D', E', L', h1, h2⟩ (by omega) _ _ (by repeat (first | exact SubB.nil | refine SubB.cons rfl ?_)) (by repeat(first|exact MSub.refl|refine MSub.keep rfl ?_|exact MSub.nil|apply MSub.drop)) fun w' hw' => ⟨⟨hlt, hlt4⟩, D', E', L', h1.kp hw'.kp fun k _ => mk_nil, h2⟩
  have skip : ∃ D E L, Two D E gt gx b2 L (b + 66000 * (j + 1)) ∧ ∀ k, D k ∨ E k → W.heap.size ≤ k := ⟨D, E, L, ⟨h.t.more (by omega), h.x, h.ap, h.ld, h.le⟩, hDE⟩
  repeat(first|refine lrun_ ?_|(refine lo_boxA rfl rfl ?_;intro _ _ _)|(refine lo_box1 rfl rfl rfl ?_;intro _ _ _)|(refine lo_alloc rfl ?_;intro _ _ _))
  refine l_yes rfl (by omega) ?_
  repeat(first|refine lrun_ ?_|(refine lo_boxA rfl rfl ?_;intro _ _ _)|(refine lo_box1 rfl rfl rfl ?_;intro _ _ _)|(refine lo_alloc rfl ?_;intro _ _ _))
  refine lo_index rfl rfl rfl (by omega) rfl rfl ?_
  repeat(first|refine lrun_ ?_|(refine lo_boxA rfl rfl ?_;intro _ _ _)|(refine lo_box1 rfl rfl rfl ?_;intro _ _ _)|(refine lo_alloc rfl ?_;intro _ _ _))
  by_cases hll : 1000 < d.l.length
  · repeat(first|refine lrun_ ?_|(refine lo_boxA rfl rfl ?_;intro _ _ _)|(refine lo_box1 rfl rfl rfl ?_;intro _ _ _)|(refine lo_alloc rfl ?_;intro _ _ _))
    refine l_true rfl ?_
    refine l_go (.exit rfl) ?_
    exact again b2 skip _ (by repeat (first | exact SubB.nil | refine SubB.cons rfl ?_)) _ (by repeat(first|exact MSub.refl|refine MSub.keep rfl ?_|exact MSub.nil|apply MSub.drop))
  repeat(first|refine lrun_ ?_|(refine lo_boxA rfl rfl ?_;intro _ _ _)|(refine lo_box1 rfl rfl rfl ?_;intro _ _ _)|(refine lo_alloc rfl ?_;intro _ _ _))
  refine lo_index rfl rfl rfl (by omega) rfl rfl ?_
  repeat(first|refine lrun_ ?_|(refine lo_boxA rfl rfl ?_;intro _ _ _)|(refine lo_box1 rfl rfl rfl ?_;intro _ _ _)|(refine lo_alloc rfl ?_;intro _ _ _))
  refine lo_callP (n_call rfl) rfl (fun w' hw => small_calls (Kn.sl hw.org hls)) ?_
  cases hs2 : smallM d.ls
  case false =>
    repeat(first|refine lrun_ ?_|(refine lo_boxA rfl rfl ?_;intro _ _ _)|(refine lo_box1 rfl rfl rfl ?_;intro _ _ _)|(refine lo_alloc rfl ?_;intro _ _ _))
    refine l_true rfl ?_
    refine l_go (.exit rfl) ?_
    exact again b2 skip _ (by repeat (first | exact SubB.nil | refine SubB.cons rfl ?_)) _ (by repeat(first|exact MSub.refl|refine MSub.keep rfl ?_|exact MSub.nil|apply MSub.drop))
  have hsb := small_bound hs2
  repeat(first|refine lrun_ ?_|(refine lo_boxA rfl rfl ?_;intro _ _ _)|(refine lo_box1 rfl rfl rfl ?_;intro _ _ _)|(refine lo_alloc rfl ?_;intro _ _ _))
  refine l_false rfl ?_
  refine l_go .skip ?_
  repeat(first|refine lrun_ ?_|(refine lo_boxA rfl rfl ?_;intro _ _ _)|(refine lo_box1 rfl rfl rfl ?_;intro _ _ _)|(refine lo_alloc rfl ?_;intro _ _ _))
  refine lo_index rfl rfl rfl (by omega) rfl rfl ?_
  refine lo_loadAO (cs := [.int .i64 d.kind, .int .i64 d.n, .int .i64 d.fr.1, .int .i64 d.fr.2, .int .i64 d.to.1, .int .i64 d.to.2, .slice Al d.l.length cl, .slice As d.ls.length cs]) rfl rfl (fun i u hu => by rw [add_add]; exact hcell i u hu) id rfl ?_
  refine lo_callW (T := fun k => D k ∨ E k) (Φ := fun w u w' => u = .bool true ∧ ∃ L' D' E', Two D' E' gt gx w' L' (b + 66000 * j + 66000) ∧ ∀ k, D' k ∨ E' k → D k ∨ E k ∨ w.heap.size ≤ k) (n_call rfl) rfl (fun k hk => ⟨⟨hDE k hk, mk_nil⟩, hk.elim (h.ld k) (h.le k)⟩) (fun w' hw => (do_calls (d := d) (h.kp hw.kp fun k _ => mk_nil) (Kn.sl hw.org hl) (Kn.sl hw.org hls) (fun k hk _ => ⟨fun e => by have := hDE k (.inl e); omega, fun e => by have := hDE k (.inr e); omega⟩) hk hn hp hq (by omega) hsb (by omega)).mono fun u w'' ⟨h1, h2⟩ => ⟨h1, h2⟩) ?_
  rintro w3 _ w4 hw3 kp3 ko3 kb3 ⟨rfl, L', D', E', h4, hsub⟩
  have hs3 := hw3.org.size
  have hDE' : ∀ k, D' k ∨ E' k → W.heap.size ≤ k := fun k hk => (hsub k hk).elim (fun h => hDE k (.inl h)) fun h => h.elim (fun h => hDE k (.inr h)) fun h => by omega
  repeat(first|refine lrun_ ?_|(refine lo_boxA rfl rfl ?_;intro _ _ _)|(refine lo_box1 rfl rfl rfl ?_;intro _ _ _)|(refine lo_alloc rfl ?_;intro _ _ _))
  refine lo_call (n_call rfl) rfl (fun w' hw => same_calls (h4.t.kp hw.kp fun k _ => mk_nil) (h4.x.kp hw.kp fun k _ => mk_nil)) ?_
  repeat(first|refine lrun_ ?_|(refine lo_boxA rfl rfl ?_;intro _ _ _)|(refine lo_box1 rfl rfl rfl ?_;intro _ _ _)|(refine lo_alloc rfl ?_;intro _ _ _))
  refine l_false rfl ?_
  refine l_go .skip ?_
  repeat(first|refine lrun_ ?_|(refine lo_boxA rfl rfl ?_;intro _ _ _)|(refine lo_box1 rfl rfl rfl ?_;intro _ _ _)|(refine lo_alloc rfl ?_;intro _ _ _))
  have h5 : Two D' E' gt gx w4 L' (b + 66000 * (j + 1)) := ⟨h4.t.more (by omega), h4.x, h4.ap, h4.ld, h4.le⟩
  exact ih (j + 1) w4 _ ⟨⟨hlt, hlt4⟩, D', E', L', h5, hDE'⟩ (by omega) _ _ (by repeat (first | exact SubB.nil | refine SubB.cons rfl ?_)) (by repeat(first|exact MSub.refl|refine MSub.keep rfl ?_|exact MSub.nil|apply MSub.drop)) fun w' hw' => ⟨⟨hlt, hlt4⟩, D', E', L', h5.kp hw'.kp fun k _ => mk_nil, hDE'⟩
set_option maxHeartbeats 4000000 in
theorem law_TextPlays {W : World} {u v : Value} {l : List (List Int)} {ds : List Deed04} (h : Sl kRow (fun _ => True) W u l) (hd : Sl kDeed04 (fun _ => True) W v ds) : CallsR Try.prog 5 #[u, v] W fun r w' => r = .bool true ∧ Kn W w' := by
  suffices h : CallsR Try.prog 5 #[u, v] W fun r w' => Kn W w' ∧ r = .bool true from h.mono fun _ _ ⟨a, b⟩ => ⟨b, a⟩
  obtain ⟨A, c, rfl, _⟩ := hd.form
  refine l_enter (args := [u, .slice A ds.length c]) (fun _ => False) Try.func5 rfl rfl ?_
  repeat(first|refine lrun_ ?_|(refine lo_boxA rfl rfl ?_;intro _ _ _)|(refine lo_box1 rfl rfl rfl ?_;intro _ _ _)|(refine lo_alloc rfl ?_;intro _ _ _))
  refine lo_callP (n_call rfl) rfl (fun w' hw => small_calls (Kn.sl hw.org h)) ?_
  cases hs : smallM l
  case false =>
    repeat(first|refine lrun_ ?_|(refine lo_boxA rfl rfl ?_;intro _ _ _)|(refine lo_box1 rfl rfl rfl ?_;intro _ _ _)|(refine lo_alloc rfl ?_;intro _ _ _))
    refine l_true rfl ?_
    repeat(first|refine lrun_ ?_|(refine lo_boxA rfl rfl ?_;intro _ _ _)|(refine lo_box1 rfl rfl rfl ?_;intro _ _ _)|(refine lo_alloc rfl ?_;intro _ _ _))
    exact l_ret1 rfl rfl fun w' hw => ⟨hw.org, rfl⟩
  obtain ⟨hl1, hl2⟩ := small_bound hs
  repeat(first|refine lrun_ ?_|(refine lo_boxA rfl rfl ?_;intro _ _ _)|(refine lo_box1 rfl rfl rfl ?_;intro _ _ _)|(refine lo_alloc rfl ?_;intro _ _ _))
  refine l_false rfl ?_
  refine l_go .skip ?_
  repeat(first|refine lrun_ ?_|(refine lo_boxA rfl rfl ?_;intro _ _ _)|(refine lo_box1 rfl rfl rfl ?_;intro _ _ _)|(refine lo_alloc rfl ?_;intro _ _ _))
  refine lo_callM (n_call rfl) rfl (fun w' hw => open_calls (Kn.sl hw.org h) (by omega)) ?_
  rintro w1 u w2 hw1 kn1 ko1 hu
  have hs1 := hw1.org.size
  have hs2 := kn1.size
  rcases hu with ⟨hp, rfl⟩ | ⟨hp, gt, gx, m, rfl, hT, hX⟩
  · repeat(first|refine lrun_ ?_|(refine lo_boxA rfl rfl ?_;intro _ _ _)|(refine lo_box1 rfl rfl rfl ?_;intro _ _ _)|(refine lo_alloc rfl ?_;intro _ _ _))
    refine l_true rfl ?_
    repeat(first|refine lrun_ ?_|(refine lo_boxA rfl rfl ?_;intro _ _ _)|(refine lo_box1 rfl rfl rfl ?_;intro _ _ _)|(refine lo_alloc rfl ?_;intro _ _ _))
    exact l_ret1 rfl rfl fun w' hw => ⟨hw.org, rfl⟩
  have hj : (jndM l).length ≤ 3001 := by have := jnd_len l; omega
  have h2 : Two (fun k => (w1.heap.size ≤ k ∧ k < m) ∧ k < w2.heap.size) (fun k => (w1.heap.size ≤ k ∧ m ≤ k) ∧ k < w2.heap.size) gt gx w2 (newL l) (jndM l).length := ⟨hT.mono fun k hk hl => ⟨hk, hl⟩, hX.mono fun k hk hl => ⟨hk, hl⟩, fun k h1 h2 => by have := h1.1.2; have := h2.1.2; omega, fun k h1 => h1.2, fun k h1 => h1.2⟩
  repeat(first|refine lrun_ ?_|(refine lo_boxA rfl rfl ?_;intro _ _ _)|(refine lo_box1 rfl rfl rfl ?_;intro _ _ _)|(refine lo_alloc rfl ?_;intro _ _ _))
  refine l_false rfl ?_
  refine l_go .skip ?_
  exact plays_loop h2 (fun k hk => hk.elim (fun h => by have := h.1.1; omega) fun h => by have := h.1.1; omega) hj ko1 hd.old _ (by repeat (first | exact SubB.nil | refine SubB.cons rfl ?_)) _ (by repeat(first|exact MSub.refl|refine MSub.keep rfl ?_|exact MSub.nil|apply MSub.drop))
end Go.Ink
