/-
  Next, Prev, End, SentNext, SentPrev, ParaNext, ParaPrev.
-/
import Derived.Test.YtcfbkoajhllcaaaG5
set_option linter.unusedVariables false
set_option linter.unusedSimpArgs false
namespace Go.Ink
open Go Go.Proofs

section
variable {F : Nat → Prop} {w : World} {v : Value} {l : List (List Int)} {p : Ps} {by_ : Int} {big : Bool}
theorem edge_calls {A : Option Addr} {n c : Nat} : CallsR Try.prog 33 #[.slice A n c, .bool big, .int .i64 by_] w fun u w' => ∃ N, News w w' N ∧ ∃ g1 g2 g3, u = .func (.func 37) #[] #[.pointer (some ⟨g1, 0, none⟩), .pointer (some ⟨g2, 0, none⟩), .pointer (some ⟨g3, 0, none⟩)] ∧
    N = [(g2, cb [.int .i64 by_] 3), (g3, cb [.bool big] 4), (g1, cb [.slice A n c] 22)] := by
  refine l_enter (fun _ => False) Try.func33 rfl rfl ?_
  repeat(first|refine lrun_ ?_|(refine lo_boxA rfl rfl ?_;intro _ _ _)|(refine lo_box1 rfl rfl rfl ?_;intro _ _ _)|(refine lo_alloc rfl ?_;intro _ _ _))
  exact l_ret1 rfl rfl fun w hw => ⟨_, hw.toNews .refl, _, _, _, rfl, rfl⟩
theorem sentence_calls {A : Option Addr} {n c : Nat} : CallsR Try.prog 35 #[.slice A n c] w fun u w' => ∃ N, News w w' N ∧ ∃ g1, u = .func (.func 40) #[] #[.pointer (some ⟨g1, 0, none⟩)] ∧ N = [(g1, cb [.slice A n c] 22)] := by
  refine l_enter (fun _ => False) Try.func35 rfl rfl ?_
  repeat(first|refine lrun_ ?_|(refine lo_boxA rfl rfl ?_;intro _ _ _)|(refine lo_box1 rfl rfl rfl ?_;intro _ _ _)|(refine lo_alloc rfl ?_;intro _ _ _))
  exact l_ret1 rfl rfl fun w hw => ⟨_, hw.toNews .refl, _, rfl, rfl⟩
set_option maxHeartbeats 1000000 in
theorem next_calls (hs0 : l.length + runesM l ≤ 4000) (h : Sl kRow F w v l) (hp : P64 p) : CallsR Try.prog 18 #[v, posV p, .bool big] w fun u w' => Kn w w' ∧ ∃ q, u = posV q ∧ SeekM (edgeM l big (-1)) l 1 p q := by
  obtain ⟨A, c, ad, rV, rc, ra, rfl, hR⟩ := h.rws
  refine l_enter (fun _ => False) Try.func18 rfl rfl ?_
  repeat(first|refine lrun_ ?_|(refine lo_boxA rfl rfl ?_;intro _ _ _)|(refine lo_box1 rfl rfl rfl ?_;intro _ _ _)|(refine lo_alloc rfl ?_;intro _ _ _))
  refine l_draw [(0, 0), (1, 0), (2, 0), (3, 0), (4, 1), (5, 1), (6, 1)] (by kernel_rfl) (by kernel_rfl) rfl (by kernel_rfl) ?_
  repeat(first|refine lrund_ ?_|(refine ld_open rfl ?_;first|(refine ld_boxA rfl wy_ rfl ?_;intro _ _ _)|(refine ld_box1 rfl rfl wy_ rfl ?_;intro _ _ _)|(refine ld_alloc wy_ rfl ?_;intro _ _ _)))
  refine ld_open rfl ?_; refine ld_callX (n_call rfl) wy_ rfl (fun w hw => edge_calls) ?_
  rintro _ _ ⟨g1, g2, g3, rfl, rfl⟩
  dsimp only [List.cons_append, List.nil_append]
  repeat(first|refine lrund_ ?_|(refine ld_open rfl ?_;first|(refine ld_boxA rfl wy_ rfl ?_;intro _ _ _)|(refine ld_box1 rfl rfl wy_ rfl ?_;intro _ _ _)|(refine ld_alloc wy_ rfl ?_;intro _ _ _)))
  refine ld_open rfl ?_; refine ld_callV (n_call rfl) wy_ rfl (fun w hw => seek_calls (f := 37) (cap := [_, _, _]) (pred := edgeM l big (-1)) hs0 (Kn.sl hw.org h) hp (.inl rfl) fun q w' hk hq => by
    obtain ⟨A', c', ad', rV', rc', ra', he, hR'⟩ := (Kn.sl (hw.org.trans hk) h).rws
    cases he
    exact edge1_calls hR' (hk.cell (hw.cell (by(repeat(first|exact MIn.hd|refine MIn.tl ?_));done) rfl) id) (hk.cell (hw.cell (by(repeat(first|exact MIn.hd|refine MIn.tl ?_));done) rfl) id) (hk.cell (hw.cell (by(repeat(first|exact MIn.hd|refine MIn.tl ?_));done) rfl) id) hq (.inr rfl)) ?_
  rintro _ ⟨q, rfl, hsk⟩
  repeat(first|refine lrund_ ?_|(refine ld_open rfl ?_;first|(refine ld_boxA rfl wy_ rfl ?_;intro _ _ _)|(refine ld_box1 rfl rfl wy_ rfl ?_;intro _ _ _)|(refine ld_alloc wy_ rfl ?_;intro _ _ _)))
  exact l_retR1 rfl (by repeat(first|exact LRes.nil|refine LRes.tmp rfl ?_|refine LRes.agg rfl (by(repeat(first|exact MIn.hd|refine MIn.tl ?_));done) (by rfl) (by rfl) ?_|refine LRes.one rfl (by(repeat(first|exact MIn.hd|refine MIn.tl ?_));done) (by rfl) ?_)) fun w hw => ⟨hw.org, q, rfl, hsk⟩
set_option maxHeartbeats 1000000 in
theorem prev_calls (hs0 : l.length + runesM l ≤ 4000) (h : Sl kRow F w v l) (hp : P64 p) : CallsR Try.prog 19 #[v, posV p, .bool big] w fun u w' => Kn w w' ∧ ∃ q, u = posV q ∧ SeekM (edgeM l big (-1)) l (-1) p q := by
  obtain ⟨A, c, ad, rV, rc, ra, rfl, hR⟩ := h.rws
  refine l_enter (fun _ => False) Try.func19 rfl rfl ?_
  repeat(first|refine lrun_ ?_|(refine lo_boxA rfl rfl ?_;intro _ _ _)|(refine lo_box1 rfl rfl rfl ?_;intro _ _ _)|(refine lo_alloc rfl ?_;intro _ _ _))
  refine l_draw [(0, 0), (1, 0), (2, 0), (3, 0), (4, 1), (5, 1), (6, 1)] (by kernel_rfl) (by kernel_rfl) rfl (by kernel_rfl) ?_
  repeat(first|refine lrund_ ?_|(refine ld_open rfl ?_;first|(refine ld_boxA rfl wy_ rfl ?_;intro _ _ _)|(refine ld_box1 rfl rfl wy_ rfl ?_;intro _ _ _)|(refine ld_alloc wy_ rfl ?_;intro _ _ _)))
  refine ld_open rfl ?_; refine ld_callX (n_call rfl) wy_ rfl (fun w hw => edge_calls) ?_
  rintro _ _ ⟨g1, g2, g3, rfl, rfl⟩
  dsimp only [List.cons_append, List.nil_append]
  repeat(first|refine lrund_ ?_|(refine ld_open rfl ?_;first|(refine ld_boxA rfl wy_ rfl ?_;intro _ _ _)|(refine ld_box1 rfl rfl wy_ rfl ?_;intro _ _ _)|(refine ld_alloc wy_ rfl ?_;intro _ _ _)))
  refine ld_open rfl ?_; refine ld_callV (n_call rfl) wy_ rfl (fun w hw => seek_calls (f := 37) (cap := [_, _, _]) (pred := edgeM l big (-1)) hs0 (Kn.sl hw.org h) hp (.inr rfl) fun q w' hk hq => by
    obtain ⟨A', c', ad', rV', rc', ra', he, hR'⟩ := (Kn.sl (hw.org.trans hk) h).rws
    cases he
    exact edge1_calls hR' (hk.cell (hw.cell (by(repeat(first|exact MIn.hd|refine MIn.tl ?_));done) rfl) id) (hk.cell (hw.cell (by(repeat(first|exact MIn.hd|refine MIn.tl ?_));done) rfl) id) (hk.cell (hw.cell (by(repeat(first|exact MIn.hd|refine MIn.tl ?_));done) rfl) id) hq (.inr rfl)) ?_
  rintro _ ⟨q, rfl, hsk⟩
  repeat(first|refine lrund_ ?_|(refine ld_open rfl ?_;first|(refine ld_boxA rfl wy_ rfl ?_;intro _ _ _)|(refine ld_box1 rfl rfl wy_ rfl ?_;intro _ _ _)|(refine ld_alloc wy_ rfl ?_;intro _ _ _)))
  exact l_retR1 rfl (by repeat(first|exact LRes.nil|refine LRes.tmp rfl ?_|refine LRes.agg rfl (by(repeat(first|exact MIn.hd|refine MIn.tl ?_));done) (by rfl) (by rfl) ?_|refine LRes.one rfl (by(repeat(first|exact MIn.hd|refine MIn.tl ?_));done) (by rfl) ?_)) fun w hw => ⟨hw.org, q, rfl, hsk⟩
set_option maxHeartbeats 1000000 in
theorem end_calls (hs0 : l.length + runesM l ≤ 4000) (h : Sl kRow F w v l) (hp : P64 p) : CallsR Try.prog 22 #[v, posV p, .bool big] w fun u w' => Kn w w' ∧ ∃ q, u = posV q ∧ SeekM (edgeM l big 1) l 1 p q := by
  obtain ⟨A, c, ad, rV, rc, ra, rfl, hR⟩ := h.rws
  refine l_enter (fun _ => False) Try.func22 rfl rfl ?_
  repeat(first|refine lrun_ ?_|(refine lo_boxA rfl rfl ?_;intro _ _ _)|(refine lo_box1 rfl rfl rfl ?_;intro _ _ _)|(refine lo_alloc rfl ?_;intro _ _ _))
  refine l_draw [(0, 0), (1, 0), (2, 0), (3, 0), (4, 1), (5, 1), (6, 1)] (by kernel_rfl) (by kernel_rfl) rfl (by kernel_rfl) ?_
  repeat(first|refine lrund_ ?_|(refine ld_open rfl ?_;first|(refine ld_boxA rfl wy_ rfl ?_;intro _ _ _)|(refine ld_box1 rfl rfl wy_ rfl ?_;intro _ _ _)|(refine ld_alloc wy_ rfl ?_;intro _ _ _)))
  refine ld_open rfl ?_; refine ld_callX (n_call rfl) wy_ rfl (fun w hw => edge_calls) ?_
  rintro _ _ ⟨g1, g2, g3, rfl, rfl⟩
  dsimp only [List.cons_append, List.nil_append]
  repeat(first|refine lrund_ ?_|(refine ld_open rfl ?_;first|(refine ld_boxA rfl wy_ rfl ?_;intro _ _ _)|(refine ld_box1 rfl rfl wy_ rfl ?_;intro _ _ _)|(refine ld_alloc wy_ rfl ?_;intro _ _ _)))
  refine ld_open rfl ?_; refine ld_callV (n_call rfl) wy_ rfl (fun w hw => seek_calls (f := 37) (cap := [_, _, _]) (pred := edgeM l big 1) hs0 (Kn.sl hw.org h) hp (.inl rfl) fun q w' hk hq => by
    obtain ⟨A', c', ad', rV', rc', ra', he, hR'⟩ := (Kn.sl (hw.org.trans hk) h).rws
    cases he
    exact edge1_calls hR' (hk.cell (hw.cell (by(repeat(first|exact MIn.hd|refine MIn.tl ?_));done) rfl) id) (hk.cell (hw.cell (by(repeat(first|exact MIn.hd|refine MIn.tl ?_));done) rfl) id) (hk.cell (hw.cell (by(repeat(first|exact MIn.hd|refine MIn.tl ?_));done) rfl) id) hq (.inl rfl)) ?_
  rintro _ ⟨q, rfl, hsk⟩
  repeat(first|refine lrund_ ?_|(refine ld_open rfl ?_;first|(refine ld_boxA rfl wy_ rfl ?_;intro _ _ _)|(refine ld_box1 rfl rfl wy_ rfl ?_;intro _ _ _)|(refine ld_alloc wy_ rfl ?_;intro _ _ _)))
  exact l_retR1 rfl (by repeat(first|exact LRes.nil|refine LRes.tmp rfl ?_|refine LRes.agg rfl (by(repeat(first|exact MIn.hd|refine MIn.tl ?_));done) (by rfl) (by rfl) ?_|refine LRes.one rfl (by(repeat(first|exact MIn.hd|refine MIn.tl ?_));done) (by rfl) ?_)) fun w hw => ⟨hw.org, q, rfl, hsk⟩
set_option maxHeartbeats 1000000 in
theorem sentNext_calls (hs0 : l.length + runesM l ≤ 4000) (h : Sl kRow F w v l) (hp : P64 p) : CallsR Try.prog 25 #[v, posV p] w fun u w' => Kn w w' ∧ ∃ q, u = posV q ∧ SeekM (sentM l) l 1 p q := by
  obtain ⟨A, c, ad, rV, rc, ra, rfl, hR⟩ := h.rws
  refine l_enter (fun _ => False) Try.func25 rfl rfl ?_
  repeat(first|refine lrun_ ?_|(refine lo_boxA rfl rfl ?_;intro _ _ _)|(refine lo_box1 rfl rfl rfl ?_;intro _ _ _)|(refine lo_alloc rfl ?_;intro _ _ _))
  refine l_draw [(0, 0), (1, 0), (2, 0), (3, 1), (4, 1), (5, 1)] (by kernel_rfl) (by kernel_rfl) rfl (by kernel_rfl) ?_
  repeat(first|refine lrund_ ?_|(refine ld_open rfl ?_;first|(refine ld_boxA rfl wy_ rfl ?_;intro _ _ _)|(refine ld_box1 rfl rfl wy_ rfl ?_;intro _ _ _)|(refine ld_alloc wy_ rfl ?_;intro _ _ _)))
  refine ld_open rfl ?_; refine ld_callX (n_call rfl) wy_ rfl (fun w hw => sentence_calls) ?_
  rintro _ _ ⟨g1, rfl, rfl⟩
  dsimp only [List.cons_append, List.nil_append]
  repeat(first|refine lrund_ ?_|(refine ld_open rfl ?_;first|(refine ld_boxA rfl wy_ rfl ?_;intro _ _ _)|(refine ld_box1 rfl rfl wy_ rfl ?_;intro _ _ _)|(refine ld_alloc wy_ rfl ?_;intro _ _ _)))
  refine ld_open rfl ?_; refine ld_callV (n_call rfl) wy_ rfl (fun w hw => seek_calls (f := 40) (cap := [_]) (pred := sentM l) hs0 (Kn.sl hw.org h) hp (.inl rfl) fun q w' hk hq => by
    obtain ⟨A', c', ad', rV', rc', ra', he, hR'⟩ := (Kn.sl (hw.org.trans hk) h).rws
    cases he
    exact sent1_calls hR' (hk.cell (hw.cell (by(repeat(first|exact MIn.hd|refine MIn.tl ?_));done) rfl) id) hq) ?_
  rintro _ ⟨q, rfl, hsk⟩
  repeat(first|refine lrund_ ?_|(refine ld_open rfl ?_;first|(refine ld_boxA rfl wy_ rfl ?_;intro _ _ _)|(refine ld_box1 rfl rfl wy_ rfl ?_;intro _ _ _)|(refine ld_alloc wy_ rfl ?_;intro _ _ _)))
  exact l_retR1 rfl (by repeat(first|exact LRes.nil|refine LRes.tmp rfl ?_|refine LRes.agg rfl (by(repeat(first|exact MIn.hd|refine MIn.tl ?_));done) (by rfl) (by rfl) ?_|refine LRes.one rfl (by(repeat(first|exact MIn.hd|refine MIn.tl ?_));done) (by rfl) ?_)) fun w hw => ⟨hw.org, q, rfl, hsk⟩
set_option maxHeartbeats 1000000 in
theorem sentPrev_calls (hs0 : l.length + runesM l ≤ 4000) (h : Sl kRow F w v l) (hp : P64 p) : CallsR Try.prog 26 #[v, posV p] w fun u w' => Kn w w' ∧ ∃ q, u = posV q ∧ SeekM (sentM l) l (-1) p q := by
  obtain ⟨A, c, ad, rV, rc, ra, rfl, hR⟩ := h.rws
  refine l_enter (fun _ => False) Try.func26 rfl rfl ?_
  repeat(first|refine lrun_ ?_|(refine lo_boxA rfl rfl ?_;intro _ _ _)|(refine lo_box1 rfl rfl rfl ?_;intro _ _ _)|(refine lo_alloc rfl ?_;intro _ _ _))
  refine l_draw [(0, 0), (1, 0), (2, 0), (3, 1), (4, 1), (5, 1)] (by kernel_rfl) (by kernel_rfl) rfl (by kernel_rfl) ?_
  repeat(first|refine lrund_ ?_|(refine ld_open rfl ?_;first|(refine ld_boxA rfl wy_ rfl ?_;intro _ _ _)|(refine ld_box1 rfl rfl wy_ rfl ?_;intro _ _ _)|(refine ld_alloc wy_ rfl ?_;intro _ _ _)))
  refine ld_open rfl ?_; refine ld_callX (n_call rfl) wy_ rfl (fun w hw => sentence_calls) ?_
  rintro _ _ ⟨g1, rfl, rfl⟩
  dsimp only [List.cons_append, List.nil_append]
  repeat(first|refine lrund_ ?_|(refine ld_open rfl ?_;first|(refine ld_boxA rfl wy_ rfl ?_;intro _ _ _)|(refine ld_box1 rfl rfl wy_ rfl ?_;intro _ _ _)|(refine ld_alloc wy_ rfl ?_;intro _ _ _)))
  refine ld_open rfl ?_; refine ld_callV (n_call rfl) wy_ rfl (fun w hw => seek_calls (f := 40) (cap := [_]) (pred := sentM l) hs0 (Kn.sl hw.org h) hp (.inr rfl) fun q w' hk hq => by
    obtain ⟨A', c', ad', rV', rc', ra', he, hR'⟩ := (Kn.sl (hw.org.trans hk) h).rws
    cases he
    exact sent1_calls hR' (hk.cell (hw.cell (by(repeat(first|exact MIn.hd|refine MIn.tl ?_));done) rfl) id) hq) ?_
  rintro _ ⟨q, rfl, hsk⟩
  repeat(first|refine lrund_ ?_|(refine ld_open rfl ?_;first|(refine ld_boxA rfl wy_ rfl ?_;intro _ _ _)|(refine ld_box1 rfl rfl wy_ rfl ?_;intro _ _ _)|(refine ld_alloc wy_ rfl ?_;intro _ _ _)))
  exact l_retR1 rfl (by repeat(first|exact LRes.nil|refine LRes.tmp rfl ?_|refine LRes.agg rfl (by(repeat(first|exact MIn.hd|refine MIn.tl ?_));done) (by rfl) (by rfl) ?_|refine LRes.one rfl (by(repeat(first|exact MIn.hd|refine MIn.tl ?_));done) (by rfl) ?_)) fun w hw => ⟨hw.org, q, rfl, hsk⟩
end
end Go.Ink
