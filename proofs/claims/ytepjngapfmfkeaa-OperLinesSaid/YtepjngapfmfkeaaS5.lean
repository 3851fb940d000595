/-
  The reference: First, Cut.
  The reference: Cut; OperCuts.
-/
import Derived.Test.YtepjngapfmfkeaaS1
import Derived.Test.YtepjngapfmfkeaaW1r
import Derived.Test.YtepjngapfmfkeaaS4
import Derived.Test.YtepjngapfmfkeaaW2r
set_option linter.unusedVariables false
set_option linter.unusedSimpArgs false
namespace Go.Ink
open Go Go.Proofs Go.RowKit

theorem firstI_hit {x : List Int} {k : Nat} (hk : k < x.length) (hc : classM (x.getD k 0) false ≠ 0) (hb : ∀ j, j < k → classM (x.getD j 0) false = 0) : firstI x = k := by
  have e : x.findIdx? (fun r => decide (classM r false ≠ 0)) = some k := by
    rw [List.findIdx?_eq_some_iff_getElem]
    refine ⟨hk, ?_, fun j hj => ?_⟩
    · rw [decide_eq_true_iff]
      rw [List.getD_eq_getElem?_getD, List.getElem?_eq_getElem hk] at hc
      exact hc
    · have hj' : j < x.length := by omega
      have := hb j hj
      rw [List.getD_eq_getElem?_getD, List.getElem?_eq_getElem hj', Option.getD_some] at this
      rw [this]
      decide
  unfold firstI
  rw [e]
  rfl
theorem firstI_no {x : List Int} (hb : ∀ j, j < x.length → classM (x.getD j 0) false = 0) : firstI x = x.length - 1 := by
  have e : x.findIdx? (fun r => decide (classM r false ≠ 0)) = none := by
    rw [List.findIdx?_eq_none_iff]
    intro a ha
    obtain ⟨j, hj, rfl⟩ := List.mem_iff_getElem.1 ha
    have := hb j hj
    rw [List.getD_eq_getElem?_getD, List.getElem?_eq_getElem hj, Option.getD_some] at this
    rw [this]
    decide
  unfold firstI
  rw [e]
  rfl
theorem firstR_calls {F : Nat → Prop} {w : World} {v : Value} {x : List Int} (h : Sl kRune F w v x) : CallsR Try.prog 50 #[v] w fun u w' => Kn w w' ∧ u = .int .i64 ((firstI x : Nat) : Int) := by
  obtain ⟨A, c, ad, rfl, hX⟩ := h.rns
  have hlen := hX.len
  refine l_enter (fun _ => False) Try.func50 rfl rfl ?_
  repeat(first|refine lrun_ ?_|(refine lo_boxA rfl rfl ?_;intro _ _ _)|(refine lo_box1 rfl rfl rfl ?_;intro _ _ _)|(refine lo_alloc rfl ?_;intro _ _ _))
  refine l_while (fun k : Nat => x.length - k) (fun k => [(0, .slice A x.length c), (3, .int .i64 (k : Int))]) (fun _ => []) (fun k => k ≤ x.length ∧ ∀ j, j < k → classM (x.getD j 0) false = 0) 0 (by repeat (first | exact SubB.nil | refine SubB.cons rfl ?_)) (by repeat(first|exact MSub.refl|refine MSub.keep rfl ?_|exact MSub.nil|apply MSub.drop)) ⟨Nat.zero_le _, fun j h => absurd h (Nat.not_lt_zero _)⟩ ?_
  rintro k ⟨hk, hb⟩ ih
  by_cases hlt : k < x.length
  · repeat(first|refine lrun_ ?_|(refine lo_boxA rfl rfl ?_;intro _ _ _)|(refine lo_box1 rfl rfl rfl ?_;intro _ _ _)|(refine lo_alloc rfl ?_;intro _ _ _))
    refine l_yes rfl (by omega) ?_
    repeat(first|refine lrun_ ?_|(refine lo_boxA rfl rfl ?_;intro _ _ _)|(refine lo_box1 rfl rfl rfl ?_;intro _ _ _)|(refine lo_alloc rfl ?_;intro _ _ _))
    refine lo_callP (n_call rfl) rfl (fun w' hw => classR_calls) ?_
    repeat(first|refine lrun_ ?_|(refine lo_boxA rfl rfl ?_;intro _ _ _)|(refine lo_box1 rfl rfl rfl ?_;intro _ _ _)|(refine lo_alloc rfl ?_;intro _ _ _))
    by_cases hc : classM (x.getD k 0) false = 0
    · refine l_no rfl (fun h => h hc) ?_
      refine l_go .skip ?_
      repeat(first|refine lrun_ ?_|(refine lo_boxA rfl rfl ?_;intro _ _ _)|(refine lo_box1 rfl rfl rfl ?_;intro _ _ _)|(refine lo_alloc rfl ?_;intro _ _ _))
      exact ih (k + 1) ⟨hlt, fun j hj => by
        rcases Nat.lt_succ_iff_lt_or_eq.1 hj with h | rfl
        · exact hb j h
        · exact hc⟩ (by omega) _ _ (by repeat (first | exact SubB.nil | refine SubB.cons rfl ?_)) (by repeat(first|exact MSub.refl|refine MSub.keep rfl ?_|exact MSub.nil|apply MSub.drop))
    · refine l_yes rfl hc ?_
      repeat(first|refine lrun_ ?_|(refine lo_boxA rfl rfl ?_;intro _ _ _)|(refine lo_box1 rfl rfl rfl ?_;intro _ _ _)|(refine lo_alloc rfl ?_;intro _ _ _))
      rw [← firstI_hit hlt hc hb]
      exact l_ret1 rfl rfl fun w' hw => ⟨hw.org, rfl⟩
  · obtain rfl : k = x.length := by omega
    repeat(first|refine lrun_ ?_|(refine lo_boxA rfl rfl ?_;intro _ _ _)|(refine lo_box1 rfl rfl rfl ?_;intro _ _ _)|(refine lo_alloc rfl ?_;intro _ _ _))
    refine l_no rfl (by omega) ?_
    refine l_go (.exit rfl) ?_
    repeat(first|refine lrun_ ?_|(refine lo_boxA rfl rfl ?_;intro _ _ _)|(refine lo_box1 rfl rfl rfl ?_;intro _ _ _)|(refine lo_alloc rfl ?_;intro _ _ _))
    refine l_ret1 rfl rfl fun w' hw => ⟨hw.org, ?_⟩
    rw [firstI_no hb]
    congr 1
    split <;> omega
theorem Ow.nW {α : Type} {d : Kd α} {G F : Nat → Prop} {w : World} {v : Value} {xs : List α} (h : Ow d G F w v xs) : Ow d (fun k => G k ∧ v.ownBlock = some k) F w v xs := by
  obtain ⟨cells, h1, h2, h3⟩ := h
  refine ⟨cells, h1, h2, h3.imp id ?_⟩
  rintro ⟨g, o, cap, cur, e, rfl, hg, r⟩
  exact ⟨g, o, cap, cur, e, rfl, ⟨hg, rfl⟩, r⟩
theorem Tab.and {G L Q : Nat → Prop} {w : World} {v : Value} {us : List Value} {rows : List (List Int)} (h : Tab G L w v us rows) (hv : ∀ k, v.ownBlock = some k → Q k) (hr : ∀ i u k, L i → us[i]? = some u → u.ownBlock = some k → Q k) : Tab (fun k => G k ∧ Q k) L w v us rows :=
  ⟨h.t.nW.mono (fun k hk _ => ⟨hk.1, hv k hk.2⟩) fun _ h _ => h, h.len, fun j u x hj hu hx => (h.row j u x hj hu hx).nW.mono (fun k hk _ => ⟨⟨hk.1.1, hr j u k hj hu hk.2⟩, hk.1.2⟩) fun _ h _ => h, h.apart⟩
section
variable {P : Program} {fn : Func} {k : List Item} {σ : Sig} {O B : World} {S K L : Nat → Prop} {M : Mm} {R : Pt} {ops : Array Oper} {rest : List Oper}
variable {dd : Option Nat} {oty : TypeId} {opos : String} {oaf : Array Edge}
theorem lo_tabPush2 {x y : Operand} {t e : TypeId} {z : Value} [hT : SlT P t e] [hE : ElT P e 1 24 z] {v : Value} {us : List Value} {rows : List (List Int)} {u : Value} {r : List Int} {g : Nat} {eb : TypeId} (hx : ev σ x = some v) (hy : ev σ y = some (.slice (some ⟨g, 0, none⟩) 1 1))
    (hO : Tab (fre O K) L B v us rows) (hm : MIn g (cb [u] eb) M) (hr : Ow kRune (fun k => fre O K k ∧ v.ownBlock ≠ some k) (fun _ => False) B u r) (hL : ¬ L rows.length) (ha : ∀ i u2 k, L i → us[i]? = some u2 → u2.ownBlock = some k → u.ownBlock = some k → False) (hlen : (rows.length + 1) * 24 ≤ 140737488355328) (hz : z.cells.size = 1) (hd : okD dd fn.ntmps = true)
    (h : ∀ w A n w', Lw O S B K M w → Kp S O w' → Kp (fun k => K k ∨ v.ownBlock = some k) B w' → (∀ k, (Value.slice A (rows ++ [r]).length n).ownBlock = some k → v.ownBlock = some k ∨ B.heap.size ≤ k) → Tab (fre O (MK M)) (fun i => L i ∨ i = rows.length) w' (.slice A (rows ++ [r]).length n) (us ++ [u]) (rows ++ [r]) → WLo P fn ops rest k (putS dd (.slice A (rows ++ [r]).length n) σ) O S w' (MK M) M R) :
    WLo P fn ops ((⟨dd, .call { callee := .builtin .append, args := #[x, y], argTypes := #[t, t] }, oty, opos, oaf, none⟩ : Oper) :: rest) k σ O S B K M R := by
  have hul : us.length = rows.length := hO.len
  refine lo_append1 (d := kRaw) (q := u) hx hy hO.t (fun _ h => h.elim) hm (fun w' hw => ⟨rfl, by obtain ⟨_, _, rfl, _⟩ := hr.form; rfl⟩) (by rw [hul]; exact hlen) rfl rfl hz hd fun w A n w' hw ko kp hown hog => ?_
  have e : (us ++ [u]).length = (rows ++ [r]).length := by rw [List.length_append, List.length_append, hul]; rfl
  rw [e] at hog hown ⊢
  refine h w A n w' hw ko kp hown ?_
  have hvne : ∀ k, fre O K k → k < B.heap.size → v.ownBlock ≠ some k → fre O (MK M) k ∧ (Value.slice A (rows ++ [r]).length n).ownBlock ≠ some k := fun k hk hl hv => ⟨⟨hk.1, hw.apart hk.2 hl⟩, fun e => (hown k e).elim hv fun h => by omega⟩
  refine hO.push (fun k hk hv hl => kp.block k hl fun h => h.elim hk.2 hv) hog hvne hL ?_ ha
  have h1 := hr.mono (G' := fun k => (fre O K k ∧ v.ownBlock ≠ some k) ∧ k < B.heap.size) (F' := fun _ => False) (fun k hk hl => ⟨hk, hl⟩) fun _ h _ => h
  exact (Kp.ow kp h1 (fun k hk h => h.elim hk.1.1.2 hk.1.2) fun _ h => h.elim).mono (fun k hk _ => hvne k hk.1.1 hk.2 hk.1.2) fun _ h _ => h
end
section
variable {F : Nat → Prop} {w B : World} {A : Option Addr} {c : Nat} {l : List (List Int)} {r : Rg} {a b : Ps} {g3 g5 g8 g9 : Nat} {kk : List Item} {R : Value → World → Prop} {i0 n : Nat}
/-- What the loop has so far. -/
def outX (l : List (List Int)) (r : Rg) (i0 j : Nat) : List (List Int) := l.take i0 ++ (if r.kind = 2 then gatM (outR l r) i0 j else [])
def keptX (l : List (List Int)) (r : Rg) (i0 j : Nat) : List Int := (gatM (outR l r) i0 j).flatten
structure CutI (w : World) (M : Mm) (b : World) (u v : Value) (us : List Value) (rows : List (List Int)) (kept : List Int) : Prop where
  t : Tab (fun k => fre w (MK M) k ∧ v.ownBlock ≠ some k) (fun _ => True) b u us rows
  k : Og kRune w b (MK M) (fun _ => False) v kept
theorem CutI.now {M : Mm} {b w' : World} {u v : Value} {us : List Value} {rows : List (List Int)} {kept : List Int} {S : Nat → Prop} (h : CutI w M b u v us rows kept) (hw : Lw w S b (MK M) M w') : CutI w M w' u v us rows kept :=
  ⟨h.t.kp hw.kp fun k hk hm => hk.1.2 hm, h.k.now (fun _ h => h.elim) hw⟩
theorem CutI.kn {M : Mm} {b w' : World} {u v : Value} {us : List Value} {rows : List (List Int)} {kept : List Int} (h : CutI w M b u v us rows kept) (hk : Kn b w') : CutI w M w' u v us rows kept :=
  ⟨h.t.kn hk, Kp.ow hk h.k (fun _ _ h => h) fun _ h => h.elim⟩
theorem keptX_succ (l : List (List Int)) (r : Rg) (i0 j : Nat) : keptX l r i0 (j + 1) = keptX l r i0 j ++ outR l r (i0 + j) := by
  unfold keptX
  show ((gatM (outR l r) i0 j) ++ [outR l r (i0 + j)]).flatten = _
  rw [List.flatten_append]
  simp
theorem outX_2 (l : List (List Int)) (r : Rg) (i0 j : Nat) (h : r.kind = 2) : outX l r i0 (j + 1) = outX l r i0 j ++ [outR l r (i0 + j)] := by
  unfold outX
  rw [if_pos h, if_pos h]
  show _ ++ ((gatM (outR l r) i0 j) ++ [outR l r (i0 + j)]) = _
  rw [List.append_assoc]
theorem outX_n (l : List (List Int)) (r : Rg) (i0 j : Nat) (h : r.kind ≠ 2) : outX l r i0 (j + 1) = outX l r i0 j := by
  unfold outX
  rw [if_neg h, if_neg h]
theorem outX_len (l : List (List Int)) (r : Rg) (i0 j : Nat) : (outX l r i0 j).length ≤ l.length + j := by
  unfold outX
  rw [List.length_append, List.length_take]
  split
  · rw [gat_len]; omega
  · simp only [List.length_nil]; omega
set_option maxHeartbeats 8000000 in
theorem rc_loop (h : Sl kRow F w (.slice A l.length c) l) (hr : RgOk l r) (ha : (endsR r).1 = a) (hb : (endsR r).2 = b) (hl : l.length ≤ 4096) (hk : ∀ j, (l.getD j []).length ≤ 1048576) (hg : ∀ j, j ≤ n → (keptX l r i0 j).length ≤ 4194304) (ha0 : a.1 = (i0 : Int)) (hn : b.1 + 1 = ((i0 + n : Nat) : Int)) (hin : i0 + n ≤ l.length)
    {A0 : Option Addr} {c0 : Nat} {us0 : List Value} (h0 : CutI w [(g9, cb [.int .i64 b.1, .int .i64 b.2] 24), (g8, cb [.int .i64 a.1, .int .i64 a.2] 24), (g5, cb [.int .i64 0, .int .i64 0] 24), (g3, cb [.int .i64 r.fr.1, .int .i64 r.fr.2, .int .i64 r.to.1, .int .i64 r.to.2, .int .i64 r.kind] 26)] B (.slice A0 (outX l r i0 0).length c0) (.slice none 0 0) us0 (outX l r i0 0) [])
    (done : ∀ (bw : World) (A1 : Option Addr) (c1 : Nat) (us : List Value) (A2 : Option Addr) (c2 : Nat), CutI w [(g9, cb [.int .i64 b.1, .int .i64 b.2] 24), (g8, cb [.int .i64 a.1, .int .i64 a.2] 24), (g5, cb [.int .i64 0, .int .i64 0] 24), (g3, cb [.int .i64 r.fr.1, .int .i64 r.fr.2, .int .i64 r.to.1, .int .i64 r.to.2, .int .i64 r.kind] 26)] bw (.slice A1 (outX l r i0 n).length c1) (.slice A2 (keptX l r i0 n).length c2) us (outX l r i0 n) (keptX l r i0 n) → ∀ σ', SubB σ' [(0, .slice A l.length c), (3, .pointer (some ⟨g3, 0, none⟩)), (5, .pointer (some ⟨g5, 0, none⟩)), (8, .pointer (some ⟨g8, 0, none⟩)), (9, .pointer (some ⟨g9, 0, none⟩)), (10, .slice A1 (outX l r i0 n).length c1), (11, .slice A2 (keptX l r i0 n).length c2)] → ∀ M', MSub [(g9, cb [.int .i64 b.1, .int .i64 b.2] 24), (g8, cb [.int .i64 a.1, .int .i64 a.2] 24), (g5, cb [.int .i64 0, .int .i64 0] 24), (g3, cb [.int .i64 r.fr.1, .int .i64 r.fr.2, .int .i64 r.to.1, .int .i64 r.to.2, .int .i64 r.kind] 26)] M' → WL Try.prog Try.f19 kk σ' w (fun _ => False) bw (MK [(g9, cb [.int .i64 b.1, .int .i64 b.2] 24), (g8, cb [.int .i64 a.1, .int .i64 a.2] 24), (g5, cb [.int .i64 0, .int .i64 0] 24), (g3, cb [.int .i64 r.fr.1, .int .i64 r.fr.2, .int .i64 r.to.1, .int .i64 r.to.2, .int .i64 r.kind] 26)]) M' R) :
    ∀ σ', SubB σ' [(0, .slice A l.length c), (3, .pointer (some ⟨g3, 0, none⟩)), (5, .pointer (some ⟨g5, 0, none⟩)), (8, .pointer (some ⟨g8, 0, none⟩)), (9, .pointer (some ⟨g9, 0, none⟩)), (10, .slice A0 (outX l r i0 0).length c0), (11, .slice none 0 0), (12, .int .i64 ((i0 + 0 : Nat) : Int))] → ∀ M', MSub [(g9, cb [.int .i64 b.1, .int .i64 b.2] 24), (g8, cb [.int .i64 a.1, .int .i64 a.2] 24), (g5, cb [.int .i64 0, .int .i64 0] 24), (g3, cb [.int .i64 r.fr.1, .int .i64 r.fr.2, .int .i64 r.to.1, .int .i64 r.to.2, .int .i64 r.kind] 26)] M' →
      WL Try.prog Try.f19 (.code (.loop (bodyC Try.f19 [1, 1, 1, 1, 1, 1, 0, 1, 0, 0])) :: .inBlock 0 :: kk) σ' w (fun _ => False) B (MK [(g9, cb [.int .i64 b.1, .int .i64 b.2] 24), (g8, cb [.int .i64 a.1, .int .i64 a.2] 24), (g5, cb [.int .i64 0, .int .i64 0] 24), (g3, cb [.int .i64 r.fr.1, .int .i64 r.fr.2, .int .i64 r.to.1, .int .i64 r.to.2, .int .i64 r.kind] 26)]) M' R := by
  intro σ' hs M' hM
  refine WL.sub hs hM ?_
  refine l_whileB (fun s : Nat × Option Addr × Nat × List Value × Option Addr × Nat => n - s.1) (fun s => [(0, .slice A l.length c), (3, .pointer (some ⟨g3, 0, none⟩)), (5, .pointer (some ⟨g5, 0, none⟩)), (8, .pointer (some ⟨g8, 0, none⟩)), (9, .pointer (some ⟨g9, 0, none⟩)), (10, .slice s.2.1 (outX l r i0 s.1).length s.2.2.1), (11, .slice s.2.2.2.2.1 (keptX l r i0 s.1).length s.2.2.2.2.2), (12, .int .i64 ((i0 + s.1 : Nat) : Int))]) (fun _ => [(g9, cb [.int .i64 b.1, .int .i64 b.2] 24), (g8, cb [.int .i64 a.1, .int .i64 a.2] 24), (g5, cb [.int .i64 0, .int .i64 0] 24), (g3, cb [.int .i64 r.fr.1, .int .i64 r.fr.2, .int .i64 r.to.1, .int .i64 r.to.2, .int .i64 r.kind] 26)])
    (fun s bw => s.1 ≤ n ∧ CutI w [(g9, cb [.int .i64 b.1, .int .i64 b.2] 24), (g8, cb [.int .i64 a.1, .int .i64 a.2] 24), (g5, cb [.int .i64 0, .int .i64 0] 24), (g3, cb [.int .i64 r.fr.1, .int .i64 r.fr.2, .int .i64 r.to.1, .int .i64 r.to.2, .int .i64 r.kind] 26)] bw (.slice s.2.1 (outX l r i0 s.1).length s.2.2.1) (.slice s.2.2.2.2.1 (keptX l r i0 s.1).length s.2.2.2.2.2) s.2.2.2.1 (outX l r i0 s.1) (keptX l r i0 s.1)) (0, A0, c0, us0, none, 0) (by repeat (first | exact SubB.nil | refine SubB.cons rfl ?_)) (by repeat(first|exact MSub.refl|refine MSub.keep rfl ?_|exact MSub.nil|apply MSub.drop)) (fun w' hw => ⟨Nat.zero_le _, h0.now hw⟩) ?_
  rintro ⟨j, A1, c1, us, A2, c2⟩ bw ⟨hj, hC⟩ hkb ih
  simp only at hj hC
  dsimp only
  have hxl := outX_len l r i0 j
  by_cases hlt : j < n
  · have hil : i0 + j < l.length := by omega
    have hpe := parted_eq (l := l) (i := i0 + j) hr (by rw [ha, ha0]; omega) (by rw [hb]; omega)
    have J : ∀ (B5 : World) (A1 : Option Addr) (c1 : Nat) (us : List Value) (As : Option Addr) (cs : Nat) (Ft : Nat → Prop), CutI w [(g9, cb [.int .i64 b.1, .int .i64 b.2] 24), (g8, cb [.int .i64 a.1, .int .i64 a.2] 24), (g5, cb [.int .i64 0, .int .i64 0] 24), (g3, cb [.int .i64 r.fr.1, .int .i64 r.fr.2, .int .i64 r.to.1, .int .i64 r.to.2, .int .i64 r.kind] 26)] B5 (.slice A1 (outX l r i0 (j + 1)).length c1) (.slice A2 (keptX l r i0 j).length c2) us (outX l r i0 (j + 1)) (keptX l r i0 j) → Sl kRune Ft B5 (.slice As (outR l r (i0 + j)).length cs) (outR l r (i0 + j)) → (∀ k, Ft k → (Value.slice A2 (keptX l r i0 j).length c2).ownBlock ≠ some k ∧ ¬ MK [(g9, cb [.int .i64 b.1, .int .i64 b.2] 24), (g8, cb [.int .i64 a.1, .int .i64 a.2] 24), (g5, cb [.int .i64 0, .int .i64 0] 24), (g3, cb [.int .i64 r.fr.1, .int .i64 r.fr.2, .int .i64 r.to.1, .int .i64 r.to.2, .int .i64 r.kind] 26)] k) → bw.heap.size ≤ B5.heap.size →
        ∀ σ', SubB σ' [(0, .slice A l.length c), (3, .pointer (some ⟨g3, 0, none⟩)), (5, .pointer (some ⟨g5, 0, none⟩)), (8, .pointer (some ⟨g8, 0, none⟩)), (9, .pointer (some ⟨g9, 0, none⟩)), (10, .slice A1 (outX l r i0 (j + 1)).length c1), (11, .slice A2 (keptX l r i0 j).length c2), (12, .int .i64 ((i0 + j : Nat) : Int)), (14, .slice As (outR l r (i0 + j)).length cs)] → ∀ M', MSub [(g9, cb [.int .i64 b.1, .int .i64 b.2] 24), (g8, cb [.int .i64 a.1, .int .i64 a.2] 24), (g5, cb [.int .i64 0, .int .i64 0] 24), (g3, cb [.int .i64 r.fr.1, .int .i64 r.fr.2, .int .i64 r.to.1, .int .i64 r.to.2, .int .i64 r.kind] 26)] M' →
        WL Try.prog Try.f19 (.code (bodyC Try.f19 [1, 1, 1, 1, 1, 1, 0, 1, 0, 0, 1, 0, 0, 1, 1]) :: .inBlock 1 :: .code (bodyC Try.f19 [1, 1, 1, 1, 1, 1, 0, 1, 0, 0, 1, 1]) :: .inLoop (bodyC Try.f19 [1, 1, 1, 1, 1, 1, 0, 1, 0, 0]) :: .inBlock 0 :: kk) σ' w (fun _ => False) B5 (MK [(g9, cb [.int .i64 b.1, .int .i64 b.2] 24), (g8, cb [.int .i64 a.1, .int .i64 a.2] 24), (g5, cb [.int .i64 0, .int .i64 0] 24), (g3, cb [.int .i64 r.fr.1, .int .i64 r.fr.2, .int .i64 r.to.1, .int .i64 r.to.2, .int .i64 r.kind] 26)]) M' R := by
      intro B5 A1 c1 us As cs Ft hC5 hSt hFt hB5 σ' hs M' hM
      refine WL.sub hs hM ?_
      repeat(first|refine lrun_ ?_|(refine lo_boxA rfl rfl ?_;intro _ _ _)|(refine lo_box1 rfl rfl rfl ?_;intro _ _ _)|(refine lo_alloc rfl ?_;intro _ _ _))
      have hg1 := hg j (by omega)
      have ho1 := outs_le l r (i0 + j)
      have hk1 := hk (i0 + j)
      refine lo_appendS (d := kRune) (ys := outR l r (i0 + j)) rfl rfl hC5.k (fun w' hw => Kp.sl hw.kp hSt fun k hk => (hFt k hk).2) (fun k hk ho => (hFt k hk).1 ho) (by show ((keptX l r i0 j).length + (outR l r (i0 + j)).length) * 4 ≤ 140737488355328; omega) rfl rfl rfl rfl ?_
      intro w3 A3 c3 w4 hw3 ko3 kp3 hown hog
      rw [← keptX_succ] at hog hown ⊢
      have hC4 : CutI w [(g9, cb [.int .i64 b.1, .int .i64 b.2] 24), (g8, cb [.int .i64 a.1, .int .i64 a.2] 24), (g5, cb [.int .i64 0, .int .i64 0] 24), (g3, cb [.int .i64 r.fr.1, .int .i64 r.fr.2, .int .i64 r.to.1, .int .i64 r.to.2, .int .i64 r.kind] 26)] w4 (.slice A1 (outX l r i0 (j + 1)).length c1) (.slice A3 (keptX l r i0 (j + 1)).length c3) us (outX l r i0 (j + 1)) (keptX l r i0 (j + 1)) := by
        refine ⟨(hC5.t.bound.kp kp3 fun k hk hm => hm.elim hk.1.1.2 hk.1.2).mono fun k hk _ => ⟨hk.1.1, fun e => ?_⟩, hog⟩
        rcases hown k e with h | h
        · exact hk.1.2 h
        · have := hk.2; omega
      repeat(first|refine lrun_ ?_|(refine lo_boxA rfl rfl ?_;intro _ _ _)|(refine lo_box1 rfl rfl rfl ?_;intro _ _ _)|(refine lo_alloc rfl ?_;intro _ _ _))
      exact ih (j + 1, A1, c1, us, A3, c3) w4 _ ⟨hlt, hC4⟩ (by simp only; omega) _ _ (by repeat (first | exact SubB.nil | refine SubB.cons rfl ?_)) (by repeat(first|exact MSub.refl|refine MSub.keep rfl ?_|exact MSub.nil|apply MSub.drop)) fun w' hw' => ⟨hlt, hC4.now hw'⟩
    repeat(first|refine lrun_ ?_|(refine lo_boxA rfl rfl ?_;intro _ _ _)|(refine lo_box1 rfl rfl rfl ?_;intro _ _ _)|(refine lo_alloc rfl ?_;intro _ _ _))
    refine l_yes rfl (by omega) ?_
    repeat(first|refine lrun_ ?_|(refine lo_boxA rfl rfl ?_;intro _ _ _)|(refine lo_box1 rfl rfl rfl ?_;intro _ _ _)|(refine lo_alloc rfl ?_;intro _ _ _))
    refine lo_callM (n_call rfl) rfl (fun w' hw => parted_calls (r := r) (i := i0 + j) (Kn.sl hw.org h) hil (hk _)) ?_
    rintro w1 _ w2 hw1 kn1 ko1 ⟨s, t, rfl, _, hOt⟩
    rw [hpe.2] at hOt
    obtain ⟨At, ct, rfl, _, _⟩ := hOt.form
    have hs1 := hw1.kp.size
    have hs1o := hw1.org.size
    have hs2 := kn1.size
    have htb := hOt.block
    have hkb := hC.k.block
    have hC2 := (hC.now hw1).kn kn1
    have hlm : ∀ k, MK [(g9, cb [.int .i64 b.1, .int .i64 b.2] 24), (g8, cb [.int .i64 a.1, .int .i64 a.2] 24), (g5, cb [.int .i64 0, .int .i64 0] 24), (g3, cb [.int .i64 r.fr.1, .int .i64 r.fr.2, .int .i64 r.to.1, .int .i64 r.to.2, .int .i64 r.kind] 26)] k → k < w1.heap.size := fun k hm => hw1.lt hm
    have hvb : ∀ k, (Value.slice A1 (outX l r i0 j).length c1).ownBlock = some k → k < bw.heap.size := fun k hk => (hC.t.t.block k hk).2
    have hrb : ∀ (i : Nat) (u2 : Value) (k : Nat), us[i]? = some u2 → u2.ownBlock = some k → k < bw.heap.size := fun i u2 k hu hk => (hC.t.blk trivial hu hk).2.1
    repeat(first|refine lrun_ ?_|(refine lo_boxA rfl rfl ?_;intro _ _ _)|(refine lo_box1 rfl rfl rfl ?_;intro _ _ _)|(refine lo_alloc rfl ?_;intro _ _ _))
    by_cases hk2 : r.kind = 2
    case neg =>
      refine l_no rfl hk2 ?_
      refine l_go .skip ?_
      rw [← outX_n l r i0 j hk2] at hC2 ⊢
      exact J w2 A1 c1 us At ct (noB w1) hC2 (hOt.slF (fun _ h => h) fun _ h => h.elim) (fun k hk => ⟨fun e => by have := (hkb k e).2; unfold noB at hk; omega, fun hm => by have := hlm k hm; unfold noB at hk; omega⟩) (by omega) _ (by repeat (first | exact SubB.nil | refine SubB.cons rfl ?_)) _ (by repeat(first|exact MSub.refl|refine MSub.keep rfl ?_|exact MSub.nil|apply MSub.drop))
    refine l_yes rfl hk2 ?_
    refine l_region ?_
    repeat(first|refine lops_ ?_|(refine lo_boxA rfl rfl ?_;intro _ _ _)|(refine lo_box1 rfl rfl rfl ?_;intro _ _ _)|(refine lo_alloc rfl ?_;intro _ _ _))
    refine lo_lit (cs := [.slice At (outR l r (i0 + j)).length ct]) rfl (by decide) (by kernel_rfl) rfl ?_
    intro g53 _ hg53
    refine lo_tabPush2 (r := outR l r (i0 + j)) rfl rfl ((hC2.t.mono (G' := fre w (MK [(g9, cb [.int .i64 b.1, .int .i64 b.2] 24), (g8, cb [.int .i64 a.1, .int .i64 a.2] 24), (g5, cb [.int .i64 0, .int .i64 0] 24), (g3, cb [.int .i64 r.fr.1, .int .i64 r.fr.2, .int .i64 r.to.1, .int .i64 r.to.2, .int .i64 r.kind] 26)])) fun k hk _ => hk.1).less (L' := fun i => i < (outX l r i0 j).length) fun _ _ => trivial) (by(repeat(first|exact MIn.hd|refine MIn.tl ?_));done) (hOt.nE.mono (fun k hk _ => ⟨⟨by have := hk.1; unfold noB at this; omega, fun hm => by have := hlm k hm; have := hk.1; unfold noB at this; omega⟩, fun e => by have := hvb k e; have := hk.1; unfold noB at this; omega⟩) fun _ h _ => h) (Nat.lt_irrefl _) (fun i u2 k hi hu hk hk2 => by have := hrb i u2 k hu hk; have := (htb k hk2).1; unfold noB at this; omega) (by omega) rfl rfl ?_
    intro w3 A4 n4 w4 hw3 ko3 kp3 hown hT4
    rw [← outX_2 l r i0 j hk2] at hT4 hown ⊢
    have hs3 := hw3.kp.size
    have hT5 := (hT4.and (Q := fun k => (Value.slice A2 (keptX l r i0 j).length c2).ownBlock ≠ some k) (fun k e he => by
      rcases hown k e with h | h
      · exact (hC2.t.t.block k h).1.2 he
      · have := (hkb k he).2; omega) fun i u2 k hi hu hk he => by
        by_cases hiu : i < us.length
        · rw [List.getElem?_append_left hiu] at hu
          exact (hC2.t.blk trivial hu hk).1.2 he
        · rw [List.getElem?_append_right (by omega)] at hu
          have : i - us.length = 0 := by have := (List.getElem?_eq_some_iff.1 hu).1; simp at this; omega
          rw [this] at hu
          simp at hu
          rw [← hu] at hk
          have := (htb k hk).1
          have := (hkb k he).2
          unfold noB at *
          omega).all fun i hi => by
        rw [outX_2 l r i0 j hk2, List.length_append] at hi
        show i < _ ∨ i = _
        simp only [List.length_cons, List.length_nil] at hi
        omega
    have hk4 : Og kRune w w4 (MK [(g9, cb [.int .i64 b.1, .int .i64 b.2] 24), (g8, cb [.int .i64 a.1, .int .i64 a.2] 24), (g5, cb [.int .i64 0, .int .i64 0] 24), (g3, cb [.int .i64 r.fr.1, .int .i64 r.fr.2, .int .i64 r.to.1, .int .i64 r.to.2, .int .i64 r.kind] 26)]) (fun _ => False) (.slice A2 (keptX l r i0 j).length c2) (keptX l r i0 j) := Kp.ow kp3 hC2.k.nW (fun k hk hm => hm.elim hk.1.2 fun e => (hC2.t.t.block k e).1.2 hk.2) (fun _ h => h.elim) |>.mono (fun k hk _ => hk.1) fun _ h _ => h
    have hb4 : ∀ k, MK [(g9, cb [.int .i64 b.1, .int .i64 b.2] 24), (g8, cb [.int .i64 a.1, .int .i64 a.2] 24), (g5, cb [.int .i64 0, .int .i64 0] 24), (g3, cb [.int .i64 r.fr.1, .int .i64 r.fr.2, .int .i64 r.to.1, .int .i64 r.to.2, .int .i64 r.kind] 26)] k → MK ((g53, cb [.slice At (outR l r (i0 + j)).length ct] 35) :: [(g9, cb [.int .i64 b.1, .int .i64 b.2] 24), (g8, cb [.int .i64 a.1, .int .i64 a.2] 24), (g5, cb [.int .i64 0, .int .i64 0] 24), (g3, cb [.int .i64 r.fr.1, .int .i64 r.fr.2, .int .i64 r.to.1, .int .i64 r.to.2, .int .i64 r.kind] 26)]) k := fun k ⟨o, hm⟩ => ⟨o, .tl hm⟩
    repeat(first|refine lops_ ?_|(refine lo_boxA rfl rfl ?_;intro _ _ _)|(refine lo_box1 rfl rfl rfl ?_;intro _ _ _)|(refine lo_alloc rfl ?_;intro _ _ _))
    refine lo_nil ?_
    refine l_baseM (M3 := [(g9, cb [.int .i64 b.1, .int .i64 b.2] 24), (g8, cb [.int .i64 a.1, .int .i64 a.2] 24), (g5, cb [.int .i64 0, .int .i64 0] 24), (g3, cb [.int .i64 r.fr.1, .int .i64 r.fr.2, .int .i64 r.to.1, .int .i64 r.to.2, .int .i64 r.kind] 26)]) (by repeat(first|exact MSub.refl|refine MSub.keep rfl ?_|exact MSub.nil|apply MSub.drop)) fun w5 hw5 => ?_
    have hs5 := hw5.kp.size
    have hs4 := kp3.size
    have hC5 : CutI w [(g9, cb [.int .i64 b.1, .int .i64 b.2] 24), (g8, cb [.int .i64 a.1, .int .i64 a.2] 24), (g5, cb [.int .i64 0, .int .i64 0] 24), (g3, cb [.int .i64 r.fr.1, .int .i64 r.fr.2, .int .i64 r.to.1, .int .i64 r.to.2, .int .i64 r.kind] 26)] w5 (.slice A4 (outX l r i0 (j + 1)).length n4) (.slice A2 (keptX l r i0 j).length c2) (us ++ [.slice At (outR l r (i0 + j)).length ct]) (outX l r i0 (j + 1)) (keptX l r i0 j) := by
      refine ⟨(hT5.kp hw5.kp fun k hk hm => hk.1.2 hm).mono fun k hk _ => ⟨⟨hk.1.1, fun hm => hk.1.2 (hb4 k hm)⟩, hk.2⟩, ?_⟩
      refine (Kp.ow hw5.kp hk4.nW (fun k hk hm => ?_) fun _ h => h.elim).mono (fun k hk _ => hk.1) fun _ h _ => h
      obtain ⟨o, hm⟩ := hm
      cases hm with
      | hd => have := (hkb _ hk.2).2; omega
      | tl hm => exact hk.1.2 ⟨o, hm⟩
    exact J w5 A4 n4 _ At ct (fun k => noB w1 k ∧ k < w2.heap.size) hC5 (Kp.sl hw5.kp (Kp.sl kp3 ((hOt.slF (F' := noB w1) (fun _ h => h) fun _ h => h.elim).mono (F' := fun k => noB w1 k ∧ k < w2.heap.size) fun k hk hl => ⟨hk, hl⟩) fun k hk hm => hm.elim (fun hm => by have := hlm k hm; have := hk.1; unfold noB at this; omega) fun e => by have := hvb k e; have := hk.1; unfold noB at this; omega) fun k hk ⟨o, hm⟩ => by
        cases hm with
        | hd => have := hk.2; omega
        | tl hm => have := hlm k ⟨o, hm⟩; have := hk.1; unfold noB at this; omega) (fun k hk => ⟨fun e => by have := (hkb k e).2; have := hk.1; unfold noB at this; omega, fun hm => by have := hlm k hm; have := hk.1; unfold noB at this; omega⟩) (by omega) _ (by repeat (first | exact SubB.nil | refine SubB.cons rfl ?_)) _ (by repeat(first|exact MSub.refl|refine MSub.keep rfl ?_|exact MSub.nil|apply MSub.drop))
  · obtain rfl : j = n := by omega
    repeat(first|refine lrun_ ?_|(refine lo_boxA rfl rfl ?_;intro _ _ _)|(refine lo_box1 rfl rfl rfl ?_;intro _ _ _)|(refine lo_alloc rfl ?_;intro _ _ _))
    refine l_no rfl (by omega) ?_
    refine l_go (.exit rfl) ?_
    exact done bw _ _ us _ _ hC _ (by repeat (first | exact SubB.nil | refine SubB.cons rfl ?_)) _ (by repeat(first|exact MSub.refl|refine MSub.keep rfl ?_|exact MSub.nil|apply MSub.drop))
end
end Go.Ink

set_option linter.unusedVariables false
set_option linter.unusedSimpArgs false
namespace Go.Ink
open Go Go.Proofs Go.RowKit

theorem og_lit1 {O B w : World} {S K F : Nat → Prop} {M M' : Mm} {g : Nat} {e : TypeId} {u : Value} {x : List Int} (hw : Lw O S B K M w) (hm : MIn g (cb [u] e) M) (hO : O.heap.size ≤ g) (hn : ¬ MK M' g) (hu : Sl kRune (fun k => F k ∧ g ≠ k) w u x) : Og kRow O w (MK M') F (.slice (some ⟨g, 0, none⟩) 1 1) [x] :=
  ⟨[u], ⟨_, [], rfl, ⟨u, rfl, hu.mono fun k hk _ => ⟨hk.1, fun e => hk.2 (by cases e; rfl)⟩⟩, rfl⟩, by unfold Fits; show 1 * 24 ≤ _; decide, .inr ⟨g, 0, 1, #[u], e, rfl, ⟨hO, hn⟩, hw.mem g _ hm, Nat.le_refl _, by unfold maxLen; decide, Nat.le_refl 1, fun j u hu => by simpa using hu⟩⟩
section
variable {F : Nat → Prop} {w B : World} {A A1 : Option Addr} {c c1 : Nat} {l xs o : List (List Int)} {r : Rg} {a b : Ps} {g3 g5 g8 g9 : Nat} {i0 n : Nat}
/-- What is said of Cut. -/
def CutR (w : World) (l : List (List Int)) (r : Rg) (u : Value) (w' : World) : Prop := Kn w w' ∧ ∃ s, u = .tuple #[s, posV (cutM l r).2, .int .i64 (thereR l r)] ∧ Ow kRow (noB w) (noB w) w' s (cutM l r).1
set_option maxHeartbeats 8000000 in
/-- Of whole lines, the place behind. -/
theorem rc_whole (h0 : thereR l r = 0) (he : cutM l r = (o, (((min i0 (o.length - 1) : Nat) : Int), (firstI (o.getD (min i0 (o.length - 1)) []) : Int)))) (ho : o ≠ []) (hol : o.length ≤ 16384) (ha : a.1 = (i0 : Int))
    (hO : Og kRow w B (MK [(g9, cb [.int .i64 b.1, .int .i64 b.2] 24), (g8, cb [.int .i64 a.1, .int .i64 a.2] 24), (g5, cb [.int .i64 0, .int .i64 0] 24), (g3, cb [.int .i64 r.fr.1, .int .i64 r.fr.2, .int .i64 r.to.1, .int .i64 r.to.2, .int .i64 r.kind] 26)]) (fre w (MK [(g9, cb [.int .i64 b.1, .int .i64 b.2] 24), (g8, cb [.int .i64 a.1, .int .i64 a.2] 24), (g5, cb [.int .i64 0, .int .i64 0] 24), (g3, cb [.int .i64 r.fr.1, .int .i64 r.fr.2, .int .i64 r.to.1, .int .i64 r.to.2, .int .i64 r.kind] 26)])) (.slice A1 o.length c1) o) :
    ∀ σ', SubB σ' [(5, .pointer (some ⟨g5, 0, none⟩)), (8, .pointer (some ⟨g8, 0, none⟩)), (10, .slice A1 o.length c1)] → ∀ M', MSub [(g9, cb [.int .i64 b.1, .int .i64 b.2] 24), (g8, cb [.int .i64 a.1, .int .i64 a.2] 24), (g5, cb [.int .i64 0, .int .i64 0] 24), (g3, cb [.int .i64 r.fr.1, .int .i64 r.fr.2, .int .i64 r.to.1, .int .i64 r.to.2, .int .i64 r.kind] 26)] M' →
      WL Try.prog Try.f19 (.code (bodyC Try.f19 [1, 1, 1, 1, 1, 1, 1, 1, 1, 0, 1, 0, 1]) :: [.code (bodyC Try.f19 [1, 1, 1, 1, 1, 1, 1, 1, 1, 1])]) σ' w (fun _ => False) B (MK [(g9, cb [.int .i64 b.1, .int .i64 b.2] 24), (g8, cb [.int .i64 a.1, .int .i64 a.2] 24), (g5, cb [.int .i64 0, .int .i64 0] 24), (g3, cb [.int .i64 r.fr.1, .int .i64 r.fr.2, .int .i64 r.to.1, .int .i64 r.to.2, .int .i64 r.kind] 26)]) M' (CutR w l r) := by
  intro σ' hs M' hM
  refine WL.sub hs hM ?_
  have hol0 : 0 < o.length := List.length_pos_iff.2 ho
  obtain ⟨a1, a2⟩ := a
  simp only at ha
  subst ha
  repeat(first|refine lrun_ ?_|(refine lo_boxA rfl rfl ?_;intro _ _ _)|(refine lo_box1 rfl rfl rfl ?_;intro _ _ _)|(refine lo_alloc rfl ?_;intro _ _ _))
  rw [show (if (o.length : Int) - 1 < (i0 : Int) then (o.length : Int) - 1 else (i0 : Int)) = ((min i0 (o.length - 1) : Nat) : Int) by split <;> omega]
  generalize hi : min i0 (o.length - 1) = i at *
  have hio : i < o.length := by omega
  have hOs := hO.sl
  obtain ⟨_, _, ad, rV, rc, ra, e, hR⟩ := hOs.rws
  cases e
  obtain rfl := hR.a hol0
  refine lo_index rfl rfl rfl hio rfl rfl ?_
  refine lo_loadB rfl (hR.row i hio) (by rw [add_block]; exact (hR.fa hol0).elim (·.2) (·.2)) rfl ?_
  refine lo_call (n_call rfl) rfl (fun w' hw => firstR_calls (Kp.sl hw.kp (hR.rs i hio) fun k hk => hk.elim (·.2) (·.2))) ?_
  repeat(first|refine lrun_ ?_|(refine lo_boxA rfl rfl ?_;intro _ _ _)|(refine lo_box1 rfl rfl rfl ?_;intro _ _ _)|(refine lo_alloc rfl ?_;intro _ _ _))
  refine l_retR3 rfl (by repeat(first|exact LRes.nil|refine LRes.tmp rfl ?_|refine LRes.agg rfl (by(repeat(first|exact MIn.hd|refine MIn.tl ?_));done) (by rfl) (by rfl) ?_|refine LRes.one rfl (by(repeat(first|exact MIn.hd|refine MIn.tl ?_));done) (by rfl) ?_)) fun w' hw => ⟨hw.org, .slice (some ad) o.length c1, ?_, ?_⟩
  · rw [he, h0]; rfl
  · rw [he]
    exact (Kp.ow hw.kp hO (fun k hk => hk.2) fun k hk => hk.2).mono (fun k hk _ => hk.1) fun k hk _ => hk.1
set_option maxHeartbeats 8000000 in
theorem rc_tail (h : Sl kRow F w (.slice A l.length c) l) (h0 : thereR l r = 0) (hl : l.length ≤ 4096) (hrg : RgOk l r) (hp : P64 a) (hpb : P64 b) (ha0 : a.1 = (i0 : Int)) (hn : b.1 + 1 = ((i0 + n : Nat) : Int)) (hin : i0 + n ≤ l.length) (hxl : xs.length ≤ 8193)
    (e1 : r.kind = 1 → ∀ o, o = (if xs ++ l.drop (i0 + n) = [] then [[]] else xs ++ l.drop (i0 + n)) → cutM l r = (o, (((min i0 (o.length - 1) : Nat) : Int), (firstI (o.getD (min i0 (o.length - 1)) []) : Int))))
    (e0 : r.kind = 0 → cutM l r = (xs ++ l.drop (i0 + n), clipM (xs ++ l.drop (i0 + n)) a))
    (e2 : r.kind = 2 → cutM l r = (xs ++ l.drop (i0 + n), clipM (xs ++ l.drop (i0 + n)) (a.1, if b.2 < a.2 then b.2 else a.2)))
    (hO : Og kRow w B (MK [(g9, cb [.int .i64 b.1, .int .i64 b.2] 24), (g8, cb [.int .i64 a.1, .int .i64 a.2] 24), (g5, cb [.int .i64 0, .int .i64 0] 24), (g3, cb [.int .i64 r.fr.1, .int .i64 r.fr.2, .int .i64 r.to.1, .int .i64 r.to.2, .int .i64 r.kind] 26)]) (fre w (MK [(g9, cb [.int .i64 b.1, .int .i64 b.2] 24), (g8, cb [.int .i64 a.1, .int .i64 a.2] 24), (g5, cb [.int .i64 0, .int .i64 0] 24), (g3, cb [.int .i64 r.fr.1, .int .i64 r.fr.2, .int .i64 r.to.1, .int .i64 r.to.2, .int .i64 r.kind] 26)])) (.slice A1 xs.length c1) xs) :
    ∀ σ', SubB σ' [(0, .slice A l.length c), (3, .pointer (some ⟨g3, 0, none⟩)), (5, .pointer (some ⟨g5, 0, none⟩)), (8, .pointer (some ⟨g8, 0, none⟩)), (9, .pointer (some ⟨g9, 0, none⟩)), (10, .slice A1 xs.length c1)] → ∀ M', MSub [(g9, cb [.int .i64 b.1, .int .i64 b.2] 24), (g8, cb [.int .i64 a.1, .int .i64 a.2] 24), (g5, cb [.int .i64 0, .int .i64 0] 24), (g3, cb [.int .i64 r.fr.1, .int .i64 r.fr.2, .int .i64 r.to.1, .int .i64 r.to.2, .int .i64 r.kind] 26)] M' →
      WL Try.prog Try.f19 [.code (bodyC Try.f19 [1, 1, 1, 1, 1, 1, 1, 1])] σ' w (fun _ => False) B (MK [(g9, cb [.int .i64 b.1, .int .i64 b.2] 24), (g8, cb [.int .i64 a.1, .int .i64 a.2] 24), (g5, cb [.int .i64 0, .int .i64 0] 24), (g3, cb [.int .i64 r.fr.1, .int .i64 r.fr.2, .int .i64 r.to.1, .int .i64 r.to.2, .int .i64 r.kind] 26)]) M' (CutR w l r) := by
  intro σ' hs M' hM
  refine WL.sub hs hM ?_
  obtain ⟨hc, hlf⟩ : l.length ≤ c ∧ True := by obtain ⟨_, _, e, hc, _⟩ := h.form; cases e; exact ⟨hc, trivial⟩
  repeat(first|refine lrun_ ?_|(refine lo_boxA rfl rfl ?_;intro _ _ _)|(refine lo_box1 rfl rfl rfl ?_;intro _ _ _)|(refine lo_alloc rfl ?_;intro _ _ _))
  refine lo_suf rfl rfl hn hin hc rfl ?_
  refine lo_callM (n_call rfl) rfl (fun w' hw => twinT_calls (Sl.cutV (d := kRow) (Kn.sl hw.org h) hin (Nat.le_refl _) hc (Nat.le_refl _))) ?_
  rw [List.take_length]
  rintro w1 tv w2 hw1 kn1 ko1 ⟨us2, hT2⟩
  have hs1 := hw1.kp.size
  have hs1o := hw1.org.size
  have hlm : ∀ k, MK [(g9, cb [.int .i64 b.1, .int .i64 b.2] 24), (g8, cb [.int .i64 a.1, .int .i64 a.2] 24), (g5, cb [.int .i64 0, .int .i64 0] 24), (g3, cb [.int .i64 r.fr.1, .int .i64 r.fr.2, .int .i64 r.to.1, .int .i64 r.to.2, .int .i64 r.kind] 26)] k → k < w1.heap.size := fun k hm => hw1.lt hm
  have hob := hO.block
  have hO2 : Og kRow w w2 (MK [(g9, cb [.int .i64 b.1, .int .i64 b.2] 24), (g8, cb [.int .i64 a.1, .int .i64 a.2] 24), (g5, cb [.int .i64 0, .int .i64 0] 24), (g3, cb [.int .i64 r.fr.1, .int .i64 r.fr.2, .int .i64 r.to.1, .int .i64 r.to.2, .int .i64 r.kind] 26)]) (fre w (MK [(g9, cb [.int .i64 b.1, .int .i64 b.2] 24), (g8, cb [.int .i64 a.1, .int .i64 a.2] 24), (g5, cb [.int .i64 0, .int .i64 0] 24), (g3, cb [.int .i64 r.fr.1, .int .i64 r.fr.2, .int .i64 r.to.1, .int .i64 r.to.2, .int .i64 r.kind] 26)])) (.slice A1 xs.length c1) xs := Kp.ow kn1 (Kp.ow hw1.kp hO (fun k hk => hk.2) fun k hk => hk.2) (fun _ _ h => h) fun _ _ h => h
  have hT2s := (hT2.ow fun _ _ => trivial).slF (F' := noB w1) (fun _ h => h) fun _ h => h
  obtain ⟨At, ct, rfl, _, _⟩ := hT2.form
  have hdl : (l.drop (i0 + n)).length ≤ 4096 := by rw [List.length_drop]; omega
  refine lo_append (d := kRow) (F := fre w (MK [(g9, cb [.int .i64 b.1, .int .i64 b.2] 24), (g8, cb [.int .i64 a.1, .int .i64 a.2] 24), (g5, cb [.int .i64 0, .int .i64 0] 24), (g3, cb [.int .i64 r.fr.1, .int .i64 r.fr.2, .int .i64 r.to.1, .int .i64 r.to.2, .int .i64 r.kind] 26)])) (F2 := noB w1) rfl rfl hO2 (fun k hk => hk.2) (fun w' hw => Kp.sl hw.kp hT2s fun k hk hm => by have := hlm k hm; unfold noB at hk; omega) (fun k hk e => by have := (hob k e).2; unfold noB at hk; omega) (by show (xs.length + (l.drop (i0 + n)).length) * 24 ≤ 140737488355328; omega) rfl rfl rfl rfl ?_
  intro w3 v4 w4 hw3 ko3 kp3 hown hog
  obtain ⟨A4, c4, rfl, _, _⟩ := hog.form
  have hO4 : Og kRow w w4 (MK [(g9, cb [.int .i64 b.1, .int .i64 b.2] 24), (g8, cb [.int .i64 a.1, .int .i64 a.2] 24), (g5, cb [.int .i64 0, .int .i64 0] 24), (g3, cb [.int .i64 r.fr.1, .int .i64 r.fr.2, .int .i64 r.to.1, .int .i64 r.to.2, .int .i64 r.kind] 26)]) (fre w (MK [(g9, cb [.int .i64 b.1, .int .i64 b.2] 24), (g8, cb [.int .i64 a.1, .int .i64 a.2] 24), (g5, cb [.int .i64 0, .int .i64 0] 24), (g3, cb [.int .i64 r.fr.1, .int .i64 r.fr.2, .int .i64 r.to.1, .int .i64 r.to.2, .int .i64 r.kind] 26)])) (.slice A4 (xs ++ l.drop (i0 + n)).length c4) (xs ++ l.drop (i0 + n)) := hog.mono (fun k hk _ => hk) fun k hk _ => hk.elim id fun h => ⟨by unfold noB at h; omega, fun hm => by have := hlm k hm; unfold noB at h; omega⟩
  clear hog hO2 hT2 hT2s
  generalize ho : xs ++ l.drop (i0 + n) = o at *
  have hol : o.length ≤ 12289 := by rw [← ho, List.length_append]; omega
  repeat(first|refine lrun_ ?_|(refine lo_boxA rfl rfl ?_;intro _ _ _)|(refine lo_box1 rfl rfl rfl ?_;intro _ _ _)|(refine lo_alloc rfl ?_;intro _ _ _))
  by_cases h1 : r.kind = 1
  · refine l_yes rfl h1 ?_
    repeat(first|refine lrun_ ?_|(refine lo_boxA rfl rfl ?_;intro _ _ _)|(refine lo_box1 rfl rfl rfl ?_;intro _ _ _)|(refine lo_alloc rfl ?_;intro _ _ _))
    by_cases hz : o.length = 0
    · have hnil := List.length_eq_zero_iff.1 hz
      refine l_yes rfl (by omega) ?_
      refine l_region ?_
      repeat(first|refine lops_ ?_|(refine lo_boxA rfl rfl ?_;intro _ _ _)|(refine lo_box1 rfl rfl rfl ?_;intro _ _ _)|(refine lo_alloc rfl ?_;intro _ _ _))
      refine lo_lit (cs := [.slice none 0 0]) rfl (by decide) (by kernel_rfl) rfl ?_
      intro g79 _ hg79
      repeat(first|refine lops_ ?_|(refine lo_boxA rfl rfl ?_;intro _ _ _)|(refine lo_box1 rfl rfl rfl ?_;intro _ _ _)|(refine lo_alloc rfl ?_;intro _ _ _))
      refine lo_nil ?_
      refine l_baseM (M3 := [(g9, cb [.int .i64 b.1, .int .i64 b.2] 24), (g8, cb [.int .i64 a.1, .int .i64 a.2] 24), (g5, cb [.int .i64 0, .int .i64 0] 24), (g3, cb [.int .i64 r.fr.1, .int .i64 r.fr.2, .int .i64 r.to.1, .int .i64 r.to.2, .int .i64 r.kind] 26)]) (by repeat(first|exact MSub.refl|refine MSub.keep rfl ?_|exact MSub.nil|apply MSub.drop)) fun w5 hw5 => ?_
      exact rc_whole (o := [[]]) h0 (e1 h1 _ (if_pos hnil).symm) (by simp) (by simp) ha0 (og_lit1 hw5 (by(repeat(first|exact MIn.hd|refine MIn.tl ?_));done) (by omega) (fun hm => by have := hlm _ hm; have := kn1.size; have := kp3.size; omega) (Sl.nil _ _ _)) _ (by repeat (first | exact SubB.nil | refine SubB.cons rfl ?_)) _ (by repeat(first|exact MSub.refl|refine MSub.keep rfl ?_|exact MSub.nil|apply MSub.drop))
    · have hnn : o ≠ [] := fun e => hz (by rw [e]; rfl)
      refine l_no rfl (by omega) ?_
      refine l_go .skip ?_
      exact rc_whole h0 (e1 h1 _ (if_neg hnn).symm) hnn (by omega) ha0 hO4 _ (by repeat (first | exact SubB.nil | refine SubB.cons rfl ?_)) _ (by repeat(first|exact MSub.refl|refine MSub.keep rfl ?_|exact MSub.nil|apply MSub.drop))
  refine l_no rfl h1 ?_
  refine l_go .skip ?_
  repeat(first|refine lrun_ ?_|(refine lo_boxA rfl rfl ?_;intro _ _ _)|(refine lo_box1 rfl rfl rfl ?_;intro _ _ _)|(refine lo_alloc rfl ?_;intro _ _ _))
  by_cases h2 : r.kind = 2
  · refine l_yes rfl h2 ?_
    repeat(first|refine lrun_ ?_|(refine lo_boxA rfl rfl ?_;intro _ _ _)|(refine lo_box1 rfl rfl rfl ?_;intro _ _ _)|(refine lo_alloc rfl ?_;intro _ _ _))
    refine lo_call (n_call rfl) rfl (fun w' hw => clipR_calls (p := (a.1, if b.2 < a.2 then b.2 else a.2)) (Kp.sl hw.kp hO4.sl fun k hk => hk.elim (·.2) (·.2)) ⟨hp.1, by have := hp.2; have := hpb.2; simp only; split <;> omega⟩) ?_
    repeat(first|refine lrun_ ?_|(refine lo_boxA rfl rfl ?_;intro _ _ _)|(refine lo_box1 rfl rfl rfl ?_;intro _ _ _)|(refine lo_alloc rfl ?_;intro _ _ _))
    refine l_retR3 rfl (by repeat(first|exact LRes.nil|refine LRes.tmp rfl ?_|refine LRes.agg rfl (by(repeat(first|exact MIn.hd|refine MIn.tl ?_));done) (by rfl) (by rfl) ?_|refine LRes.one rfl (by(repeat(first|exact MIn.hd|refine MIn.tl ?_));done) (by rfl) ?_)) fun w' hw => ⟨hw.org, .slice A4 o.length c4, ?_, ?_⟩
    · rw [e2 h2, h0]; rfl
    · rw [e2 h2]
      exact (Kp.ow hw.kp hO4 (fun k hk => hk.2) fun k hk => hk.2).mono (fun k hk _ => hk.1) fun k hk _ => hk.1
  have hk0 : r.kind = 0 := by have := hrg.kind; omega
  refine l_no rfl h2 ?_
  refine l_go .skip ?_
  repeat(first|refine lrun_ ?_|(refine lo_boxA rfl rfl ?_;intro _ _ _)|(refine lo_box1 rfl rfl rfl ?_;intro _ _ _)|(refine lo_alloc rfl ?_;intro _ _ _))
  refine lo_call (n_call rfl) rfl (fun w' hw => clipR_calls (p := a) (Kp.sl hw.kp hO4.sl fun k hk => hk.elim (·.2) (·.2)) hp) ?_
  repeat(first|refine lrun_ ?_|(refine lo_boxA rfl rfl ?_;intro _ _ _)|(refine lo_box1 rfl rfl rfl ?_;intro _ _ _)|(refine lo_alloc rfl ?_;intro _ _ _))
  refine l_retR3 rfl (by repeat(first|exact LRes.nil|refine LRes.tmp rfl ?_|refine LRes.agg rfl (by(repeat(first|exact MIn.hd|refine MIn.tl ?_));done) (by rfl) (by rfl) ?_|refine LRes.one rfl (by(repeat(first|exact MIn.hd|refine MIn.tl ?_));done) (by rfl) ?_)) fun w' hw => ⟨hw.org, .slice A4 o.length c4, ?_, ?_⟩
  · rw [e0 hk0, h0]; rfl
  · rw [e0 hk0]
    exact (Kp.ow hw.kp hO4 (fun k hk => hk.2) fun k hk => hk.2).mono (fun k hk _ => hk.1) fun k hk _ => hk.1
end
section
variable {F : Nat → Prop} {w : World} {v : Value} {l : List (List Int)} {r : Rg}
set_option maxHeartbeats 8000000 in
theorem cutR_calls (h : Sl kRow F w v l) (hr : RgP r) (hl : l.length ≤ 4096) (hk : ∀ j, (l.getD j []).length ≤ 1048576) (hg : ∀ j, j ≤ rn r → (keptX l r (r0 r) j).length ≤ 4194304) :
    CallsR Try.prog 19 #[v, rgV r] w (CutR w l r) := by
  obtain ⟨A, c, e⟩ : ∃ A c, v = .slice A l.length c := by obtain ⟨A, c, e, _⟩ := h.form; exact ⟨A, c, e⟩
  subst e
  have hc : l.length ≤ c := by obtain ⟨_, _, e, hc, _⟩ := h.form; cases e; exact hc
  refine l_enter (fun _ => False) Try.func19 rfl rfl ?_
  repeat(first|refine lrun_ ?_|(refine lo_boxA rfl rfl ?_;intro _ _ _)|(refine lo_box1 rfl rfl rfl ?_;intro _ _ _)|(refine lo_alloc rfl ?_;intro _ _ _))
  rename_i g3 _ _ g5 _ _
  refine lo_call (n_call rfl) rfl (fun w' hw => thereR_calls (Kn.sl hw.org h) hr) ?_
  by_cases h0 : thereR l r = 0
  case neg =>
    have e : cutM l r = ([], (0, 0)) := by unfold cutM; rw [if_pos h0]
    repeat(first|refine lrun_ ?_|(refine lo_boxA rfl rfl ?_;intro _ _ _)|(refine lo_box1 rfl rfl rfl ?_;intro _ _ _)|(refine lo_alloc rfl ?_;intro _ _ _))
    refine l_yes rfl h0 ?_
    repeat(first|refine lrun_ ?_|(refine lo_boxA rfl rfl ?_;intro _ _ _)|(refine lo_box1 rfl rfl rfl ?_;intro _ _ _)|(refine lo_alloc rfl ?_;intro _ _ _))
    exact l_retR3 rfl (by repeat(first|exact LRes.nil|refine LRes.tmp rfl ?_|refine LRes.agg rfl (by(repeat(first|exact MIn.hd|refine MIn.tl ?_));done) (by rfl) (by rfl) ?_|refine LRes.one rfl (by(repeat(first|exact MIn.hd|refine MIn.tl ?_));done) (by rfl) ?_)) fun w' hw => ⟨hw.org, .slice none 0 0, by rw [e]; rfl, by rw [e]; exact Ow.nil _ _ _ _⟩
  have ok := there_ok h0
  have ha1 := ok.a.i
  have hb1 := ok.b.i
  have hle := ok.le
  have hpa : P64 (endsR r).1 := by unfold endsR; split <;> first | exact hr.to | exact hr.fr
  have hpb : P64 (endsR r).2 := by unfold endsR; split <;> first | exact hr.fr | exact hr.to
  obtain ⟨i0, hi0⟩ : ∃ i0 : Nat, (endsR r).1.1 = (i0 : Int) := ⟨(endsR r).1.1.toNat, by omega⟩
  obtain ⟨n, hn⟩ : ∃ n : Nat, (endsR r).2.1 + 1 = ((i0 + n : Nat) : Int) := ⟨((endsR r).2.1 + 1 - i0).toNat, by omega⟩
  have e1 : r0 r = i0 := by unfold r0; omega
  have e2 : rn r = n := by unfold rn; omega
  rw [e1, e2] at hg
  have c1 : ∀ o, r.kind = 1 → o = (if outX l r i0 n ++ l.drop (i0 + n) = [] then [[]] else outX l r i0 n ++ l.drop (i0 + n)) → cutM l r = (o, (((min i0 (o.length - 1) : Nat) : Int), (firstI (o.getD (min i0 (o.length - 1)) []) : Int))) := fun o hk ho => by
    unfold cutM
    rw [if_neg (fun h => h h0), if_pos hk, e1, e2]
    have : outX l r i0 n = l.take i0 := by unfold outX; rw [if_neg (by omega), List.append_nil]
    rw [this] at ho
    subst ho
    rfl
  have c0 : r.kind = 0 → cutM l r = (l.take i0 ++ [keptX l r i0 n] ++ l.drop (i0 + n), clipM (l.take i0 ++ [keptX l r i0 n] ++ l.drop (i0 + n)) (endsR r).1) := fun hk => by
    unfold cutM
    rw [if_neg (fun h => h h0), if_neg (by omega), if_pos hk, e1, e2]
    rfl
  have c2 : r.kind = 2 → cutM l r = (outX l r i0 n ++ l.drop (i0 + n), clipM (outX l r i0 n ++ l.drop (i0 + n)) ((endsR r).1.1, if (endsR r).2.2 < (endsR r).1.2 then (endsR r).2.2 else (endsR r).1.2)) := fun hk => by
    unfold cutM outX
    rw [if_neg (fun h => h h0), if_neg (by omega), if_neg (by omega), e1, e2, if_pos hk]
  repeat(first|refine lrun_ ?_|(refine lo_boxA rfl rfl ?_;intro _ _ _)|(refine lo_box1 rfl rfl rfl ?_;intro _ _ _)|(refine lo_alloc rfl ?_;intro _ _ _))
  rw [h0]
  refine l_no rfl (fun h => h rfl) ?_
  refine l_go .skip ?_
  repeat(first|refine lrun_ ?_|(refine lo_boxA rfl rfl ?_;intro _ _ _)|(refine lo_box1 rfl rfl rfl ?_;intro _ _ _)|(refine lo_alloc rfl ?_;intro _ _ _))
  refine lo_call (n_call rfl) rfl (fun w' hw => ends_calls (r := r)) ?_
  generalize hae : (endsR r).1 = a at *
  generalize hbe : (endsR r).2 = b at *
  obtain ⟨a1, a2⟩ := a
  simp only at hi0
  subst hi0
  have hin : i0 + n ≤ l.length := by omega
  repeat(first|refine lrun_ ?_|(refine lo_boxA rfl rfl ?_;intro _ _ _)|(refine lo_box1 rfl rfl rfl ?_;intro _ _ _)|(refine lo_alloc rfl ?_;intro _ _ _))
  rename_i g8 _ _ g9 _ _
  refine lo_callM (n_call rfl) rfl (fun w' hw => twinT_calls (Sl.pre (Kn.sl hw.org h) (by omega) (by omega))) ?_
  rintro w1 tv w2 hw1 kn1 ko1 ⟨us0, hT0⟩
  have hs1 := hw1.kp.size
  have hs1o := hw1.org.size
  have hlm : ∀ k, MK [(g9, cb [.int .i64 b.1, .int .i64 b.2] 24), (g8, cb [.int .i64 (i0 : Int), .int .i64 a2] 24), (g5, cb [.int .i64 0, .int .i64 0] 24), (g3, cb [.int .i64 r.fr.1, .int .i64 r.fr.2, .int .i64 r.to.1, .int .i64 r.to.2, .int .i64 r.kind] 26)] k → k < w1.heap.size := fun k hm => hw1.lt hm
  have ex0 : outX l r i0 0 = l.take i0 := by unfold outX; split <;> simp [gatM]
  have htl : (l.take i0).length = i0 := by rw [List.length_take]; omega
  obtain ⟨At, ct, rfl, _, _⟩ := hT0.form
  have hC : CutI w [(g9, cb [.int .i64 b.1, .int .i64 b.2] 24), (g8, cb [.int .i64 (i0 : Int), .int .i64 a2] 24), (g5, cb [.int .i64 0, .int .i64 0] 24), (g3, cb [.int .i64 r.fr.1, .int .i64 r.fr.2, .int .i64 r.to.1, .int .i64 r.to.2, .int .i64 r.kind] 26)] w2 (.slice At (l.take i0).length ct) (.slice none 0 0) us0 (l.take i0) [] :=
    ⟨hT0.mono fun k hk _ => ⟨⟨by unfold noB at hk; omega, fun hm => by have := hlm k hm; unfold noB at hk; omega⟩, fun e => by cases e⟩, Ow.nil _ _ _ _⟩
  rw [← ex0] at hC ⊢
  clear hT0
  repeat(first|refine lrun_ ?_|(refine lo_boxA rfl rfl ?_;intro _ _ _)|(refine lo_box1 rfl rfl rfl ?_;intro _ _ _)|(refine lo_alloc rfl ?_;intro _ _ _))
  refine l_baseM (M3 := [(g9, cb [.int .i64 b.1, .int .i64 b.2] 24), (g8, cb [.int .i64 (i0 : Int), .int .i64 a2] 24), (g5, cb [.int .i64 0, .int .i64 0] 24), (g3, cb [.int .i64 r.fr.1, .int .i64 r.fr.2, .int .i64 r.to.1, .int .i64 r.to.2, .int .i64 r.kind] 26)]) (by repeat(first|exact MSub.refl|refine MSub.keep rfl ?_|exact MSub.nil|apply MSub.drop)) fun w5 hw5 => ?_
  have hC5 := hC.now hw5
  refine rc_loop (a := ((i0 : Int), a2)) (b := b) (n := n) (i0 := i0) (g3 := g3) (g5 := g5) (g8 := g8) (g9 := g9) h ok hae hbe hl hk hg rfl hn hin hC5 ?_ _ (by repeat (first | exact SubB.nil | refine SubB.cons rfl ?_)) _ (by repeat(first|exact MSub.refl|refine MSub.keep rfl ?_|exact MSub.nil|apply MSub.drop))
  clear hC hC5 hw5
  intro bw A1 c1' us A2 c2' hC σ' hs M' hM
  refine WL.sub hs hM ?_
  have hxl := outX_len l r i0 n
  have hob := hC.t.t.block
  have hkb := hC.k.block
  repeat(first|refine lrun_ ?_|(refine lo_boxA rfl rfl ?_;intro _ _ _)|(refine lo_box1 rfl rfl rfl ?_;intro _ _ _)|(refine lo_alloc rfl ?_;intro _ _ _))
  by_cases hk0 : r.kind = 0
  case neg =>
    refine l_no rfl hk0 ?_
    refine l_go .skip ?_
    exact rc_tail (a := ((i0 : Int), a2)) (b := b) (n := n) (i0 := i0) h h0 hl ok hpa hpb rfl hn hin (by omega) (fun h1 o ho => c1 o h1 ho) (fun h => absurd h hk0) c2 ((hC.t.mono (G' := fre w (MK [(g9, cb [.int .i64 b.1, .int .i64 b.2] 24), (g8, cb [.int .i64 (i0 : Int), .int .i64 a2] 24), (g5, cb [.int .i64 0, .int .i64 0] 24), (g3, cb [.int .i64 r.fr.1, .int .i64 r.fr.2, .int .i64 r.to.1, .int .i64 r.to.2, .int .i64 r.kind] 26)])) fun k hk _ => hk.1).ow fun _ _ => trivial) _ (by repeat (first | exact SubB.nil | refine SubB.cons rfl ?_)) _ (by repeat(first|exact MSub.refl|refine MSub.keep rfl ?_|exact MSub.nil|apply MSub.drop))
  have hxe : outX l r i0 n = l.take i0 := by unfold outX; rw [if_neg (by omega), List.append_nil]
  refine l_yes rfl hk0 ?_
  refine l_region ?_
  repeat(first|refine lops_ ?_|(refine lo_boxA rfl rfl ?_;intro _ _ _)|(refine lo_box1 rfl rfl rfl ?_;intro _ _ _)|(refine lo_alloc rfl ?_;intro _ _ _))
  refine lo_lit (cs := [.slice A2 (keptX l r i0 n).length c2']) rfl (by decide) (by kernel_rfl) rfl ?_
  intro g63 _ hg63
  refine lo_tabPush2 (r := keptX l r i0 n) rfl rfl ((hC.t.mono (G' := fre w (MK [(g9, cb [.int .i64 b.1, .int .i64 b.2] 24), (g8, cb [.int .i64 (i0 : Int), .int .i64 a2] 24), (g5, cb [.int .i64 0, .int .i64 0] 24), (g3, cb [.int .i64 r.fr.1, .int .i64 r.fr.2, .int .i64 r.to.1, .int .i64 r.to.2, .int .i64 r.kind] 26)])) fun k hk _ => hk.1).less (L' := fun i => i < (outX l r i0 n).length) fun _ _ => trivial) (by(repeat(first|exact MIn.hd|refine MIn.tl ?_));done) (hC.k.nW.mono (fun k hk _ => ⟨hk.1, fun e => (hob k e).1.2 hk.2⟩) fun _ h _ => h) (Nat.lt_irrefl _) (fun i u2 k hi hu hk1 hk2 => (hC.t.blk trivial hu hk1).1.2 hk2) (by omega) rfl rfl ?_
  intro w3 A4 n4 w4 hw3 ko3 kp3 hown hT4
  have hs3 := hw3.kp.size
  repeat(first|refine lops_ ?_|(refine lo_boxA rfl rfl ?_;intro _ _ _)|(refine lo_box1 rfl rfl rfl ?_;intro _ _ _)|(refine lo_alloc rfl ?_;intro _ _ _))
  refine lo_nil ?_
  refine l_baseM (M3 := [(g9, cb [.int .i64 b.1, .int .i64 b.2] 24), (g8, cb [.int .i64 (i0 : Int), .int .i64 a2] 24), (g5, cb [.int .i64 0, .int .i64 0] 24), (g3, cb [.int .i64 r.fr.1, .int .i64 r.fr.2, .int .i64 r.to.1, .int .i64 r.to.2, .int .i64 r.kind] 26)]) (by repeat(first|exact MSub.refl|refine MSub.keep rfl ?_|exact MSub.nil|apply MSub.drop)) fun w6 hw6 => ?_
  have hT6 := ((hT4.all fun i hi => by
    rw [List.length_append] at hi
    show i < _ ∨ i = _
    simp only [List.length_cons, List.length_nil] at hi
    omega).kp hw6.kp fun k hk hm => hk.2 hm).mono (G' := fre w (MK [(g9, cb [.int .i64 b.1, .int .i64 b.2] 24), (g8, cb [.int .i64 (i0 : Int), .int .i64 a2] 24), (g5, cb [.int .i64 0, .int .i64 0] 24), (g3, cb [.int .i64 r.fr.1, .int .i64 r.fr.2, .int .i64 r.to.1, .int .i64 r.to.2, .int .i64 r.kind] 26)])) fun k hk _ => ⟨hk.1, fun ⟨o, hm⟩ => hk.2 ⟨o, .tl hm⟩⟩
  have hO6 := hT6.ow fun _ _ => trivial
  rw [hxe] at hO6 ⊢
  exact rc_tail (a := ((i0 : Int), a2)) (b := b) (n := n) (i0 := i0) h h0 hl ok hpa hpb rfl hn hin (by rw [List.length_append, List.length_take]; simp only [List.length_cons, List.length_nil]; omega) (fun h1 => by omega) c0 (fun h2 => by omega) hO6 _ (by repeat (first | exact SubB.nil | refine SubB.cons rfl ?_)) _ (by repeat(first|exact MSub.refl|refine MSub.keep rfl ?_|exact MSub.nil|apply MSub.drop))
end
section
variable {F : Nat → Prop} {w : World} {v : Value} {l : List (List Int)} {r : Rg}
set_option maxHeartbeats 8000000 in
theorem cuts_calls (h : Sl kRow F w v l) (hr : RgP r) :
    CallsR Try.prog 4 #[v, rgV r] w fun u w' => Kn w w' ∧ u = .bool true := by
  obtain ⟨A, c, e⟩ : ∃ A c, v = .slice A l.length c := by obtain ⟨A, c, e, _⟩ := h.form; exact ⟨A, c, e⟩
  subst e
  refine l_enter (fun _ => False) Try.func4 rfl rfl ?_
  repeat(first|refine lrun_ ?_|(refine lo_boxA rfl rfl ?_;intro _ _ _)|(refine lo_box1 rfl rfl rfl ?_;intro _ _ _)|(refine lo_alloc rfl ?_;intro _ _ _))
  rename_i g3 _ _
  refine lo_call (n_call rfl) rfl (fun w' hw => fit_calls (Kn.sl hw.org h)) ?_
  cases hf : fitB l with
  | false =>
    repeat(first|refine lrun_ ?_|(refine lo_boxA rfl rfl ?_;intro _ _ _)|(refine lo_box1 rfl rfl rfl ?_;intro _ _ _)|(refine lo_alloc rfl ?_;intro _ _ _))
    refine l_true rfl ?_
    repeat(first|refine lrun_ ?_|(refine lo_boxA rfl rfl ?_;intro _ _ _)|(refine lo_box1 rfl rfl rfl ?_;intro _ _ _)|(refine lo_alloc rfl ?_;intro _ _ _))
    exact l_ret1 rfl rfl fun w' hw => ⟨hw.org, rfl⟩
  | true =>
  obtain ⟨⟨hll, hlr⟩, hpl⟩ := fit_iff.1 hf
  have hsum : (l.map List.length).sum = runesM l := rfl
  have hkx : ∀ j, (keptX l r (r0 r) j).length ≤ 4194304 := fun j => by
    have := gat_out l r (r0 r) j
    unfold keptX
    rw [List.length_flatten]
    exact Nat.le_trans this (by omega)
  repeat(first|refine lrun_ ?_|(refine lo_boxA rfl rfl ?_;intro _ _ _)|(refine lo_box1 rfl rfl rfl ?_;intro _ _ _)|(refine lo_alloc rfl ?_;intro _ _ _))
  refine l_false rfl ?_
  refine l_go .skip ?_
  repeat(first|refine lrun_ ?_|(refine lo_boxA rfl rfl ?_;intro _ _ _)|(refine lo_box1 rfl rfl rfl ?_;intro _ _ _)|(refine lo_alloc rfl ?_;intro _ _ _))
  refine lo_callM (n_call rfl) rfl (fun w' hw => twinT_calls (Kn.sl hw.org h)) ?_
  rintro w3 tv w4 hw3 kn3 ko3 ⟨us3, hT3⟩
  have ht := Hd.of (hT3.ow fun _ _ => trivial) hw3
  obtain ⟨At, ct, rfl, _, _⟩ := hT3.form
  clear hT3
  repeat(first|refine lrun_ ?_|(refine lo_boxA rfl rfl ?_;intro _ _ _)|(refine lo_box1 rfl rfl rfl ?_;intro _ _ _)|(refine lo_alloc rfl ?_;intro _ _ _))
  refine lo_callM (n_call rfl) rfl (fun w' hw => cut_calls (ht.now hw) hr (by omega) (fun j => Nat.le_trans (runes_getD _ j) (by omega)) (Nat.le_trans (gat_out _ _ _ _) (by omega))) ?_
  rintro w5 _ w6 hw5 kn5 ko5 ⟨s, rfl, hO5⟩
  have hs5 := Hd.of hO5 hw5
  have ht := ht.next hw5 kn5
  obtain ⟨A5, c5, rfl, _, _⟩ := hO5.form
  clear hO5
  repeat(first|refine lrun_ ?_|(refine lo_boxA rfl rfl ?_;intro _ _ _)|(refine lo_box1 rfl rfl rfl ?_;intro _ _ _)|(refine lo_alloc rfl ?_;intro _ _ _))
  refine lo_callM (n_call rfl) rfl (fun w' hw => cutR_calls (Kn.sl hw.org h) hr (by omega) (fun j => Nat.le_trans (runes_getD _ j) (by omega)) fun j _ => hkx j) ?_
  rintro w7 _ w8 hw7 kn7 ko7 ⟨s8, rfl, hO8⟩
  have hs5 := hs5.next hw7 kn7
  have ht := ht.next hw7 kn7
  have hs8 := Hd.of hO8 hw7
  obtain ⟨A8, c8, rfl, _, _⟩ := hO8.form
  clear hO8
  repeat(first|refine lrun_ ?_|(refine lo_boxA rfl rfl ?_;intro _ _ _)|(refine lo_box1 rfl rfl rfl ?_;intro _ _ _)|(refine lo_alloc rfl ?_;intro _ _ _))
  rw [decide_eq_true (rfl : thereR l r = thereR l r)]
  repeat(first|refine lrun_ ?_|(refine lo_boxA rfl rfl ?_;intro _ _ _)|(refine lo_box1 rfl rfl rfl ?_;intro _ _ _)|(refine lo_alloc rfl ?_;intro _ _ _))
  refine lo_call (n_call rfl) rfl (fun w' hw => same04_calls (hs5.now hw) (hs8.now hw)) ?_
  rw [decide_eq_true (rfl : (cutM l r).1 = (cutM l r).1)]
  repeat(first|refine lrun_ ?_|(refine lo_boxA rfl rfl ?_;intro _ _ _)|(refine lo_box1 rfl rfl rfl ?_;intro _ _ _)|(refine lo_alloc rfl ?_;intro _ _ _))
  refine lo_call (n_call rfl) rfl (fun w' hw => same04_calls (ht.now hw) (Kn.sl hw.org h)) ?_
  rw [decide_eq_true (rfl : l = l)]
  repeat(first|refine lrun_ ?_|(refine lo_boxA rfl rfl ?_;intro _ _ _)|(refine lo_box1 rfl rfl rfl ?_;intro _ _ _)|(refine lo_alloc rfl ?_;intro _ _ _))
  refine lo_call (n_call (args := []) rfl) rfl (fun w' hw => awake_calls) ?_
  repeat(first|refine lrun_ ?_|(refine lo_boxA rfl rfl ?_;intro _ _ _)|(refine lo_box1 rfl rfl rfl ?_;intro _ _ _)|(refine lo_alloc rfl ?_;intro _ _ _))
  exact l_ret1 rfl rfl fun w' hw => ⟨hw.org, rfl⟩
end
theorem law_OperCuts {W : World} {u : Value} {l : List (List Int)} {r : Rg} {cs : List Value} (h : Sl kRow (fun _ => True) W u l) (hr : kRg.R (fun _ => True) W r cs) :
    CallsR Try.prog 4 #[u, .agg cs.toArray] W fun r w' => r = .bool true ∧ Kn W w' := by
  obtain ⟨e, hr'⟩ := rg_form hr
  rw [e]
  exact (cuts_calls h hr').mono fun r w' ⟨h1, h2⟩ => ⟨h2, h1⟩
end Go.Ink
