/-
  motion.Pair.
-/
import Derived.Test.YtabmggnljijhkaaF6
set_option linter.unusedVariables false
set_option linter.unusedSimpArgs false
namespace Go.Ink
open Go Go.Proofs

def lineM (row : List Int) (x y by_ : Int) : Nat → Int → Int → Option Int × Int
  | 0, _, d => (none, d)
  | n + 1, k, d =>
    if 0 ≤ k ∧ k < row.length then
      if row.getD k.toNat 0 = x then (if d + 1 = 0 then (some k, d + 1) else lineM row x y by_ n (k + by_) (d + 1))
      else if row.getD k.toNat 0 = y then (if d - 1 = 0 then (some k, d - 1) else lineM row x y by_ n (k + by_) (d - 1))
      else lineM row x y by_ n (k + by_) d
    else (none, d)
def startM (l : List (List Int)) (p : Ps) (by_ i : Int) : Int := if i = p.1 then p.2 else if by_ < 0 then (l.getD i.toNat []).length - 1 else 0
def pairGo (l : List (List Int)) (p : Ps) (x y by_ : Int) : Nat → Int → Int → Option Ps
  | 0, _, _ => none
  | n + 1, i, d =>
    if 0 ≤ i ∧ i < l.length then
      match lineM (l.getD i.toNat []) x y by_ ((l.getD i.toNat []).length + 1) (startM l p by_ i) d with
      | (some k, _) => some (i, k)
      | (none, d') => pairGo l p x y by_ n (i + by_) d'
    else none
def byM (behind : Bool) : Int := if behind = true then 1 else -1
def pairM (l : List (List Int)) (p : Ps) (x y : Int) (behind : Bool) (want : Int) : Option Ps := pairGo l p x y (byM behind) (l.length + 1) p.1 (want - 1)
theorem lineM_d (row : List Int) (x y by_ : Int) : ∀ n k d, d - n ≤ (lineM row x y by_ n k d).2 ∧ (lineM row x y by_ n k d).2 ≤ d + n
  | 0, k, d => by simp [lineM]
  | n + 1, k, d => by
    unfold lineM
    have h1 := lineM_d row x y by_ n (k + by_) (d + 1)
    have h2 := lineM_d row x y by_ n (k + by_) (d - 1)
    have h3 := lineM_d row x y by_ n (k + by_) d
    split
    · split
      · split
        · simp only; omega
        · omega
      · split
        · split
          · simp only; omega
          · omega
        · omega
    · simp only; omega
def pairV (p : Ps) (r : Option Ps) : Value := match r with
  | some q => .tuple #[posV q, .bool true]
  | none => .tuple #[posV p, .bool false]
structure PrSt where
  n : Nat
  i : Int
  d : Int
structure PlnSt where
  n : Nat
  k : Int
  d : Int
section
variable {F : Nat → Prop} {w : World} {v : Value} {l : List (List Int)} {p : Ps} {x y want : Int} {behind : Bool}
set_option maxHeartbeats 4000000 in
theorem pair_calls (h : Sl kRow F w v l) (hrows : ∀ r ∈ l, r.length ≤ 4000) (hll : l.length ≤ 4000) (hp1 : 0 ≤ p.1 ∧ p.1 < l.length) (hp2 : 0 ≤ p.2 ∧ p.2 ≤ (l.getD p.1.toNat []).length) (hw : 0 ≤ want ∧ want ≤ 5) :
    CallsR Try.prog 38 #[v, posV p, .int .i32 x, .int .i32 y, .bool behind, .int .i64 want] w fun u w' => Kn w w' ∧ u = pairV p (pairM l p x y behind want) := by
  obtain ⟨A, c, rfl, hc, hlf⟩ := h.form
  refine calls_enter Try.func38 rfl rfl ?_
  repeat(first|refine o_nil ?_|(refine o_pass (wants_no rfl rfl rfl ?_) rfl ?_;(focus(first|rfl|assumption|(simp;done)|(simp;omega))))|refine o_pass (wants_not rfl rfl rfl) rfl ?_|(refine o_yes (wants_yes rfl rfl rfl ?_) ?_;(focus(first|rfl|assumption|(simp;done)|(simp;omega))))|refine k_region ?_|(apply k_go;(focus(constructor<;>rfl)))|refine d_nil ?_|(apply o_s;(focus(first|(constructor<;>first|rfl|omega)|(apply Ri.add3<;>first|rfl|omega)|(apply Ri.sub3<;>first|rfl|omega)|(apply Ri.conv3<;>first|rfl|omega)|(apply Ri.eqb<;>rfl)|(apply Ri.neb<;>rfl)|(apply Ri.pT;(focus rfl);(focus(first|rfl|assumption|(simp;done)|(simp;omega)));(focus rfl))|(apply Ri.pF;(focus rfl);(focus(first|rfl|assumption|(simp;done)|(simp;omega)));(focus rfl))));(focus rfl)))
  refine o_any (e_box rfl) (wants_none rfl) rfl ?_
  rintro _ w1 ⟨g1, rfl, nb1⟩
  refine o_any (e_alloc) (wants_none rfl) rfl ?_
  rintro _ w2 ⟨g2, rfl, nb2⟩
  have k2 : Kn w w2 := nb1.kn.trans nb2.kn
  have b1 := nb2.kn.blk nb1.at_ id
  have b2 := nb2.at_
  have e2 := nb2.ge
  have z1 := nb1.kn.size
  have p0 : w2.cell? ⟨g1, 0, none⟩ = some (.int .i64 p.1) := blk_cell b1
  have p1 : w2.cell? ⟨g1, 1, none⟩ = some (.int .i64 p.2) := blk_cell b1
  have hlen := hlf.len
  have hby : byM behind = 1 ∨ byM behind = -1 := by unfold byM; split <;> simp
  have J : ∀ σ', SubB σ' [(0, .slice A l.length c), (2, .int .i32 x), (3, .int .i32 y), (5, .int .i64 want), (7, .pointer (some ⟨g1, 0, none⟩)), (12, .pointer (some ⟨g2, 0, none⟩)), (14, .int .i64 (byM behind))] → WK Try.prog Try.f38 [.code (bodyC Try.f38 [1, 1, 1])] σ' w2 fun u w' => Kn w w' ∧ u = pairV p (pairM l p x y behind want) := by
    intro σ' hs
    refine WK.sub (Sub.mk hs) ?_
    clear hs σ'
    have hpm : pairM l p x y behind want = pairGo l p x y (byM behind) (l.length + 1) p.1 (want - 1) := rfl
    generalize byM behind = b at *
    repeat(first|refine o_nil ?_|(refine o_pass (wants_no rfl rfl rfl ?_) rfl ?_;(focus(first|rfl|assumption|(simp;done)|(simp;omega))))|refine o_pass (wants_not rfl rfl rfl) rfl ?_|(refine o_yes (wants_yes rfl rfl rfl ?_) ?_;(focus(first|rfl|assumption|(simp;done)|(simp;omega))))|refine k_region ?_|(apply k_go;(focus(constructor<;>rfl)))|refine d_nil ?_|(apply o_s;(focus(first|(constructor<;>first|rfl|omega)|(apply Ri.add3<;>first|rfl|omega)|(apply Ri.sub3<;>first|rfl|omega)|(apply Ri.conv3<;>first|rfl|omega)|(apply Ri.eqb<;>rfl)|(apply Ri.neb<;>rfl)|(apply Ri.pT;(focus rfl);(focus(first|rfl|assumption|(simp;done)|(simp;omega)));(focus rfl))|(apply Ri.pF;(focus rfl);(focus(first|rfl|assumption|(simp;done)|(simp;omega)));(focus rfl))));(focus rfl)))
    refine o_still (r_load rfl p0) (wants_none rfl) rfl ?_
    repeat(first|refine o_nil ?_|(refine o_pass (wants_no rfl rfl rfl ?_) rfl ?_;(focus(first|rfl|assumption|(simp;done)|(simp;omega))))|refine o_pass (wants_not rfl rfl rfl) rfl ?_|(refine o_yes (wants_yes rfl rfl rfl ?_) ?_;(focus(first|rfl|assumption|(simp;done)|(simp;omega))))|refine k_region ?_|(apply k_go;(focus(constructor<;>rfl)))|refine d_nil ?_|(apply o_s;(focus(first|(constructor<;>first|rfl|omega)|(apply Ri.add3<;>first|rfl|omega)|(apply Ri.sub3<;>first|rfl|omega)|(apply Ri.conv3<;>first|rfl|omega)|(apply Ri.eqb<;>rfl)|(apply Ri.neb<;>rfl)|(apply Ri.pT;(focus rfl);(focus(first|rfl|assumption|(simp;done)|(simp;omega)));(focus rfl))|(apply Ri.pF;(focus rfl);(focus(first|rfl|assumption|(simp;done)|(simp;omega)));(focus rfl))));(focus rfl)))
    refine k_while (S := PrSt) (fun s => s.n) (fun s => [(0, .slice A l.length c), (2, .int .i32 x), (3, .int .i32 y), (7, .pointer (some ⟨g1, 0, none⟩)), (12, .pointer (some ⟨g2, 0, none⟩)), (14, .int .i64 b), (15, .int .i64 s.d), (16, .int .i64 s.i)])
      (fun s wr => wr = w2 ∧ -1 ≤ s.i ∧ s.i ≤ l.length ∧ (b = 1 → (l.length : Int) ≤ s.i + s.n) ∧ (b = -1 → s.i + 1 ≤ s.n) ∧ s.n ≤ l.length + 1 ∧ (-10 : Int) - 4001 * ((l.length : Int) + 1 - s.n) ≤ s.d ∧ s.d ≤ 10 + 4001 * ((l.length : Int) + 1 - s.n) ∧ pairM l p x y behind want = pairGo l p x y b s.n s.i s.d)
      ⟨l.length + 1, p.1, want - 1⟩ (by repeat (first | exact SubB.nil | refine SubB.cons rfl ?_)) ⟨rfl, by show -1 ≤ p.1; omega, by show p.1 ≤ l.length; omega, fun _ => by show (l.length : Int) ≤ p.1 + ((l.length + 1 : Nat) : Int); omega, fun _ => by show p.1 + 1 ≤ ((l.length + 1 : Nat) : Int); omega, Nat.le_refl _, by show (-10 : Int) - 4001 * ((l.length : Int) + 1 - ((l.length + 1 : Nat) : Int)) ≤ want - 1; omega, by show want - 1 ≤ 10 + 4001 * ((l.length : Int) + 1 - ((l.length + 1 : Nat) : Int)); omega, hpm⟩ ?_
    rintro ⟨n, i, d⟩ w2 ⟨rfl, hi1, hi2, hn1, hn2, hnl, hd1, hd2, heq⟩ ih
    simp only at hi1 hi2 hn1 hn2 hnl hd1 hd2 heq ih ⊢
    have fin : pairM l p x y behind want = none → WK Try.prog Try.f38 [.code (bodyC Try.f38 [1, 1, 1, 1, 1])] [(7, .pointer (some ⟨g1, 0, none⟩)), (12, .pointer (some ⟨g2, 0, none⟩))] w2 fun u w' => Kn w w' ∧ u = pairV p (pairM l p x y behind want) := by
      intro he
      repeat(first|refine o_nil ?_|(refine o_pass (wants_no rfl rfl rfl ?_) rfl ?_;(focus(first|rfl|assumption|(simp;done)|(simp;omega))))|refine o_pass (wants_not rfl rfl rfl) rfl ?_|(refine o_yes (wants_yes rfl rfl rfl ?_) ?_;(focus(first|rfl|assumption|(simp;done)|(simp;omega))))|refine k_region ?_|(apply k_go;(focus(constructor<;>rfl)))|refine d_nil ?_|(apply o_s;(focus(first|(constructor<;>first|rfl|omega)|(apply Ri.add3<;>first|rfl|omega)|(apply Ri.sub3<;>first|rfl|omega)|(apply Ri.conv3<;>first|rfl|omega)|(apply Ri.eqb<;>rfl)|(apply Ri.neb<;>rfl)|(apply Ri.pT;(focus rfl);(focus(first|rfl|assumption|(simp;done)|(simp;omega)));(focus rfl))|(apply Ri.pF;(focus rfl);(focus(first|rfl|assumption|(simp;done)|(simp;omega)));(focus rfl))));(focus rfl)))
      refine o_still (r_loadA (cs := [.int .i64 p.1, .int .i64 p.2]) rfl rfl (by
        intro j u hu
        match j, hu with
        | 0, hu => cases hu; exact p0
        | 1, hu => cases hu; exact p1)) (wants_none rfl) rfl ?_
      refine o_unit (u_storeA rfl rfl rfl (by simp [Value.oneCell']) rfl b2 (Nat.le_refl 2)) (wants_none rfl) rfl ?_
      rintro w4 hw4
      repeat(first|refine o_nil ?_|(refine o_pass (wants_no rfl rfl rfl ?_) rfl ?_;(focus(first|rfl|assumption|(simp;done)|(simp;omega))))|refine o_pass (wants_not rfl rfl rfl) rfl ?_|(refine o_yes (wants_yes rfl rfl rfl ?_) ?_;(focus(first|rfl|assumption|(simp;done)|(simp;omega))))|refine k_region ?_|(apply k_go;(focus(constructor<;>rfl)))|refine d_nil ?_|(apply o_s;(focus(first|(constructor<;>first|rfl|omega)|(apply Ri.add3<;>first|rfl|omega)|(apply Ri.sub3<;>first|rfl|omega)|(apply Ri.conv3<;>first|rfl|omega)|(apply Ri.eqb<;>rfl)|(apply Ri.neb<;>rfl)|(apply Ri.pT;(focus rfl);(focus(first|rfl|assumption|(simp;done)|(simp;omega)));(focus rfl))|(apply Ri.pF;(focus rfl);(focus(first|rfl|assumption|(simp;done)|(simp;omega)));(focus rfl))));(focus rfl)))
      exact k_retR2 rfl (.agg rfl rfl (blk_all hw4.at_) (.tmp rfl .nil)) ⟨Kp.then k2 hw4.kp (fun _ h => h) fun i hi he => by omega, by rw [he]; rfl⟩
    by_cases hin : 0 ≤ i ∧ i < l.length
    case neg =>
      have he : pairM l p x y behind want = none := by
        rw [heq]
        cases n with
        | zero => rfl
        | succ m => unfold pairGo; rw [if_neg hin]
      by_cases hi0 : 0 ≤ i
      · have hnlt : ¬ i < l.length := fun h => hin ⟨hi0, h⟩
        repeat(first|refine o_nil ?_|(refine o_pass (wants_no rfl rfl rfl ?_) rfl ?_;(focus(first|rfl|assumption|(simp;done)|(simp;omega))))|refine o_pass (wants_not rfl rfl rfl) rfl ?_|(refine o_yes (wants_yes rfl rfl rfl ?_) ?_;(focus(first|rfl|assumption|(simp;done)|(simp;omega))))|refine k_region ?_|(apply k_go;(focus(constructor<;>rfl)))|refine d_nil ?_|(apply o_s;(focus(first|(constructor<;>first|rfl|omega)|(apply Ri.add3<;>first|rfl|omega)|(apply Ri.sub3<;>first|rfl|omega)|(apply Ri.conv3<;>first|rfl|omega)|(apply Ri.eqb<;>rfl)|(apply Ri.neb<;>rfl)|(apply Ri.pT;(focus rfl);(focus(first|rfl|assumption|(simp;done)|(simp;omega)));(focus rfl))|(apply Ri.pF;(focus rfl);(focus(first|rfl|assumption|(simp;done)|(simp;omega)));(focus rfl))));(focus rfl)))
        refine k_no rfl hnlt ?_
        refine k_exit rfl ?_
        exact WK.sub (Sub.mk (by repeat (first | exact SubB.nil | refine SubB.cons rfl ?_))) (fin he)
      · repeat(first|refine o_nil ?_|(refine o_pass (wants_no rfl rfl rfl ?_) rfl ?_;(focus(first|rfl|assumption|(simp;done)|(simp;omega))))|refine o_pass (wants_not rfl rfl rfl) rfl ?_|(refine o_yes (wants_yes rfl rfl rfl ?_) ?_;(focus(first|rfl|assumption|(simp;done)|(simp;omega))))|refine k_region ?_|(apply k_go;(focus(constructor<;>rfl)))|refine d_nil ?_|(apply o_s;(focus(first|(constructor<;>first|rfl|omega)|(apply Ri.add3<;>first|rfl|omega)|(apply Ri.sub3<;>first|rfl|omega)|(apply Ri.conv3<;>first|rfl|omega)|(apply Ri.eqb<;>rfl)|(apply Ri.neb<;>rfl)|(apply Ri.pT;(focus rfl);(focus(first|rfl|assumption|(simp;done)|(simp;omega)));(focus rfl))|(apply Ri.pF;(focus rfl);(focus(first|rfl|assumption|(simp;done)|(simp;omega)));(focus rfl))));(focus rfl)))
        refine k_false rfl ?_
        refine k_exit rfl ?_
        exact WK.sub (Sub.mk (by repeat (first | exact SubB.nil | refine SubB.cons rfl ?_))) (fin he)
    obtain ⟨hi0, hil⟩ := hin
    have hnpos : 0 < n := by
      rcases hby with hb | hb
      · have := hn1 hb; omega
      · have := hn2 hb; omega
    obtain ⟨m, rfl⟩ : ∃ m, n = m + 1 := ⟨n - 1, by omega⟩
    obtain ⟨j, rfl⟩ : ∃ j : Nat, i = j := ⟨i.toNat, by omega⟩
    have hj : j < l.length := by omega
    obtain ⟨ad, cs, rfl, ⟨v1, rfl, hrow⟩, hcell⟩ := h.at_ (List.getElem?_eq_getElem hj)
    obtain ⟨A1, c1, rfl, hc1, hf1⟩ := hrow.form
    have hrl := hrows l[j] (List.getElem_mem hj)
    have hgd : l.getD ((j : Nat) : Int).toNat [] = l[j] := by rw [Int.toNat_natCast]; exact getD_get hj
    have hst : startM l p b (j : Int) = if (j : Int) = p.1 then p.2 else if b < 0 then (l[j].length : Int) - 1 else 0 := by unfold startM; rw [hgd]
    have hsb : -1 ≤ startM l p b (j : Int) ∧ startM l p b (j : Int) ≤ l[j].length ∧ (b = 1 → 0 ≤ startM l p b (j : Int)) := by
      rw [hst]
      split
      · next he => rw [← he, hgd] at hp2; exact ⟨by omega, by omega, fun _ => by omega⟩
      · split
        · next hb => exact ⟨by omega, by omega, fun hb' => by omega⟩
        · exact ⟨by omega, by omega, fun _ => by omega⟩
    have hgo : pairM l p x y behind want = (match lineM l[j] x y b (l[j].length + 1) (startM l p b (j : Int)) d with | (some k, _) => some ((j : Int), k) | (none, d') => pairGo l p x y b m ((j : Int) + b) d') := by
      rw [heq]
      show (if 0 ≤ (j : Int) ∧ (j : Int) < l.length then _ else _) = _
      rw [if_pos ⟨hi0, hil⟩, hgd]
    have c0 : ad.add (j * 1) = ad.add (j * 1) := rfl
    have hld : w2.cell? (ad.add (j * 1)) = some (.slice A1 l[j].length c1) := k2.cell (p := ad.add (j * 1)) (hcell 0 _ rfl) id
    have hrow2 := k2.sl hrow
    have J1 : ∀ σ', SubB σ' [(0, .slice (some ad) l.length c), (2, .int .i32 x), (3, .int .i32 y), (7, .pointer (some ⟨g1, 0, none⟩)), (12, .pointer (some ⟨g2, 0, none⟩)), (14, .int .i64 b), (15, .int .i64 d), (16, .int .i64 j), (17, .int .i64 (startM l p b (j : Int)))] →
        WK Try.prog Try.f38 (.code (bodyC Try.f38 [1, 1, 1, 1, 0, 1, 0, 0, 1, 0, 0, 1, 1, 1]) :: [.inBlock 1, .code (bodyC Try.f38 [1, 1, 1, 1, 0, 1, 0, 0, 1, 1]), .inLoop (bodyC Try.f38 [1, 1, 1, 1, 0, 1, 0, 0]), .inBlock 0, .code (bodyC Try.f38 [1, 1, 1, 1, 1])]) σ' w2 fun u w' => Kn w w' ∧ u = pairV p (pairM l p x y behind want) := by
      intro σ' hs
      refine WK.sub (Sub.mk hs) ?_
      clear hs σ'
      generalize startM l p b (j : Int) = ks at *
      repeat(first|refine o_nil ?_|(refine o_pass (wants_no rfl rfl rfl ?_) rfl ?_;(focus(first|rfl|assumption|(simp;done)|(simp;omega))))|refine o_pass (wants_not rfl rfl rfl) rfl ?_|(refine o_yes (wants_yes rfl rfl rfl ?_) ?_;(focus(first|rfl|assumption|(simp;done)|(simp;omega))))|refine k_region ?_|(apply k_go;(focus(constructor<;>rfl)))|refine d_nil ?_|(apply o_s;(focus(first|(constructor<;>first|rfl|omega)|(apply Ri.add3<;>first|rfl|omega)|(apply Ri.sub3<;>first|rfl|omega)|(apply Ri.conv3<;>first|rfl|omega)|(apply Ri.eqb<;>rfl)|(apply Ri.neb<;>rfl)|(apply Ri.pT;(focus rfl);(focus(first|rfl|assumption|(simp;done)|(simp;omega)));(focus rfl))|(apply Ri.pF;(focus rfl);(focus(first|rfl|assumption|(simp;done)|(simp;omega)));(focus rfl))));(focus rfl)))
      refine k_while (S := PlnSt) (fun s => s.n) (fun s => [(0, .slice (some ad) l.length c), (2, .int .i32 x), (3, .int .i32 y), (7, .pointer (some ⟨g1, 0, none⟩)), (12, .pointer (some ⟨g2, 0, none⟩)), (14, .int .i64 b), (15, .int .i64 s.d), (16, .int .i64 j), (17, .int .i64 s.k)])
        (fun s wr => wr = w2 ∧ -1 ≤ s.k ∧ s.k ≤ l[j].length ∧ (b = 1 → (l[j].length : Int) ≤ s.k + s.n) ∧ (b = -1 → s.k + 1 ≤ s.n) ∧ s.n ≤ l[j].length + 1 ∧ d - ((l[j].length : Int) + 1 - s.n) ≤ s.d ∧ s.d ≤ d + ((l[j].length : Int) + 1 - s.n) ∧ lineM l[j] x y b (l[j].length + 1) ks d = lineM l[j] x y b s.n s.k s.d)
        ⟨l[j].length + 1, ks, d⟩ (by repeat (first | exact SubB.nil | refine SubB.cons rfl ?_)) ⟨rfl, hsb.1, hsb.2.1, fun hb => by have := hsb.2.2 hb; show (l[j].length : Int) ≤ ks + ((l[j].length + 1 : Nat) : Int); omega, fun _ => by have := hsb.2.1; show ks + 1 ≤ ((l[j].length + 1 : Nat) : Int); omega, Nat.le_refl _, by show d - ((l[j].length : Int) + 1 - ((l[j].length + 1 : Nat) : Int)) ≤ d; omega, by show d ≤ d + ((l[j].length : Int) + 1 - ((l[j].length + 1 : Nat) : Int)); omega, rfl⟩ ?_
      rintro ⟨q, k, e⟩ w2 ⟨rfl, hk1, hk2, hq1, hq2, hql, he1, he2, hleq⟩ ih2
      simp only at hk1 hk2 hq1 hq2 hql he1 he2 hleq ih2 ⊢
      have nxt : (0 ≤ k ∧ k < l[j].length → False) → WK Try.prog Try.f38 ([.inBlock 1, .code (bodyC Try.f38 [1, 1, 1, 1, 0, 1, 0, 0, 1, 1]), .inLoop (bodyC Try.f38 [1, 1, 1, 1, 0, 1, 0, 0]), .inBlock 0, .code (bodyC Try.f38 [1, 1, 1, 1, 1])]) [(0, .slice (some ad) l.length c), (2, .int .i32 x), (3, .int .i32 y), (7, .pointer (some ⟨g1, 0, none⟩)), (12, .pointer (some ⟨g2, 0, none⟩)), (14, .int .i64 b), (15, .int .i64 e), (16, .int .i64 j)] w2 fun u w' => Kn w w' ∧ u = pairV p (pairM l p x y behind want) := by
        intro hout
        have hl0 : lineM l[j] x y b q k e = (none, e) := by
          cases q with
          | zero => rfl
          | succ q => unfold lineM; rw [if_neg hout]
        rw [hleq, hl0] at hgo
        simp only at hgo
        have hjb : -1 ≤ (j : Int) + b ∧ (j : Int) + b ≤ l.length := by rcases hby with hb | hb <;> omega
        repeat(first|refine o_nil ?_|(refine o_pass (wants_no rfl rfl rfl ?_) rfl ?_;(focus(first|rfl|assumption|(simp;done)|(simp;omega))))|refine o_pass (wants_not rfl rfl rfl) rfl ?_|(refine o_yes (wants_yes rfl rfl rfl ?_) ?_;(focus(first|rfl|assumption|(simp;done)|(simp;omega))))|refine k_region ?_|(apply k_go;(focus(constructor<;>rfl)))|refine d_nil ?_|(apply o_s;(focus(first|(constructor<;>first|rfl|omega)|(apply Ri.add3<;>first|rfl|omega)|(apply Ri.sub3<;>first|rfl|omega)|(apply Ri.conv3<;>first|rfl|omega)|(apply Ri.eqb<;>rfl)|(apply Ri.neb<;>rfl)|(apply Ri.pT;(focus rfl);(focus(first|rfl|assumption|(simp;done)|(simp;omega)));(focus rfl))|(apply Ri.pF;(focus rfl);(focus(first|rfl|assumption|(simp;done)|(simp;omega)));(focus rfl))));(focus rfl)))
        exact ih ⟨m, (j : Int) + b, e⟩ w2 ⟨rfl, hjb.1, hjb.2, fun hb => by have := hn1 hb; show (l.length : Int) ≤ (j : Int) + b + m; omega, fun hb => by have := hn2 hb; show (j : Int) + b + 1 ≤ m; omega, by show m ≤ l.length + 1; omega, by show (-10 : Int) - 4001 * ((l.length : Int) + 1 - m) ≤ e; omega, by show e ≤ 10 + 4001 * ((l.length : Int) + 1 - m); omega, hgo⟩ (by show m < m + 1; omega) _ (by repeat (first | exact SubB.nil | refine SubB.cons rfl ?_))
      by_cases hk0 : 0 ≤ k
      case neg =>
        repeat(first|refine o_nil ?_|(refine o_pass (wants_no rfl rfl rfl ?_) rfl ?_;(focus(first|rfl|assumption|(simp;done)|(simp;omega))))|refine o_pass (wants_not rfl rfl rfl) rfl ?_|(refine o_yes (wants_yes rfl rfl rfl ?_) ?_;(focus(first|rfl|assumption|(simp;done)|(simp;omega))))|refine k_region ?_|(apply k_go;(focus(constructor<;>rfl)))|refine d_nil ?_|(apply o_s;(focus(first|(constructor<;>first|rfl|omega)|(apply Ri.add3<;>first|rfl|omega)|(apply Ri.sub3<;>first|rfl|omega)|(apply Ri.conv3<;>first|rfl|omega)|(apply Ri.eqb<;>rfl)|(apply Ri.neb<;>rfl)|(apply Ri.pT;(focus rfl);(focus(first|rfl|assumption|(simp;done)|(simp;omega)));(focus rfl))|(apply Ri.pF;(focus rfl);(focus(first|rfl|assumption|(simp;done)|(simp;omega)));(focus rfl))));(focus rfl)))
        refine k_false rfl ?_
        refine k_exit rfl ?_
        exact WK.sub (Sub.mk (by repeat (first | exact SubB.nil | refine SubB.cons rfl ?_))) (nxt fun hh => hk0 hh.1)
      repeat(first|refine o_nil ?_|(refine o_pass (wants_no rfl rfl rfl ?_) rfl ?_;(focus(first|rfl|assumption|(simp;done)|(simp;omega))))|refine o_pass (wants_not rfl rfl rfl) rfl ?_|(refine o_yes (wants_yes rfl rfl rfl ?_) ?_;(focus(first|rfl|assumption|(simp;done)|(simp;omega))))|refine k_region ?_|(apply k_go;(focus(constructor<;>rfl)))|refine d_nil ?_|(apply o_s;(focus(first|(constructor<;>first|rfl|omega)|(apply Ri.add3<;>first|rfl|omega)|(apply Ri.sub3<;>first|rfl|omega)|(apply Ri.conv3<;>first|rfl|omega)|(apply Ri.eqb<;>rfl)|(apply Ri.neb<;>rfl)|(apply Ri.pT;(focus rfl);(focus(first|rfl|assumption|(simp;done)|(simp;omega)));(focus rfl))|(apply Ri.pF;(focus rfl);(focus(first|rfl|assumption|(simp;done)|(simp;omega)));(focus rfl))));(focus rfl)))
      refine o_still (r_index rfl rfl rfl (by omega) (by omega)) (wants_none rfl) rfl ?_
      refine o_still (r_load rfl (by rw [Int.toNat_natCast]; exact hld)) (wants_yes rfl rfl rfl (by first | rfl | assumption | (simp; done) | (simp; omega))) rfl ?_
      repeat(first|refine o_nil ?_|(refine o_pass (wants_no rfl rfl rfl ?_) rfl ?_;(focus(first|rfl|assumption|(simp;done)|(simp;omega))))|refine o_pass (wants_not rfl rfl rfl) rfl ?_|(refine o_yes (wants_yes rfl rfl rfl ?_) ?_;(focus(first|rfl|assumption|(simp;done)|(simp;omega))))|refine k_region ?_|(apply k_go;(focus(constructor<;>rfl)))|refine d_nil ?_|(apply o_s;(focus(first|(constructor<;>first|rfl|omega)|(apply Ri.add3<;>first|rfl|omega)|(apply Ri.sub3<;>first|rfl|omega)|(apply Ri.conv3<;>first|rfl|omega)|(apply Ri.eqb<;>rfl)|(apply Ri.neb<;>rfl)|(apply Ri.pT;(focus rfl);(focus(first|rfl|assumption|(simp;done)|(simp;omega)));(focus rfl))|(apply Ri.pF;(focus rfl);(focus(first|rfl|assumption|(simp;done)|(simp;omega)));(focus rfl))));(focus rfl)))
      by_cases hkl : k < l[j].length
      case neg =>
        refine k_no rfl hkl ?_
        refine k_exit rfl ?_
        exact WK.sub (Sub.mk (by repeat (first | exact SubB.nil | refine SubB.cons rfl ?_))) (nxt fun hh => hkl hh.2)
      refine k_yes rfl hkl ?_
      have hqpos : 0 < q := by
        rcases hby with hb | hb
        · have := hq1 hb; omega
        · have := hq2 hb; omega
      obtain ⟨q, rfl⟩ : ∃ t, q = t + 1 := ⟨q - 1, by omega⟩
      obtain ⟨kk, rfl⟩ : ∃ t : Nat, k = t := ⟨k.toNat, by omega⟩
      have hkk : kk < l[j].length := by omega
      obtain ⟨ad2, cs2, hAd2, ⟨rfl, hr2⟩, hcell2⟩ := hrow2.at_ (List.getElem?_eq_getElem hkk)
      subst hAd2
      have hgk : l[j].getD ((kk : Nat) : Int).toNat 0 = l[j][kk] := by rw [Int.toNat_natCast]; exact getD_int hkk
      have hline : lineM l[j] x y b (q + 1) kk e = if l[j][kk] = x then (if e + 1 = 0 then (some (kk : Int), e + 1) else lineM l[j] x y b q (kk + b) (e + 1))
          else if l[j][kk] = y then (if e - 1 = 0 then (some (kk : Int), e - 1) else lineM l[j] x y b q (kk + b) (e - 1)) else lineM l[j] x y b q (kk + b) e := by
        show (if 0 ≤ (kk : Int) ∧ (kk : Int) < l[j].length then _ else _) = _
        rw [if_pos ⟨hk0, hkl⟩, hgk]
      rw [hline] at hleq
      have hkb : -1 ≤ (kk : Int) + b ∧ (kk : Int) + b ≤ l[j].length := by rcases hby with hb | hb <;> omega
      have go : ∀ e', d - ((l[j].length : Int) + 1 - q) ≤ e' → e' ≤ d + ((l[j].length : Int) + 1 - q) → lineM l[j] x y b (l[j].length + 1) ks d = lineM l[j] x y b q (kk + b) e' →
          ∀ σ', SubB σ' [(0, .slice (some ad) l.length c), (2, .int .i32 x), (3, .int .i32 y), (7, .pointer (some ⟨g1, 0, none⟩)), (12, .pointer (some ⟨g2, 0, none⟩)), (14, .int .i64 b), (15, .int .i64 e'), (16, .int .i64 j), (17, .int .i64 ((kk : Int) + b))] → _ :=
        fun e' h1 h2 h3 σ' hs => ih2 ⟨q, kk + b, e'⟩ w2 ⟨rfl, hkb.1, hkb.2, fun hb => by have := hq1 hb; show (l[j].length : Int) ≤ (kk : Int) + b + q; omega, fun hb => by have := hq2 hb; show (kk : Int) + b + 1 ≤ q; omega, by show q ≤ l[j].length + 1; omega, h1, h2, h3⟩ (by show q < q + 1; omega) σ' hs
      have found : lineM l[j] x y b (l[j].length + 1) ks d = (some (kk : Int), 0) → ∀ w4, Wr w2 w4 g2 (.cells #[.int .i64 j, .int .i64 kk] 24 (0, 0)) → Kn w w4 ∧ Value.tuple #[posV ((j : Int), (kk : Int)), .bool true] = pairV p (pairM l p x y behind want) := by
        intro hf w4 hw4
        rw [hf] at hgo
        simp only at hgo
        exact ⟨Kp.then k2 hw4.kp (fun _ h => h) fun i hi he => by omega, by rw [hgo]; rfl⟩
      repeat(first|refine o_nil ?_|(refine o_pass (wants_no rfl rfl rfl ?_) rfl ?_;(focus(first|rfl|assumption|(simp;done)|(simp;omega))))|refine o_pass (wants_not rfl rfl rfl) rfl ?_|(refine o_yes (wants_yes rfl rfl rfl ?_) ?_;(focus(first|rfl|assumption|(simp;done)|(simp;omega))))|refine k_region ?_|(apply k_go;(focus(constructor<;>rfl)))|refine d_nil ?_|(apply o_s;(focus(first|(constructor<;>first|rfl|omega)|(apply Ri.add3<;>first|rfl|omega)|(apply Ri.sub3<;>first|rfl|omega)|(apply Ri.conv3<;>first|rfl|omega)|(apply Ri.eqb<;>rfl)|(apply Ri.neb<;>rfl)|(apply Ri.pT;(focus rfl);(focus(first|rfl|assumption|(simp;done)|(simp;omega)));(focus rfl))|(apply Ri.pF;(focus rfl);(focus(first|rfl|assumption|(simp;done)|(simp;omega)));(focus rfl))));(focus rfl)))
      refine o_still (r_index rfl rfl rfl (by omega) (by omega)) (wants_none rfl) rfl ?_
      refine o_still (r_load rfl (by rw [Int.toNat_natCast]; exact hld)) (wants_none rfl) rfl ?_
      repeat(first|refine o_nil ?_|(refine o_pass (wants_no rfl rfl rfl ?_) rfl ?_;(focus(first|rfl|assumption|(simp;done)|(simp;omega))))|refine o_pass (wants_not rfl rfl rfl) rfl ?_|(refine o_yes (wants_yes rfl rfl rfl ?_) ?_;(focus(first|rfl|assumption|(simp;done)|(simp;omega))))|refine k_region ?_|(apply k_go;(focus(constructor<;>rfl)))|refine d_nil ?_|(apply o_s;(focus(first|(constructor<;>first|rfl|omega)|(apply Ri.add3<;>first|rfl|omega)|(apply Ri.sub3<;>first|rfl|omega)|(apply Ri.conv3<;>first|rfl|omega)|(apply Ri.eqb<;>rfl)|(apply Ri.neb<;>rfl)|(apply Ri.pT;(focus rfl);(focus(first|rfl|assumption|(simp;done)|(simp;omega)));(focus rfl))|(apply Ri.pF;(focus rfl);(focus(first|rfl|assumption|(simp;done)|(simp;omega)));(focus rfl))));(focus rfl)))
      refine o_still (r_index rfl rfl rfl (by omega) (by omega)) (wants_none rfl) rfl ?_
      refine o_still (r_load rfl (hcell2 0 _ rfl)) (wants_none rfl) rfl ?_
      repeat(first|refine o_nil ?_|(refine o_pass (wants_no rfl rfl rfl ?_) rfl ?_;(focus(first|rfl|assumption|(simp;done)|(simp;omega))))|refine o_pass (wants_not rfl rfl rfl) rfl ?_|(refine o_yes (wants_yes rfl rfl rfl ?_) ?_;(focus(first|rfl|assumption|(simp;done)|(simp;omega))))|refine k_region ?_|(apply k_go;(focus(constructor<;>rfl)))|refine d_nil ?_|(apply o_s;(focus(first|(constructor<;>first|rfl|omega)|(apply Ri.add3<;>first|rfl|omega)|(apply Ri.sub3<;>first|rfl|omega)|(apply Ri.conv3<;>first|rfl|omega)|(apply Ri.eqb<;>rfl)|(apply Ri.neb<;>rfl)|(apply Ri.pT;(focus rfl);(focus(first|rfl|assumption|(simp;done)|(simp;omega)));(focus rfl))|(apply Ri.pF;(focus rfl);(focus(first|rfl|assumption|(simp;done)|(simp;omega)));(focus rfl))));(focus rfl)))
      by_cases hcx : l[j][kk] = x
      · rw [if_pos hcx] at hleq
        refine k_yes rfl hcx ?_
        repeat(first|refine o_nil ?_|(refine o_pass (wants_no rfl rfl rfl ?_) rfl ?_;(focus(first|rfl|assumption|(simp;done)|(simp;omega))))|refine o_pass (wants_not rfl rfl rfl) rfl ?_|(refine o_yes (wants_yes rfl rfl rfl ?_) ?_;(focus(first|rfl|assumption|(simp;done)|(simp;omega))))|refine k_region ?_|(apply k_go;(focus(constructor<;>rfl)))|refine d_nil ?_|(apply o_s;(focus(first|(constructor<;>first|rfl|omega)|(apply Ri.add3<;>first|rfl|omega)|(apply Ri.sub3<;>first|rfl|omega)|(apply Ri.conv3<;>first|rfl|omega)|(apply Ri.eqb<;>rfl)|(apply Ri.neb<;>rfl)|(apply Ri.pT;(focus rfl);(focus(first|rfl|assumption|(simp;done)|(simp;omega)));(focus rfl))|(apply Ri.pF;(focus rfl);(focus(first|rfl|assumption|(simp;done)|(simp;omega)));(focus rfl))));(focus rfl)))
        by_cases hz : e + 1 = 0
        · rw [if_pos hz, hz] at hleq
          refine k_yes rfl hz ?_
          repeat (first | refine o_nil ?_ | refine k_seq ?_ | refine k_region ?_ | refine k_block ?_ | refine k_inBlock ?_ | refine k_skip ?_)
          refine o_still (r_move rfl) (wants_none rfl) rfl ?_
          refine o_still (r_move rfl) (wants_none rfl) rfl ?_
          refine o_still (r_build (c := #[.int .i64 j, .int .i64 kk]) rfl rfl) (wants_none rfl) rfl ?_
          refine o_unit (u_storeA rfl rfl rfl (by simp [Value.oneCell']) rfl b2 (Nat.le_refl 2)) (wants_none rfl) rfl ?_
          rintro w4 hw4
          repeat(first|refine o_nil ?_|(refine o_pass (wants_no rfl rfl rfl ?_) rfl ?_;(focus(first|rfl|assumption|(simp;done)|(simp;omega))))|refine o_pass (wants_not rfl rfl rfl) rfl ?_|(refine o_yes (wants_yes rfl rfl rfl ?_) ?_;(focus(first|rfl|assumption|(simp;done)|(simp;omega))))|refine k_region ?_|(apply k_go;(focus(constructor<;>rfl)))|refine d_nil ?_|(apply o_s;(focus(first|(constructor<;>first|rfl|omega)|(apply Ri.add3<;>first|rfl|omega)|(apply Ri.sub3<;>first|rfl|omega)|(apply Ri.conv3<;>first|rfl|omega)|(apply Ri.eqb<;>rfl)|(apply Ri.neb<;>rfl)|(apply Ri.pT;(focus rfl);(focus(first|rfl|assumption|(simp;done)|(simp;omega)));(focus rfl))|(apply Ri.pF;(focus rfl);(focus(first|rfl|assumption|(simp;done)|(simp;omega)));(focus rfl))));(focus rfl)))
          exact k_retR2 rfl (.agg rfl rfl (blk_all hw4.at_) (.tmp rfl .nil)) (found hleq w4 hw4)
        · rw [if_neg hz] at hleq
          refine k_no rfl hz ?_
          repeat(first|refine o_nil ?_|(refine o_pass (wants_no rfl rfl rfl ?_) rfl ?_;(focus(first|rfl|assumption|(simp;done)|(simp;omega))))|refine o_pass (wants_not rfl rfl rfl) rfl ?_|(refine o_yes (wants_yes rfl rfl rfl ?_) ?_;(focus(first|rfl|assumption|(simp;done)|(simp;omega))))|refine k_region ?_|(apply k_go;(focus(constructor<;>rfl)))|refine d_nil ?_|(apply o_s;(focus(first|(constructor<;>first|rfl|omega)|(apply Ri.add3<;>first|rfl|omega)|(apply Ri.sub3<;>first|rfl|omega)|(apply Ri.conv3<;>first|rfl|omega)|(apply Ri.eqb<;>rfl)|(apply Ri.neb<;>rfl)|(apply Ri.pT;(focus rfl);(focus(first|rfl|assumption|(simp;done)|(simp;omega)));(focus rfl))|(apply Ri.pF;(focus rfl);(focus(first|rfl|assumption|(simp;done)|(simp;omega)));(focus rfl))));(focus rfl)))
          exact go (e + 1) (by omega) (by omega) hleq _ (by repeat (first | exact SubB.nil | refine SubB.cons rfl ?_))
      rw [if_neg hcx] at hleq
      refine k_no rfl hcx ?_
      repeat(first|refine o_nil ?_|(refine o_pass (wants_no rfl rfl rfl ?_) rfl ?_;(focus(first|rfl|assumption|(simp;done)|(simp;omega))))|refine o_pass (wants_not rfl rfl rfl) rfl ?_|(refine o_yes (wants_yes rfl rfl rfl ?_) ?_;(focus(first|rfl|assumption|(simp;done)|(simp;omega))))|refine k_region ?_|(apply k_go;(focus(constructor<;>rfl)))|refine d_nil ?_|(apply o_s;(focus(first|(constructor<;>first|rfl|omega)|(apply Ri.add3<;>first|rfl|omega)|(apply Ri.sub3<;>first|rfl|omega)|(apply Ri.conv3<;>first|rfl|omega)|(apply Ri.eqb<;>rfl)|(apply Ri.neb<;>rfl)|(apply Ri.pT;(focus rfl);(focus(first|rfl|assumption|(simp;done)|(simp;omega)));(focus rfl))|(apply Ri.pF;(focus rfl);(focus(first|rfl|assumption|(simp;done)|(simp;omega)));(focus rfl))));(focus rfl)))
      by_cases hcy : l[j][kk] = y
      · rw [if_pos hcy] at hleq
        refine k_yes rfl hcy ?_
        repeat(first|refine o_nil ?_|(refine o_pass (wants_no rfl rfl rfl ?_) rfl ?_;(focus(first|rfl|assumption|(simp;done)|(simp;omega))))|refine o_pass (wants_not rfl rfl rfl) rfl ?_|(refine o_yes (wants_yes rfl rfl rfl ?_) ?_;(focus(first|rfl|assumption|(simp;done)|(simp;omega))))|refine k_region ?_|(apply k_go;(focus(constructor<;>rfl)))|refine d_nil ?_|(apply o_s;(focus(first|(constructor<;>first|rfl|omega)|(apply Ri.add3<;>first|rfl|omega)|(apply Ri.sub3<;>first|rfl|omega)|(apply Ri.conv3<;>first|rfl|omega)|(apply Ri.eqb<;>rfl)|(apply Ri.neb<;>rfl)|(apply Ri.pT;(focus rfl);(focus(first|rfl|assumption|(simp;done)|(simp;omega)));(focus rfl))|(apply Ri.pF;(focus rfl);(focus(first|rfl|assumption|(simp;done)|(simp;omega)));(focus rfl))));(focus rfl)))
        by_cases hz : e - 1 = 0
        · rw [if_pos hz, hz] at hleq
          refine k_yes rfl hz ?_
          repeat (first | refine o_nil ?_ | refine k_seq ?_ | refine k_region ?_ | refine k_block ?_ | refine k_inBlock ?_ | refine k_skip ?_)
          refine o_still (r_move rfl) (wants_none rfl) rfl ?_
          refine o_still (r_move rfl) (wants_none rfl) rfl ?_
          refine o_still (r_build (c := #[.int .i64 j, .int .i64 kk]) rfl rfl) (wants_none rfl) rfl ?_
          refine o_unit (u_storeA rfl rfl rfl (by simp [Value.oneCell']) rfl b2 (Nat.le_refl 2)) (wants_none rfl) rfl ?_
          rintro w4 hw4
          repeat(first|refine o_nil ?_|(refine o_pass (wants_no rfl rfl rfl ?_) rfl ?_;(focus(first|rfl|assumption|(simp;done)|(simp;omega))))|refine o_pass (wants_not rfl rfl rfl) rfl ?_|(refine o_yes (wants_yes rfl rfl rfl ?_) ?_;(focus(first|rfl|assumption|(simp;done)|(simp;omega))))|refine k_region ?_|(apply k_go;(focus(constructor<;>rfl)))|refine d_nil ?_|(apply o_s;(focus(first|(constructor<;>first|rfl|omega)|(apply Ri.add3<;>first|rfl|omega)|(apply Ri.sub3<;>first|rfl|omega)|(apply Ri.conv3<;>first|rfl|omega)|(apply Ri.eqb<;>rfl)|(apply Ri.neb<;>rfl)|(apply Ri.pT;(focus rfl);(focus(first|rfl|assumption|(simp;done)|(simp;omega)));(focus rfl))|(apply Ri.pF;(focus rfl);(focus(first|rfl|assumption|(simp;done)|(simp;omega)));(focus rfl))));(focus rfl)))
          exact k_retR2 rfl (.agg rfl rfl (blk_all hw4.at_) (.tmp rfl .nil)) (found hleq w4 hw4)
        · rw [if_neg hz] at hleq
          refine k_no rfl hz ?_
          repeat(first|refine o_nil ?_|(refine o_pass (wants_no rfl rfl rfl ?_) rfl ?_;(focus(first|rfl|assumption|(simp;done)|(simp;omega))))|refine o_pass (wants_not rfl rfl rfl) rfl ?_|(refine o_yes (wants_yes rfl rfl rfl ?_) ?_;(focus(first|rfl|assumption|(simp;done)|(simp;omega))))|refine k_region ?_|(apply k_go;(focus(constructor<;>rfl)))|refine d_nil ?_|(apply o_s;(focus(first|(constructor<;>first|rfl|omega)|(apply Ri.add3<;>first|rfl|omega)|(apply Ri.sub3<;>first|rfl|omega)|(apply Ri.conv3<;>first|rfl|omega)|(apply Ri.eqb<;>rfl)|(apply Ri.neb<;>rfl)|(apply Ri.pT;(focus rfl);(focus(first|rfl|assumption|(simp;done)|(simp;omega)));(focus rfl))|(apply Ri.pF;(focus rfl);(focus(first|rfl|assumption|(simp;done)|(simp;omega)));(focus rfl))));(focus rfl)))
          exact go (e - 1) (by omega) (by omega) hleq _ (by repeat (first | exact SubB.nil | refine SubB.cons rfl ?_))
      · rw [if_neg hcy] at hleq
        refine k_no rfl hcy ?_
        refine k_exit rfl ?_
        repeat(first|refine o_nil ?_|(refine o_pass (wants_no rfl rfl rfl ?_) rfl ?_;(focus(first|rfl|assumption|(simp;done)|(simp;omega))))|refine o_pass (wants_not rfl rfl rfl) rfl ?_|(refine o_yes (wants_yes rfl rfl rfl ?_) ?_;(focus(first|rfl|assumption|(simp;done)|(simp;omega))))|refine k_region ?_|(apply k_go;(focus(constructor<;>rfl)))|refine d_nil ?_|(apply o_s;(focus(first|(constructor<;>first|rfl|omega)|(apply Ri.add3<;>first|rfl|omega)|(apply Ri.sub3<;>first|rfl|omega)|(apply Ri.conv3<;>first|rfl|omega)|(apply Ri.eqb<;>rfl)|(apply Ri.neb<;>rfl)|(apply Ri.pT;(focus rfl);(focus(first|rfl|assumption|(simp;done)|(simp;omega)));(focus rfl))|(apply Ri.pF;(focus rfl);(focus(first|rfl|assumption|(simp;done)|(simp;omega)));(focus rfl))));(focus rfl)))
        exact go e (by omega) (by omega) hleq _ (by repeat (first | exact SubB.nil | refine SubB.cons rfl ?_))
    have J0 : ∀ z, (¬ (j : Int) = p.1 → z = startM l p b (j : Int)) → ∀ σ', SubB σ' [(0, .slice (some ad) l.length c), (2, .int .i32 x), (3, .int .i32 y), (7, .pointer (some ⟨g1, 0, none⟩)), (12, .pointer (some ⟨g2, 0, none⟩)), (14, .int .i64 b), (15, .int .i64 d), (16, .int .i64 j), (17, .int .i64 z)] →
        WK Try.prog Try.f38 (.code (bodyC Try.f38 [1, 1, 1, 1, 0, 1, 0, 0, 1, 0, 0, 1, 1]) :: [.inBlock 1, .code (bodyC Try.f38 [1, 1, 1, 1, 0, 1, 0, 0, 1, 1]), .inLoop (bodyC Try.f38 [1, 1, 1, 1, 0, 1, 0, 0]), .inBlock 0, .code (bodyC Try.f38 [1, 1, 1, 1, 1])]) σ' w2 fun u w' => Kn w w' ∧ u = pairV p (pairM l p x y behind want) := by
      intro z hz σ' hs
      refine WK.sub (Sub.mk hs) ?_
      clear hs σ'
      repeat(first|refine o_nil ?_|(refine o_pass (wants_no rfl rfl rfl ?_) rfl ?_;(focus(first|rfl|assumption|(simp;done)|(simp;omega))))|refine o_pass (wants_not rfl rfl rfl) rfl ?_|(refine o_yes (wants_yes rfl rfl rfl ?_) ?_;(focus(first|rfl|assumption|(simp;done)|(simp;omega))))|refine k_region ?_|(apply k_go;(focus(constructor<;>rfl)))|refine d_nil ?_|(apply o_s;(focus(first|(constructor<;>first|rfl|omega)|(apply Ri.add3<;>first|rfl|omega)|(apply Ri.sub3<;>first|rfl|omega)|(apply Ri.conv3<;>first|rfl|omega)|(apply Ri.eqb<;>rfl)|(apply Ri.neb<;>rfl)|(apply Ri.pT;(focus rfl);(focus(first|rfl|assumption|(simp;done)|(simp;omega)));(focus rfl))|(apply Ri.pF;(focus rfl);(focus(first|rfl|assumption|(simp;done)|(simp;omega)));(focus rfl))));(focus rfl)))
      refine o_still (r_load rfl p0) (wants_none rfl) rfl ?_
      by_cases hjp : (j : Int) = p.1
      · have hsv : startM l p b (j : Int) = p.2 := by rw [hst, if_pos hjp]
        repeat(first|refine o_nil ?_|(refine o_pass (wants_no rfl rfl rfl ?_) rfl ?_;(focus(first|rfl|assumption|(simp;done)|(simp;omega))))|refine o_pass (wants_not rfl rfl rfl) rfl ?_|(refine o_yes (wants_yes rfl rfl rfl ?_) ?_;(focus(first|rfl|assumption|(simp;done)|(simp;omega))))|refine k_region ?_|(apply k_go;(focus(constructor<;>rfl)))|refine d_nil ?_|(apply o_s;(focus(first|(constructor<;>first|rfl|omega)|(apply Ri.add3<;>first|rfl|omega)|(apply Ri.sub3<;>first|rfl|omega)|(apply Ri.conv3<;>first|rfl|omega)|(apply Ri.eqb<;>rfl)|(apply Ri.neb<;>rfl)|(apply Ri.pT;(focus rfl);(focus(first|rfl|assumption|(simp;done)|(simp;omega)));(focus rfl))|(apply Ri.pF;(focus rfl);(focus(first|rfl|assumption|(simp;done)|(simp;omega)));(focus rfl))));(focus rfl)))
        refine k_yes rfl hjp ?_
        repeat (first | refine o_nil ?_ | refine k_seq ?_ | refine k_region ?_ | refine k_block ?_ | refine k_inBlock ?_ | refine k_skip ?_)
        refine o_still (r_field rfl) (wants_none rfl) rfl ?_
        refine o_still (r_load rfl p1) (wants_none rfl) rfl ?_
        refine o_still (r_assign rfl) (wants_none rfl) rfl ?_
        refine o_nil ?_
        exact J1 _ (by rw [hsv]; exact (by repeat (first | exact SubB.nil | refine SubB.cons rfl ?_)))
      · repeat(first|refine o_nil ?_|(refine o_pass (wants_no rfl rfl rfl ?_) rfl ?_;(focus(first|rfl|assumption|(simp;done)|(simp;omega))))|refine o_pass (wants_not rfl rfl rfl) rfl ?_|(refine o_yes (wants_yes rfl rfl rfl ?_) ?_;(focus(first|rfl|assumption|(simp;done)|(simp;omega))))|refine k_region ?_|(apply k_go;(focus(constructor<;>rfl)))|refine d_nil ?_|(apply o_s;(focus(first|(constructor<;>first|rfl|omega)|(apply Ri.add3<;>first|rfl|omega)|(apply Ri.sub3<;>first|rfl|omega)|(apply Ri.conv3<;>first|rfl|omega)|(apply Ri.eqb<;>rfl)|(apply Ri.neb<;>rfl)|(apply Ri.pT;(focus rfl);(focus(first|rfl|assumption|(simp;done)|(simp;omega)));(focus rfl))|(apply Ri.pF;(focus rfl);(focus(first|rfl|assumption|(simp;done)|(simp;omega)));(focus rfl))));(focus rfl)))
        refine k_no rfl hjp ?_
        refine k_skip ?_
        exact J1 _ (by rw [← hz hjp]; exact (by repeat (first | exact SubB.nil | refine SubB.cons rfl ?_)))
    repeat(first|refine o_nil ?_|(refine o_pass (wants_no rfl rfl rfl ?_) rfl ?_;(focus(first|rfl|assumption|(simp;done)|(simp;omega))))|refine o_pass (wants_not rfl rfl rfl) rfl ?_|(refine o_yes (wants_yes rfl rfl rfl ?_) ?_;(focus(first|rfl|assumption|(simp;done)|(simp;omega))))|refine k_region ?_|(apply k_go;(focus(constructor<;>rfl)))|refine d_nil ?_|(apply o_s;(focus(first|(constructor<;>first|rfl|omega)|(apply Ri.add3<;>first|rfl|omega)|(apply Ri.sub3<;>first|rfl|omega)|(apply Ri.conv3<;>first|rfl|omega)|(apply Ri.eqb<;>rfl)|(apply Ri.neb<;>rfl)|(apply Ri.pT;(focus rfl);(focus(first|rfl|assumption|(simp;done)|(simp;omega)));(focus rfl))|(apply Ri.pF;(focus rfl);(focus(first|rfl|assumption|(simp;done)|(simp;omega)));(focus rfl))));(focus rfl)))
    refine k_yes rfl hil ?_
    repeat(first|refine o_nil ?_|(refine o_pass (wants_no rfl rfl rfl ?_) rfl ?_;(focus(first|rfl|assumption|(simp;done)|(simp;omega))))|refine o_pass (wants_not rfl rfl rfl) rfl ?_|(refine o_yes (wants_yes rfl rfl rfl ?_) ?_;(focus(first|rfl|assumption|(simp;done)|(simp;omega))))|refine k_region ?_|(apply k_go;(focus(constructor<;>rfl)))|refine d_nil ?_|(apply o_s;(focus(first|(constructor<;>first|rfl|omega)|(apply Ri.add3<;>first|rfl|omega)|(apply Ri.sub3<;>first|rfl|omega)|(apply Ri.conv3<;>first|rfl|omega)|(apply Ri.eqb<;>rfl)|(apply Ri.neb<;>rfl)|(apply Ri.pT;(focus rfl);(focus(first|rfl|assumption|(simp;done)|(simp;omega)));(focus rfl))|(apply Ri.pF;(focus rfl);(focus(first|rfl|assumption|(simp;done)|(simp;omega)));(focus rfl))));(focus rfl)))
    rcases hby with hb | hb
    · refine k_no rfl (by omega) ?_
      refine k_skip ?_
      exact J0 0 (fun hn => by rw [hst, if_neg hn, if_neg (by omega)]) _ (by repeat (first | exact SubB.nil | refine SubB.cons rfl ?_))
    · refine k_yes rfl (by omega) ?_
      repeat (first | refine o_nil ?_ | refine k_seq ?_ | refine k_region ?_ | refine k_block ?_ | refine k_inBlock ?_ | refine k_skip ?_)
      refine o_still (r_move rfl) (wants_none rfl) rfl ?_
      refine o_still (r_move rfl) (wants_none rfl) rfl ?_
      refine o_still (r_index rfl rfl rfl (by omega) (by omega)) (wants_none rfl) rfl ?_
      refine o_still (r_load rfl (by rw [Int.toNat_natCast]; exact hld)) (wants_none rfl) rfl ?_
      refine o_still (r_len rfl) (wants_none rfl) rfl ?_
      refine o_still (r_sub rfl rfl (by omega) (by omega)) (wants_none rfl) rfl ?_
      refine o_still (r_assign rfl) (wants_none rfl) rfl ?_
      refine o_nil ?_
      exact J0 ((l[j].length : Int) - 1) (fun hn => by rw [hst, if_neg hn, if_pos (by omega)]) _ (by repeat (first | exact SubB.nil | refine SubB.cons rfl ?_))
  cases behind with
  | true =>
    repeat(first|refine o_nil ?_|(refine o_pass (wants_no rfl rfl rfl ?_) rfl ?_;(focus(first|rfl|assumption|(simp;done)|(simp;omega))))|refine o_pass (wants_not rfl rfl rfl) rfl ?_|(refine o_yes (wants_yes rfl rfl rfl ?_) ?_;(focus(first|rfl|assumption|(simp;done)|(simp;omega))))|refine k_region ?_|(apply k_go;(focus(constructor<;>rfl)))|refine d_nil ?_|(apply o_s;(focus(first|(constructor<;>first|rfl|omega)|(apply Ri.add3<;>first|rfl|omega)|(apply Ri.sub3<;>first|rfl|omega)|(apply Ri.conv3<;>first|rfl|omega)|(apply Ri.eqb<;>rfl)|(apply Ri.neb<;>rfl)|(apply Ri.pT;(focus rfl);(focus(first|rfl|assumption|(simp;done)|(simp;omega)));(focus rfl))|(apply Ri.pF;(focus rfl);(focus(first|rfl|assumption|(simp;done)|(simp;omega)));(focus rfl))));(focus rfl)))
    refine k_false rfl ?_
    refine k_skip ?_
    exact J _ (by repeat (first | exact SubB.nil | refine SubB.cons rfl ?_))
  | false =>
    repeat(first|refine o_nil ?_|(refine o_pass (wants_no rfl rfl rfl ?_) rfl ?_;(focus(first|rfl|assumption|(simp;done)|(simp;omega))))|refine o_pass (wants_not rfl rfl rfl) rfl ?_|(refine o_yes (wants_yes rfl rfl rfl ?_) ?_;(focus(first|rfl|assumption|(simp;done)|(simp;omega))))|refine k_region ?_|(apply k_go;(focus(constructor<;>rfl)))|refine d_nil ?_|(apply o_s;(focus(first|(constructor<;>first|rfl|omega)|(apply Ri.add3<;>first|rfl|omega)|(apply Ri.sub3<;>first|rfl|omega)|(apply Ri.conv3<;>first|rfl|omega)|(apply Ri.eqb<;>rfl)|(apply Ri.neb<;>rfl)|(apply Ri.pT;(focus rfl);(focus(first|rfl|assumption|(simp;done)|(simp;omega)));(focus rfl))|(apply Ri.pF;(focus rfl);(focus(first|rfl|assumption|(simp;done)|(simp;omega)));(focus rfl))));(focus rfl)))
    refine k_true rfl ?_
    refine k_region ?_
    refine o_still (r_assign rfl) (wants_none rfl) rfl ?_
    refine o_nil ?_
    exact J _ (by repeat (first | exact SubB.nil | refine SubB.cons rfl ?_))
end
end Go.Ink
