/-
  copy into a part of an own row of runes.
-/
import Derived.Test.YtepjngapfmfkeaaCpy
import Derived.Test.YtepjngapfmfkeaaLn
set_option linter.unusedVariables false
set_option linter.unusedSimpArgs false
namespace Go.Ink
open Go Go.RowKit
theorem run_copy_min {P : Program} (w : World) (dT sT ty elem : TypeId) (g o dLen dCap sLen n sCap sz : Nat) (a : Option Addr) (cur : Array Value) (t : TypeId) (cs : List Value)
    (hu : P.underlying dT = some (.slice elem)) (hs : (P.info? elem).map (·.size) = some sz)
    (hg : w.heap[g]? = some (.cells cur t (0, 0))) (hn : cs.length = n * sz) (hmin : Nat.min sLen dLen = n)
    (hsrc : cs = [] ∨ ∃ ad, a = some ad ∧ ∀ j v, cs[j]? = some v → w.cell? (ad.add j) = some v) (hfit : o + cs.length ≤ cur.size) (h1 : ∀ v ∈ cs, v.oneCell' = true) (hz : n = 0 ∨ a ≠ none) :
    (Builtin.copy_ #[dT, sT] ty #[.slice (some ⟨g, o, none⟩) dLen dCap, .slice a sLen sCap]).run P w =
      .ok (goInt n) (w.setRow g (cur.toList.take o ++ cs ++ cur.toList.drop (o + cs.length)).toArray) := by
  have hst := run_storeCells_at P g o t cs 0 cur w hg (by simpa using hfit) h1
  cases hq : P.info? elem with
  | none => simp [hq] at hs
  | some i =>
    have hi : i.size = sz := by simpa [hq] using hs
    cases a with
    | none =>
      have hn0 : n = 0 := hz.resolve_right (by simp)
      subst hn0
      have hc : cs = [] := List.length_eq_zero_iff.1 (by omega)
      subst hc
      simp only [List.length_nil, Nat.add_zero, List.append_nil, List.take_append_drop, Array.toArray_toList]
      rw [setRow_self w g cur t (0, 0) hg]
      simp [Builtin.copy_, run_underlying hu, Builtin.lenOf, Builtin.firstCells, sizeOf, typeInfo, hq, storeCells, hmin]
    | some ad =>
      have hl := run_loadCells_list (P := P) w ad cs (by
        rcases hsrc with h | ⟨ad', h, hc⟩
        · subst h; simp
        · cases h; exact hc)
      rw [hn] at hl
      simp [Builtin.copy_, run_underlying hu, Builtin.lenOf, Builtin.firstCells, sizeOf, typeInfo, hq, hi, hmin, hl, hst]
theorem els_rune {F : Nat → Prop} {w : World} : ∀ {xs : List Int} {cs : List Value}, Els kRune F w xs cs → cs = xs.map (.int .i32 ·)
  | [], _, h => h
  | x :: xs, cs, h => by
    obtain ⟨c, r, rfl, ⟨rfl, _⟩, h2⟩ := h
    rw [els_rune h2]; rfl
theorem els_lo {F : Nat → Prop} {w : World} : ∀ {xs : List Int} {cs : List Value}, Els kRune F w xs cs → ∀ x ∈ xs, -2147483648 ≤ x ∧ x ≤ 2147483647
  | [], _, h => fun x hx => by cases hx
  | x :: xs, cs, h => by
    obtain ⟨c, r, rfl, ⟨rfl, h1⟩, h2⟩ := h
    intro y hy
    rcases List.mem_cons.1 hy with rfl | hy
    · exact h1
    · exact els_lo h2 y hy
theorem elsR_of {F : Nat → Prop} {w : World} : ∀ {xs : List Int}, (∀ x ∈ xs, -2147483648 ≤ x ∧ x ≤ 2147483647) → Els kRune F w xs (xs.map (.int .i32 ·))
  | [], _ => rfl
  | x :: xs, h => ⟨_, _, rfl, ⟨rfl, h x (by simp)⟩, elsR_of fun y hy => h y (by simp [hy])⟩
section
variable {P : Program} {N : Nat} {σ : Sig} {w : World} {dst : Option Nat} {ty : TypeId} {pos : String} {af : Array Edge} {gd : Option (Nat × Bool)}
theorem e_copyO {x y : Operand} {t t' e : TypeId} {sz bytes : Nat} {z : Value} [hT : SlT P t e] [hE : ElT P e sz bytes z] {G F F2 : Nat → Prop} {ad : Addr} {C k n' c' : Nat} {u : Value} {zs ys : List Int}
    (hx : ev σ x = some (.slice (some (ad.add (k * 1))) n' c')) (hy : ev σ y = some u) (hO : Ow kRune G F w (.slice (some ad) zs.length C) zs) (hk : k + n' = zs.length) (hS : SlE kRune F2 w u ys) (hsz : sz = 1) :
    Ef P N σ w ⟨dst, .call { callee := .builtin .copy, args := #[x, y], argTypes := #[t, t'] }, ty, pos, af, gd⟩
      (fun r w' => r = goInt ((min ys.length n' : Nat) : Int) ∧ Kp (fun k => k = ad.block) w w' ∧ Ow kRune G F w' (.slice (some ad) zs.length C) (zs.take k ++ ys.take n' ++ zs.drop (k + min ys.length n'))) := by
  constructor; intro _ a w0 ha h0
  subst hsz
  obtain ⟨i, hi1, hi2, hi3, hi4⟩ := hE.parts
  have hF : Fits kRune zs.length := by obtain ⟨_, h2, h3⟩ := hO.sl.len_eq; exact h3
  obtain ⟨g, o, cap, cur, et, cells, rfl, _, rfl, hG, hh, h4, h5, h6, hEl, h7⟩ := hO.cellAt
  obtain ⟨A, cc, cells2, rfl, hEl2, hsrc⟩ := hS
  rw [show kRune.sz = 1 from rfl, Nat.mul_one] at h6
  have e1 := els_rune hEl
  have e2 := els_rune hEl2
  have l1 := els_lo hEl
  have l2 := els_lo hEl2
  subst e1 e2
  have hcl : ((ys.take n').map (Value.int .i32 ·)).length = min ys.length n' := by simp [Nat.min_comm]
  have hr := run_copy_min (P := P) w0 t t' ty e g (o + k) n' c' ys.length (min ys.length n') cc 1 A cur et ((ys.take n').map (.int .i32 ·)) hT.und (by rw [hi1]; simp [hi3]) (by rw [h0.heap]; exact hh) (by rw [hcl, Nat.mul_one]) rfl
    (by
      rcases hsrc with h5 | ⟨ad, hA, hc⟩
      · subst h5; exact .inl (by simp)
      · refine .inr ⟨ad, hA, fun j v hv => ?_⟩
        rw [h0.cell]
        refine hc j v ?_
        rw [List.getElem?_map] at hv ⊢
        rw [List.getElem?_take] at hv
        split at hv
        · exact hv
        · simp at hv) (by rw [hcl]; omega) (by intro v hv; obtain ⟨_, _, rfl⟩ := List.mem_map.1 hv; rfl) (by
      rcases hsrc with h5 | ⟨ad, hA, _⟩
      · subst h5; exact .inl (by simp)
      · rw [hA]; exact .inr (by simp))
  have hx' : ev σ x = some (.slice (some ⟨g, o + k, none⟩) n' c') := by rw [hx, add_plain, Nat.mul_one]
  have hw := wr_row h0 hh (cur.toList.take (o + k) ++ (ys.take n').map (Value.int .i32 ·) ++ cur.toList.drop (o + k + ((ys.take n').map (Value.int .i32 ·)).length)).toArray
  refine ⟨_, _, ?_, rfl, hw.kp, ?_⟩
  · simp only [execOp, resolve, invoke, builtin, Sem.run_bind, Sem.run_pure, Result.andThen_ok, List.map_toArray, List.map_cons, List.map_nil, ha.ev hx', ha.ev hy, hr]
  · have hlen : (zs.take k ++ ys.take n' ++ zs.drop (k + min ys.length n')).length = zs.length := by simp; omega
    refine ow_put (xs := zs) hw (elsR_of (xs := zs.take k ++ ys.take n' ++ zs.drop (k + min ys.length n')) fun r hr => ?_) hlen rfl hG h4 h5 ?_ hF ?_
    · simp only [List.mem_append] at hr
      rcases hr with (hr | hr) | hr
      · exact l1 r (List.mem_of_mem_take hr)
      · exact l2 r (List.mem_of_mem_take hr)
      · exact l1 r (List.mem_of_mem_drop hr)
    · rw [show kRune.sz = 1 from rfl, Nat.mul_one]
      simp only [List.size_toArray, List.length_append, List.length_take, List.length_drop, List.length_map, Array.length_toList]
      omega
    · intro j v hv
      rw [List.map_append, List.map_append] at hv
      rw [hcl]
      simp only [List.getElem?_toArray]
      have h7' : ∀ j v, (zs.map (Value.int .i32 ·))[j]? = some v → cur.toList[o + j]? = some v := fun j v h => by rw [Array.getElem?_toList]; exact h7 j v h
      have hc1 : (cur.toList.take (o + k)).length = o + k := by rw [List.length_take, Array.length_toList]; omega
      have hz1 : ((zs.take k).map (Value.int .i32 ·)).length = k := by rw [List.length_map, List.length_take]; omega
      rw [List.append_assoc] at hv ⊢
      by_cases hj : j < k
      · rw [List.getElem?_append_left (by omega)] at hv
        rw [List.getElem?_append_left (by omega), List.getElem?_take, if_pos (by omega)]
        refine h7' j v ?_
        rw [List.getElem?_map, List.getElem?_take, if_pos hj] at hv
        rw [List.getElem?_map]; exact hv
      · rw [List.getElem?_append_right (by omega), hz1] at hv
        rw [List.getElem?_append_right (by omega), hc1, show o + j - (o + k) = j - k by omega]
        by_cases hj2 : j - k < min ys.length n'
        · rw [List.getElem?_append_left (by omega)] at hv ⊢
          exact hv
        · rw [List.getElem?_append_right (by omega), hcl] at hv ⊢
          rw [List.getElem?_map, List.getElem?_drop] at hv
          rw [List.getElem?_drop, show o + k + min ys.length n' + (j - k - min ys.length n') = o + j by omega]
          rw [show k + min ys.length n' + (j - k - min ys.length n') = j by omega] at hv
          exact h7' j v (by rw [List.getElem?_map]; exact hv)
end
section
variable {P : Program} {fn : Func} {k : List Item} {σ : Sig} {O B : World} {S K : Nat → Prop} {X M Y : Mm} {R : Pt} {ops : Array Oper} {listed : Array Bool} {l : List (Nat × Nat)} {i : Nat} {rest : List Oper}
variable {dd : Option Nat} {oty : TypeId} {opos : String} {oaf : Array Edge} {og : Option (Nat × Bool)}
theorem lo_copyO {x y : Operand} {t t' e : TypeId} {sz bytes : Nat} {z : Value} [hT : SlT P t e] [hE : ElT P e sz bytes z] {F2 : Nat → Prop} {ad : Addr} {C j n' c' : Nat} {u : Value} {zs ys : List Int}
    (hx : ev σ x = some (.slice (some (ad.add (j * 1))) n' c')) (hy : ev σ y = some u) (hO : Og kRune O B K (fun _ => False) (.slice (some ad) zs.length C) zs) (hk : j + n' = zs.length) (hS : ∀ w, Lw O S B K M w → SlE kRune F2 w u ys) (hsz : sz = 1) (hd : okD dd fn.ntmps = true)
    (h : ∀ w w', Lw O S B K M w → Kp S O w' → Kp (fun k => k = ad.block) w w' → Og kRune O w' (MK M) (fun _ => False) (.slice (some ad) zs.length C) (zs.take j ++ ys.take n' ++ zs.drop (j + min ys.length n')) → WLo P fn ops rest k (putS dd (goInt ((min ys.length n' : Nat) : Int)) σ) O S w' (MK M) M R) :
    WLo P fn ops ((⟨dd, .call { callee := .builtin .copy, args := #[x, y], argTypes := #[t, t'] }, oty, opos, oaf, none⟩ : Oper) :: rest) k σ O S B K M R := by
  unfold WLo at *
  refine fun w hw => o_any (e_copyO hx hy (hO.now (fun _ h => h.elim) hw) hk (hS w hw) hsz) (wants_none rfl) hd fun r w' ⟨h1, k1, k2⟩ => ?_
  subst h1
  have hb := hO.block ad.block rfl
  have hl := hw.ownW hb.1 hb.2 k1
  exact h w w' hw hl.org k1 (hO.set hw k2) w' hl
theorem ld_copyO {x y : Operand} {t t' e : TypeId} {sz bytes : Nat} {z : Value} [hT : SlT P t e] [hE : ElT P e sz bytes z] {F2 : Nat → Prop} {ad : Addr} {C j n' c' : Nat} {u : Value} {zs ys : List Int} (hY : MCat X M Y) (hwa : waitsAll ops i = true)
    (hx : ev σ x = some (.slice (some (ad.add (j * 1))) n' c')) (hy : ev σ y = some u) (hO : Og kRune O B K (fun _ => False) (.slice (some ad) zs.length C) zs) (hk : j + n' = zs.length) (hS : ∀ w, Lw O S B K Y w → SlE kRune F2 w u ys) (hsz : sz = 1) (hg : wants ops σ ⟨dd, .call { callee := .builtin .copy, args := #[x, y], argTypes := #[t, t'] }, oty, opos, oaf, og⟩ true) (hd : okD dd fn.ntmps = true)
    (h : ∀ w w', Lw O S B K Y w → Kp S O w' → Kp (fun k => k = ad.block) w w' → Og kRune O w' (MK Y) (fun _ => False) (.slice (some ad) zs.length C) (zs.take j ++ ys.take n' ++ zs.drop (j + min ys.length n')) → WLd P fn ops (listed.setIfInBounds i true) l k (putS dd (goInt ((min ys.length n' : Nat) : Int)) σ) O S w' (MK Y) [] Y R) :
    WLdo P fn ops listed i 1 (⟨dd, .call { callee := .builtin .copy, args := #[x, y], argTypes := #[t, t'] }, oty, opos, oaf, og⟩ : Oper) l k σ O S B K X M R := by
  unfold WLdo
  refine fun w w2 h1 h2 h3 h4 h5 => ?_
  rw [hY.eq] at h2
  refine x_any (e_copyO hx hy (hO.now (fun _ h => h.elim) h2) hk (hS w2 h2) hsz) hg hd fun r w' ⟨e1, k1, k2⟩ => .inr ⟨hwa, ?_⟩
  subst e1
  have hb := hO.block ad.block rfl
  have hl := h2.ownW hb.1 hb.2 k1
  exact ld_goM hl (h w2 w' h2 hl.org k1 (hO.set h2 k2))
end
end Go.Ink
