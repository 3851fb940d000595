/-
  The parser: its cells; one, digit, counted, ends, motion.
-/
import Derived.Test.YtbmjcjlenbgpkaaK1
import Derived.Test.YtbmjcjlenbgpkaaSr
set_option linter.unusedVariables false
set_option linter.unusedSimpArgs false
namespace Go.Ink
open Go Go.Proofs Go.RowKit

section
variable {P : Program} {fn : Func} {k : List Item} {σ : Sig} {O B : World} {S K : Nat → Prop} {M M' : Mm} {R : Pt} {ops : Array Oper} {rest : List Oper}
variable {dd : Option Nat} {op : Op} {oty : TypeId} {opos : String} {oaf : Array Edge}
theorem l_enterM {f : FuncId} {c : Code} {args : List Value} {S : Nat → Prop} {g : Nat} {cs : List Value} {e : TypeId} (hg : O.heap[g]? = some (cb cs e)) (hS : S g) (hf : P.funcs[f]? = some fn) (hb : fn.body = some c) (hn : Nat.ble args.length fn.ntmps = true)
    {R : Value → World → Prop} (h : WL P fn [.code c] (sigOf 0 args) O S O (MK [(g, cb cs e)]) [(g, cb cs e)] R) : CallsR P f args.toArray O R :=
by
  unfold WL WLG at h
  exact calls_enter hf hb hn (h O ((Lw.init O S (MK [(g, cb cs e)])).own hg (by simp) hS ⟨_, .hd⟩))
/-- A call that turns one own block. -/
theorem lo_callG {f : FuncId} {args : Array Value} {g : Nat} {cs : List Value} {e : TypeId} {v : Value} (hu : MUp g (cb cs e) M M') (hrun : En P fn.ntmps σ ⟨dd, op, oty, opos, oaf, none⟩ f args) (hd : okD dd fn.ntmps = true) (hc : ∀ w, Lw O S B K M w → CallsR P f args w fun u w' => Wr w w' g (cb cs e) ∧ u = v)
    (h : WLo P fn ops rest k (putS dd v σ) O S B K M' R) : WLo P fn ops ((⟨dd, op, oty, opos, oaf, none⟩ : Oper) :: rest) k σ O S B K M R := by
  unfold WLo at *
  exact fun w hw => o_enter hrun (wants_none rfl) hd ((hc w hw).mono fun u w' ⟨k1, k2⟩ => by subst k2; exact h w' (hw.wr k1 hu))
end
/-- A string's bytes, as numbers. -/
def bytesL (s : ByteArray) : List Int := s.data.toList.map fun b => (b.toNat : Int)
theorem bytes_at {s : ByteArray} {q : Nat} (hq : q < s.size) : (bytesL s).getD q 0 = ((s.get! q).toNat : Int) := by
  have hq' : q < s.data.size := hq
  unfold bytesL ByteArray.get!
  rw [List.getD_eq_getElem?_getD, List.getElem?_map, Array.getElem?_toList, Array.getElem?_eq_getElem hq']
  exact congrArg (fun b : UInt8 => (b.toNat : Int)) (getElem!_pos s.data q hq').symm
theorem bytes_len (s : ByteArray) : (bytesL s).length = s.size := by unfold bytesL; simp
def asciiB (s : ByteArray) : Bool := s.data.toList.all fun b => decide (b.toNat < 128)
theorem ascii_at {s : ByteArray} (h : asciiB s = true) {q : Nat} (hq : q < s.size) : (s.get! q).toNat < 128 := by
  have hq' : q < s.data.size := hq
  have := List.all_eq_true.1 h (s.data[q]) (by simp [Array.getElem_mem])
  have e : s.get! q = s.data[q] := getElem!_pos s.data q hq'
  rw [e]
  simpa using this
theorem decode_ascii {s : ByteArray} (h : asciiB s = true) {q : Nat} (hq : q < s.size) : Utf8.decode s q = ((s.get! q).toNat, 1) := by
  have := ascii_at h hq
  unfold Utf8.decode
  simp only [Nat.add_zero]
  rw [if_pos this]
set_option maxHeartbeats 4000000 in
theorem one_calls {w : World} {r : Int} {s : ByteArray} (hs : asciiB s = true) : CallsR Try.prog 74 #[.int .i32 r, .string s] w fun u w' => Kn w w' ∧ u = .bool (decide (r ∈ bytesL s)) := by
  refine l_enter (args := [.int .i32 r, .string s]) (fun _ => False) Try.func74 rfl rfl ?_
  have hlen := bytes_len s
  repeat(first|refine lrun_ ?_|(refine lo_boxA rfl rfl ?_;intro _ _ _)|(refine lo_box1 rfl rfl rfl ?_;intro _ _ _)|(refine lo_alloc rfl ?_;intro _ _ _))
  refine lo_rangeS rfl rfl ?_
  intro g _ _
  repeat(first|refine lrun_ ?_|(refine lo_boxA rfl rfl ?_;intro _ _ _)|(refine lo_box1 rfl rfl rfl ?_;intro _ _ _)|(refine lo_alloc rfl ?_;intro _ _ _))
  refine l_while (fun q : Nat => s.size - q) (fun q => [(0, .int .i32 r), (8, .pointer (some ⟨g, 0, none⟩))]) (fun q => [(g, .stringIter s q)]) (fun q => q ≤ s.size ∧ ∀ j, j < q → r ≠ (bytesL s).getD j 0) 0 (by repeat (first | exact SubB.nil | refine SubB.cons rfl ?_)) (by repeat(first|exact MSub.refl|refine MSub.keep rfl ?_|exact MSub.nil|apply MSub.drop)) ⟨Nat.zero_le _, fun j hj => by omega⟩ ?_
  rintro q ⟨hq, hne⟩ ih
  by_cases hlt : q < s.size
  · have hd := decode_ascii hs hlt
    have hb := bytes_at hlt
    repeat(first|refine lrun_ ?_|(refine lo_boxA rfl rfl ?_;intro _ _ _)|(refine lo_box1 rfl rfl rfl ?_;intro _ _ _)|(refine lo_alloc rfl ?_;intro _ _ _))
    refine lo_nextS rfl (by(repeat(first|exact MIn.hd|refine MIn.tl ?_));done) hlt hd (by first|exact .hd|exact .tl .hd|exact .tl (.tl .hd)|exact .tl (.tl (.tl .hd))|exact .tl (.tl (.tl (.tl .hd)))|exact .tl (.tl (.tl (.tl (.tl .hd))))|exact .tl (.tl (.tl (.tl (.tl (.tl .hd)))))|exact .tl (.tl (.tl (.tl (.tl (.tl (.tl .hd))))))|exact .tl (.tl (.tl (.tl (.tl (.tl (.tl (.tl .hd)))))))) rfl ?_
    repeat(first|refine lrun_ ?_|(refine lo_boxA rfl rfl ?_;intro _ _ _)|(refine lo_box1 rfl rfl rfl ?_;intro _ _ _)|(refine lo_alloc rfl ?_;intro _ _ _))
    refine l_true rfl ?_
    repeat(first|refine lrun_ ?_|(refine lo_boxA rfl rfl ?_;intro _ _ _)|(refine lo_box1 rfl rfl rfl ?_;intro _ _ _)|(refine lo_alloc rfl ?_;intro _ _ _))
    by_cases he : ((s.get! q).toNat : Int) = r
    · refine l_yes rfl he ?_
      repeat(first|refine lrun_ ?_|(refine lo_boxA rfl rfl ?_;intro _ _ _)|(refine lo_box1 rfl rfl rfl ?_;intro _ _ _)|(refine lo_alloc rfl ?_;intro _ _ _))
      refine l_ret1 rfl rfl fun w' hw => ⟨hw.org, ?_⟩
      rw [decide_eq_true]
      rw [← he, ← hb, List.getD_eq_getElem?_getD, List.getElem?_eq_getElem (by omega)]
      exact List.getElem_mem (by omega)
    · refine l_no rfl he ?_
      refine l_go .skip ?_
      repeat(first|refine lrun_ ?_|(refine lo_boxA rfl rfl ?_;intro _ _ _)|(refine lo_box1 rfl rfl rfl ?_;intro _ _ _)|(refine lo_alloc rfl ?_;intro _ _ _))
      exact ih (q + 1) ⟨hlt, fun j hj => by
        by_cases e : j = q
        · subst e; rw [hb]; exact fun e => he e.symm
        · exact hne j (by omega)⟩ (by omega) _ _ (by repeat (first | exact SubB.nil | refine SubB.cons rfl ?_)) (by repeat(first|exact MSub.refl|refine MSub.keep rfl ?_|exact MSub.nil|apply MSub.drop))
  · repeat(first|refine lrun_ ?_|(refine lo_boxA rfl rfl ?_;intro _ _ _)|(refine lo_box1 rfl rfl rfl ?_;intro _ _ _)|(refine lo_alloc rfl ?_;intro _ _ _))
    refine lo_nextEnd rfl (by(repeat(first|exact MIn.hd|refine MIn.tl ?_));done) hlt rfl ?_
    repeat(first|refine lrun_ ?_|(refine lo_boxA rfl rfl ?_;intro _ _ _)|(refine lo_box1 rfl rfl rfl ?_;intro _ _ _)|(refine lo_alloc rfl ?_;intro _ _ _))
    refine l_false rfl ?_
    refine l_go (.exit rfl) ?_
    repeat(first|refine lrun_ ?_|(refine lo_boxA rfl rfl ?_;intro _ _ _)|(refine lo_box1 rfl rfl rfl ?_;intro _ _ _)|(refine lo_alloc rfl ?_;intro _ _ _))
    refine l_ret1 rfl rfl fun w' hw => ⟨hw.org, ?_⟩
    rw [decide_eq_false]
    intro hm
    obtain ⟨j, hj, e⟩ := List.getElem_of_mem hm
    refine hne j (by omega) ?_
    rw [List.getD_eq_getElem?_getD, List.getElem?_eq_getElem hj]
    exact e.symm
end Go.Ink
