/-
  TextNone.
-/
import Derived.Test.YtfgajbilegjbpaaY2
import Derived.Test.YtfgajbilegjbpaaY3
import Derived.Test.YtfgajbilegjbpaaRead
set_option linter.unusedVariables false
set_option linter.unusedSimpArgs false
namespace Go.Ink
open Go Go.Proofs Go.RowKit

def kPs : Kd Ps := kPair kI64 kI64
theorem rd_same {P : Program} {t : TypeId} {α : Type} {d : Kd α} {b : Nat} {hb : 0 < b} (h : RdT P t (kIso d id b hb)) (hb' : d.bytes = b) : RdT P t d := ⟨h.rd, h.sz, h.by_.trans hb'.symm⟩
instance : StrucT Try.prog 29 [3, 3] := ⟨by kernel_rfl, by kernel_rfl⟩
instance : RdT Try.prog 29 kPs := rd_same (b := 16) (hb := by decide) (rd_struct (g := id) inferInstance inferInstance (fun _ => rfl) (by kernel_rfl) (by kernel_rfl)) rfl
/-- A deed: what it does, with what. -/
structure Deed04 where
  kind : Int
  n : Int
  fr : Ps
  to : Ps
  l : List Int
  ls : List (List Int)
def kDeed04 : Kd Deed04 := kIso (kPair kI64 (kPair kI64 (kPair kPs (kPair kPs (kPair (kSl kRune) (kSl (kSl kRune))))))) (fun d => (d.kind, d.n, d.fr, d.to, d.l, d.ls)) 96 (by decide)
instance : StrucT Try.prog 43 [3, 3, 29, 29, 37, 22] := ⟨by kernel_rfl, by kernel_rfl⟩
instance : RdT Try.prog 43 kDeed04 := rd_struct (g := fun p => ⟨p.1, p.2.1, p.2.2.1, p.2.2.2.1, p.2.2.2.2.1, p.2.2.2.2.2⟩) inferInstance inferInstance (fun _ => rfl) (by kernel_rfl) (by kernel_rfl)
theorem deed04_cells {F : Nat → Prop} {w : World} {d : Deed04} {cs : List Value} (h : kDeed04.R F w d cs) : ∃ vl vs, cs = [.int .i64 d.kind, .int .i64 d.n, .int .i64 d.fr.1, .int .i64 d.fr.2, .int .i64 d.to.1, .int .i64 d.to.2, vl, vs] ∧ Sl kRune F w vl d.l ∧ Sl kRow F w vs d.ls ∧
    (-9223372036854775808 ≤ d.kind ∧ d.kind ≤ 9223372036854775807) ∧ (-9223372036854775808 ≤ d.n ∧ d.n ≤ 9223372036854775807) ∧ P64 d.fr ∧ P64 d.to := by
  obtain ⟨_, _, rfl, ⟨rfl, h1⟩, _, _, rfl, ⟨rfl, h2⟩, _, _, rfl, ⟨_, _, rfl, ⟨rfl, h3⟩, ⟨rfl, h4⟩⟩, _, _, rfl, ⟨_, _, rfl, ⟨rfl, h5⟩, ⟨rfl, h6⟩⟩, _, _, rfl, ⟨vl, rfl, h7⟩, ⟨vs, rfl, h8⟩⟩ := h
  exact ⟨vl, vs, rfl, h7, h8, h1, h2, ⟨h3, h4⟩, ⟨h5, h6⟩⟩
set_option maxHeartbeats 4000000 in
theorem law_TextNone {W : World} {d : Deed04} {cs : List Value} (h : kDeed04.R (fun _ => True) W d cs) : CallsR Try.prog 9 #[.agg cs.toArray] W fun r w' => r = .bool true ∧ Kn W w' := by
  obtain ⟨vl, vs, rfl, hl, hs, h1, h2, h3, h4⟩ := deed04_cells h
  suffices h : CallsR Try.prog 9 #[.agg #[.int .i64 d.kind, .int .i64 d.n, .int .i64 d.fr.1, .int .i64 d.fr.2, .int .i64 d.to.1, .int .i64 d.to.2, vl, vs]] W fun r w' => Kn W w' ∧ r = .bool true from h.mono fun _ _ ⟨a, b⟩ => ⟨b, a⟩
  refine l_enter (args := [.agg #[.int .i64 d.kind, .int .i64 d.n, .int .i64 d.fr.1, .int .i64 d.fr.2, .int .i64 d.to.1, .int .i64 d.to.2, vl, vs]]) (fun _ => False) Try.func9 rfl rfl ?_
  repeat(first|refine lrun_ ?_|(refine lo_boxA rfl rfl ?_;intro _ _ _)|(refine lo_box1 rfl rfl rfl ?_;intro _ _ _)|(refine lo_alloc rfl ?_;intro _ _ _))
  refine lo_call (n_call rfl) rfl (fun w' hw => lineN) ?_
  repeat(first|refine lrun_ ?_|(refine lo_boxA rfl rfl ?_;intro _ _ _)|(refine lo_box1 rfl rfl rfl ?_;intro _ _ _)|(refine lo_alloc rfl ?_;intro _ _ _))
  refine lo_call (n_call rfl) rfl (fun w' hw => offsetN (p := (d.fr.1, d.fr.2))) ?_
  repeat(first|refine lrun_ ?_|(refine lo_boxA rfl rfl ?_;intro _ _ _)|(refine lo_box1 rfl rfl rfl ?_;intro _ _ _)|(refine lo_alloc rfl ?_;intro _ _ _))
  refine lo_call (n_call rfl) rfl (fun w' hw => placeN) ?_
  repeat(first|refine lrun_ ?_|(refine lo_boxA rfl rfl ?_;intro _ _ _)|(refine lo_box1 rfl rfl rfl ?_;intro _ _ _)|(refine lo_alloc rfl ?_;intro _ _ _))
  refine lo_call (n_call rfl) rfl (fun w' hw => sliceN (p := (d.fr.1, d.fr.2)) (q := (d.to.1, d.to.2))) ?_
  repeat(first|refine lrun_ ?_|(refine lo_boxA rfl rfl ?_;intro _ _ _)|(refine lo_box1 rfl rfl rfl ?_;intro _ _ _)|(refine lo_alloc rfl ?_;intro _ _ _))
  refine lo_call (n_call rfl) rfl (fun w' hw => countN) ?_
  repeat(first|refine lrun_ ?_|(refine lo_boxA rfl rfl ?_;intro _ _ _)|(refine lo_box1 rfl rfl rfl ?_;intro _ _ _)|(refine lo_alloc rfl ?_;intro _ _ _))
  refine lo_call (n_call rfl) rfl (fun w' hw => runesN) ?_
  repeat(first|refine lrun_ ?_|(refine lo_boxA rfl rfl ?_;intro _ _ _)|(refine lo_box1 rfl rfl rfl ?_;intro _ _ _)|(refine lo_alloc rfl ?_;intro _ _ _))
  refine lo_call (n_call rfl) rfl (fun w' hw => allN) ?_
  repeat(first|refine lrun_ ?_|(refine lo_boxA rfl rfl ?_;intro _ _ _)|(refine lo_box1 rfl rfl rfl ?_;intro _ _ _)|(refine lo_alloc rfl ?_;intro _ _ _))
  refine lo_call (n_call rfl) rfl (fun w' hw => insertN (p := (d.fr.1, d.fr.2))) ?_
  repeat(first|refine lrun_ ?_|(refine lo_boxA rfl rfl ?_;intro _ _ _)|(refine lo_box1 rfl rfl rfl ?_;intro _ _ _)|(refine lo_alloc rfl ?_;intro _ _ _))
  refine lo_call (n_call rfl) rfl (fun w' hw => deleteN (p := (d.fr.1, d.fr.2)) (q := (d.to.1, d.to.2))) ?_
  repeat(first|refine lrun_ ?_|(refine lo_boxA rfl rfl ?_;intro _ _ _)|(refine lo_box1 rfl rfl rfl ?_;intro _ _ _)|(refine lo_alloc rfl ?_;intro _ _ _))
  refine lo_call (n_call rfl) rfl (fun w' hw => replaceN) ?_
  repeat(first|refine lrun_ ?_|(refine lo_boxA rfl rfl ?_;intro _ _ _)|(refine lo_box1 rfl rfl rfl ?_;intro _ _ _)|(refine lo_alloc rfl ?_;intro _ _ _))
  refine lo_call (n_call (args := []) rfl) rfl (fun w' hw => awake_calls) ?_
  repeat(first|refine lrun_ ?_|(refine lo_boxA rfl rfl ?_;intro _ _ _)|(refine lo_box1 rfl rfl rfl ?_;intro _ _ _)|(refine lo_alloc rfl ?_;intro _ _ _))
  exact l_ret1 rfl rfl fun w' hw => ⟨hw.org, rfl⟩
end Go.Ink
