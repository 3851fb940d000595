/-
  No cell of these rows narrows 'for every input' (looked for: loops, veiled, ifaces, maps, wideKeys, modest, calm, conditions, laid).
  DERIVED. THE GIVEN ROWS OF THIS SEAT. 6 by the template 'for every input the law returns true; each argument reads behind the call as it read before'; 0 by the template 'total and deterministic' (their statements: YtlikhbhkodlaoaaTotals.lean).
  GIVEN WITH THE SEED: the statements are not yours to turn. If you find one false, say at which input.
  Laid BY PROGRAM, IN A SANDBOX (cutbox-rows.mjs): the forced cells as the released guide's own fill.sh prints them over the translation 56109ebf43831dbf… (all of the seat's roots in one cut). By AI agents, Wed Nov 11 2026. No macro, syntax, notation, axiom, sorry.
-/
import Derived.Test.YtlikhbhkodlaoaaChecked
import GoSem.Claim
import GoSem.ClaimJoined
import GoSem.ClaimMapViews
import Derived.JoinedTies
import Derived.KernelRfl
namespace Go.Proofs.Ytlikhbhkodlaoaa
/- THE CELL 'sum', in the pinned program and in every row, IS THE sha256 OF THE DUMP (.gsa) THAT YtlikhbhkodlaoaaProg.lean LOADS. Nothing in Lean hashes anything: it is a label: what it is worth is what the hold of that sum in a sandbox is worth. -/
noncomputable def Try.pinned : Pinned := { name := "ytlikhbhkodlaoaa", sum := "56109ebf43831dbfa2c2b8f4fcaebfaef0c1856ce8a22fa20bab6af025874915", checked := Try.checked }
namespace Rows
def none {H : Type} : Left H := { results := [], args := [] }

/-- 'inkhornlaw12.RegisterShifts': WHATEVER THE INPUT: true; the input reads as it did. -/
def registerShiftsSpec : ChangeSpec := { name := "registerShifts", fn := fun _ => fun
  | [d1, d2] => { results := [.lit (.bool true)], args := [d1, d2] }
  | _ => none }
def registerShiftsRow : OpenClaim := { program := "ytlikhbhkodlaoaa", sum := "56109ebf43831dbfa2c2b8f4fcaebfaef0c1856ce8a22fa20bab6af025874915", func := "inkhorn/inkhornlaw12.RegisterShifts", spec := "registerShifts", apart := false }
def RegisterShiftsSaid : Prop := registerShiftsRow.holds Try.pinned (OpenSpec.ofChange registerShiftsSpec)

/-- ITS FALSE NEIGHBOUR: 'it returns false'. Refute it at one input. -/
def registerShiftsWrong : ChangeSpec := { name := "registerShifts", fn := fun _ => fun
  | [d1, d2] => { results := [.lit (.bool false)], args := [d1, d2] }
  | _ => none }
def RegisterShiftsWrongFalsely : Prop := registerShiftsRow.holds Try.pinned (OpenSpec.ofChange registerShiftsWrong)

/-- 'inkhornlaw12.RegisterGrows': WHATEVER THE INPUT: true; the input reads as it did. -/
def registerGrowsSpec : ChangeSpec := { name := "registerGrows", fn := fun _ => fun
  | [d] => { results := [.lit (.bool true)], args := [d] }
  | _ => none }
def registerGrowsRow : OpenClaim := { program := "ytlikhbhkodlaoaa", sum := "56109ebf43831dbfa2c2b8f4fcaebfaef0c1856ce8a22fa20bab6af025874915", func := "inkhorn/inkhornlaw12.RegisterGrows", spec := "registerGrows", apart := false }
def RegisterGrowsSaid : Prop := registerGrowsRow.holds Try.pinned (OpenSpec.ofChange registerGrowsSpec)

/-- ITS FALSE NEIGHBOUR: 'it returns false'. Refute it at one input. -/
def registerGrowsWrong : ChangeSpec := { name := "registerGrows", fn := fun _ => fun
  | [d] => { results := [.lit (.bool false)], args := [d] }
  | _ => none }
def RegisterGrowsWrongFalsely : Prop := registerGrowsRow.holds Try.pinned (OpenSpec.ofChange registerGrowsWrong)

/-- 'inkhornlaw12.RegisterRoom': WHATEVER THE INPUT: true; the input reads as it did. -/
def registerRoomSpec : ChangeSpec := { name := "registerRoom", fn := fun _ => fun
  | [d] => { results := [.lit (.bool true)], args := [d] }
  | _ => none }
def registerRoomRow : OpenClaim := { program := "ytlikhbhkodlaoaa", sum := "56109ebf43831dbfa2c2b8f4fcaebfaef0c1856ce8a22fa20bab6af025874915", func := "inkhorn/inkhornlaw12.RegisterRoom", spec := "registerRoom", apart := false }
def RegisterRoomSaid : Prop := registerRoomRow.holds Try.pinned (OpenSpec.ofChange registerRoomSpec)

/-- ITS FALSE NEIGHBOUR: 'it returns false'. Refute it at one input. -/
def registerRoomWrong : ChangeSpec := { name := "registerRoom", fn := fun _ => fun
  | [d] => { results := [.lit (.bool false)], args := [d] }
  | _ => none }
def RegisterRoomWrongFalsely : Prop := registerRoomRow.holds Try.pinned (OpenSpec.ofChange registerRoomWrong)

/-- 'inkhornlaw12.RegisterPlays': WHATEVER THE INPUT: true; the input reads as it did. -/
def registerPlaysSpec : ChangeSpec := { name := "registerPlays", fn := fun _ => fun
  | [d] => { results := [.lit (.bool true)], args := [d] }
  | _ => none }
def registerPlaysRow : OpenClaim := { program := "ytlikhbhkodlaoaa", sum := "56109ebf43831dbfa2c2b8f4fcaebfaef0c1856ce8a22fa20bab6af025874915", func := "inkhorn/inkhornlaw12.RegisterPlays", spec := "registerPlays", apart := false }
def RegisterPlaysSaid : Prop := registerPlaysRow.holds Try.pinned (OpenSpec.ofChange registerPlaysSpec)

/-- ITS FALSE NEIGHBOUR: 'it returns false'. Refute it at one input. -/
def registerPlaysWrong : ChangeSpec := { name := "registerPlays", fn := fun _ => fun
  | [d] => { results := [.lit (.bool false)], args := [d] }
  | _ => none }
def RegisterPlaysWrongFalsely : Prop := registerPlaysRow.holds Try.pinned (OpenSpec.ofChange registerPlaysWrong)

/-- 'inkhornlaw12.RegisterThere': WHATEVER THE INPUT: true; the input reads as it did. -/
def registerThereSpec : ChangeSpec := { name := "registerThere", fn := fun _ => fun
  | [d1, d2, d3] => { results := [.lit (.bool true)], args := [d1, d2, d3] }
  | _ => none }
def registerThereRow : OpenClaim := { program := "ytlikhbhkodlaoaa", sum := "56109ebf43831dbfa2c2b8f4fcaebfaef0c1856ce8a22fa20bab6af025874915", func := "inkhorn/inkhornlaw12.RegisterThere", spec := "registerThere", apart := false }
def RegisterThereSaid : Prop := registerThereRow.holds Try.pinned (OpenSpec.ofChange registerThereSpec)

/-- ITS FALSE NEIGHBOUR: 'it returns false'. Refute it at one input. -/
def registerThereWrong : ChangeSpec := { name := "registerThere", fn := fun _ => fun
  | [d1, d2, d3] => { results := [.lit (.bool false)], args := [d1, d2, d3] }
  | _ => none }
def RegisterThereWrongFalsely : Prop := registerThereRow.holds Try.pinned (OpenSpec.ofChange registerThereWrong)

/-- 'inkhornlaw12.RegisterNone': WHATEVER THE INPUT: true; the input reads as it did. -/
def registerNoneSpec : ChangeSpec := { name := "registerNone", fn := fun _ => fun
  | [d] => { results := [.lit (.bool true)], args := [d] }
  | _ => none }
def registerNoneRow : OpenClaim := { program := "ytlikhbhkodlaoaa", sum := "56109ebf43831dbfa2c2b8f4fcaebfaef0c1856ce8a22fa20bab6af025874915", func := "inkhorn/inkhornlaw12.RegisterNone", spec := "registerNone", apart := false }
def RegisterNoneSaid : Prop := registerNoneRow.holds Try.pinned (OpenSpec.ofChange registerNoneSpec)

/-- ITS FALSE NEIGHBOUR: 'it returns false'. Refute it at one input. -/
def registerNoneWrong : ChangeSpec := { name := "registerNone", fn := fun _ => fun
  | [d] => { results := [.lit (.bool false)], args := [d] }
  | _ => none }
def RegisterNoneWrongFalsely : Prop := registerNoneRow.holds Try.pinned (OpenSpec.ofChange registerNoneWrong)

/- THE SECOND FORM. 'bulk': how many values and letters a reading holds, each counted each time it is reached (what is shared counts as often as it is met; a slice's spare places count too). A statement '..UptoSaid' is the law's where the arguments, and the package variables that the reading takes, are together of bulk at most 1048576: NARROWER than '..Said'. Prove '..Said' where nothing that the law and all that it calls make is longer than what came in: it says more and counts as full. Else prove '..UptoSaid'. A law counts once. -/
mutual
def uptoBulk {H : Type} : DataW H → Nat
  | .lit (.string bytes) => bytes.length + 1
  | .lit _ => 1
  | .nil => 1
  | .ptr d => uptoBulk d + 1
  | .slice elems spare => uptoBulkAll elems + uptoBulkAll spare + 1
  | .agg parts => uptoBulkAll parts + 1
  | .iface _ d => uptoBulk d + 1
  | .map entries => uptoBulkEntries entries + 1
  | .held _ => 1
def uptoBulkAll {H : Type} : List (DataW H) → Nat
  | [] => 0
  | d :: r => uptoBulk d + uptoBulkAll r
def uptoBulkEntries {H : Type} : List (Lit × DataW H) → Nat
  | [] => 0
  | x :: r => uptoBulkEntry x + uptoBulkEntries r
def uptoBulkEntry {H : Type} : Lit × DataW H → Nat
  | (.string bytes, d) => bytes.length + uptoBulk d + 1
  | (_, d) => uptoBulk d + 1
 end
def uptoSmall : (H : Type) → List (DataW H) → Bool := fun _ ds => decide (uptoBulkAll ds ≤ 1048576)
def OpenSpec.upto (s : _root_.Go.ChangeSpec) : _root_.Go.OpenSpec := { _root_.Go.OpenSpec.ofChange s with cond := some uptoSmall }

/-- 'inkhornlaw12.RegisterShifts', WHERE WHAT IT READS IS OF BULK AT MOST 1048576: true; the input reads as it did. -/
def registerShiftsUptoRow : OpenClaim := { program := "ytlikhbhkodlaoaa", sum := "56109ebf43831dbfa2c2b8f4fcaebfaef0c1856ce8a22fa20bab6af025874915", func := "inkhorn/inkhornlaw12.RegisterShifts", spec := "registerShifts", apart := false, narrowed := true }
def RegisterShiftsUptoSaid : Prop := registerShiftsUptoRow.holds Try.pinned (OpenSpec.upto registerShiftsSpec)

/-- 'inkhornlaw12.RegisterGrows', WHERE WHAT IT READS IS OF BULK AT MOST 1048576: true; the input reads as it did. -/
def registerGrowsUptoRow : OpenClaim := { program := "ytlikhbhkodlaoaa", sum := "56109ebf43831dbfa2c2b8f4fcaebfaef0c1856ce8a22fa20bab6af025874915", func := "inkhorn/inkhornlaw12.RegisterGrows", spec := "registerGrows", apart := false, narrowed := true }
def RegisterGrowsUptoSaid : Prop := registerGrowsUptoRow.holds Try.pinned (OpenSpec.upto registerGrowsSpec)

/-- 'inkhornlaw12.RegisterRoom', WHERE WHAT IT READS IS OF BULK AT MOST 1048576: true; the input reads as it did. -/
def registerRoomUptoRow : OpenClaim := { program := "ytlikhbhkodlaoaa", sum := "56109ebf43831dbfa2c2b8f4fcaebfaef0c1856ce8a22fa20bab6af025874915", func := "inkhorn/inkhornlaw12.RegisterRoom", spec := "registerRoom", apart := false, narrowed := true }
def RegisterRoomUptoSaid : Prop := registerRoomUptoRow.holds Try.pinned (OpenSpec.upto registerRoomSpec)

/-- 'inkhornlaw12.RegisterPlays', WHERE WHAT IT READS IS OF BULK AT MOST 1048576: true; the input reads as it did. -/
def registerPlaysUptoRow : OpenClaim := { program := "ytlikhbhkodlaoaa", sum := "56109ebf43831dbfa2c2b8f4fcaebfaef0c1856ce8a22fa20bab6af025874915", func := "inkhorn/inkhornlaw12.RegisterPlays", spec := "registerPlays", apart := false, narrowed := true }
def RegisterPlaysUptoSaid : Prop := registerPlaysUptoRow.holds Try.pinned (OpenSpec.upto registerPlaysSpec)

/-- 'inkhornlaw12.RegisterThere', WHERE WHAT IT READS IS OF BULK AT MOST 1048576: true; the input reads as it did. -/
def registerThereUptoRow : OpenClaim := { program := "ytlikhbhkodlaoaa", sum := "56109ebf43831dbfa2c2b8f4fcaebfaef0c1856ce8a22fa20bab6af025874915", func := "inkhorn/inkhornlaw12.RegisterThere", spec := "registerThere", apart := false, narrowed := true }
def RegisterThereUptoSaid : Prop := registerThereUptoRow.holds Try.pinned (OpenSpec.upto registerThereSpec)

/-- 'inkhornlaw12.RegisterNone', WHERE WHAT IT READS IS OF BULK AT MOST 1048576: true; the input reads as it did. -/
def registerNoneUptoRow : OpenClaim := { program := "ytlikhbhkodlaoaa", sum := "56109ebf43831dbfa2c2b8f4fcaebfaef0c1856ce8a22fa20bab6af025874915", func := "inkhorn/inkhornlaw12.RegisterNone", spec := "registerNone", apart := false, narrowed := true }
def RegisterNoneUptoSaid : Prop := registerNoneUptoRow.holds Try.pinned (OpenSpec.upto registerNoneSpec)

end Rows
end Go.Proofs.Ytlikhbhkodlaoaa
