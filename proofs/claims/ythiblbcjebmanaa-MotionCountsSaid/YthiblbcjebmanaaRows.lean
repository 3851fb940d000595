/-
  No cell of these rows narrows 'for every input' (looked for: loops, veiled, ifaces, maps, wideKeys, modest, calm, conditions, laid).
  DERIVED. THE GIVEN ROWS OF THIS SEAT. 4 by the template 'for every input the law returns true; each argument reads behind the call as it read before'; 0 by the template 'total and deterministic' (their statements: YthiblbcjebmanaaTotals.lean).
  GIVEN WITH THE SEED: the statements are not yours to turn. If you find one false, say at which input.
  Laid BY PROGRAM, IN A SANDBOX (cutbox-rows.mjs): the forced cells as the released guide's own fill.sh prints them over the translation 172eddbc1b20f206… (all of the seat's roots in one cut). By AI agents, Wed Nov 11 2026. No macro, syntax, notation, axiom, sorry.
-/
import Derived.Test.YthiblbcjebmanaaChecked
import GoSem.Claim
import GoSem.ClaimJoined
import GoSem.ClaimMapViews
import Derived.JoinedTies
import Derived.KernelRfl
namespace Go.Proofs.Ythiblbcjebmanaa
/- THE CELL 'sum', in the pinned program and in every row, IS THE sha256 OF THE DUMP (.gsa) THAT YthiblbcjebmanaaProg.lean LOADS. Nothing in Lean hashes anything: it is a label: what it is worth is what the hold of that sum in a sandbox is worth. -/
noncomputable def Try.pinned : Pinned := { name := "ythiblbcjebmanaa", sum := "172eddbc1b20f20664e547e82343b0b4e7be043ddd71b131421bc156a88e5dd0", checked := Try.checked }
namespace Rows
def none {H : Type} : Left H := { results := [], args := [] }

/-- 'inkhornlaw10.MotionThere': WHATEVER THE INPUT: true; the input reads as it did. -/
def motionThereSpec : ChangeSpec := { name := "motionThere", fn := fun _ => fun
  | [d1, d2, d3] => { results := [.lit (.bool true)], args := [d1, d2, d3] }
  | _ => none }
def motionThereRow : OpenClaim := { program := "ythiblbcjebmanaa", sum := "172eddbc1b20f20664e547e82343b0b4e7be043ddd71b131421bc156a88e5dd0", func := "inkhorn/inkhornlaw10.MotionThere", spec := "motionThere", inPlace := ["internal/bytealg.IndexByteString"], unfollowed := true, recurses := true, apart := false }
def MotionThereSaid : Prop := motionThereRow.holds Try.pinned (OpenSpec.ofChange motionThereSpec)

/-- ITS FALSE NEIGHBOUR: 'it returns false'. Refute it at one input. -/
def motionThereWrong : ChangeSpec := { name := "motionThere", fn := fun _ => fun
  | [d1, d2, d3] => { results := [.lit (.bool false)], args := [d1, d2, d3] }
  | _ => none }
def MotionThereWrongFalsely : Prop := motionThereRow.holds Try.pinned (OpenSpec.ofChange motionThereWrong)

/-- 'inkhornlaw10.MotionCounts': WHATEVER THE INPUT: true; the input reads as it did. -/
def motionCountsSpec : ChangeSpec := { name := "motionCounts", fn := fun _ => fun
  | [d1, d2, d3] => { results := [.lit (.bool true)], args := [d1, d2, d3] }
  | _ => none }
def motionCountsRow : OpenClaim := { program := "ythiblbcjebmanaa", sum := "172eddbc1b20f20664e547e82343b0b4e7be043ddd71b131421bc156a88e5dd0", func := "inkhorn/inkhornlaw10.MotionCounts", spec := "motionCounts", inPlace := ["internal/bytealg.IndexByteString"], unfollowed := true, recurses := true, apart := false }
def MotionCountsSaid : Prop := motionCountsRow.holds Try.pinned (OpenSpec.ofChange motionCountsSpec)

/-- ITS FALSE NEIGHBOUR: 'it returns false'. Refute it at one input. -/
def motionCountsWrong : ChangeSpec := { name := "motionCounts", fn := fun _ => fun
  | [d1, d2, d3] => { results := [.lit (.bool false)], args := [d1, d2, d3] }
  | _ => none }
def MotionCountsWrongFalsely : Prop := motionCountsRow.holds Try.pinned (OpenSpec.ofChange motionCountsWrong)

/-- 'inkhornlaw10.MotionBrackets': WHATEVER THE INPUT: true; the input reads as it did. -/
def motionBracketsSpec : ChangeSpec := { name := "motionBrackets", fn := fun _ => fun
  | [d1, d2] => { results := [.lit (.bool true)], args := [d1, d2] }
  | _ => none }
def motionBracketsRow : OpenClaim := { program := "ythiblbcjebmanaa", sum := "172eddbc1b20f20664e547e82343b0b4e7be043ddd71b131421bc156a88e5dd0", func := "inkhorn/inkhornlaw10.MotionBrackets", spec := "motionBrackets", inPlace := ["internal/bytealg.IndexByteString"], unfollowed := true, recurses := true, apart := false }
def MotionBracketsSaid : Prop := motionBracketsRow.holds Try.pinned (OpenSpec.ofChange motionBracketsSpec)

/-- ITS FALSE NEIGHBOUR: 'it returns false'. Refute it at one input. -/
def motionBracketsWrong : ChangeSpec := { name := "motionBrackets", fn := fun _ => fun
  | [d1, d2] => { results := [.lit (.bool false)], args := [d1, d2] }
  | _ => none }
def MotionBracketsWrongFalsely : Prop := motionBracketsRow.holds Try.pinned (OpenSpec.ofChange motionBracketsWrong)

/-- 'inkhornlaw10.MotionFinds': WHATEVER THE INPUT: true; the input reads as it did. -/
def motionFindsSpec : ChangeSpec := { name := "motionFinds", fn := fun _ => fun
  | [d1, d2, d3] => { results := [.lit (.bool true)], args := [d1, d2, d3] }
  | _ => none }
def motionFindsRow : OpenClaim := { program := "ythiblbcjebmanaa", sum := "172eddbc1b20f20664e547e82343b0b4e7be043ddd71b131421bc156a88e5dd0", func := "inkhorn/inkhornlaw10.MotionFinds", spec := "motionFinds", inPlace := ["internal/bytealg.IndexByteString"], unfollowed := true, recurses := true, apart := false }
def MotionFindsSaid : Prop := motionFindsRow.holds Try.pinned (OpenSpec.ofChange motionFindsSpec)

/-- ITS FALSE NEIGHBOUR: 'it returns false'. Refute it at one input. -/
def motionFindsWrong : ChangeSpec := { name := "motionFinds", fn := fun _ => fun
  | [d1, d2, d3] => { results := [.lit (.bool false)], args := [d1, d2, d3] }
  | _ => none }
def MotionFindsWrongFalsely : Prop := motionFindsRow.holds Try.pinned (OpenSpec.ofChange motionFindsWrong)

/- THE SECOND FORM. 'bulk': how many values and letters a reading holds, each counted each time it is reached (what is shared counts as often as it is met; a slice's spare places count too). A statement '..UptoSaid' is the law's where the arguments, and the package variables that the reading takes, are together of bulk at most 1048576: NARROWER than '..Said'. Prove '..Said' where nothing that the law and all that it calls make is longer than what came in: it says more and counts as full. Else prove '..UptoSaid'. A law counts once. -/
mutual
def uptoBulk {H : Type} : DataW H → Nat
  | .lit (.string bytes) => bytes.length + 1
  | .lit _ => 1
  | .nil => 1
  | .ptr d => uptoBulk d + 1
  | .slice elems spare => uptoBulkAll elems + uptoBulkAll spare + 1
  | .agg parts => uptoBulkAll parts + 1
  | .iface _ d => uptoBulk d + 1
  | .map entries => uptoBulkEntries entries + 1
  | .held _ => 1
def uptoBulkAll {H : Type} : List (DataW H) → Nat
  | [] => 0
  | d :: r => uptoBulk d + uptoBulkAll r
def uptoBulkEntries {H : Type} : List (Lit × DataW H) → Nat
  | [] => 0
  | x :: r => uptoBulkEntry x + uptoBulkEntries r
def uptoBulkEntry {H : Type} : Lit × DataW H → Nat
  | (.string bytes, d) => bytes.length + uptoBulk d + 1
  | (_, d) => uptoBulk d + 1
 end
def uptoSmall : (H : Type) → List (DataW H) → Bool := fun _ ds => decide (uptoBulkAll ds ≤ 1048576)
def OpenSpec.upto (s : _root_.Go.ChangeSpec) : _root_.Go.OpenSpec := { _root_.Go.OpenSpec.ofChange s with cond := some uptoSmall }

/-- 'inkhornlaw10.MotionThere', WHERE WHAT IT READS IS OF BULK AT MOST 1048576: true; the input reads as it did. -/
def motionThereUptoRow : OpenClaim := { program := "ythiblbcjebmanaa", sum := "172eddbc1b20f20664e547e82343b0b4e7be043ddd71b131421bc156a88e5dd0", func := "inkhorn/inkhornlaw10.MotionThere", spec := "motionThere", inPlace := ["internal/bytealg.IndexByteString"], unfollowed := true, recurses := true, apart := false, narrowed := true }
def MotionThereUptoSaid : Prop := motionThereUptoRow.holds Try.pinned (OpenSpec.upto motionThereSpec)

/-- 'inkhornlaw10.MotionCounts', WHERE WHAT IT READS IS OF BULK AT MOST 1048576: true; the input reads as it did. -/
def motionCountsUptoRow : OpenClaim := { program := "ythiblbcjebmanaa", sum := "172eddbc1b20f20664e547e82343b0b4e7be043ddd71b131421bc156a88e5dd0", func := "inkhorn/inkhornlaw10.MotionCounts", spec := "motionCounts", inPlace := ["internal/bytealg.IndexByteString"], unfollowed := true, recurses := true, apart := false, narrowed := true }
def MotionCountsUptoSaid : Prop := motionCountsUptoRow.holds Try.pinned (OpenSpec.upto motionCountsSpec)

/-- 'inkhornlaw10.MotionBrackets', WHERE WHAT IT READS IS OF BULK AT MOST 1048576: true; the input reads as it did. -/
def motionBracketsUptoRow : OpenClaim := { program := "ythiblbcjebmanaa", sum := "172eddbc1b20f20664e547e82343b0b4e7be043ddd71b131421bc156a88e5dd0", func := "inkhorn/inkhornlaw10.MotionBrackets", spec := "motionBrackets", inPlace := ["internal/bytealg.IndexByteString"], unfollowed := true, recurses := true, apart := false, narrowed := true }
def MotionBracketsUptoSaid : Prop := motionBracketsUptoRow.holds Try.pinned (OpenSpec.upto motionBracketsSpec)

/-- 'inkhornlaw10.MotionFinds', WHERE WHAT IT READS IS OF BULK AT MOST 1048576: true; the input reads as it did. -/
def motionFindsUptoRow : OpenClaim := { program := "ythiblbcjebmanaa", sum := "172eddbc1b20f20664e547e82343b0b4e7be043ddd71b131421bc156a88e5dd0", func := "inkhorn/inkhornlaw10.MotionFinds", spec := "motionFinds", inPlace := ["internal/bytealg.IndexByteString"], unfollowed := true, recurses := true, apart := false, narrowed := true }
def MotionFindsUptoSaid : Prop := motionFindsUptoRow.holds Try.pinned (OpenSpec.upto motionFindsSpec)

end Rows
end Go.Proofs.Ythiblbcjebmanaa
