/-
  No cell of these rows narrows 'for every input' (looked for: loops, veiled, ifaces, maps, wideKeys, modest, calm, conditions, laid).
  DERIVED. THE GIVEN ROWS OF THIS SEAT. 7 by the template 'for every input the law returns true; each argument reads behind the call as it read before'; 0 by the template 'total and deterministic' (their statements: YtfgajbilegjbpaaTotals.lean).
  GIVEN WITH THE SEED: the statements are not yours to turn. If you find one false, say at which input.
  Laid BY PROGRAM, IN A SANDBOX (cutbox-rows.mjs): the forced cells as the released guide's own fill.sh prints them over the translation 3b6fd8ae53fe0934… (all of the seat's roots in one cut). By AI agents, Wed Nov 11 2026. No macro, syntax, notation, axiom, sorry.
-/
import Derived.Test.YtfgajbilegjbpaaChecked
import GoSem.Claim
import GoSem.ClaimJoined
import GoSem.ClaimMapViews
import Derived.JoinedTies
import Derived.KernelRfl
namespace Go.Proofs.Ytfgajbilegjbpaa
/- THE CELL 'sum', in the pinned program and in every row, IS THE sha256 OF THE DUMP (.gsa) THAT YtfgajbilegjbpaaProg.lean LOADS. Nothing in Lean hashes anything: it is a label: what it is worth is what the hold of that sum in a sandbox is worth. -/
noncomputable def Try.pinned : Pinned := { name := "ytfgajbilegjbpaa", sum := "3b6fd8ae53fe09341078fae6302b5ddc83166738ac81908b0b9ea82f4edb0175", checked := Try.checked }
namespace Rows
def none {H : Type} : Left H := { results := [], args := [] }

/-- 'inkhornlaw04.TextTurns': WHATEVER THE INPUT: true; the input reads as it did. -/
def textTurnsSpec : ChangeSpec := { name := "textTurns", fn := fun _ => fun
  | [d] => { results := [.lit (.bool true)], args := [d] }
  | _ => none }
def textTurnsRow : OpenClaim := { program := "ytfgajbilegjbpaa", sum := "3b6fd8ae53fe09341078fae6302b5ddc83166738ac81908b0b9ea82f4edb0175", func := "inkhorn/inkhornlaw04.TextTurns", spec := "textTurns", apart := false }
def TextTurnsSaid : Prop := textTurnsRow.holds Try.pinned (OpenSpec.ofChange textTurnsSpec)

/-- ITS FALSE NEIGHBOUR: 'it returns false'. Refute it at one input. -/
def textTurnsWrong : ChangeSpec := { name := "textTurns", fn := fun _ => fun
  | [d] => { results := [.lit (.bool false)], args := [d] }
  | _ => none }
def TextTurnsWrongFalsely : Prop := textTurnsRow.holds Try.pinned (OpenSpec.ofChange textTurnsWrong)

/-- 'inkhornlaw04.TextLong': WHATEVER THE INPUT: true; the input reads as it did. -/
def textLongSpec : ChangeSpec := { name := "textLong", fn := fun _ => fun
  | [d1, d2] => { results := [.lit (.bool true)], args := [d1, d2] }
  | _ => none }
def textLongRow : OpenClaim := { program := "ytfgajbilegjbpaa", sum := "3b6fd8ae53fe09341078fae6302b5ddc83166738ac81908b0b9ea82f4edb0175", func := "inkhorn/inkhornlaw04.TextLong", spec := "textLong", apart := false }
def TextLongSaid : Prop := textLongRow.holds Try.pinned (OpenSpec.ofChange textLongSpec)

/-- ITS FALSE NEIGHBOUR: 'it returns false'. Refute it at one input. -/
def textLongWrong : ChangeSpec := { name := "textLong", fn := fun _ => fun
  | [d1, d2] => { results := [.lit (.bool false)], args := [d1, d2] }
  | _ => none }
def TextLongWrongFalsely : Prop := textLongRow.holds Try.pinned (OpenSpec.ofChange textLongWrong)

/-- 'inkhornlaw04.TextPlays': WHATEVER THE INPUT: true; the input reads as it did. -/
def textPlaysSpec : ChangeSpec := { name := "textPlays", fn := fun _ => fun
  | [d1, d2] => { results := [.lit (.bool true)], args := [d1, d2] }
  | _ => none }
def textPlaysRow : OpenClaim := { program := "ytfgajbilegjbpaa", sum := "3b6fd8ae53fe09341078fae6302b5ddc83166738ac81908b0b9ea82f4edb0175", func := "inkhorn/inkhornlaw04.TextPlays", spec := "textPlays", apart := false }
def TextPlaysSaid : Prop := textPlaysRow.holds Try.pinned (OpenSpec.ofChange textPlaysSpec)

/-- ITS FALSE NEIGHBOUR: 'it returns false'. Refute it at one input. -/
def textPlaysWrong : ChangeSpec := { name := "textPlays", fn := fun _ => fun
  | [d1, d2] => { results := [.lit (.bool false)], args := [d1, d2] }
  | _ => none }
def TextPlaysWrongFalsely : Prop := textPlaysRow.holds Try.pinned (OpenSpec.ofChange textPlaysWrong)

/-- 'inkhornlaw04.TextUndoes': WHATEVER THE INPUT: true; the input reads as it did. -/
def textUndoesSpec : ChangeSpec := { name := "textUndoes", fn := fun _ => fun
  | [d1, d2, d3] => { results := [.lit (.bool true)], args := [d1, d2, d3] }
  | _ => none }
def textUndoesRow : OpenClaim := { program := "ytfgajbilegjbpaa", sum := "3b6fd8ae53fe09341078fae6302b5ddc83166738ac81908b0b9ea82f4edb0175", func := "inkhorn/inkhornlaw04.TextUndoes", spec := "textUndoes", apart := false }
def TextUndoesSaid : Prop := textUndoesRow.holds Try.pinned (OpenSpec.ofChange textUndoesSpec)

/-- ITS FALSE NEIGHBOUR: 'it returns false'. Refute it at one input. -/
def textUndoesWrong : ChangeSpec := { name := "textUndoes", fn := fun _ => fun
  | [d1, d2, d3] => { results := [.lit (.bool false)], args := [d1, d2, d3] }
  | _ => none }
def TextUndoesWrongFalsely : Prop := textUndoesRow.holds Try.pinned (OpenSpec.ofChange textUndoesWrong)

/-- 'inkhornlaw04.TextLines': WHATEVER THE INPUT: true; the input reads as it did. -/
def textLinesSpec : ChangeSpec := { name := "textLines", fn := fun _ => fun
  | [d1, d2, d3] => { results := [.lit (.bool true)], args := [d1, d2, d3] }
  | _ => none }
def textLinesRow : OpenClaim := { program := "ytfgajbilegjbpaa", sum := "3b6fd8ae53fe09341078fae6302b5ddc83166738ac81908b0b9ea82f4edb0175", func := "inkhorn/inkhornlaw04.TextLines", spec := "textLines", apart := false }
def TextLinesSaid : Prop := textLinesRow.holds Try.pinned (OpenSpec.ofChange textLinesSpec)

/-- ITS FALSE NEIGHBOUR: 'it returns false'. Refute it at one input. -/
def textLinesWrong : ChangeSpec := { name := "textLines", fn := fun _ => fun
  | [d1, d2, d3] => { results := [.lit (.bool false)], args := [d1, d2, d3] }
  | _ => none }
def TextLinesWrongFalsely : Prop := textLinesRow.holds Try.pinned (OpenSpec.ofChange textLinesWrong)

/-- 'inkhornlaw04.TextSwaps': WHATEVER THE INPUT: true; the input reads as it did. -/
def textSwapsSpec : ChangeSpec := { name := "textSwaps", fn := fun _ => fun
  | [d1, d2, d3] => { results := [.lit (.bool true)], args := [d1, d2, d3] }
  | _ => none }
def textSwapsRow : OpenClaim := { program := "ytfgajbilegjbpaa", sum := "3b6fd8ae53fe09341078fae6302b5ddc83166738ac81908b0b9ea82f4edb0175", func := "inkhorn/inkhornlaw04.TextSwaps", spec := "textSwaps", apart := false }
def TextSwapsSaid : Prop := textSwapsRow.holds Try.pinned (OpenSpec.ofChange textSwapsSpec)

/-- ITS FALSE NEIGHBOUR: 'it returns false'. Refute it at one input. -/
def textSwapsWrong : ChangeSpec := { name := "textSwaps", fn := fun _ => fun
  | [d1, d2, d3] => { results := [.lit (.bool false)], args := [d1, d2, d3] }
  | _ => none }
def TextSwapsWrongFalsely : Prop := textSwapsRow.holds Try.pinned (OpenSpec.ofChange textSwapsWrong)

/-- 'inkhornlaw04.TextNone': WHATEVER THE INPUT: true; the input reads as it did. -/
def textNoneSpec : ChangeSpec := { name := "textNone", fn := fun _ => fun
  | [d] => { results := [.lit (.bool true)], args := [d] }
  | _ => none }
def textNoneRow : OpenClaim := { program := "ytfgajbilegjbpaa", sum := "3b6fd8ae53fe09341078fae6302b5ddc83166738ac81908b0b9ea82f4edb0175", func := "inkhorn/inkhornlaw04.TextNone", spec := "textNone", apart := false }
def TextNoneSaid : Prop := textNoneRow.holds Try.pinned (OpenSpec.ofChange textNoneSpec)

/-- ITS FALSE NEIGHBOUR: 'it returns false'. Refute it at one input. -/
def textNoneWrong : ChangeSpec := { name := "textNone", fn := fun _ => fun
  | [d] => { results := [.lit (.bool false)], args := [d] }
  | _ => none }
def TextNoneWrongFalsely : Prop := textNoneRow.holds Try.pinned (OpenSpec.ofChange textNoneWrong)

/- THE SECOND FORM. 'bulk': how many values and letters a reading holds, each counted each time it is reached (what is shared counts as often as it is met; a slice's spare places count too). A statement '..UptoSaid' is the law's where the arguments, and the package variables that the reading takes, are together of bulk at most 1048576: NARROWER than '..Said'. Prove '..Said' where nothing that the law and all that it calls make is longer than what came in: it says more and counts as full. Else prove '..UptoSaid'. A law counts once. -/
mutual
def uptoBulk {H : Type} : DataW H → Nat
  | .lit (.string bytes) => bytes.length + 1
  | .lit _ => 1
  | .nil => 1
  | .ptr d => uptoBulk d + 1
  | .slice elems spare => uptoBulkAll elems + uptoBulkAll spare + 1
  | .agg parts => uptoBulkAll parts + 1
  | .iface _ d => uptoBulk d + 1
  | .map entries => uptoBulkEntries entries + 1
  | .held _ => 1
def uptoBulkAll {H : Type} : List (DataW H) → Nat
  | [] => 0
  | d :: r => uptoBulk d + uptoBulkAll r
def uptoBulkEntries {H : Type} : List (Lit × DataW H) → Nat
  | [] => 0
  | x :: r => uptoBulkEntry x + uptoBulkEntries r
def uptoBulkEntry {H : Type} : Lit × DataW H → Nat
  | (.string bytes, d) => bytes.length + uptoBulk d + 1
  | (_, d) => uptoBulk d + 1
 end
def uptoSmall : (H : Type) → List (DataW H) → Bool := fun _ ds => decide (uptoBulkAll ds ≤ 1048576)
def OpenSpec.upto (s : _root_.Go.ChangeSpec) : _root_.Go.OpenSpec := { _root_.Go.OpenSpec.ofChange s with cond := some uptoSmall }

/-- 'inkhornlaw04.TextTurns', WHERE WHAT IT READS IS OF BULK AT MOST 1048576: true; the input reads as it did. -/
def textTurnsUptoRow : OpenClaim := { program := "ytfgajbilegjbpaa", sum := "3b6fd8ae53fe09341078fae6302b5ddc83166738ac81908b0b9ea82f4edb0175", func := "inkhorn/inkhornlaw04.TextTurns", spec := "textTurns", apart := false, narrowed := true }
def TextTurnsUptoSaid : Prop := textTurnsUptoRow.holds Try.pinned (OpenSpec.upto textTurnsSpec)

/-- 'inkhornlaw04.TextLong', WHERE WHAT IT READS IS OF BULK AT MOST 1048576: true; the input reads as it did. -/
def textLongUptoRow : OpenClaim := { program := "ytfgajbilegjbpaa", sum := "3b6fd8ae53fe09341078fae6302b5ddc83166738ac81908b0b9ea82f4edb0175", func := "inkhorn/inkhornlaw04.TextLong", spec := "textLong", apart := false, narrowed := true }
def TextLongUptoSaid : Prop := textLongUptoRow.holds Try.pinned (OpenSpec.upto textLongSpec)

/-- 'inkhornlaw04.TextPlays', WHERE WHAT IT READS IS OF BULK AT MOST 1048576: true; the input reads as it did. -/
def textPlaysUptoRow : OpenClaim := { program := "ytfgajbilegjbpaa", sum := "3b6fd8ae53fe09341078fae6302b5ddc83166738ac81908b0b9ea82f4edb0175", func := "inkhorn/inkhornlaw04.TextPlays", spec := "textPlays", apart := false, narrowed := true }
def TextPlaysUptoSaid : Prop := textPlaysUptoRow.holds Try.pinned (OpenSpec.upto textPlaysSpec)

/-- 'inkhornlaw04.TextUndoes', WHERE WHAT IT READS IS OF BULK AT MOST 1048576: true; the input reads as it did. -/
def textUndoesUptoRow : OpenClaim := { program := "ytfgajbilegjbpaa", sum := "3b6fd8ae53fe09341078fae6302b5ddc83166738ac81908b0b9ea82f4edb0175", func := "inkhorn/inkhornlaw04.TextUndoes", spec := "textUndoes", apart := false, narrowed := true }
def TextUndoesUptoSaid : Prop := textUndoesUptoRow.holds Try.pinned (OpenSpec.upto textUndoesSpec)

/-- 'inkhornlaw04.TextLines', WHERE WHAT IT READS IS OF BULK AT MOST 1048576: true; the input reads as it did. -/
def textLinesUptoRow : OpenClaim := { program := "ytfgajbilegjbpaa", sum := "3b6fd8ae53fe09341078fae6302b5ddc83166738ac81908b0b9ea82f4edb0175", func := "inkhorn/inkhornlaw04.TextLines", spec := "textLines", apart := false, narrowed := true }
def TextLinesUptoSaid : Prop := textLinesUptoRow.holds Try.pinned (OpenSpec.upto textLinesSpec)

/-- 'inkhornlaw04.TextSwaps', WHERE WHAT IT READS IS OF BULK AT MOST 1048576: true; the input reads as it did. -/
def textSwapsUptoRow : OpenClaim := { program := "ytfgajbilegjbpaa", sum := "3b6fd8ae53fe09341078fae6302b5ddc83166738ac81908b0b9ea82f4edb0175", func := "inkhorn/inkhornlaw04.TextSwaps", spec := "textSwaps", apart := false, narrowed := true }
def TextSwapsUptoSaid : Prop := textSwapsUptoRow.holds Try.pinned (OpenSpec.upto textSwapsSpec)

/-- 'inkhornlaw04.TextNone', WHERE WHAT IT READS IS OF BULK AT MOST 1048576: true; the input reads as it did. -/
def textNoneUptoRow : OpenClaim := { program := "ytfgajbilegjbpaa", sum := "3b6fd8ae53fe09341078fae6302b5ddc83166738ac81908b0b9ea82f4edb0175", func := "inkhorn/inkhornlaw04.TextNone", spec := "textNone", apart := false, narrowed := true }
def TextNoneUptoSaid : Prop := textNoneUptoRow.holds Try.pinned (OpenSpec.upto textNoneSpec)

end Rows
end Go.Proofs.Ytfgajbilegjbpaa
