/-
  No cell of these rows narrows 'for every input' (looked for: loops, veiled, ifaces, maps, wideKeys, modest, calm, conditions, laid).
  DERIVED. THE GIVEN ROWS OF THIS SEAT. 6 by the template 'for every input the law returns true; each argument reads behind the call as it read before'; 0 by the template 'total and deterministic' (their statements: YteleidcghoddjaaTotals.lean).
  GIVEN WITH THE SEED: the statements are not yours to turn. If you find one false, say at which input.
  Laid BY PROGRAM, IN A SANDBOX (cutbox-rows.mjs): the forced cells as the released guide's own fill.sh prints them over the translation 8716adc9749d3fd3… (all of the seat's roots in one cut). By AI agents, Wed Nov 11 2026. No macro, syntax, notation, axiom, sorry.
-/
import Derived.Test.YteleidcghoddjaaChecked
import GoSem.Claim
import GoSem.ClaimJoined
import GoSem.ClaimMapViews
import Derived.JoinedTies
import Derived.KernelRfl
namespace Go.Proofs.Yteleidcghoddjaa
/- THE CELL 'sum', in the pinned program and in every row, IS THE sha256 OF THE DUMP (.gsa) THAT YteleidcghoddjaaProg.lean LOADS. Nothing in Lean hashes anything: it is a label: what it is worth is what the hold of that sum in a sandbox is worth. -/
noncomputable def Try.pinned : Pinned := { name := "yteleidcghoddjaa", sum := "8716adc9749d3fd3fb671fdbb28d462494cf963dbf4d147f0c5d5e6dfd23cf72", checked := Try.checked }
namespace Rows
def none {H : Type} : Left H := { results := [], args := [] }

/-- 'inkhornlaw03.PiecePlays': WHATEVER THE INPUT: true; the input reads as it did. -/
def piecePlaysSpec : ChangeSpec := { name := "piecePlays", fn := fun _ => fun
  | [d1, d2] => { results := [.lit (.bool true)], args := [d1, d2] }
  | _ => none }
def piecePlaysRow : OpenClaim := { program := "yteleidcghoddjaa", sum := "8716adc9749d3fd3fb671fdbb28d462494cf963dbf4d147f0c5d5e6dfd23cf72", func := "inkhorn/inkhornlaw03.PiecePlays", spec := "piecePlays", apart := false }
def PiecePlaysSaid : Prop := piecePlaysRow.holds Try.pinned (OpenSpec.ofChange piecePlaysSpec)

/-- ITS FALSE NEIGHBOUR: 'it returns false'. Refute it at one input. -/
def piecePlaysWrong : ChangeSpec := { name := "piecePlays", fn := fun _ => fun
  | [d1, d2] => { results := [.lit (.bool false)], args := [d1, d2] }
  | _ => none }
def PiecePlaysWrongFalsely : Prop := piecePlaysRow.holds Try.pinned (OpenSpec.ofChange piecePlaysWrong)

/-- 'inkhornlaw03.PieceUndoes': WHATEVER THE INPUT: true; the input reads as it did. -/
def pieceUndoesSpec : ChangeSpec := { name := "pieceUndoes", fn := fun _ => fun
  | [d1, d2, d3] => { results := [.lit (.bool true)], args := [d1, d2, d3] }
  | _ => none }
def pieceUndoesRow : OpenClaim := { program := "yteleidcghoddjaa", sum := "8716adc9749d3fd3fb671fdbb28d462494cf963dbf4d147f0c5d5e6dfd23cf72", func := "inkhorn/inkhornlaw03.PieceUndoes", spec := "pieceUndoes", apart := false }
def PieceUndoesSaid : Prop := pieceUndoesRow.holds Try.pinned (OpenSpec.ofChange pieceUndoesSpec)

/-- ITS FALSE NEIGHBOUR: 'it returns false'. Refute it at one input. -/
def pieceUndoesWrong : ChangeSpec := { name := "pieceUndoes", fn := fun _ => fun
  | [d1, d2, d3] => { results := [.lit (.bool false)], args := [d1, d2, d3] }
  | _ => none }
def PieceUndoesWrongFalsely : Prop := pieceUndoesRow.holds Try.pinned (OpenSpec.ofChange pieceUndoesWrong)

/-- 'inkhornlaw03.PieceKeeps': WHATEVER THE INPUT: true; the input reads as it did. -/
def pieceKeepsSpec : ChangeSpec := { name := "pieceKeeps", fn := fun _ => fun
  | [d1, d2, d3] => { results := [.lit (.bool true)], args := [d1, d2, d3] }
  | _ => none }
def pieceKeepsRow : OpenClaim := { program := "yteleidcghoddjaa", sum := "8716adc9749d3fd3fb671fdbb28d462494cf963dbf4d147f0c5d5e6dfd23cf72", func := "inkhorn/inkhornlaw03.PieceKeeps", spec := "pieceKeeps", apart := false }
def PieceKeepsSaid : Prop := pieceKeepsRow.holds Try.pinned (OpenSpec.ofChange pieceKeepsSpec)

/-- ITS FALSE NEIGHBOUR: 'it returns false'. Refute it at one input. -/
def pieceKeepsWrong : ChangeSpec := { name := "pieceKeeps", fn := fun _ => fun
  | [d1, d2, d3] => { results := [.lit (.bool false)], args := [d1, d2, d3] }
  | _ => none }
def PieceKeepsWrongFalsely : Prop := pieceKeepsRow.holds Try.pinned (OpenSpec.ofChange pieceKeepsWrong)

/-- 'inkhornlaw03.PieceRoom': WHATEVER THE INPUT: true; the input reads as it did. -/
def pieceRoomSpec : ChangeSpec := { name := "pieceRoom", fn := fun _ => fun
  | [d] => { results := [.lit (.bool true)], args := [d] }
  | _ => none }
def pieceRoomRow : OpenClaim := { program := "yteleidcghoddjaa", sum := "8716adc9749d3fd3fb671fdbb28d462494cf963dbf4d147f0c5d5e6dfd23cf72", func := "inkhorn/inkhornlaw03.PieceRoom", spec := "pieceRoom", apart := false }
def PieceRoomSaid : Prop := pieceRoomRow.holds Try.pinned (OpenSpec.ofChange pieceRoomSpec)

/-- ITS FALSE NEIGHBOUR: 'it returns false'. Refute it at one input. -/
def pieceRoomWrong : ChangeSpec := { name := "pieceRoom", fn := fun _ => fun
  | [d] => { results := [.lit (.bool false)], args := [d] }
  | _ => none }
def PieceRoomWrongFalsely : Prop := pieceRoomRow.holds Try.pinned (OpenSpec.ofChange pieceRoomWrong)

/-- 'inkhornlaw03.PieceBounds': WHATEVER THE INPUT: true; the input reads as it did. -/
def pieceBoundsSpec : ChangeSpec := { name := "pieceBounds", fn := fun _ => fun
  | [d1, d2] => { results := [.lit (.bool true)], args := [d1, d2] }
  | _ => none }
def pieceBoundsRow : OpenClaim := { program := "yteleidcghoddjaa", sum := "8716adc9749d3fd3fb671fdbb28d462494cf963dbf4d147f0c5d5e6dfd23cf72", func := "inkhorn/inkhornlaw03.PieceBounds", spec := "pieceBounds", apart := false }
def PieceBoundsSaid : Prop := pieceBoundsRow.holds Try.pinned (OpenSpec.ofChange pieceBoundsSpec)

/-- ITS FALSE NEIGHBOUR: 'it returns false'. Refute it at one input. -/
def pieceBoundsWrong : ChangeSpec := { name := "pieceBounds", fn := fun _ => fun
  | [d1, d2] => { results := [.lit (.bool false)], args := [d1, d2] }
  | _ => none }
def PieceBoundsWrongFalsely : Prop := pieceBoundsRow.holds Try.pinned (OpenSpec.ofChange pieceBoundsWrong)

/-- 'inkhornlaw03.PieceNone': WHATEVER THE INPUT: true; the input reads as it did. -/
def pieceNoneSpec : ChangeSpec := { name := "pieceNone", fn := fun _ => fun
  | [d] => { results := [.lit (.bool true)], args := [d] }
  | _ => none }
def pieceNoneRow : OpenClaim := { program := "yteleidcghoddjaa", sum := "8716adc9749d3fd3fb671fdbb28d462494cf963dbf4d147f0c5d5e6dfd23cf72", func := "inkhorn/inkhornlaw03.PieceNone", spec := "pieceNone", apart := false }
def PieceNoneSaid : Prop := pieceNoneRow.holds Try.pinned (OpenSpec.ofChange pieceNoneSpec)

/-- ITS FALSE NEIGHBOUR: 'it returns false'. Refute it at one input. -/
def pieceNoneWrong : ChangeSpec := { name := "pieceNone", fn := fun _ => fun
  | [d] => { results := [.lit (.bool false)], args := [d] }
  | _ => none }
def PieceNoneWrongFalsely : Prop := pieceNoneRow.holds Try.pinned (OpenSpec.ofChange pieceNoneWrong)

/- THE SECOND FORM. 'bulk': how many values and letters a reading holds, each counted each time it is reached (what is shared counts as often as it is met; a slice's spare places count too). A statement '..UptoSaid' is the law's where the arguments, and the package variables that the reading takes, are together of bulk at most 1048576: NARROWER than '..Said'. Prove '..Said' where nothing that the law and all that it calls make is longer than what came in: it says more and counts as full. Else prove '..UptoSaid'. A law counts once. -/
mutual
def uptoBulk {H : Type} : DataW H → Nat
  | .lit (.string bytes) => bytes.length + 1
  | .lit _ => 1
  | .nil => 1
  | .ptr d => uptoBulk d + 1
  | .slice elems spare => uptoBulkAll elems + uptoBulkAll spare + 1
  | .agg parts => uptoBulkAll parts + 1
  | .iface _ d => uptoBulk d + 1
  | .map entries => uptoBulkEntries entries + 1
  | .held _ => 1
def uptoBulkAll {H : Type} : List (DataW H) → Nat
  | [] => 0
  | d :: r => uptoBulk d + uptoBulkAll r
def uptoBulkEntries {H : Type} : List (Lit × DataW H) → Nat
  | [] => 0
  | x :: r => uptoBulkEntry x + uptoBulkEntries r
def uptoBulkEntry {H : Type} : Lit × DataW H → Nat
  | (.string bytes, d) => bytes.length + uptoBulk d + 1
  | (_, d) => uptoBulk d + 1
 end
def uptoSmall : (H : Type) → List (DataW H) → Bool := fun _ ds => decide (uptoBulkAll ds ≤ 1048576)
def OpenSpec.upto (s : _root_.Go.ChangeSpec) : _root_.Go.OpenSpec := { _root_.Go.OpenSpec.ofChange s with cond := some uptoSmall }

/-- 'inkhornlaw03.PiecePlays', WHERE WHAT IT READS IS OF BULK AT MOST 1048576: true; the input reads as it did. -/
def piecePlaysUptoRow : OpenClaim := { program := "yteleidcghoddjaa", sum := "8716adc9749d3fd3fb671fdbb28d462494cf963dbf4d147f0c5d5e6dfd23cf72", func := "inkhorn/inkhornlaw03.PiecePlays", spec := "piecePlays", apart := false, narrowed := true }
def PiecePlaysUptoSaid : Prop := piecePlaysUptoRow.holds Try.pinned (OpenSpec.upto piecePlaysSpec)

/-- 'inkhornlaw03.PieceUndoes', WHERE WHAT IT READS IS OF BULK AT MOST 1048576: true; the input reads as it did. -/
def pieceUndoesUptoRow : OpenClaim := { program := "yteleidcghoddjaa", sum := "8716adc9749d3fd3fb671fdbb28d462494cf963dbf4d147f0c5d5e6dfd23cf72", func := "inkhorn/inkhornlaw03.PieceUndoes", spec := "pieceUndoes", apart := false, narrowed := true }
def PieceUndoesUptoSaid : Prop := pieceUndoesUptoRow.holds Try.pinned (OpenSpec.upto pieceUndoesSpec)

/-- 'inkhornlaw03.PieceKeeps', WHERE WHAT IT READS IS OF BULK AT MOST 1048576: true; the input reads as it did. -/
def pieceKeepsUptoRow : OpenClaim := { program := "yteleidcghoddjaa", sum := "8716adc9749d3fd3fb671fdbb28d462494cf963dbf4d147f0c5d5e6dfd23cf72", func := "inkhorn/inkhornlaw03.PieceKeeps", spec := "pieceKeeps", apart := false, narrowed := true }
def PieceKeepsUptoSaid : Prop := pieceKeepsUptoRow.holds Try.pinned (OpenSpec.upto pieceKeepsSpec)

/-- 'inkhornlaw03.PieceRoom', WHERE WHAT IT READS IS OF BULK AT MOST 1048576: true; the input reads as it did. -/
def pieceRoomUptoRow : OpenClaim := { program := "yteleidcghoddjaa", sum := "8716adc9749d3fd3fb671fdbb28d462494cf963dbf4d147f0c5d5e6dfd23cf72", func := "inkhorn/inkhornlaw03.PieceRoom", spec := "pieceRoom", apart := false, narrowed := true }
def PieceRoomUptoSaid : Prop := pieceRoomUptoRow.holds Try.pinned (OpenSpec.upto pieceRoomSpec)

/-- 'inkhornlaw03.PieceBounds', WHERE WHAT IT READS IS OF BULK AT MOST 1048576: true; the input reads as it did. -/
def pieceBoundsUptoRow : OpenClaim := { program := "yteleidcghoddjaa", sum := "8716adc9749d3fd3fb671fdbb28d462494cf963dbf4d147f0c5d5e6dfd23cf72", func := "inkhorn/inkhornlaw03.PieceBounds", spec := "pieceBounds", apart := false, narrowed := true }
def PieceBoundsUptoSaid : Prop := pieceBoundsUptoRow.holds Try.pinned (OpenSpec.upto pieceBoundsSpec)

/-- 'inkhornlaw03.PieceNone', WHERE WHAT IT READS IS OF BULK AT MOST 1048576: true; the input reads as it did. -/
def pieceNoneUptoRow : OpenClaim := { program := "yteleidcghoddjaa", sum := "8716adc9749d3fd3fb671fdbb28d462494cf963dbf4d147f0c5d5e6dfd23cf72", func := "inkhorn/inkhornlaw03.PieceNone", spec := "pieceNone", apart := false, narrowed := true }
def PieceNoneUptoSaid : Prop := pieceNoneUptoRow.holds Try.pinned (OpenSpec.upto pieceNoneSpec)

end Rows
end Go.Proofs.Yteleidcghoddjaa
