/-
  No cell of these rows narrows 'for every input' (looked for: loops, veiled, ifaces, maps, wideKeys, modest, calm, conditions, laid).
  DERIVED. THE GIVEN ROWS OF THIS SEAT. 8 by the template 'for every input the law returns true; each argument reads behind the call as it read before'; 0 by the template 'total and deterministic' (their statements: YtepjngapfmfkeaaTotals.lean).
  GIVEN WITH THE SEED: the statements are not yours to turn. If you find one false, say at which input.
  Laid BY PROGRAM, IN A SANDBOX (cutbox-rows.mjs): the forced cells as the released guide's own fill.sh prints them over the translation c9fafa3d9bbb93b2… (all of the seat's roots in one cut). By AI agents, Wed Nov 11 2026. No macro, syntax, notation, axiom, sorry.
-/
import Derived.Test.YtepjngapfmfkeaaChecked
import GoSem.Claim
import GoSem.ClaimJoined
import GoSem.ClaimMapViews
import Derived.JoinedTies
import Derived.KernelRfl
namespace Go.Proofs.Ytepjngapfmfkeaa
/- THE CELL 'sum', in the pinned program and in every row, IS THE sha256 OF THE DUMP (.gsa) THAT YtepjngapfmfkeaaProg.lean LOADS. Nothing in Lean hashes anything: it is a label: what it is worth is what the hold of that sum in a sandbox is worth. -/
noncomputable def Try.pinned : Pinned := { name := "ytepjngapfmfkeaa", sum := "c9fafa3d9bbb93b277bc43a4c6b1805e4bcb9d7ce1f0598346516d741deac565", checked := Try.checked }
namespace Rows
def none {H : Type} : Left H := { results := [], args := [] }

/-- 'inkhornlaw13.OperTakes': WHATEVER THE INPUT: true; the input reads as it did. -/
def operTakesSpec : ChangeSpec := { name := "operTakes", fn := fun _ => fun
  | [d1, d2] => { results := [.lit (.bool true)], args := [d1, d2] }
  | _ => none }
def operTakesRow : OpenClaim := { program := "ytepjngapfmfkeaa", sum := "c9fafa3d9bbb93b277bc43a4c6b1805e4bcb9d7ce1f0598346516d741deac565", func := "inkhorn/inkhornlaw13.OperTakes", spec := "operTakes", unfollowed := true, recurses := true, apart := false }
def OperTakesSaid : Prop := operTakesRow.holds Try.pinned (OpenSpec.ofChange operTakesSpec)

/-- ITS FALSE NEIGHBOUR: 'it returns false'. Refute it at one input. -/
def operTakesWrong : ChangeSpec := { name := "operTakes", fn := fun _ => fun
  | [d1, d2] => { results := [.lit (.bool false)], args := [d1, d2] }
  | _ => none }
def OperTakesWrongFalsely : Prop := operTakesRow.holds Try.pinned (OpenSpec.ofChange operTakesWrong)

/-- 'inkhornlaw13.OperCuts': WHATEVER THE INPUT: true; the input reads as it did. -/
def operCutsSpec : ChangeSpec := { name := "operCuts", fn := fun _ => fun
  | [d1, d2] => { results := [.lit (.bool true)], args := [d1, d2] }
  | _ => none }
def operCutsRow : OpenClaim := { program := "ytepjngapfmfkeaa", sum := "c9fafa3d9bbb93b277bc43a4c6b1805e4bcb9d7ce1f0598346516d741deac565", func := "inkhorn/inkhornlaw13.OperCuts", spec := "operCuts", unfollowed := true, recurses := true, apart := false }
def OperCutsSaid : Prop := operCutsRow.holds Try.pinned (OpenSpec.ofChange operCutsSpec)

/-- ITS FALSE NEIGHBOUR: 'it returns false'. Refute it at one input. -/
def operCutsWrong : ChangeSpec := { name := "operCuts", fn := fun _ => fun
  | [d1, d2] => { results := [.lit (.bool false)], args := [d1, d2] }
  | _ => none }
def OperCutsWrongFalsely : Prop := operCutsRow.holds Try.pinned (OpenSpec.ofChange operCutsWrong)

/-- 'inkhornlaw13.OperPastes': WHATEVER THE INPUT: true; the input reads as it did. -/
def operPastesSpec : ChangeSpec := { name := "operPastes", fn := fun _ => fun
  | [d1, d2, d3] => { results := [.lit (.bool true)], args := [d1, d2, d3] }
  | _ => none }
def operPastesRow : OpenClaim := { program := "ytepjngapfmfkeaa", sum := "c9fafa3d9bbb93b277bc43a4c6b1805e4bcb9d7ce1f0598346516d741deac565", func := "inkhorn/inkhornlaw13.OperPastes", spec := "operPastes", unfollowed := true, recurses := true, apart := false }
def OperPastesSaid : Prop := operPastesRow.holds Try.pinned (OpenSpec.ofChange operPastesSpec)

/-- ITS FALSE NEIGHBOUR: 'it returns false'. Refute it at one input. -/
def operPastesWrong : ChangeSpec := { name := "operPastes", fn := fun _ => fun
  | [d1, d2, d3] => { results := [.lit (.bool false)], args := [d1, d2, d3] }
  | _ => none }
def OperPastesWrongFalsely : Prop := operPastesRow.holds Try.pinned (OpenSpec.ofChange operPastesWrong)

/-- 'inkhornlaw13.OperFlat': WHATEVER THE INPUT: true; the input reads as it did. -/
def operFlatSpec : ChangeSpec := { name := "operFlat", fn := fun _ => fun
  | [d1, d2, d3] => { results := [.lit (.bool true)], args := [d1, d2, d3] }
  | _ => none }
def operFlatRow : OpenClaim := { program := "ytepjngapfmfkeaa", sum := "c9fafa3d9bbb93b277bc43a4c6b1805e4bcb9d7ce1f0598346516d741deac565", func := "inkhorn/inkhornlaw13.OperFlat", spec := "operFlat", unfollowed := true, recurses := true, apart := false }
def OperFlatSaid : Prop := operFlatRow.holds Try.pinned (OpenSpec.ofChange operFlatSpec)

/-- ITS FALSE NEIGHBOUR: 'it returns false'. Refute it at one input. -/
def operFlatWrong : ChangeSpec := { name := "operFlat", fn := fun _ => fun
  | [d1, d2, d3] => { results := [.lit (.bool false)], args := [d1, d2, d3] }
  | _ => none }
def OperFlatWrongFalsely : Prop := operFlatRow.holds Try.pinned (OpenSpec.ofChange operFlatWrong)

/-- 'inkhornlaw13.OperBack': WHATEVER THE INPUT: true; the input reads as it did. -/
def operBackSpec : ChangeSpec := { name := "operBack", fn := fun _ => fun
  | [d1, d2] => { results := [.lit (.bool true)], args := [d1, d2] }
  | _ => none }
def operBackRow : OpenClaim := { program := "ytepjngapfmfkeaa", sum := "c9fafa3d9bbb93b277bc43a4c6b1805e4bcb9d7ce1f0598346516d741deac565", func := "inkhorn/inkhornlaw13.OperBack", spec := "operBack", unfollowed := true, recurses := true, apart := false }
def OperBackSaid : Prop := operBackRow.holds Try.pinned (OpenSpec.ofChange operBackSpec)

/-- ITS FALSE NEIGHBOUR: 'it returns false'. Refute it at one input. -/
def operBackWrong : ChangeSpec := { name := "operBack", fn := fun _ => fun
  | [d1, d2] => { results := [.lit (.bool false)], args := [d1, d2] }
  | _ => none }
def OperBackWrongFalsely : Prop := operBackRow.holds Try.pinned (OpenSpec.ofChange operBackWrong)

/-- 'inkhornlaw13.OperOvers': WHATEVER THE INPUT: true; the input reads as it did. -/
def operOversSpec : ChangeSpec := { name := "operOvers", fn := fun _ => fun
  | [d1, d2, d3] => { results := [.lit (.bool true)], args := [d1, d2, d3] }
  | _ => none }
def operOversRow : OpenClaim := { program := "ytepjngapfmfkeaa", sum := "c9fafa3d9bbb93b277bc43a4c6b1805e4bcb9d7ce1f0598346516d741deac565", func := "inkhorn/inkhornlaw13.OperOvers", spec := "operOvers", unfollowed := true, recurses := true, apart := false }
def OperOversSaid : Prop := operOversRow.holds Try.pinned (OpenSpec.ofChange operOversSpec)

/-- ITS FALSE NEIGHBOUR: 'it returns false'. Refute it at one input. -/
def operOversWrong : ChangeSpec := { name := "operOvers", fn := fun _ => fun
  | [d1, d2, d3] => { results := [.lit (.bool false)], args := [d1, d2, d3] }
  | _ => none }
def OperOversWrongFalsely : Prop := operOversRow.holds Try.pinned (OpenSpec.ofChange operOversWrong)

/-- 'inkhornlaw13.OperLines': WHATEVER THE INPUT: true; the input reads as it did. -/
def operLinesSpec : ChangeSpec := { name := "operLines", fn := fun _ => fun
  | [d1, d2, d3] => { results := [.lit (.bool true)], args := [d1, d2, d3] }
  | _ => none }
def operLinesRow : OpenClaim := { program := "ytepjngapfmfkeaa", sum := "c9fafa3d9bbb93b277bc43a4c6b1805e4bcb9d7ce1f0598346516d741deac565", func := "inkhorn/inkhornlaw13.OperLines", spec := "operLines", unfollowed := true, recurses := true, apart := false }
def OperLinesSaid : Prop := operLinesRow.holds Try.pinned (OpenSpec.ofChange operLinesSpec)

/-- ITS FALSE NEIGHBOUR: 'it returns false'. Refute it at one input. -/
def operLinesWrong : ChangeSpec := { name := "operLines", fn := fun _ => fun
  | [d1, d2, d3] => { results := [.lit (.bool false)], args := [d1, d2, d3] }
  | _ => none }
def OperLinesWrongFalsely : Prop := operLinesRow.holds Try.pinned (OpenSpec.ofChange operLinesWrong)

/-- 'inkhornlaw13.OperTurns': WHATEVER THE INPUT: true; the input reads as it did. -/
def operTurnsSpec : ChangeSpec := { name := "operTurns", fn := fun _ => fun
  | [d1, d2, d3] => { results := [.lit (.bool true)], args := [d1, d2, d3] }
  | _ => none }
def operTurnsRow : OpenClaim := { program := "ytepjngapfmfkeaa", sum := "c9fafa3d9bbb93b277bc43a4c6b1805e4bcb9d7ce1f0598346516d741deac565", func := "inkhorn/inkhornlaw13.OperTurns", spec := "operTurns", unfollowed := true, recurses := true, apart := false }
def OperTurnsSaid : Prop := operTurnsRow.holds Try.pinned (OpenSpec.ofChange operTurnsSpec)

/-- ITS FALSE NEIGHBOUR: 'it returns false'. Refute it at one input. -/
def operTurnsWrong : ChangeSpec := { name := "operTurns", fn := fun _ => fun
  | [d1, d2, d3] => { results := [.lit (.bool false)], args := [d1, d2, d3] }
  | _ => none }
def OperTurnsWrongFalsely : Prop := operTurnsRow.holds Try.pinned (OpenSpec.ofChange operTurnsWrong)

/- THE SECOND FORM. 'bulk': how many values and letters a reading holds, each counted each time it is reached (what is shared counts as often as it is met; a slice's spare places count too). A statement '..UptoSaid' is the law's where the arguments, and the package variables that the reading takes, are together of bulk at most 1048576: NARROWER than '..Said'. Prove '..Said' where nothing that the law and all that it calls make is longer than what came in: it says more and counts as full. Else prove '..UptoSaid'. A law counts once. -/
mutual
def uptoBulk {H : Type} : DataW H → Nat
  | .lit (.string bytes) => bytes.length + 1
  | .lit _ => 1
  | .nil => 1
  | .ptr d => uptoBulk d + 1
  | .slice elems spare => uptoBulkAll elems + uptoBulkAll spare + 1
  | .agg parts => uptoBulkAll parts + 1
  | .iface _ d => uptoBulk d + 1
  | .map entries => uptoBulkEntries entries + 1
  | .held _ => 1
def uptoBulkAll {H : Type} : List (DataW H) → Nat
  | [] => 0
  | d :: r => uptoBulk d + uptoBulkAll r
def uptoBulkEntries {H : Type} : List (Lit × DataW H) → Nat
  | [] => 0
  | x :: r => uptoBulkEntry x + uptoBulkEntries r
def uptoBulkEntry {H : Type} : Lit × DataW H → Nat
  | (.string bytes, d) => bytes.length + uptoBulk d + 1
  | (_, d) => uptoBulk d + 1
 end
def uptoSmall : (H : Type) → List (DataW H) → Bool := fun _ ds => decide (uptoBulkAll ds ≤ 1048576)
def OpenSpec.upto (s : _root_.Go.ChangeSpec) : _root_.Go.OpenSpec := { _root_.Go.OpenSpec.ofChange s with cond := some uptoSmall }

/-- 'inkhornlaw13.OperTakes', WHERE WHAT IT READS IS OF BULK AT MOST 1048576: true; the input reads as it did. -/
def operTakesUptoRow : OpenClaim := { program := "ytepjngapfmfkeaa", sum := "c9fafa3d9bbb93b277bc43a4c6b1805e4bcb9d7ce1f0598346516d741deac565", func := "inkhorn/inkhornlaw13.OperTakes", spec := "operTakes", unfollowed := true, recurses := true, apart := false, narrowed := true }
def OperTakesUptoSaid : Prop := operTakesUptoRow.holds Try.pinned (OpenSpec.upto operTakesSpec)

/-- 'inkhornlaw13.OperCuts', WHERE WHAT IT READS IS OF BULK AT MOST 1048576: true; the input reads as it did. -/
def operCutsUptoRow : OpenClaim := { program := "ytepjngapfmfkeaa", sum := "c9fafa3d9bbb93b277bc43a4c6b1805e4bcb9d7ce1f0598346516d741deac565", func := "inkhorn/inkhornlaw13.OperCuts", spec := "operCuts", unfollowed := true, recurses := true, apart := false, narrowed := true }
def OperCutsUptoSaid : Prop := operCutsUptoRow.holds Try.pinned (OpenSpec.upto operCutsSpec)

/-- 'inkhornlaw13.OperPastes', WHERE WHAT IT READS IS OF BULK AT MOST 1048576: true; the input reads as it did. -/
def operPastesUptoRow : OpenClaim := { program := "ytepjngapfmfkeaa", sum := "c9fafa3d9bbb93b277bc43a4c6b1805e4bcb9d7ce1f0598346516d741deac565", func := "inkhorn/inkhornlaw13.OperPastes", spec := "operPastes", unfollowed := true, recurses := true, apart := false, narrowed := true }
def OperPastesUptoSaid : Prop := operPastesUptoRow.holds Try.pinned (OpenSpec.upto operPastesSpec)

/-- 'inkhornlaw13.OperFlat', WHERE WHAT IT READS IS OF BULK AT MOST 1048576: true; the input reads as it did. -/
def operFlatUptoRow : OpenClaim := { program := "ytepjngapfmfkeaa", sum := "c9fafa3d9bbb93b277bc43a4c6b1805e4bcb9d7ce1f0598346516d741deac565", func := "inkhorn/inkhornlaw13.OperFlat", spec := "operFlat", unfollowed := true, recurses := true, apart := false, narrowed := true }
def OperFlatUptoSaid : Prop := operFlatUptoRow.holds Try.pinned (OpenSpec.upto operFlatSpec)

/-- 'inkhornlaw13.OperBack', WHERE WHAT IT READS IS OF BULK AT MOST 1048576: true; the input reads as it did. -/
def operBackUptoRow : OpenClaim := { program := "ytepjngapfmfkeaa", sum := "c9fafa3d9bbb93b277bc43a4c6b1805e4bcb9d7ce1f0598346516d741deac565", func := "inkhorn/inkhornlaw13.OperBack", spec := "operBack", unfollowed := true, recurses := true, apart := false, narrowed := true }
def OperBackUptoSaid : Prop := operBackUptoRow.holds Try.pinned (OpenSpec.upto operBackSpec)

/-- 'inkhornlaw13.OperOvers', WHERE WHAT IT READS IS OF BULK AT MOST 1048576: true; the input reads as it did. -/
def operOversUptoRow : OpenClaim := { program := "ytepjngapfmfkeaa", sum := "c9fafa3d9bbb93b277bc43a4c6b1805e4bcb9d7ce1f0598346516d741deac565", func := "inkhorn/inkhornlaw13.OperOvers", spec := "operOvers", unfollowed := true, recurses := true, apart := false, narrowed := true }
def OperOversUptoSaid : Prop := operOversUptoRow.holds Try.pinned (OpenSpec.upto operOversSpec)

/-- 'inkhornlaw13.OperLines', WHERE WHAT IT READS IS OF BULK AT MOST 1048576: true; the input reads as it did. -/
def operLinesUptoRow : OpenClaim := { program := "ytepjngapfmfkeaa", sum := "c9fafa3d9bbb93b277bc43a4c6b1805e4bcb9d7ce1f0598346516d741deac565", func := "inkhorn/inkhornlaw13.OperLines", spec := "operLines", unfollowed := true, recurses := true, apart := false, narrowed := true }
def OperLinesUptoSaid : Prop := operLinesUptoRow.holds Try.pinned (OpenSpec.upto operLinesSpec)

/-- 'inkhornlaw13.OperTurns', WHERE WHAT IT READS IS OF BULK AT MOST 1048576: true; the input reads as it did. -/
def operTurnsUptoRow : OpenClaim := { program := "ytepjngapfmfkeaa", sum := "c9fafa3d9bbb93b277bc43a4c6b1805e4bcb9d7ce1f0598346516d741deac565", func := "inkhorn/inkhornlaw13.OperTurns", spec := "operTurns", unfollowed := true, recurses := true, apart := false, narrowed := true }
def OperTurnsUptoSaid : Prop := operTurnsUptoRow.holds Try.pinned (OpenSpec.upto operTurnsSpec)

end Rows
end Go.Proofs.Ytepjngapfmfkeaa
