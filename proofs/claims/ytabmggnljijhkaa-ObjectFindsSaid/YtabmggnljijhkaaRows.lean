/-
  No cell of these rows narrows 'for every input' (looked for: loops, veiled, ifaces, maps, wideKeys, modest, calm, conditions, laid).
  DERIVED. THE GIVEN ROWS OF THIS SEAT. 5 by the template 'for every input the law returns true; each argument reads behind the call as it read before'; 0 by the template 'total and deterministic' (their statements: YtabmggnljijhkaaTotals.lean).
  GIVEN WITH THE SEED: the statements are not yours to turn. If you find one false, say at which input.
  Laid BY PROGRAM, IN A SANDBOX (cutbox-rows.mjs): the forced cells as the released guide's own fill.sh prints them over the translation 350e78fa4d77c82c… (all of the seat's roots in one cut). By AI agents, Wed Nov 11 2026. No macro, syntax, notation, axiom, sorry.
-/
import Derived.Test.YtabmggnljijhkaaChecked
import GoSem.Claim
import GoSem.ClaimJoined
import GoSem.ClaimMapViews
import Derived.JoinedTies
import Derived.KernelRfl
namespace Go.Proofs.Ytabmggnljijhkaa
/- THE CELL 'sum', in the pinned program and in every row, IS THE sha256 OF THE DUMP (.gsa) THAT YtabmggnljijhkaaProg.lean LOADS. Nothing in Lean hashes anything: it is a label: what it is worth is what the hold of that sum in a sandbox is worth. -/
noncomputable def Try.pinned : Pinned := { name := "ytabmggnljijhkaa", sum := "350e78fa4d77c82cbe72172725f5cbfd20ad12158dc87a1691e96fe34f1f3aaa", checked := Try.checked }
namespace Rows
def none {H : Type} : Left H := { results := [], args := [] }

/-- 'inkhornlaw11.ObjectFinds': WHATEVER THE INPUT: true; the input reads as it did. -/
def objectFindsSpec : ChangeSpec := { name := "objectFinds", fn := fun _ => fun
  | [d1, d2, d3] => { results := [.lit (.bool true)], args := [d1, d2, d3] }
  | _ => none }
def objectFindsRow : OpenClaim := { program := "ytabmggnljijhkaa", sum := "350e78fa4d77c82cbe72172725f5cbfd20ad12158dc87a1691e96fe34f1f3aaa", func := "inkhorn/inkhornlaw11.ObjectFinds", spec := "objectFinds", unfollowed := true, recurses := true, apart := false }
def ObjectFindsSaid : Prop := objectFindsRow.holds Try.pinned (OpenSpec.ofChange objectFindsSpec)

/-- ITS FALSE NEIGHBOUR: 'it returns false'. Refute it at one input. -/
def objectFindsWrong : ChangeSpec := { name := "objectFinds", fn := fun _ => fun
  | [d1, d2, d3] => { results := [.lit (.bool false)], args := [d1, d2, d3] }
  | _ => none }
def ObjectFindsWrongFalsely : Prop := objectFindsRow.holds Try.pinned (OpenSpec.ofChange objectFindsWrong)

/-- 'inkhornlaw11.ObjectWithin': WHATEVER THE INPUT: true; the input reads as it did. -/
def objectWithinSpec : ChangeSpec := { name := "objectWithin", fn := fun _ => fun
  | [d1, d2, d3] => { results := [.lit (.bool true)], args := [d1, d2, d3] }
  | _ => none }
def objectWithinRow : OpenClaim := { program := "ytabmggnljijhkaa", sum := "350e78fa4d77c82cbe72172725f5cbfd20ad12158dc87a1691e96fe34f1f3aaa", func := "inkhorn/inkhornlaw11.ObjectWithin", spec := "objectWithin", unfollowed := true, recurses := true, apart := false }
def ObjectWithinSaid : Prop := objectWithinRow.holds Try.pinned (OpenSpec.ofChange objectWithinSpec)

/-- ITS FALSE NEIGHBOUR: 'it returns false'. Refute it at one input. -/
def objectWithinWrong : ChangeSpec := { name := "objectWithin", fn := fun _ => fun
  | [d1, d2, d3] => { results := [.lit (.bool false)], args := [d1, d2, d3] }
  | _ => none }
def ObjectWithinWrongFalsely : Prop := objectWithinRow.holds Try.pinned (OpenSpec.ofChange objectWithinWrong)

/-- 'inkhornlaw11.ObjectWords': WHATEVER THE INPUT: true; the input reads as it did. -/
def objectWordsSpec : ChangeSpec := { name := "objectWords", fn := fun _ => fun
  | [d1, d2, d3] => { results := [.lit (.bool true)], args := [d1, d2, d3] }
  | _ => none }
def objectWordsRow : OpenClaim := { program := "ytabmggnljijhkaa", sum := "350e78fa4d77c82cbe72172725f5cbfd20ad12158dc87a1691e96fe34f1f3aaa", func := "inkhorn/inkhornlaw11.ObjectWords", spec := "objectWords", unfollowed := true, recurses := true, apart := false }
def ObjectWordsSaid : Prop := objectWordsRow.holds Try.pinned (OpenSpec.ofChange objectWordsSpec)

/-- ITS FALSE NEIGHBOUR: 'it returns false'. Refute it at one input. -/
def objectWordsWrong : ChangeSpec := { name := "objectWords", fn := fun _ => fun
  | [d1, d2, d3] => { results := [.lit (.bool false)], args := [d1, d2, d3] }
  | _ => none }
def ObjectWordsWrongFalsely : Prop := objectWordsRow.holds Try.pinned (OpenSpec.ofChange objectWordsWrong)

/-- 'inkhornlaw11.ObjectBrackets': WHATEVER THE INPUT: true; the input reads as it did. -/
def objectBracketsSpec : ChangeSpec := { name := "objectBrackets", fn := fun _ => fun
  | [d1, d2, d3] => { results := [.lit (.bool true)], args := [d1, d2, d3] }
  | _ => none }
def objectBracketsRow : OpenClaim := { program := "ytabmggnljijhkaa", sum := "350e78fa4d77c82cbe72172725f5cbfd20ad12158dc87a1691e96fe34f1f3aaa", func := "inkhorn/inkhornlaw11.ObjectBrackets", spec := "objectBrackets", unfollowed := true, recurses := true, apart := false }
def ObjectBracketsSaid : Prop := objectBracketsRow.holds Try.pinned (OpenSpec.ofChange objectBracketsSpec)

/-- ITS FALSE NEIGHBOUR: 'it returns false'. Refute it at one input. -/
def objectBracketsWrong : ChangeSpec := { name := "objectBrackets", fn := fun _ => fun
  | [d1, d2, d3] => { results := [.lit (.bool false)], args := [d1, d2, d3] }
  | _ => none }
def ObjectBracketsWrongFalsely : Prop := objectBracketsRow.holds Try.pinned (OpenSpec.ofChange objectBracketsWrong)

/-- 'inkhornlaw11.ObjectLines': WHATEVER THE INPUT: true; the input reads as it did. -/
def objectLinesSpec : ChangeSpec := { name := "objectLines", fn := fun _ => fun
  | [d1, d2] => { results := [.lit (.bool true)], args := [d1, d2] }
  | _ => none }
def objectLinesRow : OpenClaim := { program := "ytabmggnljijhkaa", sum := "350e78fa4d77c82cbe72172725f5cbfd20ad12158dc87a1691e96fe34f1f3aaa", func := "inkhorn/inkhornlaw11.ObjectLines", spec := "objectLines", unfollowed := true, recurses := true, apart := false }
def ObjectLinesSaid : Prop := objectLinesRow.holds Try.pinned (OpenSpec.ofChange objectLinesSpec)

/-- ITS FALSE NEIGHBOUR: 'it returns false'. Refute it at one input. -/
def objectLinesWrong : ChangeSpec := { name := "objectLines", fn := fun _ => fun
  | [d1, d2] => { results := [.lit (.bool false)], args := [d1, d2] }
  | _ => none }
def ObjectLinesWrongFalsely : Prop := objectLinesRow.holds Try.pinned (OpenSpec.ofChange objectLinesWrong)

/- THE SECOND FORM. 'bulk': how many values and letters a reading holds, each counted each time it is reached (what is shared counts as often as it is met; a slice's spare places count too). A statement '..UptoSaid' is the law's where the arguments, and the package variables that the reading takes, are together of bulk at most 1048576: NARROWER than '..Said'. Prove '..Said' where nothing that the law and all that it calls make is longer than what came in: it says more and counts as full. Else prove '..UptoSaid'. A law counts once. -/
mutual
def uptoBulk {H : Type} : DataW H → Nat
  | .lit (.string bytes) => bytes.length + 1
  | .lit _ => 1
  | .nil => 1
  | .ptr d => uptoBulk d + 1
  | .slice elems spare => uptoBulkAll elems + uptoBulkAll spare + 1
  | .agg parts => uptoBulkAll parts + 1
  | .iface _ d => uptoBulk d + 1
  | .map entries => uptoBulkEntries entries + 1
  | .held _ => 1
def uptoBulkAll {H : Type} : List (DataW H) → Nat
  | [] => 0
  | d :: r => uptoBulk d + uptoBulkAll r
def uptoBulkEntries {H : Type} : List (Lit × DataW H) → Nat
  | [] => 0
  | x :: r => uptoBulkEntry x + uptoBulkEntries r
def uptoBulkEntry {H : Type} : Lit × DataW H → Nat
  | (.string bytes, d) => bytes.length + uptoBulk d + 1
  | (_, d) => uptoBulk d + 1
 end
def uptoSmall : (H : Type) → List (DataW H) → Bool := fun _ ds => decide (uptoBulkAll ds ≤ 1048576)
def OpenSpec.upto (s : _root_.Go.ChangeSpec) : _root_.Go.OpenSpec := { _root_.Go.OpenSpec.ofChange s with cond := some uptoSmall }

/-- 'inkhornlaw11.ObjectFinds', WHERE WHAT IT READS IS OF BULK AT MOST 1048576: true; the input reads as it did. -/
def objectFindsUptoRow : OpenClaim := { program := "ytabmggnljijhkaa", sum := "350e78fa4d77c82cbe72172725f5cbfd20ad12158dc87a1691e96fe34f1f3aaa", func := "inkhorn/inkhornlaw11.ObjectFinds", spec := "objectFinds", unfollowed := true, recurses := true, apart := false, narrowed := true }
def ObjectFindsUptoSaid : Prop := objectFindsUptoRow.holds Try.pinned (OpenSpec.upto objectFindsSpec)

/-- 'inkhornlaw11.ObjectWithin', WHERE WHAT IT READS IS OF BULK AT MOST 1048576: true; the input reads as it did. -/
def objectWithinUptoRow : OpenClaim := { program := "ytabmggnljijhkaa", sum := "350e78fa4d77c82cbe72172725f5cbfd20ad12158dc87a1691e96fe34f1f3aaa", func := "inkhorn/inkhornlaw11.ObjectWithin", spec := "objectWithin", unfollowed := true, recurses := true, apart := false, narrowed := true }
def ObjectWithinUptoSaid : Prop := objectWithinUptoRow.holds Try.pinned (OpenSpec.upto objectWithinSpec)

/-- 'inkhornlaw11.ObjectWords', WHERE WHAT IT READS IS OF BULK AT MOST 1048576: true; the input reads as it did. -/
def objectWordsUptoRow : OpenClaim := { program := "ytabmggnljijhkaa", sum := "350e78fa4d77c82cbe72172725f5cbfd20ad12158dc87a1691e96fe34f1f3aaa", func := "inkhorn/inkhornlaw11.ObjectWords", spec := "objectWords", unfollowed := true, recurses := true, apart := false, narrowed := true }
def ObjectWordsUptoSaid : Prop := objectWordsUptoRow.holds Try.pinned (OpenSpec.upto objectWordsSpec)

/-- 'inkhornlaw11.ObjectBrackets', WHERE WHAT IT READS IS OF BULK AT MOST 1048576: true; the input reads as it did. -/
def objectBracketsUptoRow : OpenClaim := { program := "ytabmggnljijhkaa", sum := "350e78fa4d77c82cbe72172725f5cbfd20ad12158dc87a1691e96fe34f1f3aaa", func := "inkhorn/inkhornlaw11.ObjectBrackets", spec := "objectBrackets", unfollowed := true, recurses := true, apart := false, narrowed := true }
def ObjectBracketsUptoSaid : Prop := objectBracketsUptoRow.holds Try.pinned (OpenSpec.upto objectBracketsSpec)

/-- 'inkhornlaw11.ObjectLines', WHERE WHAT IT READS IS OF BULK AT MOST 1048576: true; the input reads as it did. -/
def objectLinesUptoRow : OpenClaim := { program := "ytabmggnljijhkaa", sum := "350e78fa4d77c82cbe72172725f5cbfd20ad12158dc87a1691e96fe34f1f3aaa", func := "inkhorn/inkhornlaw11.ObjectLines", spec := "objectLines", unfollowed := true, recurses := true, apart := false, narrowed := true }
def ObjectLinesUptoSaid : Prop := objectLinesUptoRow.holds Try.pinned (OpenSpec.upto objectLinesSpec)

end Rows
end Go.Proofs.Ytabmggnljijhkaa
