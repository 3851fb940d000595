/-
  No cell of these rows narrows 'for every input' (looked for: loops, veiled, ifaces, maps, wideKeys, modest, calm, conditions, laid).
  DERIVED. THE GIVEN ROWS OF THIS SEAT. 7 by the template 'for every input the law returns true; each argument reads behind the call as it read before'; 0 by the template 'total and deterministic' (their statements: YtbmjcjlenbgpkaaTotals.lean).
  GIVEN WITH THE SEED: the statements are not yours to turn. If you find one false, say at which input.
  Laid BY PROGRAM, IN A SANDBOX (cutbox-rows.mjs): the forced cells as the released guide's own fill.sh prints them over the translation c55aa962444dc51f… (all of the seat's roots in one cut). By AI agents, Wed Nov 11 2026. No macro, syntax, notation, axiom, sorry.
-/
import Derived.Test.YtbmjcjlenbgpkaaChecked
import GoSem.Claim
import GoSem.ClaimJoined
import GoSem.ClaimMapViews
import Derived.JoinedTies
import Derived.KernelRfl
namespace Go.Proofs.Ytbmjcjlenbgpkaa
/- THE CELL 'sum', in the pinned program and in every row, IS THE sha256 OF THE DUMP (.gsa) THAT YtbmjcjlenbgpkaaProg.lean LOADS. Nothing in Lean hashes anything: it is a label: what it is worth is what the hold of that sum in a sandbox is worth. -/
noncomputable def Try.pinned : Pinned := { name := "ytbmjcjlenbgpkaa", sum := "c55aa962444dc51f525f4dd959149f6fad5cfe2365154384f919cbca0f9a2204", checked := Try.checked }
namespace Rows
def none {H : Type} : Left H := { results := [], args := [] }

/-- 'inkhornlaw14.KeysBoards': WHATEVER THE INPUT: true; the input reads as it did. -/
def keysBoardsSpec : ChangeSpec := { name := "keysBoards", fn := fun _ => fun
  | [d] => { results := [.lit (.bool true)], args := [d] }
  | _ => none }
def keysBoardsRow : OpenClaim := { program := "ytbmjcjlenbgpkaa", sum := "c55aa962444dc51f525f4dd959149f6fad5cfe2365154384f919cbca0f9a2204", func := "inkhorn/inkhornlaw14.KeysBoards", spec := "keysBoards", unfollowed := true, recurses := true, apart := false }
def KeysBoardsSaid : Prop := keysBoardsRow.holds Try.pinned (OpenSpec.ofChange keysBoardsSpec)

/-- ITS FALSE NEIGHBOUR: 'it returns false'. Refute it at one input. -/
def keysBoardsWrong : ChangeSpec := { name := "keysBoards", fn := fun _ => fun
  | [d] => { results := [.lit (.bool false)], args := [d] }
  | _ => none }
def KeysBoardsWrongFalsely : Prop := keysBoardsRow.holds Try.pinned (OpenSpec.ofChange keysBoardsWrong)

/-- 'inkhornlaw14.KeysNone': WHATEVER THE INPUT: true; the input reads as it did. -/
def keysNoneSpec : ChangeSpec := { name := "keysNone", fn := fun _ => fun
  | [d1, d2] => { results := [.lit (.bool true)], args := [d1, d2] }
  | _ => none }
def keysNoneRow : OpenClaim := { program := "ytbmjcjlenbgpkaa", sum := "c55aa962444dc51f525f4dd959149f6fad5cfe2365154384f919cbca0f9a2204", func := "inkhorn/inkhornlaw14.KeysNone", spec := "keysNone", unfollowed := true, recurses := true, apart := false }
def KeysNoneSaid : Prop := keysNoneRow.holds Try.pinned (OpenSpec.ofChange keysNoneSpec)

/-- ITS FALSE NEIGHBOUR: 'it returns false'. Refute it at one input. -/
def keysNoneWrong : ChangeSpec := { name := "keysNone", fn := fun _ => fun
  | [d1, d2] => { results := [.lit (.bool false)], args := [d1, d2] }
  | _ => none }
def KeysNoneWrongFalsely : Prop := keysNoneRow.holds Try.pinned (OpenSpec.ofChange keysNoneWrong)

/-- 'inkhornlaw14.KeysCounts': WHATEVER THE INPUT: true; the input reads as it did. -/
def keysCountsSpec : ChangeSpec := { name := "keysCounts", fn := fun _ => fun
  | [d1, d2] => { results := [.lit (.bool true)], args := [d1, d2] }
  | _ => none }
def keysCountsRow : OpenClaim := { program := "ytbmjcjlenbgpkaa", sum := "c55aa962444dc51f525f4dd959149f6fad5cfe2365154384f919cbca0f9a2204", func := "inkhorn/inkhornlaw14.KeysCounts", spec := "keysCounts", unfollowed := true, recurses := true, apart := false }
def KeysCountsSaid : Prop := keysCountsRow.holds Try.pinned (OpenSpec.ofChange keysCountsSpec)

/-- ITS FALSE NEIGHBOUR: 'it returns false'. Refute it at one input. -/
def keysCountsWrong : ChangeSpec := { name := "keysCounts", fn := fun _ => fun
  | [d1, d2] => { results := [.lit (.bool false)], args := [d1, d2] }
  | _ => none }
def KeysCountsWrongFalsely : Prop := keysCountsRow.holds Try.pinned (OpenSpec.ofChange keysCountsWrong)

/-- 'inkhornlaw14.KeysFeeds': WHATEVER THE INPUT: true; the input reads as it did. -/
def keysFeedsSpec : ChangeSpec := { name := "keysFeeds", fn := fun _ => fun
  | [d1, d2] => { results := [.lit (.bool true)], args := [d1, d2] }
  | _ => none }
def keysFeedsRow : OpenClaim := { program := "ytbmjcjlenbgpkaa", sum := "c55aa962444dc51f525f4dd959149f6fad5cfe2365154384f919cbca0f9a2204", func := "inkhorn/inkhornlaw14.KeysFeeds", spec := "keysFeeds", unfollowed := true, recurses := true, apart := false }
def KeysFeedsSaid : Prop := keysFeedsRow.holds Try.pinned (OpenSpec.ofChange keysFeedsSpec)

/-- ITS FALSE NEIGHBOUR: 'it returns false'. Refute it at one input. -/
def keysFeedsWrong : ChangeSpec := { name := "keysFeeds", fn := fun _ => fun
  | [d1, d2] => { results := [.lit (.bool false)], args := [d1, d2] }
  | _ => none }
def KeysFeedsWrongFalsely : Prop := keysFeedsRow.holds Try.pinned (OpenSpec.ofChange keysFeedsWrong)

/-- 'inkhornlaw14.KeysApart': WHATEVER THE INPUT: true; the input reads as it did. -/
def keysApartSpec : ChangeSpec := { name := "keysApart", fn := fun _ => fun
  | [d1, d2, d3] => { results := [.lit (.bool true)], args := [d1, d2, d3] }
  | _ => none }
def keysApartRow : OpenClaim := { program := "ytbmjcjlenbgpkaa", sum := "c55aa962444dc51f525f4dd959149f6fad5cfe2365154384f919cbca0f9a2204", func := "inkhorn/inkhornlaw14.KeysApart", spec := "keysApart", unfollowed := true, recurses := true, apart := false }
def KeysApartSaid : Prop := keysApartRow.holds Try.pinned (OpenSpec.ofChange keysApartSpec)

/-- ITS FALSE NEIGHBOUR: 'it returns false'. Refute it at one input. -/
def keysApartWrong : ChangeSpec := { name := "keysApart", fn := fun _ => fun
  | [d1, d2, d3] => { results := [.lit (.bool false)], args := [d1, d2, d3] }
  | _ => none }
def KeysApartWrongFalsely : Prop := keysApartRow.holds Try.pinned (OpenSpec.ofChange keysApartWrong)

/-- 'inkhornlaw14.KeysPlain': WHATEVER THE INPUT: true; the input reads as it did. -/
def keysPlainSpec : ChangeSpec := { name := "keysPlain", fn := fun _ => fun
  | [d1, d2] => { results := [.lit (.bool true)], args := [d1, d2] }
  | _ => none }
def keysPlainRow : OpenClaim := { program := "ytbmjcjlenbgpkaa", sum := "c55aa962444dc51f525f4dd959149f6fad5cfe2365154384f919cbca0f9a2204", func := "inkhorn/inkhornlaw14.KeysPlain", spec := "keysPlain", unfollowed := true, recurses := true, apart := false }
def KeysPlainSaid : Prop := keysPlainRow.holds Try.pinned (OpenSpec.ofChange keysPlainSpec)

/-- ITS FALSE NEIGHBOUR: 'it returns false'. Refute it at one input. -/
def keysPlainWrong : ChangeSpec := { name := "keysPlain", fn := fun _ => fun
  | [d1, d2] => { results := [.lit (.bool false)], args := [d1, d2] }
  | _ => none }
def KeysPlainWrongFalsely : Prop := keysPlainRow.holds Try.pinned (OpenSpec.ofChange keysPlainWrong)

/-- 'inkhornlaw14.KeysFull': WHATEVER THE INPUT: true; the input reads as it did. -/
def keysFullSpec : ChangeSpec := { name := "keysFull", fn := fun _ => fun
  | [d] => { results := [.lit (.bool true)], args := [d] }
  | _ => none }
def keysFullRow : OpenClaim := { program := "ytbmjcjlenbgpkaa", sum := "c55aa962444dc51f525f4dd959149f6fad5cfe2365154384f919cbca0f9a2204", func := "inkhorn/inkhornlaw14.KeysFull", spec := "keysFull", unfollowed := true, recurses := true, apart := false }
def KeysFullSaid : Prop := keysFullRow.holds Try.pinned (OpenSpec.ofChange keysFullSpec)

/-- ITS FALSE NEIGHBOUR: 'it returns false'. Refute it at one input. -/
def keysFullWrong : ChangeSpec := { name := "keysFull", fn := fun _ => fun
  | [d] => { results := [.lit (.bool false)], args := [d] }
  | _ => none }
def KeysFullWrongFalsely : Prop := keysFullRow.holds Try.pinned (OpenSpec.ofChange keysFullWrong)

/- THE SECOND FORM. 'bulk': how many values and letters a reading holds, each counted each time it is reached (what is shared counts as often as it is met; a slice's spare places count too). A statement '..UptoSaid' is the law's where the arguments, and the package variables that the reading takes, are together of bulk at most 1048576: NARROWER than '..Said'. Prove '..Said' where nothing that the law and all that it calls make is longer than what came in: it says more and counts as full. Else prove '..UptoSaid'. A law counts once. -/
mutual
def uptoBulk {H : Type} : DataW H → Nat
  | .lit (.string bytes) => bytes.length + 1
  | .lit _ => 1
  | .nil => 1
  | .ptr d => uptoBulk d + 1
  | .slice elems spare => uptoBulkAll elems + uptoBulkAll spare + 1
  | .agg parts => uptoBulkAll parts + 1
  | .iface _ d => uptoBulk d + 1
  | .map entries => uptoBulkEntries entries + 1
  | .held _ => 1
def uptoBulkAll {H : Type} : List (DataW H) → Nat
  | [] => 0
  | d :: r => uptoBulk d + uptoBulkAll r
def uptoBulkEntries {H : Type} : List (Lit × DataW H) → Nat
  | [] => 0
  | x :: r => uptoBulkEntry x + uptoBulkEntries r
def uptoBulkEntry {H : Type} : Lit × DataW H → Nat
  | (.string bytes, d) => bytes.length + uptoBulk d + 1
  | (_, d) => uptoBulk d + 1
 end
def uptoSmall : (H : Type) → List (DataW H) → Bool := fun _ ds => decide (uptoBulkAll ds ≤ 1048576)
def OpenSpec.upto (s : _root_.Go.ChangeSpec) : _root_.Go.OpenSpec := { _root_.Go.OpenSpec.ofChange s with cond := some uptoSmall }

/-- 'inkhornlaw14.KeysBoards', WHERE WHAT IT READS IS OF BULK AT MOST 1048576: true; the input reads as it did. -/
def keysBoardsUptoRow : OpenClaim := { program := "ytbmjcjlenbgpkaa", sum := "c55aa962444dc51f525f4dd959149f6fad5cfe2365154384f919cbca0f9a2204", func := "inkhorn/inkhornlaw14.KeysBoards", spec := "keysBoards", unfollowed := true, recurses := true, apart := false, narrowed := true }
def KeysBoardsUptoSaid : Prop := keysBoardsUptoRow.holds Try.pinned (OpenSpec.upto keysBoardsSpec)

/-- 'inkhornlaw14.KeysNone', WHERE WHAT IT READS IS OF BULK AT MOST 1048576: true; the input reads as it did. -/
def keysNoneUptoRow : OpenClaim := { program := "ytbmjcjlenbgpkaa", sum := "c55aa962444dc51f525f4dd959149f6fad5cfe2365154384f919cbca0f9a2204", func := "inkhorn/inkhornlaw14.KeysNone", spec := "keysNone", unfollowed := true, recurses := true, apart := false, narrowed := true }
def KeysNoneUptoSaid : Prop := keysNoneUptoRow.holds Try.pinned (OpenSpec.upto keysNoneSpec)

/-- 'inkhornlaw14.KeysCounts', WHERE WHAT IT READS IS OF BULK AT MOST 1048576: true; the input reads as it did. -/
def keysCountsUptoRow : OpenClaim := { program := "ytbmjcjlenbgpkaa", sum := "c55aa962444dc51f525f4dd959149f6fad5cfe2365154384f919cbca0f9a2204", func := "inkhorn/inkhornlaw14.KeysCounts", spec := "keysCounts", unfollowed := true, recurses := true, apart := false, narrowed := true }
def KeysCountsUptoSaid : Prop := keysCountsUptoRow.holds Try.pinned (OpenSpec.upto keysCountsSpec)

/-- 'inkhornlaw14.KeysFeeds', WHERE WHAT IT READS IS OF BULK AT MOST 1048576: true; the input reads as it did. -/
def keysFeedsUptoRow : OpenClaim := { program := "ytbmjcjlenbgpkaa", sum := "c55aa962444dc51f525f4dd959149f6fad5cfe2365154384f919cbca0f9a2204", func := "inkhorn/inkhornlaw14.KeysFeeds", spec := "keysFeeds", unfollowed := true, recurses := true, apart := false, narrowed := true }
def KeysFeedsUptoSaid : Prop := keysFeedsUptoRow.holds Try.pinned (OpenSpec.upto keysFeedsSpec)

/-- 'inkhornlaw14.KeysApart', WHERE WHAT IT READS IS OF BULK AT MOST 1048576: true; the input reads as it did. -/
def keysApartUptoRow : OpenClaim := { program := "ytbmjcjlenbgpkaa", sum := "c55aa962444dc51f525f4dd959149f6fad5cfe2365154384f919cbca0f9a2204", func := "inkhorn/inkhornlaw14.KeysApart", spec := "keysApart", unfollowed := true, recurses := true, apart := false, narrowed := true }
def KeysApartUptoSaid : Prop := keysApartUptoRow.holds Try.pinned (OpenSpec.upto keysApartSpec)

/-- 'inkhornlaw14.KeysPlain', WHERE WHAT IT READS IS OF BULK AT MOST 1048576: true; the input reads as it did. -/
def keysPlainUptoRow : OpenClaim := { program := "ytbmjcjlenbgpkaa", sum := "c55aa962444dc51f525f4dd959149f6fad5cfe2365154384f919cbca0f9a2204", func := "inkhorn/inkhornlaw14.KeysPlain", spec := "keysPlain", unfollowed := true, recurses := true, apart := false, narrowed := true }
def KeysPlainUptoSaid : Prop := keysPlainUptoRow.holds Try.pinned (OpenSpec.upto keysPlainSpec)

/-- 'inkhornlaw14.KeysFull', WHERE WHAT IT READS IS OF BULK AT MOST 1048576: true; the input reads as it did. -/
def keysFullUptoRow : OpenClaim := { program := "ytbmjcjlenbgpkaa", sum := "c55aa962444dc51f525f4dd959149f6fad5cfe2365154384f919cbca0f9a2204", func := "inkhorn/inkhornlaw14.KeysFull", spec := "keysFull", unfollowed := true, recurses := true, apart := false, narrowed := true }
def KeysFullUptoSaid : Prop := keysFullUptoRow.holds Try.pinned (OpenSpec.upto keysFullSpec)

end Rows
end Go.Proofs.Ytbmjcjlenbgpkaa
