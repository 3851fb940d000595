/-
  No cell of these rows narrows 'for every input' (looked for: loops, veiled, ifaces, maps, wideKeys, modest, calm, conditions, laid).
  DERIVED. THE GIVEN ROWS OF THIS SEAT. 5 by the template 'for every input the law returns true; each argument reads behind the call as it read before'; 0 by the template 'total and deterministic' (their statements: YtcfbkoajhllcaaaTotals.lean).
  GIVEN WITH THE SEED: the statements are not yours to turn. If you find one false, say at which input.
  Laid BY PROGRAM, IN A SANDBOX (cutbox-rows.mjs): the forced cells as the released guide's own fill.sh prints them over the translation 7428f9b0b125adcf… (all of the seat's roots in one cut). By AI agents, Wed Nov 11 2026. No macro, syntax, notation, axiom, sorry.
-/
import Derived.Test.YtcfbkoajhllcaaaChecked
import GoSem.Claim
import GoSem.ClaimJoined
import GoSem.ClaimMapViews
import Derived.JoinedTies
import Derived.KernelRfl
namespace Go.Proofs.Ytcfbkoajhllcaaa
/- THE CELL 'sum', in the pinned program and in every row, IS THE sha256 OF THE DUMP (.gsa) THAT YtcfbkoajhllcaaaProg.lean LOADS. Nothing in Lean hashes anything: it is a label: what it is worth is what the hold of that sum in a sandbox is worth. -/
noncomputable def Try.pinned : Pinned := { name := "ytcfbkoajhllcaaa", sum := "7428f9b0b125adcf4a03520cef1099b91161b14873c4c8ac23079aa27f193b4e", checked := Try.checked }
namespace Rows
def none {H : Type} : Left H := { results := [], args := [] }

/-- 'inkhornlaw09.WordClips': WHATEVER THE INPUT: true; the input reads as it did. -/
def wordClipsSpec : ChangeSpec := { name := "wordClips", fn := fun _ => fun
  | [d1, d2, d3] => { results := [.lit (.bool true)], args := [d1, d2, d3] }
  | _ => none }
def wordClipsRow : OpenClaim := { program := "ytcfbkoajhllcaaa", sum := "7428f9b0b125adcf4a03520cef1099b91161b14873c4c8ac23079aa27f193b4e", func := "inkhorn/inkhornlaw09.WordClips", spec := "wordClips", inPlace := ["internal/bytealg.IndexByteString"], unfollowed := true, recurses := true, apart := false }
def WordClipsSaid : Prop := wordClipsRow.holds Try.pinned (OpenSpec.ofChange wordClipsSpec)

/-- ITS FALSE NEIGHBOUR: 'it returns false'. Refute it at one input. -/
def wordClipsWrong : ChangeSpec := { name := "wordClips", fn := fun _ => fun
  | [d1, d2, d3] => { results := [.lit (.bool false)], args := [d1, d2, d3] }
  | _ => none }
def WordClipsWrongFalsely : Prop := wordClipsRow.holds Try.pinned (OpenSpec.ofChange wordClipsWrong)

/-- 'inkhornlaw09.WordWalk': WHATEVER THE INPUT: true; the input reads as it did. -/
def wordWalkSpec : ChangeSpec := { name := "wordWalk", fn := fun _ => fun
  | [d1, d2] => { results := [.lit (.bool true)], args := [d1, d2] }
  | _ => none }
def wordWalkRow : OpenClaim := { program := "ytcfbkoajhllcaaa", sum := "7428f9b0b125adcf4a03520cef1099b91161b14873c4c8ac23079aa27f193b4e", func := "inkhorn/inkhornlaw09.WordWalk", spec := "wordWalk", inPlace := ["internal/bytealg.IndexByteString"], unfollowed := true, recurses := true, apart := false }
def WordWalkSaid : Prop := wordWalkRow.holds Try.pinned (OpenSpec.ofChange wordWalkSpec)

/-- ITS FALSE NEIGHBOUR: 'it returns false'. Refute it at one input. -/
def wordWalkWrong : ChangeSpec := { name := "wordWalk", fn := fun _ => fun
  | [d1, d2] => { results := [.lit (.bool false)], args := [d1, d2] }
  | _ => none }
def WordWalkWrongFalsely : Prop := wordWalkRow.holds Try.pinned (OpenSpec.ofChange wordWalkWrong)

/-- 'inkhornlaw09.WordWords': WHATEVER THE INPUT: true; the input reads as it did. -/
def wordWordsSpec : ChangeSpec := { name := "wordWords", fn := fun _ => fun
  | [d1, d2, d3] => { results := [.lit (.bool true)], args := [d1, d2, d3] }
  | _ => none }
def wordWordsRow : OpenClaim := { program := "ytcfbkoajhllcaaa", sum := "7428f9b0b125adcf4a03520cef1099b91161b14873c4c8ac23079aa27f193b4e", func := "inkhorn/inkhornlaw09.WordWords", spec := "wordWords", inPlace := ["internal/bytealg.IndexByteString"], unfollowed := true, recurses := true, apart := false }
def WordWordsSaid : Prop := wordWordsRow.holds Try.pinned (OpenSpec.ofChange wordWordsSpec)

/-- ITS FALSE NEIGHBOUR: 'it returns false'. Refute it at one input. -/
def wordWordsWrong : ChangeSpec := { name := "wordWords", fn := fun _ => fun
  | [d1, d2, d3] => { results := [.lit (.bool false)], args := [d1, d2, d3] }
  | _ => none }
def WordWordsWrongFalsely : Prop := wordWordsRow.holds Try.pinned (OpenSpec.ofChange wordWordsWrong)

/-- 'inkhornlaw09.WordBlocks': WHATEVER THE INPUT: true; the input reads as it did. -/
def wordBlocksSpec : ChangeSpec := { name := "wordBlocks", fn := fun _ => fun
  | [d1, d2] => { results := [.lit (.bool true)], args := [d1, d2] }
  | _ => none }
def wordBlocksRow : OpenClaim := { program := "ytcfbkoajhllcaaa", sum := "7428f9b0b125adcf4a03520cef1099b91161b14873c4c8ac23079aa27f193b4e", func := "inkhorn/inkhornlaw09.WordBlocks", spec := "wordBlocks", inPlace := ["internal/bytealg.IndexByteString"], unfollowed := true, recurses := true, apart := false }
def WordBlocksSaid : Prop := wordBlocksRow.holds Try.pinned (OpenSpec.ofChange wordBlocksSpec)

/-- ITS FALSE NEIGHBOUR: 'it returns false'. Refute it at one input. -/
def wordBlocksWrong : ChangeSpec := { name := "wordBlocks", fn := fun _ => fun
  | [d1, d2] => { results := [.lit (.bool false)], args := [d1, d2] }
  | _ => none }
def WordBlocksWrongFalsely : Prop := wordBlocksRow.holds Try.pinned (OpenSpec.ofChange wordBlocksWrong)

/-- 'inkhornlaw09.WordOnward': WHATEVER THE INPUT: true; the input reads as it did. -/
def wordOnwardSpec : ChangeSpec := { name := "wordOnward", fn := fun _ => fun
  | [d1, d2, d3] => { results := [.lit (.bool true)], args := [d1, d2, d3] }
  | _ => none }
def wordOnwardRow : OpenClaim := { program := "ytcfbkoajhllcaaa", sum := "7428f9b0b125adcf4a03520cef1099b91161b14873c4c8ac23079aa27f193b4e", func := "inkhorn/inkhornlaw09.WordOnward", spec := "wordOnward", inPlace := ["internal/bytealg.IndexByteString"], unfollowed := true, recurses := true, apart := false }
def WordOnwardSaid : Prop := wordOnwardRow.holds Try.pinned (OpenSpec.ofChange wordOnwardSpec)

/-- ITS FALSE NEIGHBOUR: 'it returns false'. Refute it at one input. -/
def wordOnwardWrong : ChangeSpec := { name := "wordOnward", fn := fun _ => fun
  | [d1, d2, d3] => { results := [.lit (.bool false)], args := [d1, d2, d3] }
  | _ => none }
def WordOnwardWrongFalsely : Prop := wordOnwardRow.holds Try.pinned (OpenSpec.ofChange wordOnwardWrong)

/- THE SECOND FORM. 'bulk': how many values and letters a reading holds, each counted each time it is reached (what is shared counts as often as it is met; a slice's spare places count too). A statement '..UptoSaid' is the law's where the arguments, and the package variables that the reading takes, are together of bulk at most 1048576: NARROWER than '..Said'. Prove '..Said' where nothing that the law and all that it calls make is longer than what came in: it says more and counts as full. Else prove '..UptoSaid'. A law counts once. -/
mutual
def uptoBulk {H : Type} : DataW H → Nat
  | .lit (.string bytes) => bytes.length + 1
  | .lit _ => 1
  | .nil => 1
  | .ptr d => uptoBulk d + 1
  | .slice elems spare => uptoBulkAll elems + uptoBulkAll spare + 1
  | .agg parts => uptoBulkAll parts + 1
  | .iface _ d => uptoBulk d + 1
  | .map entries => uptoBulkEntries entries + 1
  | .held _ => 1
def uptoBulkAll {H : Type} : List (DataW H) → Nat
  | [] => 0
  | d :: r => uptoBulk d + uptoBulkAll r
def uptoBulkEntries {H : Type} : List (Lit × DataW H) → Nat
  | [] => 0
  | x :: r => uptoBulkEntry x + uptoBulkEntries r
def uptoBulkEntry {H : Type} : Lit × DataW H → Nat
  | (.string bytes, d) => bytes.length + uptoBulk d + 1
  | (_, d) => uptoBulk d + 1
 end
def uptoSmall : (H : Type) → List (DataW H) → Bool := fun _ ds => decide (uptoBulkAll ds ≤ 1048576)
def OpenSpec.upto (s : _root_.Go.ChangeSpec) : _root_.Go.OpenSpec := { _root_.Go.OpenSpec.ofChange s with cond := some uptoSmall }

/-- 'inkhornlaw09.WordClips', WHERE WHAT IT READS IS OF BULK AT MOST 1048576: true; the input reads as it did. -/
def wordClipsUptoRow : OpenClaim := { program := "ytcfbkoajhllcaaa", sum := "7428f9b0b125adcf4a03520cef1099b91161b14873c4c8ac23079aa27f193b4e", func := "inkhorn/inkhornlaw09.WordClips", spec := "wordClips", inPlace := ["internal/bytealg.IndexByteString"], unfollowed := true, recurses := true, apart := false, narrowed := true }
def WordClipsUptoSaid : Prop := wordClipsUptoRow.holds Try.pinned (OpenSpec.upto wordClipsSpec)

/-- 'inkhornlaw09.WordWalk', WHERE WHAT IT READS IS OF BULK AT MOST 1048576: true; the input reads as it did. -/
def wordWalkUptoRow : OpenClaim := { program := "ytcfbkoajhllcaaa", sum := "7428f9b0b125adcf4a03520cef1099b91161b14873c4c8ac23079aa27f193b4e", func := "inkhorn/inkhornlaw09.WordWalk", spec := "wordWalk", inPlace := ["internal/bytealg.IndexByteString"], unfollowed := true, recurses := true, apart := false, narrowed := true }
def WordWalkUptoSaid : Prop := wordWalkUptoRow.holds Try.pinned (OpenSpec.upto wordWalkSpec)

/-- 'inkhornlaw09.WordWords', WHERE WHAT IT READS IS OF BULK AT MOST 1048576: true; the input reads as it did. -/
def wordWordsUptoRow : OpenClaim := { program := "ytcfbkoajhllcaaa", sum := "7428f9b0b125adcf4a03520cef1099b91161b14873c4c8ac23079aa27f193b4e", func := "inkhorn/inkhornlaw09.WordWords", spec := "wordWords", inPlace := ["internal/bytealg.IndexByteString"], unfollowed := true, recurses := true, apart := false, narrowed := true }
def WordWordsUptoSaid : Prop := wordWordsUptoRow.holds Try.pinned (OpenSpec.upto wordWordsSpec)

/-- 'inkhornlaw09.WordBlocks', WHERE WHAT IT READS IS OF BULK AT MOST 1048576: true; the input reads as it did. -/
def wordBlocksUptoRow : OpenClaim := { program := "ytcfbkoajhllcaaa", sum := "7428f9b0b125adcf4a03520cef1099b91161b14873c4c8ac23079aa27f193b4e", func := "inkhorn/inkhornlaw09.WordBlocks", spec := "wordBlocks", inPlace := ["internal/bytealg.IndexByteString"], unfollowed := true, recurses := true, apart := false, narrowed := true }
def WordBlocksUptoSaid : Prop := wordBlocksUptoRow.holds Try.pinned (OpenSpec.upto wordBlocksSpec)

/-- 'inkhornlaw09.WordOnward', WHERE WHAT IT READS IS OF BULK AT MOST 1048576: true; the input reads as it did. -/
def wordOnwardUptoRow : OpenClaim := { program := "ytcfbkoajhllcaaa", sum := "7428f9b0b125adcf4a03520cef1099b91161b14873c4c8ac23079aa27f193b4e", func := "inkhorn/inkhornlaw09.WordOnward", spec := "wordOnward", inPlace := ["internal/bytealg.IndexByteString"], unfollowed := true, recurses := true, apart := false, narrowed := true }
def WordOnwardUptoSaid : Prop := wordOnwardUptoRow.holds Try.pinned (OpenSpec.upto wordOnwardSpec)

end Rows
end Go.Proofs.Ytcfbkoajhllcaaa
