/-
  The parser's types.
-/
import Derived.Test.YtbmjcjlenbgpkaaIf
import Derived.Test.YtbmjcjlenbgpkaaHd
set_option linter.unusedVariables false
set_option linter.unusedSimpArgs false
namespace Go.Ink
open Go Go.Proofs Go.RowKit

instance : IfT Try.prog 76 := ⟨by kernel_rfl⟩
instance : CcT Try.prog 83 (.agg #[]) := ⟨fun _ _ => by kernel_rfl, ⟨Try.prog.fieldsOf 83, by kernel_rfl⟩, fun _ => by kernel_rfl⟩
instance : MethT Try.prog 83 "inkhorn/keys.take" 72 := ⟨fun _ _ => by kernel_rfl⟩
instance : CcT Try.prog 110 (.agg #[]) := ⟨fun _ _ => by kernel_rfl, ⟨Try.prog.fieldsOf 110, by kernel_rfl⟩, fun _ => by kernel_rfl⟩
instance : MethT Try.prog 110 "inkhorn/keys.take" 78 := ⟨fun _ _ => by kernel_rfl⟩
instance : CcT Try.prog 113 (.agg #[]) := ⟨fun _ _ => by kernel_rfl, ⟨Try.prog.fieldsOf 113, by kernel_rfl⟩, fun _ => by kernel_rfl⟩
instance : MethT Try.prog 113 "inkhorn/keys.take" 80 := ⟨fun _ _ => by kernel_rfl⟩
instance : CcT Try.prog 112 (.agg #[.bool false]) := ⟨fun _ _ => by kernel_rfl, ⟨Try.prog.fieldsOf 112, by kernel_rfl⟩, fun _ => by kernel_rfl⟩
instance : MethT Try.prog 112 "inkhorn/keys.take" 79 := ⟨fun _ _ => by kernel_rfl⟩
instance : CcT Try.prog 114 (.agg #[]) := ⟨fun _ _ => by kernel_rfl, ⟨Try.prog.fieldsOf 114, by kernel_rfl⟩, fun _ => by kernel_rfl⟩
instance : MethT Try.prog 114 "inkhorn/keys.take" 81 := ⟨fun _ _ => by kernel_rfl⟩
instance : CcT Try.prog 115 (.agg #[]) := ⟨fun _ _ => by kernel_rfl, ⟨Try.prog.fieldsOf 115, by kernel_rfl⟩, fun _ => by kernel_rfl⟩
instance : MethT Try.prog 115 "inkhorn/keys.take" 82 := ⟨fun _ _ => by kernel_rfl⟩
instance : CcT Try.prog 116 (.agg #[]) := ⟨fun _ _ => by kernel_rfl, ⟨Try.prog.fieldsOf 116, by kernel_rfl⟩, fun _ => by kernel_rfl⟩
instance : MethT Try.prog 116 "inkhorn/keys.take" 83 := ⟨fun _ _ => by kernel_rfl⟩
instance : CcT Try.prog 81 (.agg #[]) := ⟨fun _ _ => by kernel_rfl, ⟨Try.prog.fieldsOf 81, by kernel_rfl⟩, fun _ => by kernel_rfl⟩
instance : MethT Try.prog 81 "inkhorn/keys.take" 71 := ⟨fun _ _ => by kernel_rfl⟩
instance : EqST Try.prog 43 [some .i32, some .i64, some .i32, some .i32, some .i32, some .i32, none] := ⟨by kernel_rfl, by kernel_rfl, by kernel_rfl, by kernel_rfl⟩
instance : ElT Try.prog 81 0 0 (.agg #[]) := ⟨by kernel_rfl⟩
instance : AggT Try.prog 81 0 := ⟨fun _ => by kernel_rfl, fun _ => by kernel_rfl⟩
end Go.Ink
