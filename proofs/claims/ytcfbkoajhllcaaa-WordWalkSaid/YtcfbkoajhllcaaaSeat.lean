/-
  The seat's types and functions, as instances (printed by mkseat.py).
-/
import Derived.Test.YtcfbkoajhllcaaaRul
import Derived.Test.YtcfbkoajhllcaaaRows
set_option linter.unusedVariables false
namespace Go.Ink
open Go Go.Proofs

instance : ElT Try.prog 1 1 8 .nilFunc := ⟨by kernel_rfl⟩
instance : CellT Try.prog 1 := ⟨fun _ => by kernel_rfl, fun _ => by kernel_rfl⟩
instance : IntT Try.prog 2 .i64 := ⟨by kernel_rfl⟩
instance : ElT Try.prog 2 1 8 (.int .i64 0) := ⟨by kernel_rfl⟩
instance : CellT Try.prog 2 := ⟨fun _ => by kernel_rfl, fun _ => by kernel_rfl⟩
instance : IntT Try.prog 3 .i64 := ⟨by kernel_rfl⟩
instance : ElT Try.prog 3 1 8 (.int .i64 0) := ⟨by kernel_rfl⟩
instance : CellT Try.prog 3 := ⟨fun _ => by kernel_rfl, fun _ => by kernel_rfl⟩
instance : BoolT Try.prog 4 := ⟨by kernel_rfl⟩
instance : ElT Try.prog 4 1 1 (.bool false) := ⟨by kernel_rfl⟩
instance : CellT Try.prog 4 := ⟨fun _ => by kernel_rfl, fun _ => by kernel_rfl⟩
instance : IntT Try.prog 5 .u8 := ⟨by kernel_rfl⟩
instance : ElT Try.prog 5 1 1 (.int .u8 0) := ⟨by kernel_rfl⟩
instance : CellT Try.prog 5 := ⟨fun _ => by kernel_rfl, fun _ => by kernel_rfl⟩
instance : StrT Try.prog 9 := ⟨by kernel_rfl⟩
instance : ElT Try.prog 9 1 16 (.string ⟨#[]⟩) := ⟨by kernel_rfl⟩
instance : CellT Try.prog 9 := ⟨fun _ => by kernel_rfl, fun _ => by kernel_rfl⟩
instance : IntT Try.prog 12 .u64 := ⟨by kernel_rfl⟩
instance : ElT Try.prog 12 1 8 (.int .u64 0) := ⟨by kernel_rfl⟩
instance : CellT Try.prog 12 := ⟨fun _ => by kernel_rfl, fun _ => by kernel_rfl⟩
instance : ElT Try.prog 13 2 24 (.agg #[(.string ⟨#[]⟩), (.int .u64 0)]) := ⟨by kernel_rfl⟩
instance : AggT Try.prog 13 2 := ⟨fun _ => by kernel_rfl, fun _ => by kernel_rfl⟩
instance : FldT Try.prog 13 0 0 := ⟨fun _ _ => by kernel_rfl⟩
instance : FldT Try.prog 13 1 1 := ⟨fun _ _ => by kernel_rfl⟩
instance : BldT Try.prog 13 #[(0, 1), (1, 1)] #[(.string ⟨#[]⟩), (.int .u64 0)] := ⟨fun _ => by kernel_rfl⟩
instance : ElT Try.prog 20 1 16 .nilIface := ⟨by kernel_rfl⟩
instance : CellT Try.prog 20 := ⟨fun _ => by kernel_rfl, fun _ => by kernel_rfl⟩
instance : IntT Try.prog 21 .i32 := ⟨by kernel_rfl⟩
instance : ElT Try.prog 21 1 4 (.int .i32 0) := ⟨by kernel_rfl⟩
instance : CellT Try.prog 21 := ⟨fun _ => by kernel_rfl, fun _ => by kernel_rfl⟩
instance : SlT Try.prog 22 39 := ⟨by kernel_rfl⟩
instance : ElT Try.prog 22 1 24 (.slice none 0 0) := ⟨by kernel_rfl⟩
instance : CellT Try.prog 22 := ⟨fun _ => by kernel_rfl, fun _ => by kernel_rfl⟩
instance : ElT Try.prog 23 2 16 (.agg #[(.int .i64 0), (.int .i64 0)]) := ⟨by kernel_rfl⟩
instance : AggT Try.prog 23 2 := ⟨fun _ => by kernel_rfl, fun _ => by kernel_rfl⟩
instance : FldT Try.prog 23 0 0 := ⟨fun _ _ => by kernel_rfl⟩
instance : FldT Try.prog 23 1 1 := ⟨fun _ _ => by kernel_rfl⟩
instance : BldT Try.prog 23 #[(0, 1), (1, 1)] #[(.int .i64 0), (.int .i64 0)] := ⟨fun _ => by kernel_rfl⟩
instance : ElT Try.prog 24 2 16 (.agg #[(.int .i64 0), (.int .i64 0)]) := ⟨by kernel_rfl⟩
instance : AggT Try.prog 24 2 := ⟨fun _ => by kernel_rfl, fun _ => by kernel_rfl⟩
instance : FldT Try.prog 24 0 0 := ⟨fun _ _ => by kernel_rfl⟩
instance : FldT Try.prog 24 1 1 := ⟨fun _ _ => by kernel_rfl⟩
instance : BldT Try.prog 24 #[(0, 1), (1, 1)] #[(.int .i64 0), (.int .i64 0)] := ⟨fun _ => by kernel_rfl⟩
instance : ElT Try.prog 25 1 8 .nilFunc := ⟨by kernel_rfl⟩
instance : CellT Try.prog 25 := ⟨fun _ => by kernel_rfl, fun _ => by kernel_rfl⟩
instance : ElT Try.prog 26 1 8 .nilFunc := ⟨by kernel_rfl⟩
instance : CellT Try.prog 26 := ⟨fun _ => by kernel_rfl, fun _ => by kernel_rfl⟩
instance : ElT Try.prog 27 1 8 .nilFunc := ⟨by kernel_rfl⟩
instance : CellT Try.prog 27 := ⟨fun _ => by kernel_rfl, fun _ => by kernel_rfl⟩
instance : ElT Try.prog 28 1 8 .nilFunc := ⟨by kernel_rfl⟩
instance : CellT Try.prog 28 := ⟨fun _ => by kernel_rfl, fun _ => by kernel_rfl⟩
instance : ElT Try.prog 29 1 8 .nilFunc := ⟨by kernel_rfl⟩
instance : CellT Try.prog 29 := ⟨fun _ => by kernel_rfl, fun _ => by kernel_rfl⟩
instance : ElT Try.prog 30 1 8 .nilFunc := ⟨by kernel_rfl⟩
instance : CellT Try.prog 30 := ⟨fun _ => by kernel_rfl, fun _ => by kernel_rfl⟩
instance : SlT Try.prog 31 24 := ⟨by kernel_rfl⟩
instance : ElT Try.prog 31 1 24 (.slice none 0 0) := ⟨by kernel_rfl⟩
instance : CellT Try.prog 31 := ⟨fun _ => by kernel_rfl, fun _ => by kernel_rfl⟩
instance : ElT Try.prog 32 1 8 .nilFunc := ⟨by kernel_rfl⟩
instance : CellT Try.prog 32 := ⟨fun _ => by kernel_rfl, fun _ => by kernel_rfl⟩
instance : ElT Try.prog 33 1 8 .nilFunc := ⟨by kernel_rfl⟩
instance : CellT Try.prog 33 := ⟨fun _ => by kernel_rfl, fun _ => by kernel_rfl⟩
instance : ElT Try.prog 34 1 8 .nilFunc := ⟨by kernel_rfl⟩
instance : CellT Try.prog 34 := ⟨fun _ => by kernel_rfl, fun _ => by kernel_rfl⟩
instance : ElT Try.prog 35 1 8 .nilFunc := ⟨by kernel_rfl⟩
instance : CellT Try.prog 35 := ⟨fun _ => by kernel_rfl, fun _ => by kernel_rfl⟩
instance : ElT Try.prog 36 1 8 .nilFunc := ⟨by kernel_rfl⟩
instance : CellT Try.prog 36 := ⟨fun _ => by kernel_rfl, fun _ => by kernel_rfl⟩
instance : ElT Try.prog 37 1 8 .nilFunc := ⟨by kernel_rfl⟩
instance : CellT Try.prog 37 := ⟨fun _ => by kernel_rfl, fun _ => by kernel_rfl⟩
instance : ElT Try.prog 38 1 8 .nilFunc := ⟨by kernel_rfl⟩
instance : CellT Try.prog 38 := ⟨fun _ => by kernel_rfl, fun _ => by kernel_rfl⟩
instance : SlT Try.prog 39 21 := ⟨by kernel_rfl⟩
instance : ElT Try.prog 39 1 24 (.slice none 0 0) := ⟨by kernel_rfl⟩
instance : CellT Try.prog 39 := ⟨fun _ => by kernel_rfl, fun _ => by kernel_rfl⟩
instance : ElT Try.prog 40 1 8 .nilFunc := ⟨by kernel_rfl⟩
instance : CellT Try.prog 40 := ⟨fun _ => by kernel_rfl, fun _ => by kernel_rfl⟩
instance : ElT Try.prog 41 1 8 .nilFunc := ⟨by kernel_rfl⟩
instance : CellT Try.prog 41 := ⟨fun _ => by kernel_rfl, fun _ => by kernel_rfl⟩
instance : ElT Try.prog 42 1 8 .nilFunc := ⟨by kernel_rfl⟩
instance : CellT Try.prog 42 := ⟨fun _ => by kernel_rfl, fun _ => by kernel_rfl⟩
instance : ElT Try.prog 43 1 8 .nilFunc := ⟨by kernel_rfl⟩
instance : CellT Try.prog 43 := ⟨fun _ => by kernel_rfl, fun _ => by kernel_rfl⟩
instance : ElT Try.prog 44 1 8 .nilFunc := ⟨by kernel_rfl⟩
instance : CellT Try.prog 44 := ⟨fun _ => by kernel_rfl, fun _ => by kernel_rfl⟩
instance : ElT Try.prog 45 1 8 .nilFunc := ⟨by kernel_rfl⟩
instance : CellT Try.prog 45 := ⟨fun _ => by kernel_rfl, fun _ => by kernel_rfl⟩
instance : ElT Try.prog 46 1 8 .nilFunc := ⟨by kernel_rfl⟩
instance : CellT Try.prog 46 := ⟨fun _ => by kernel_rfl, fun _ => by kernel_rfl⟩
instance : ElT Try.prog 47 1 8 .nilFunc := ⟨by kernel_rfl⟩
instance : CellT Try.prog 47 := ⟨fun _ => by kernel_rfl, fun _ => by kernel_rfl⟩
instance : ElT Try.prog 48 1 8 .nilFunc := ⟨by kernel_rfl⟩
instance : CellT Try.prog 48 := ⟨fun _ => by kernel_rfl, fun _ => by kernel_rfl⟩
instance : ElT Try.prog 49 1 8 .nilFunc := ⟨by kernel_rfl⟩
instance : CellT Try.prog 49 := ⟨fun _ => by kernel_rfl, fun _ => by kernel_rfl⟩
instance : ElT Try.prog 50 1 8 .nilFunc := ⟨by kernel_rfl⟩
instance : CellT Try.prog 50 := ⟨fun _ => by kernel_rfl, fun _ => by kernel_rfl⟩
instance : ElT Try.prog 51 1 8 .nilFunc := ⟨by kernel_rfl⟩
instance : CellT Try.prog 51 := ⟨fun _ => by kernel_rfl, fun _ => by kernel_rfl⟩
instance : ElT Try.prog 52 1 8 .nilFunc := ⟨by kernel_rfl⟩
instance : CellT Try.prog 52 := ⟨fun _ => by kernel_rfl, fun _ => by kernel_rfl⟩
instance : ElT Try.prog 53 1 8 .nilFunc := ⟨by kernel_rfl⟩
instance : CellT Try.prog 53 := ⟨fun _ => by kernel_rfl, fun _ => by kernel_rfl⟩
instance : ElT Try.prog 54 1 8 .nilFunc := ⟨by kernel_rfl⟩
instance : CellT Try.prog 54 := ⟨fun _ => by kernel_rfl, fun _ => by kernel_rfl⟩
instance : ElT Try.prog 55 1 8 .nilFunc := ⟨by kernel_rfl⟩
instance : CellT Try.prog 55 := ⟨fun _ => by kernel_rfl, fun _ => by kernel_rfl⟩
instance : ElT Try.prog 61 1 8 .nilFunc := ⟨by kernel_rfl⟩
instance : CellT Try.prog 61 := ⟨fun _ => by kernel_rfl, fun _ => by kernel_rfl⟩
instance : IntT Try.prog 62 .u32 := ⟨by kernel_rfl⟩
instance : ElT Try.prog 62 1 4 (.int .u32 0) := ⟨by kernel_rfl⟩
instance : CellT Try.prog 62 := ⟨fun _ => by kernel_rfl, fun _ => by kernel_rfl⟩
instance : ElT Try.prog 65 1 8 .nilFunc := ⟨by kernel_rfl⟩
instance : CellT Try.prog 65 := ⟨fun _ => by kernel_rfl, fun _ => by kernel_rfl⟩
instance : PtrT Try.prog 66 5 := ⟨by kernel_rfl⟩
instance : ElT Try.prog 66 1 8 (.pointer none) := ⟨by kernel_rfl⟩
instance : CellT Try.prog 66 := ⟨fun _ => by kernel_rfl, fun _ => by kernel_rfl⟩
instance : ElT Try.prog 71 1 8 (.pointer none) := ⟨by kernel_rfl⟩
instance : CellT Try.prog 71 := ⟨fun _ => by kernel_rfl, fun _ => by kernel_rfl⟩
instance : FnT Try.prog 3 := ⟨fun _ _ => by kernel_rfl⟩
instance : FnT Try.prog 4 := ⟨fun _ _ => by kernel_rfl⟩
instance : FnT Try.prog 5 := ⟨fun _ _ => by kernel_rfl⟩
instance : FnT Try.prog 6 := ⟨fun _ _ => by kernel_rfl⟩
instance : FnT Try.prog 7 := ⟨fun _ _ => by kernel_rfl⟩
instance : FnT Try.prog 8 := ⟨fun _ _ => by kernel_rfl⟩
instance : FnT Try.prog 9 := ⟨fun _ _ => by kernel_rfl⟩
instance : FnT Try.prog 10 := ⟨fun _ _ => by kernel_rfl⟩
instance : FnT Try.prog 11 := ⟨fun _ _ => by kernel_rfl⟩
instance : FnT Try.prog 12 := ⟨fun _ _ => by kernel_rfl⟩
instance : FnT Try.prog 13 := ⟨fun _ _ => by kernel_rfl⟩
instance : FnT Try.prog 14 := ⟨fun _ _ => by kernel_rfl⟩
instance : FnT Try.prog 15 := ⟨fun _ _ => by kernel_rfl⟩
instance : FnT Try.prog 16 := ⟨fun _ _ => by kernel_rfl⟩
instance : FnT Try.prog 17 := ⟨fun _ _ => by kernel_rfl⟩
instance : FnT Try.prog 18 := ⟨fun _ _ => by kernel_rfl⟩
instance : FnT Try.prog 19 := ⟨fun _ _ => by kernel_rfl⟩
instance : FnT Try.prog 20 := ⟨fun _ _ => by kernel_rfl⟩
instance : FnT Try.prog 21 := ⟨fun _ _ => by kernel_rfl⟩
instance : FnT Try.prog 22 := ⟨fun _ _ => by kernel_rfl⟩
instance : FnT Try.prog 23 := ⟨fun _ _ => by kernel_rfl⟩
instance : FnT Try.prog 24 := ⟨fun _ _ => by kernel_rfl⟩
instance : FnT Try.prog 25 := ⟨fun _ _ => by kernel_rfl⟩
instance : FnT Try.prog 26 := ⟨fun _ _ => by kernel_rfl⟩
instance : FnT Try.prog 27 := ⟨fun _ _ => by kernel_rfl⟩
instance : FnT Try.prog 28 := ⟨fun _ _ => by kernel_rfl⟩
instance : FnT Try.prog 29 := ⟨fun _ _ => by kernel_rfl⟩
instance : FnT Try.prog 30 := ⟨fun _ _ => by kernel_rfl⟩
instance : FnT Try.prog 31 := ⟨fun _ _ => by kernel_rfl⟩
instance : FnT Try.prog 32 := ⟨fun _ _ => by kernel_rfl⟩
instance : FnT Try.prog 33 := ⟨fun _ _ => by kernel_rfl⟩
instance : FnT Try.prog 34 := ⟨fun _ _ => by kernel_rfl⟩
instance : FnT Try.prog 35 := ⟨fun _ _ => by kernel_rfl⟩
instance : FnT Try.prog 36 := ⟨fun _ _ => by kernel_rfl⟩
instance : FnT Try.prog 37 := ⟨fun _ _ => by kernel_rfl⟩
instance : FnT Try.prog 38 := ⟨fun _ _ => by kernel_rfl⟩
instance : FnT Try.prog 39 := ⟨fun _ _ => by kernel_rfl⟩
instance : FnT Try.prog 40 := ⟨fun _ _ => by kernel_rfl⟩
instance : FnT Try.prog 41 := ⟨fun _ _ => by kernel_rfl⟩
instance : FnT Try.prog 42 := ⟨fun _ _ => by kernel_rfl⟩
instance : FnT Try.prog 43 := ⟨fun _ _ => by kernel_rfl⟩
instance : FnT Try.prog 44 := ⟨fun _ _ => by kernel_rfl⟩
instance : FnT Try.prog 45 := ⟨fun _ _ => by kernel_rfl⟩
instance : FnT Try.prog 46 := ⟨fun _ _ => by kernel_rfl⟩
instance : FnT Try.prog 47 := ⟨fun _ _ => by kernel_rfl⟩
instance : FnT Try.prog 48 := ⟨fun _ _ => by kernel_rfl⟩
end Go.Ink
