/-
  The seat's types and functions, as instances (printed by mkseat.py).
-/
import Derived.Test.YtepjngapfmfkeaaRul
import Derived.Test.YtepjngapfmfkeaaRows
set_option linter.unusedVariables false
namespace Go.Ink
open Go Go.Proofs

instance : ElT Try.prog 1 1 8 .nilFunc := ⟨by kernel_rfl⟩
instance : CellT Try.prog 1 := ⟨fun _ => by kernel_rfl, fun _ => by kernel_rfl⟩
instance : IntT Try.prog 2 .i64 := ⟨by kernel_rfl⟩
instance : ElT Try.prog 2 1 8 (.int .i64 0) := ⟨by kernel_rfl⟩
instance : CellT Try.prog 2 := ⟨fun _ => by kernel_rfl, fun _ => by kernel_rfl⟩
instance : IntT Try.prog 3 .i64 := ⟨by kernel_rfl⟩
instance : ElT Try.prog 3 1 8 (.int .i64 0) := ⟨by kernel_rfl⟩
instance : CellT Try.prog 3 := ⟨fun _ => by kernel_rfl, fun _ => by kernel_rfl⟩
instance : BoolT Try.prog 4 := ⟨by kernel_rfl⟩
instance : ElT Try.prog 4 1 1 (.bool false) := ⟨by kernel_rfl⟩
instance : CellT Try.prog 4 := ⟨fun _ => by kernel_rfl, fun _ => by kernel_rfl⟩
instance : IntT Try.prog 5 .u8 := ⟨by kernel_rfl⟩
instance : ElT Try.prog 5 1 1 (.int .u8 0) := ⟨by kernel_rfl⟩
instance : CellT Try.prog 5 := ⟨fun _ => by kernel_rfl, fun _ => by kernel_rfl⟩
instance : StrT Try.prog 9 := ⟨by kernel_rfl⟩
instance : ElT Try.prog 9 1 16 (.string ⟨#[]⟩) := ⟨by kernel_rfl⟩
instance : CellT Try.prog 9 := ⟨fun _ => by kernel_rfl, fun _ => by kernel_rfl⟩
instance : IntT Try.prog 12 .u64 := ⟨by kernel_rfl⟩
instance : ElT Try.prog 12 1 8 (.int .u64 0) := ⟨by kernel_rfl⟩
instance : CellT Try.prog 12 := ⟨fun _ => by kernel_rfl, fun _ => by kernel_rfl⟩
instance : ElT Try.prog 13 2 24 (.agg #[(.string ⟨#[]⟩), (.int .u64 0)]) := ⟨by kernel_rfl⟩
instance : AggT Try.prog 13 2 := ⟨fun _ => by kernel_rfl, fun _ => by kernel_rfl⟩
instance : FldT Try.prog 13 0 0 := ⟨fun _ _ => by kernel_rfl⟩
instance : FldT Try.prog 13 1 1 := ⟨fun _ _ => by kernel_rfl⟩
instance : BldT Try.prog 13 #[(0, 1), (1, 1)] #[(.string ⟨#[]⟩), (.int .u64 0)] := ⟨fun _ => by kernel_rfl⟩
instance : ElT Try.prog 20 1 16 .nilIface := ⟨by kernel_rfl⟩
instance : CellT Try.prog 20 := ⟨fun _ => by kernel_rfl, fun _ => by kernel_rfl⟩
instance : IntT Try.prog 21 .i32 := ⟨by kernel_rfl⟩
instance : ElT Try.prog 21 1 4 (.int .i32 0) := ⟨by kernel_rfl⟩
instance : CellT Try.prog 21 := ⟨fun _ => by kernel_rfl, fun _ => by kernel_rfl⟩
instance : SlT Try.prog 22 35 := ⟨by kernel_rfl⟩
instance : ElT Try.prog 22 1 24 (.slice none 0 0) := ⟨by kernel_rfl⟩
instance : CellT Try.prog 22 := ⟨fun _ => by kernel_rfl, fun _ => by kernel_rfl⟩
instance : ElT Try.prog 23 2 16 (.agg #[(.int .i64 0), (.int .i64 0)]) := ⟨by kernel_rfl⟩
instance : AggT Try.prog 23 2 := ⟨fun _ => by kernel_rfl, fun _ => by kernel_rfl⟩
instance : FldT Try.prog 23 0 0 := ⟨fun _ _ => by kernel_rfl⟩
instance : FldT Try.prog 23 1 1 := ⟨fun _ _ => by kernel_rfl⟩
instance : BldT Try.prog 23 #[(0, 1), (1, 1)] #[(.int .i64 0), (.int .i64 0)] := ⟨fun _ => by kernel_rfl⟩
instance : ElT Try.prog 24 2 16 (.agg #[(.int .i64 0), (.int .i64 0)]) := ⟨by kernel_rfl⟩
instance : AggT Try.prog 24 2 := ⟨fun _ => by kernel_rfl, fun _ => by kernel_rfl⟩
instance : FldT Try.prog 24 0 0 := ⟨fun _ _ => by kernel_rfl⟩
instance : FldT Try.prog 24 1 1 := ⟨fun _ _ => by kernel_rfl⟩
instance : BldT Try.prog 24 #[(0, 1), (1, 1)] #[(.int .i64 0), (.int .i64 0)] := ⟨fun _ => by kernel_rfl⟩
instance : ElT Try.prog 25 5 40 (.agg #[(.int .i64 0), (.int .i64 0), (.int .i64 0), (.int .i64 0), (.int .i64 0)]) := ⟨by kernel_rfl⟩
instance : AggT Try.prog 25 5 := ⟨fun _ => by kernel_rfl, fun _ => by kernel_rfl⟩
instance : FldT Try.prog 25 0 0 := ⟨fun _ _ => by kernel_rfl⟩
instance : FldT Try.prog 25 1 2 := ⟨fun _ _ => by kernel_rfl⟩
instance : FldT Try.prog 25 2 4 := ⟨fun _ _ => by kernel_rfl⟩
instance : BldT Try.prog 25 #[(0, 2), (2, 2), (4, 1)] #[(.int .i64 0), (.int .i64 0), (.int .i64 0), (.int .i64 0), (.int .i64 0)] := ⟨fun _ => by kernel_rfl⟩
instance : ElT Try.prog 26 5 40 (.agg #[(.int .i64 0), (.int .i64 0), (.int .i64 0), (.int .i64 0), (.int .i64 0)]) := ⟨by kernel_rfl⟩
instance : AggT Try.prog 26 5 := ⟨fun _ => by kernel_rfl, fun _ => by kernel_rfl⟩
instance : FldT Try.prog 26 0 0 := ⟨fun _ _ => by kernel_rfl⟩
instance : FldT Try.prog 26 1 2 := ⟨fun _ _ => by kernel_rfl⟩
instance : FldT Try.prog 26 2 4 := ⟨fun _ _ => by kernel_rfl⟩
instance : BldT Try.prog 26 #[(0, 2), (2, 2), (4, 1)] #[(.int .i64 0), (.int .i64 0), (.int .i64 0), (.int .i64 0), (.int .i64 0)] := ⟨fun _ => by kernel_rfl⟩
instance : ElT Try.prog 27 1 8 .nilFunc := ⟨by kernel_rfl⟩
instance : CellT Try.prog 27 := ⟨fun _ => by kernel_rfl, fun _ => by kernel_rfl⟩
instance : ElT Try.prog 28 1 8 .nilFunc := ⟨by kernel_rfl⟩
instance : CellT Try.prog 28 := ⟨fun _ => by kernel_rfl, fun _ => by kernel_rfl⟩
instance : ElT Try.prog 29 2 32 (.agg #[(.int .i64 0), (.slice none 0 0)]) := ⟨by kernel_rfl⟩
instance : AggT Try.prog 29 2 := ⟨fun _ => by kernel_rfl, fun _ => by kernel_rfl⟩
instance : FldT Try.prog 29 0 0 := ⟨fun _ _ => by kernel_rfl⟩
instance : FldT Try.prog 29 1 1 := ⟨fun _ _ => by kernel_rfl⟩
instance : BldT Try.prog 29 #[(0, 1), (1, 1)] #[(.int .i64 0), (.slice none 0 0)] := ⟨fun _ => by kernel_rfl⟩
instance : ElT Try.prog 30 2 32 (.agg #[(.int .i64 0), (.slice none 0 0)]) := ⟨by kernel_rfl⟩
instance : AggT Try.prog 30 2 := ⟨fun _ => by kernel_rfl, fun _ => by kernel_rfl⟩
instance : FldT Try.prog 30 0 0 := ⟨fun _ _ => by kernel_rfl⟩
instance : FldT Try.prog 30 1 1 := ⟨fun _ _ => by kernel_rfl⟩
instance : BldT Try.prog 30 #[(0, 1), (1, 1)] #[(.int .i64 0), (.slice none 0 0)] := ⟨fun _ => by kernel_rfl⟩
instance : IntT Try.prog 31 .i64 := ⟨by kernel_rfl⟩
instance : ElT Try.prog 31 1 8 (.int .i64 0) := ⟨by kernel_rfl⟩
instance : CellT Try.prog 31 := ⟨fun _ => by kernel_rfl, fun _ => by kernel_rfl⟩
instance : ElT Try.prog 33 1 8 .nilFunc := ⟨by kernel_rfl⟩
instance : CellT Try.prog 33 := ⟨fun _ => by kernel_rfl, fun _ => by kernel_rfl⟩
instance : ElT Try.prog 34 1 8 .nilFunc := ⟨by kernel_rfl⟩
instance : CellT Try.prog 34 := ⟨fun _ => by kernel_rfl, fun _ => by kernel_rfl⟩
instance : SlT Try.prog 35 21 := ⟨by kernel_rfl⟩
instance : ElT Try.prog 35 1 24 (.slice none 0 0) := ⟨by kernel_rfl⟩
instance : CellT Try.prog 35 := ⟨fun _ => by kernel_rfl, fun _ => by kernel_rfl⟩
instance : ElT Try.prog 36 1 8 .nilFunc := ⟨by kernel_rfl⟩
instance : CellT Try.prog 36 := ⟨fun _ => by kernel_rfl, fun _ => by kernel_rfl⟩
instance : ElT Try.prog 37 1 8 .nilFunc := ⟨by kernel_rfl⟩
instance : CellT Try.prog 37 := ⟨fun _ => by kernel_rfl, fun _ => by kernel_rfl⟩
instance : ElT Try.prog 38 1 8 .nilFunc := ⟨by kernel_rfl⟩
instance : CellT Try.prog 38 := ⟨fun _ => by kernel_rfl, fun _ => by kernel_rfl⟩
instance : ElT Try.prog 40 1 8 .nilFunc := ⟨by kernel_rfl⟩
instance : CellT Try.prog 40 := ⟨fun _ => by kernel_rfl, fun _ => by kernel_rfl⟩
instance : ElT Try.prog 41 4 48 (.agg #[(.int .i64 0), (.slice none 0 0), (.bool false), (.int .i64 0)]) := ⟨by kernel_rfl⟩
instance : AggT Try.prog 41 4 := ⟨fun _ => by kernel_rfl, fun _ => by kernel_rfl⟩
instance : FldT Try.prog 41 0 0 := ⟨fun _ _ => by kernel_rfl⟩
instance : FldT Try.prog 41 1 2 := ⟨fun _ _ => by kernel_rfl⟩
instance : FldT Try.prog 41 2 3 := ⟨fun _ _ => by kernel_rfl⟩
instance : BldT Try.prog 41 #[(0, 2), (2, 1), (3, 1)] #[(.int .i64 0), (.slice none 0 0), (.bool false), (.int .i64 0)] := ⟨fun _ => by kernel_rfl⟩
instance : ElT Try.prog 42 4 48 (.agg #[(.int .i64 0), (.slice none 0 0), (.bool false), (.int .i64 0)]) := ⟨by kernel_rfl⟩
instance : AggT Try.prog 42 4 := ⟨fun _ => by kernel_rfl, fun _ => by kernel_rfl⟩
instance : FldT Try.prog 42 0 0 := ⟨fun _ _ => by kernel_rfl⟩
instance : FldT Try.prog 42 1 2 := ⟨fun _ _ => by kernel_rfl⟩
instance : FldT Try.prog 42 2 3 := ⟨fun _ _ => by kernel_rfl⟩
instance : BldT Try.prog 42 #[(0, 2), (2, 1), (3, 1)] #[(.int .i64 0), (.slice none 0 0), (.bool false), (.int .i64 0)] := ⟨fun _ => by kernel_rfl⟩
instance : ElT Try.prog 43 1 8 .nilFunc := ⟨by kernel_rfl⟩
instance : CellT Try.prog 43 := ⟨fun _ => by kernel_rfl, fun _ => by kernel_rfl⟩
instance : ElT Try.prog 44 1 8 .nilFunc := ⟨by kernel_rfl⟩
instance : CellT Try.prog 44 := ⟨fun _ => by kernel_rfl, fun _ => by kernel_rfl⟩
instance : ElT Try.prog 45 1 8 .nilFunc := ⟨by kernel_rfl⟩
instance : CellT Try.prog 45 := ⟨fun _ => by kernel_rfl, fun _ => by kernel_rfl⟩
instance : ElT Try.prog 46 1 8 .nilFunc := ⟨by kernel_rfl⟩
instance : CellT Try.prog 46 := ⟨fun _ => by kernel_rfl, fun _ => by kernel_rfl⟩
instance : ElT Try.prog 47 1 8 .nilFunc := ⟨by kernel_rfl⟩
instance : CellT Try.prog 47 := ⟨fun _ => by kernel_rfl, fun _ => by kernel_rfl⟩
instance : ElT Try.prog 48 1 24 (.agg #[(.slice none 0 0)]) := ⟨by kernel_rfl⟩
instance : AggT Try.prog 48 1 := ⟨fun _ => by kernel_rfl, fun _ => by kernel_rfl⟩
instance : FldT Try.prog 48 0 0 := ⟨fun _ _ => by kernel_rfl⟩
instance : BldT Try.prog 48 #[(0, 1)] #[(.slice none 0 0)] := ⟨fun _ => by kernel_rfl⟩
instance : ElT Try.prog 49 1 24 (.agg #[(.slice none 0 0)]) := ⟨by kernel_rfl⟩
instance : AggT Try.prog 49 1 := ⟨fun _ => by kernel_rfl, fun _ => by kernel_rfl⟩
instance : FldT Try.prog 49 0 0 := ⟨fun _ _ => by kernel_rfl⟩
instance : BldT Try.prog 49 #[(0, 1)] #[(.slice none 0 0)] := ⟨fun _ => by kernel_rfl⟩
instance : ElT Try.prog 51 1 8 .nilFunc := ⟨by kernel_rfl⟩
instance : CellT Try.prog 51 := ⟨fun _ => by kernel_rfl, fun _ => by kernel_rfl⟩
instance : ElT Try.prog 52 1 8 .nilFunc := ⟨by kernel_rfl⟩
instance : CellT Try.prog 52 := ⟨fun _ => by kernel_rfl, fun _ => by kernel_rfl⟩
instance : ElT Try.prog 53 1 8 .nilFunc := ⟨by kernel_rfl⟩
instance : CellT Try.prog 53 := ⟨fun _ => by kernel_rfl, fun _ => by kernel_rfl⟩
instance : ElT Try.prog 54 1 8 .nilFunc := ⟨by kernel_rfl⟩
instance : CellT Try.prog 54 := ⟨fun _ => by kernel_rfl, fun _ => by kernel_rfl⟩
instance : ElT Try.prog 55 2 16 (.agg #[(.int .i64 0), (.int .i64 0)]) := ⟨by kernel_rfl⟩
instance : AggT Try.prog 55 2 := ⟨fun _ => by kernel_rfl, fun _ => by kernel_rfl⟩
instance : ArrT Try.prog 55 2 3 := ⟨by kernel_rfl⟩
instance : ElT Try.prog 56 1 8 .nilFunc := ⟨by kernel_rfl⟩
instance : CellT Try.prog 56 := ⟨fun _ => by kernel_rfl, fun _ => by kernel_rfl⟩
instance : ElT Try.prog 57 2 16 (.agg #[(.int .i32 0), (.int .i64 0)]) := ⟨by kernel_rfl⟩
instance : AggT Try.prog 57 2 := ⟨fun _ => by kernel_rfl, fun _ => by kernel_rfl⟩
instance : FldT Try.prog 57 0 0 := ⟨fun _ _ => by kernel_rfl⟩
instance : FldT Try.prog 57 1 1 := ⟨fun _ _ => by kernel_rfl⟩
instance : BldT Try.prog 57 #[(0, 1), (1, 1)] #[(.int .i32 0), (.int .i64 0)] := ⟨fun _ => by kernel_rfl⟩
instance : ElT Try.prog 58 2 16 (.agg #[(.int .i32 0), (.int .i64 0)]) := ⟨by kernel_rfl⟩
instance : AggT Try.prog 58 2 := ⟨fun _ => by kernel_rfl, fun _ => by kernel_rfl⟩
instance : FldT Try.prog 58 0 0 := ⟨fun _ _ => by kernel_rfl⟩
instance : FldT Try.prog 58 1 1 := ⟨fun _ _ => by kernel_rfl⟩
instance : BldT Try.prog 58 #[(0, 1), (1, 1)] #[(.int .i32 0), (.int .i64 0)] := ⟨fun _ => by kernel_rfl⟩
instance : ElT Try.prog 59 1 8 .nilFunc := ⟨by kernel_rfl⟩
instance : CellT Try.prog 59 := ⟨fun _ => by kernel_rfl, fun _ => by kernel_rfl⟩
instance : ElT Try.prog 60 1 8 .nilFunc := ⟨by kernel_rfl⟩
instance : CellT Try.prog 60 := ⟨fun _ => by kernel_rfl, fun _ => by kernel_rfl⟩
instance : ElT Try.prog 62 1 8 .nilFunc := ⟨by kernel_rfl⟩
instance : CellT Try.prog 62 := ⟨fun _ => by kernel_rfl, fun _ => by kernel_rfl⟩
instance : ElT Try.prog 63 1 8 .nilFunc := ⟨by kernel_rfl⟩
instance : CellT Try.prog 63 := ⟨fun _ => by kernel_rfl, fun _ => by kernel_rfl⟩
instance : ElT Try.prog 64 1 8 .nilFunc := ⟨by kernel_rfl⟩
instance : CellT Try.prog 64 := ⟨fun _ => by kernel_rfl, fun _ => by kernel_rfl⟩
instance : ElT Try.prog 65 1 8 .nilFunc := ⟨by kernel_rfl⟩
instance : CellT Try.prog 65 := ⟨fun _ => by kernel_rfl, fun _ => by kernel_rfl⟩
instance : ElT Try.prog 66 1 8 .nilFunc := ⟨by kernel_rfl⟩
instance : CellT Try.prog 66 := ⟨fun _ => by kernel_rfl, fun _ => by kernel_rfl⟩
instance : ElT Try.prog 67 5 40 (.agg #[(.int .i64 0), (.int .i64 0), (.int .i64 0), (.int .i64 0), (.int .i64 0)]) := ⟨by kernel_rfl⟩
instance : AggT Try.prog 67 5 := ⟨fun _ => by kernel_rfl, fun _ => by kernel_rfl⟩
instance : FldT Try.prog 67 0 0 := ⟨fun _ _ => by kernel_rfl⟩
instance : FldT Try.prog 67 1 1 := ⟨fun _ _ => by kernel_rfl⟩
instance : FldT Try.prog 67 2 3 := ⟨fun _ _ => by kernel_rfl⟩
instance : BldT Try.prog 67 #[(0, 1), (1, 2), (3, 2)] #[(.int .i64 0), (.int .i64 0), (.int .i64 0), (.int .i64 0), (.int .i64 0)] := ⟨fun _ => by kernel_rfl⟩
instance : ElT Try.prog 68 5 40 (.agg #[(.int .i64 0), (.int .i64 0), (.int .i64 0), (.int .i64 0), (.int .i64 0)]) := ⟨by kernel_rfl⟩
instance : AggT Try.prog 68 5 := ⟨fun _ => by kernel_rfl, fun _ => by kernel_rfl⟩
instance : FldT Try.prog 68 0 0 := ⟨fun _ _ => by kernel_rfl⟩
instance : FldT Try.prog 68 1 1 := ⟨fun _ _ => by kernel_rfl⟩
instance : FldT Try.prog 68 2 3 := ⟨fun _ _ => by kernel_rfl⟩
instance : BldT Try.prog 68 #[(0, 1), (1, 2), (3, 2)] #[(.int .i64 0), (.int .i64 0), (.int .i64 0), (.int .i64 0), (.int .i64 0)] := ⟨fun _ => by kernel_rfl⟩
instance : ElT Try.prog 70 1 8 .nilFunc := ⟨by kernel_rfl⟩
instance : CellT Try.prog 70 := ⟨fun _ => by kernel_rfl, fun _ => by kernel_rfl⟩
instance : ElT Try.prog 71 1 8 .nilFunc := ⟨by kernel_rfl⟩
instance : CellT Try.prog 71 := ⟨fun _ => by kernel_rfl, fun _ => by kernel_rfl⟩
instance : ElT Try.prog 72 1 8 .nilFunc := ⟨by kernel_rfl⟩
instance : CellT Try.prog 72 := ⟨fun _ => by kernel_rfl, fun _ => by kernel_rfl⟩
instance : ElT Try.prog 73 1 8 .nilFunc := ⟨by kernel_rfl⟩
instance : CellT Try.prog 73 := ⟨fun _ => by kernel_rfl, fun _ => by kernel_rfl⟩
instance : ElT Try.prog 74 1 8 .nilFunc := ⟨by kernel_rfl⟩
instance : CellT Try.prog 74 := ⟨fun _ => by kernel_rfl, fun _ => by kernel_rfl⟩
instance : ElT Try.prog 76 1 8 .nilFunc := ⟨by kernel_rfl⟩
instance : CellT Try.prog 76 := ⟨fun _ => by kernel_rfl, fun _ => by kernel_rfl⟩
instance : ElT Try.prog 78 1 8 .nilFunc := ⟨by kernel_rfl⟩
instance : CellT Try.prog 78 := ⟨fun _ => by kernel_rfl, fun _ => by kernel_rfl⟩
instance : ElT Try.prog 79 1 8 .nilFunc := ⟨by kernel_rfl⟩
instance : CellT Try.prog 79 := ⟨fun _ => by kernel_rfl, fun _ => by kernel_rfl⟩
instance : ElT Try.prog 80 1 8 .nilFunc := ⟨by kernel_rfl⟩
instance : CellT Try.prog 80 := ⟨fun _ => by kernel_rfl, fun _ => by kernel_rfl⟩
instance : ElT Try.prog 81 1 8 .nilFunc := ⟨by kernel_rfl⟩
instance : CellT Try.prog 81 := ⟨fun _ => by kernel_rfl, fun _ => by kernel_rfl⟩
instance : ElT Try.prog 82 1 8 .nilFunc := ⟨by kernel_rfl⟩
instance : CellT Try.prog 82 := ⟨fun _ => by kernel_rfl, fun _ => by kernel_rfl⟩
instance : ElT Try.prog 83 1 8 .nilFunc := ⟨by kernel_rfl⟩
instance : CellT Try.prog 83 := ⟨fun _ => by kernel_rfl, fun _ => by kernel_rfl⟩
instance : ElT Try.prog 84 1 8 .nilFunc := ⟨by kernel_rfl⟩
instance : CellT Try.prog 84 := ⟨fun _ => by kernel_rfl, fun _ => by kernel_rfl⟩
instance : ElT Try.prog 85 1 8 .nilFunc := ⟨by kernel_rfl⟩
instance : CellT Try.prog 85 := ⟨fun _ => by kernel_rfl, fun _ => by kernel_rfl⟩
instance : ElT Try.prog 86 1 8 .nilFunc := ⟨by kernel_rfl⟩
instance : CellT Try.prog 86 := ⟨fun _ => by kernel_rfl, fun _ => by kernel_rfl⟩
instance : ElT Try.prog 87 1 8 .nilFunc := ⟨by kernel_rfl⟩
instance : CellT Try.prog 87 := ⟨fun _ => by kernel_rfl, fun _ => by kernel_rfl⟩
instance : ElT Try.prog 89 1 8 .nilFunc := ⟨by kernel_rfl⟩
instance : CellT Try.prog 89 := ⟨fun _ => by kernel_rfl, fun _ => by kernel_rfl⟩
instance : ElT Try.prog 90 1 8 .nilFunc := ⟨by kernel_rfl⟩
instance : CellT Try.prog 90 := ⟨fun _ => by kernel_rfl, fun _ => by kernel_rfl⟩
instance : PtrT Try.prog 91 49 := ⟨by kernel_rfl⟩
instance : ElT Try.prog 91 1 8 (.pointer none) := ⟨by kernel_rfl⟩
instance : CellT Try.prog 91 := ⟨fun _ => by kernel_rfl, fun _ => by kernel_rfl⟩
instance : ElT Try.prog 92 1 8 .nilFunc := ⟨by kernel_rfl⟩
instance : CellT Try.prog 92 := ⟨fun _ => by kernel_rfl, fun _ => by kernel_rfl⟩
instance : ElT Try.prog 93 1 8 .nilFunc := ⟨by kernel_rfl⟩
instance : CellT Try.prog 93 := ⟨fun _ => by kernel_rfl, fun _ => by kernel_rfl⟩
instance : ElT Try.prog 94 1 8 .nilFunc := ⟨by kernel_rfl⟩
instance : CellT Try.prog 94 := ⟨fun _ => by kernel_rfl, fun _ => by kernel_rfl⟩
instance : ElT Try.prog 95 1 8 .nilFunc := ⟨by kernel_rfl⟩
instance : CellT Try.prog 95 := ⟨fun _ => by kernel_rfl, fun _ => by kernel_rfl⟩
instance : ElT Try.prog 96 1 8 .nilFunc := ⟨by kernel_rfl⟩
instance : CellT Try.prog 96 := ⟨fun _ => by kernel_rfl, fun _ => by kernel_rfl⟩
instance : ElT Try.prog 97 1 8 .nilFunc := ⟨by kernel_rfl⟩
instance : CellT Try.prog 97 := ⟨fun _ => by kernel_rfl, fun _ => by kernel_rfl⟩
instance : ElT Try.prog 98 1 8 .nilFunc := ⟨by kernel_rfl⟩
instance : CellT Try.prog 98 := ⟨fun _ => by kernel_rfl, fun _ => by kernel_rfl⟩
instance : ElT Try.prog 99 1 8 .nilFunc := ⟨by kernel_rfl⟩
instance : CellT Try.prog 99 := ⟨fun _ => by kernel_rfl, fun _ => by kernel_rfl⟩
instance : ElT Try.prog 101 1 8 .nilFunc := ⟨by kernel_rfl⟩
instance : CellT Try.prog 101 := ⟨fun _ => by kernel_rfl, fun _ => by kernel_rfl⟩
instance : ElT Try.prog 102 1 8 .nilFunc := ⟨by kernel_rfl⟩
instance : CellT Try.prog 102 := ⟨fun _ => by kernel_rfl, fun _ => by kernel_rfl⟩
instance : ElT Try.prog 103 1 8 .nilFunc := ⟨by kernel_rfl⟩
instance : CellT Try.prog 103 := ⟨fun _ => by kernel_rfl, fun _ => by kernel_rfl⟩
instance : IntT Try.prog 104 .u64 := ⟨by kernel_rfl⟩
instance : ElT Try.prog 104 1 8 (.int .u64 0) := ⟨by kernel_rfl⟩
instance : CellT Try.prog 104 := ⟨fun _ => by kernel_rfl, fun _ => by kernel_rfl⟩
instance : ElT Try.prog 106 1 8 .nilFunc := ⟨by kernel_rfl⟩
instance : CellT Try.prog 106 := ⟨fun _ => by kernel_rfl, fun _ => by kernel_rfl⟩
instance : IntT Try.prog 107 .u32 := ⟨by kernel_rfl⟩
instance : ElT Try.prog 107 1 4 (.int .u32 0) := ⟨by kernel_rfl⟩
instance : CellT Try.prog 107 := ⟨fun _ => by kernel_rfl, fun _ => by kernel_rfl⟩
instance : ElT Try.prog 109 1 8 .nilFunc := ⟨by kernel_rfl⟩
instance : CellT Try.prog 109 := ⟨fun _ => by kernel_rfl, fun _ => by kernel_rfl⟩
instance : IntT Try.prog 110 .u64 := ⟨by kernel_rfl⟩
instance : ElT Try.prog 110 1 8 (.int .u64 0) := ⟨by kernel_rfl⟩
instance : CellT Try.prog 110 := ⟨fun _ => by kernel_rfl, fun _ => by kernel_rfl⟩
instance : ElT Try.prog 112 1 8 .nilFunc := ⟨by kernel_rfl⟩
instance : CellT Try.prog 112 := ⟨fun _ => by kernel_rfl, fun _ => by kernel_rfl⟩
instance : ElT Try.prog 113 1 8 .nilFunc := ⟨by kernel_rfl⟩
instance : CellT Try.prog 113 := ⟨fun _ => by kernel_rfl, fun _ => by kernel_rfl⟩
instance : ElT Try.prog 119 1 8 .nilFunc := ⟨by kernel_rfl⟩
instance : CellT Try.prog 119 := ⟨fun _ => by kernel_rfl, fun _ => by kernel_rfl⟩
instance : ElT Try.prog 122 1 8 .nilFunc := ⟨by kernel_rfl⟩
instance : CellT Try.prog 122 := ⟨fun _ => by kernel_rfl, fun _ => by kernel_rfl⟩
instance : PtrT Try.prog 123 5 := ⟨by kernel_rfl⟩
instance : ElT Try.prog 123 1 8 (.pointer none) := ⟨by kernel_rfl⟩
instance : CellT Try.prog 123 := ⟨fun _ => by kernel_rfl, fun _ => by kernel_rfl⟩
instance : ElT Try.prog 128 1 8 (.pointer none) := ⟨by kernel_rfl⟩
instance : CellT Try.prog 128 := ⟨fun _ => by kernel_rfl, fun _ => by kernel_rfl⟩
instance : FnT Try.prog 3 := ⟨fun _ _ => by kernel_rfl⟩
instance : FnT Try.prog 4 := ⟨fun _ _ => by kernel_rfl⟩
instance : FnT Try.prog 5 := ⟨fun _ _ => by kernel_rfl⟩
instance : FnT Try.prog 6 := ⟨fun _ _ => by kernel_rfl⟩
instance : FnT Try.prog 7 := ⟨fun _ _ => by kernel_rfl⟩
instance : FnT Try.prog 8 := ⟨fun _ _ => by kernel_rfl⟩
instance : FnT Try.prog 9 := ⟨fun _ _ => by kernel_rfl⟩
instance : FnT Try.prog 10 := ⟨fun _ _ => by kernel_rfl⟩
instance : FnT Try.prog 11 := ⟨fun _ _ => by kernel_rfl⟩
instance : FnT Try.prog 12 := ⟨fun _ _ => by kernel_rfl⟩
instance : FnT Try.prog 13 := ⟨fun _ _ => by kernel_rfl⟩
instance : FnT Try.prog 14 := ⟨fun _ _ => by kernel_rfl⟩
instance : FnT Try.prog 15 := ⟨fun _ _ => by kernel_rfl⟩
instance : FnT Try.prog 16 := ⟨fun _ _ => by kernel_rfl⟩
instance : FnT Try.prog 17 := ⟨fun _ _ => by kernel_rfl⟩
instance : FnT Try.prog 18 := ⟨fun _ _ => by kernel_rfl⟩
instance : FnT Try.prog 19 := ⟨fun _ _ => by kernel_rfl⟩
instance : FnT Try.prog 20 := ⟨fun _ _ => by kernel_rfl⟩
instance : FnT Try.prog 21 := ⟨fun _ _ => by kernel_rfl⟩
instance : FnT Try.prog 22 := ⟨fun _ _ => by kernel_rfl⟩
instance : FnT Try.prog 23 := ⟨fun _ _ => by kernel_rfl⟩
instance : FnT Try.prog 24 := ⟨fun _ _ => by kernel_rfl⟩
instance : FnT Try.prog 25 := ⟨fun _ _ => by kernel_rfl⟩
instance : FnT Try.prog 26 := ⟨fun _ _ => by kernel_rfl⟩
instance : FnT Try.prog 27 := ⟨fun _ _ => by kernel_rfl⟩
instance : FnT Try.prog 28 := ⟨fun _ _ => by kernel_rfl⟩
instance : FnT Try.prog 29 := ⟨fun _ _ => by kernel_rfl⟩
instance : FnT Try.prog 30 := ⟨fun _ _ => by kernel_rfl⟩
instance : FnT Try.prog 31 := ⟨fun _ _ => by kernel_rfl⟩
instance : FnT Try.prog 32 := ⟨fun _ _ => by kernel_rfl⟩
instance : FnT Try.prog 33 := ⟨fun _ _ => by kernel_rfl⟩
instance : FnT Try.prog 34 := ⟨fun _ _ => by kernel_rfl⟩
instance : FnT Try.prog 35 := ⟨fun _ _ => by kernel_rfl⟩
instance : FnT Try.prog 36 := ⟨fun _ _ => by kernel_rfl⟩
instance : FnT Try.prog 37 := ⟨fun _ _ => by kernel_rfl⟩
instance : FnT Try.prog 38 := ⟨fun _ _ => by kernel_rfl⟩
instance : FnT Try.prog 39 := ⟨fun _ _ => by kernel_rfl⟩
instance : FnT Try.prog 40 := ⟨fun _ _ => by kernel_rfl⟩
instance : FnT Try.prog 41 := ⟨fun _ _ => by kernel_rfl⟩
instance : FnT Try.prog 42 := ⟨fun _ _ => by kernel_rfl⟩
instance : FnT Try.prog 43 := ⟨fun _ _ => by kernel_rfl⟩
instance : FnT Try.prog 44 := ⟨fun _ _ => by kernel_rfl⟩
instance : FnT Try.prog 45 := ⟨fun _ _ => by kernel_rfl⟩
instance : FnT Try.prog 46 := ⟨fun _ _ => by kernel_rfl⟩
instance : FnT Try.prog 47 := ⟨fun _ _ => by kernel_rfl⟩
instance : FnT Try.prog 48 := ⟨fun _ _ => by kernel_rfl⟩
instance : FnT Try.prog 49 := ⟨fun _ _ => by kernel_rfl⟩
instance : FnT Try.prog 50 := ⟨fun _ _ => by kernel_rfl⟩
instance : FnT Try.prog 51 := ⟨fun _ _ => by kernel_rfl⟩
instance : FnT Try.prog 52 := ⟨fun _ _ => by kernel_rfl⟩
instance : FnT Try.prog 53 := ⟨fun _ _ => by kernel_rfl⟩
instance : FnT Try.prog 54 := ⟨fun _ _ => by kernel_rfl⟩
instance : FnT Try.prog 55 := ⟨fun _ _ => by kernel_rfl⟩
instance : FnT Try.prog 56 := ⟨fun _ _ => by kernel_rfl⟩
instance : FnT Try.prog 57 := ⟨fun _ _ => by kernel_rfl⟩
instance : FnT Try.prog 58 := ⟨fun _ _ => by kernel_rfl⟩
instance : FnT Try.prog 59 := ⟨fun _ _ => by kernel_rfl⟩
instance : FnT Try.prog 60 := ⟨fun _ _ => by kernel_rfl⟩
instance : FnT Try.prog 61 := ⟨fun _ _ => by kernel_rfl⟩
instance : FnT Try.prog 62 := ⟨fun _ _ => by kernel_rfl⟩
instance : FnT Try.prog 63 := ⟨fun _ _ => by kernel_rfl⟩
instance : FnT Try.prog 64 := ⟨fun _ _ => by kernel_rfl⟩
instance : FnT Try.prog 65 := ⟨fun _ _ => by kernel_rfl⟩
instance : FnT Try.prog 66 := ⟨fun _ _ => by kernel_rfl⟩
instance : FnT Try.prog 67 := ⟨fun _ _ => by kernel_rfl⟩
instance : FnT Try.prog 68 := ⟨fun _ _ => by kernel_rfl⟩
instance : FnT Try.prog 69 := ⟨fun _ _ => by kernel_rfl⟩
instance : FnT Try.prog 70 := ⟨fun _ _ => by kernel_rfl⟩
instance : FnT Try.prog 71 := ⟨fun _ _ => by kernel_rfl⟩
instance : FnT Try.prog 72 := ⟨fun _ _ => by kernel_rfl⟩
instance : FnT Try.prog 73 := ⟨fun _ _ => by kernel_rfl⟩
instance : FnT Try.prog 74 := ⟨fun _ _ => by kernel_rfl⟩
instance : FnT Try.prog 75 := ⟨fun _ _ => by kernel_rfl⟩
instance : FnT Try.prog 76 := ⟨fun _ _ => by kernel_rfl⟩
instance : FnT Try.prog 77 := ⟨fun _ _ => by kernel_rfl⟩
instance : FnT Try.prog 78 := ⟨fun _ _ => by kernel_rfl⟩
instance : FnT Try.prog 79 := ⟨fun _ _ => by kernel_rfl⟩
instance : FnT Try.prog 80 := ⟨fun _ _ => by kernel_rfl⟩
instance : FnT Try.prog 81 := ⟨fun _ _ => by kernel_rfl⟩
instance : FnT Try.prog 82 := ⟨fun _ _ => by kernel_rfl⟩
instance : FnT Try.prog 83 := ⟨fun _ _ => by kernel_rfl⟩
instance : FnT Try.prog 84 := ⟨fun _ _ => by kernel_rfl⟩
end Go.Ink
