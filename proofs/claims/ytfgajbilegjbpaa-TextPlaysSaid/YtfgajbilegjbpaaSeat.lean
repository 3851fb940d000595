/-
  The seat's types and functions, as instances (printed by mkseat.py).
-/
import Derived.Test.YtfgajbilegjbpaaRul
import Derived.Test.YtfgajbilegjbpaaRows
set_option linter.unusedVariables false
namespace Go.Ink
open Go Go.Proofs

instance : ElT Try.prog 1 1 8 .nilFunc := ⟨by kernel_rfl⟩
instance : CellT Try.prog 1 := ⟨fun _ => by kernel_rfl, fun _ => by kernel_rfl⟩
instance : IntT Try.prog 2 .i64 := ⟨by kernel_rfl⟩
instance : ElT Try.prog 2 1 8 (.int .i64 0) := ⟨by kernel_rfl⟩
instance : CellT Try.prog 2 := ⟨fun _ => by kernel_rfl, fun _ => by kernel_rfl⟩
instance : IntT Try.prog 3 .i64 := ⟨by kernel_rfl⟩
instance : ElT Try.prog 3 1 8 (.int .i64 0) := ⟨by kernel_rfl⟩
instance : CellT Try.prog 3 := ⟨fun _ => by kernel_rfl, fun _ => by kernel_rfl⟩
instance : BoolT Try.prog 4 := ⟨by kernel_rfl⟩
instance : ElT Try.prog 4 1 1 (.bool false) := ⟨by kernel_rfl⟩
instance : CellT Try.prog 4 := ⟨fun _ => by kernel_rfl, fun _ => by kernel_rfl⟩
instance : IntT Try.prog 5 .u8 := ⟨by kernel_rfl⟩
instance : ElT Try.prog 5 1 1 (.int .u8 0) := ⟨by kernel_rfl⟩
instance : CellT Try.prog 5 := ⟨fun _ => by kernel_rfl, fun _ => by kernel_rfl⟩
instance : StrT Try.prog 9 := ⟨by kernel_rfl⟩
instance : ElT Try.prog 9 1 16 (.string ⟨#[]⟩) := ⟨by kernel_rfl⟩
instance : CellT Try.prog 9 := ⟨fun _ => by kernel_rfl, fun _ => by kernel_rfl⟩
instance : IntT Try.prog 12 .u64 := ⟨by kernel_rfl⟩
instance : ElT Try.prog 12 1 8 (.int .u64 0) := ⟨by kernel_rfl⟩
instance : CellT Try.prog 12 := ⟨fun _ => by kernel_rfl, fun _ => by kernel_rfl⟩
instance : ElT Try.prog 13 2 24 (.agg #[(.string ⟨#[]⟩), (.int .u64 0)]) := ⟨by kernel_rfl⟩
instance : AggT Try.prog 13 2 := ⟨fun _ => by kernel_rfl, fun _ => by kernel_rfl⟩
instance : FldT Try.prog 13 0 0 := ⟨fun _ _ => by kernel_rfl⟩
instance : FldT Try.prog 13 1 1 := ⟨fun _ _ => by kernel_rfl⟩
instance : BldT Try.prog 13 #[(0, 1), (1, 1)] #[(.string ⟨#[]⟩), (.int .u64 0)] := ⟨fun _ => by kernel_rfl⟩
instance : ElT Try.prog 20 1 16 .nilIface := ⟨by kernel_rfl⟩
instance : CellT Try.prog 20 := ⟨fun _ => by kernel_rfl, fun _ => by kernel_rfl⟩
instance : IntT Try.prog 21 .i32 := ⟨by kernel_rfl⟩
instance : ElT Try.prog 21 1 4 (.int .i32 0) := ⟨by kernel_rfl⟩
instance : CellT Try.prog 21 := ⟨fun _ => by kernel_rfl, fun _ => by kernel_rfl⟩
instance : SlT Try.prog 22 37 := ⟨by kernel_rfl⟩
instance : ElT Try.prog 22 1 24 (.slice none 0 0) := ⟨by kernel_rfl⟩
instance : CellT Try.prog 22 := ⟨fun _ => by kernel_rfl, fun _ => by kernel_rfl⟩
instance : ElT Try.prog 23 1 8 .nilFunc := ⟨by kernel_rfl⟩
instance : CellT Try.prog 23 := ⟨fun _ => by kernel_rfl, fun _ => by kernel_rfl⟩
instance : PtrT Try.prog 24 73 := ⟨by kernel_rfl⟩
instance : ElT Try.prog 24 1 8 (.pointer none) := ⟨by kernel_rfl⟩
instance : CellT Try.prog 24 := ⟨fun _ => by kernel_rfl, fun _ => by kernel_rfl⟩
instance : ElT Try.prog 25 1 8 .nilFunc := ⟨by kernel_rfl⟩
instance : CellT Try.prog 25 := ⟨fun _ => by kernel_rfl, fun _ => by kernel_rfl⟩
instance : PtrT Try.prog 26 57 := ⟨by kernel_rfl⟩
instance : ElT Try.prog 26 1 8 (.pointer none) := ⟨by kernel_rfl⟩
instance : CellT Try.prog 26 := ⟨fun _ => by kernel_rfl, fun _ => by kernel_rfl⟩
instance : ElT Try.prog 27 1 8 .nilFunc := ⟨by kernel_rfl⟩
instance : CellT Try.prog 27 := ⟨fun _ => by kernel_rfl, fun _ => by kernel_rfl⟩
instance : ElT Try.prog 28 2 16 (.agg #[(.int .i64 0), (.int .i64 0)]) := ⟨by kernel_rfl⟩
instance : AggT Try.prog 28 2 := ⟨fun _ => by kernel_rfl, fun _ => by kernel_rfl⟩
instance : FldT Try.prog 28 0 0 := ⟨fun _ _ => by kernel_rfl⟩
instance : FldT Try.prog 28 1 1 := ⟨fun _ _ => by kernel_rfl⟩
instance : BldT Try.prog 28 #[(0, 1), (1, 1)] #[(.int .i64 0), (.int .i64 0)] := ⟨fun _ => by kernel_rfl⟩
instance : ElT Try.prog 29 2 16 (.agg #[(.int .i64 0), (.int .i64 0)]) := ⟨by kernel_rfl⟩
instance : AggT Try.prog 29 2 := ⟨fun _ => by kernel_rfl, fun _ => by kernel_rfl⟩
instance : FldT Try.prog 29 0 0 := ⟨fun _ _ => by kernel_rfl⟩
instance : FldT Try.prog 29 1 1 := ⟨fun _ _ => by kernel_rfl⟩
instance : BldT Try.prog 29 #[(0, 1), (1, 1)] #[(.int .i64 0), (.int .i64 0)] := ⟨fun _ => by kernel_rfl⟩
instance : ElT Try.prog 30 1 8 .nilFunc := ⟨by kernel_rfl⟩
instance : CellT Try.prog 30 := ⟨fun _ => by kernel_rfl, fun _ => by kernel_rfl⟩
instance : IntT Try.prog 31 .i64 := ⟨by kernel_rfl⟩
instance : ElT Try.prog 31 1 8 (.int .i64 0) := ⟨by kernel_rfl⟩
instance : CellT Try.prog 31 := ⟨fun _ => by kernel_rfl, fun _ => by kernel_rfl⟩
instance : ElT Try.prog 33 1 8 .nilFunc := ⟨by kernel_rfl⟩
instance : CellT Try.prog 33 := ⟨fun _ => by kernel_rfl, fun _ => by kernel_rfl⟩
instance : ElT Try.prog 35 1 8 .nilFunc := ⟨by kernel_rfl⟩
instance : CellT Try.prog 35 := ⟨fun _ => by kernel_rfl, fun _ => by kernel_rfl⟩
instance : ElT Try.prog 36 1 8 .nilFunc := ⟨by kernel_rfl⟩
instance : CellT Try.prog 36 := ⟨fun _ => by kernel_rfl, fun _ => by kernel_rfl⟩
instance : SlT Try.prog 37 21 := ⟨by kernel_rfl⟩
instance : ElT Try.prog 37 1 24 (.slice none 0 0) := ⟨by kernel_rfl⟩
instance : CellT Try.prog 37 := ⟨fun _ => by kernel_rfl, fun _ => by kernel_rfl⟩
instance : ElT Try.prog 38 1 8 .nilFunc := ⟨by kernel_rfl⟩
instance : CellT Try.prog 38 := ⟨fun _ => by kernel_rfl, fun _ => by kernel_rfl⟩
instance : SlT Try.prog 39 43 := ⟨by kernel_rfl⟩
instance : ElT Try.prog 39 1 24 (.slice none 0 0) := ⟨by kernel_rfl⟩
instance : CellT Try.prog 39 := ⟨fun _ => by kernel_rfl, fun _ => by kernel_rfl⟩
instance : ElT Try.prog 41 1 8 .nilFunc := ⟨by kernel_rfl⟩
instance : CellT Try.prog 41 := ⟨fun _ => by kernel_rfl, fun _ => by kernel_rfl⟩
instance : ElT Try.prog 42 8 96 (.agg #[(.int .i64 0), (.int .i64 0), (.int .i64 0), (.int .i64 0), (.int .i64 0), (.int .i64 0), (.slice none 0 0), (.slice none 0 0)]) := ⟨by kernel_rfl⟩
instance : AggT Try.prog 42 8 := ⟨fun _ => by kernel_rfl, fun _ => by kernel_rfl⟩
instance : FldT Try.prog 42 0 0 := ⟨fun _ _ => by kernel_rfl⟩
instance : FldT Try.prog 42 1 1 := ⟨fun _ _ => by kernel_rfl⟩
instance : FldT Try.prog 42 2 2 := ⟨fun _ _ => by kernel_rfl⟩
instance : FldT Try.prog 42 3 4 := ⟨fun _ _ => by kernel_rfl⟩
instance : FldT Try.prog 42 4 6 := ⟨fun _ _ => by kernel_rfl⟩
instance : FldT Try.prog 42 5 7 := ⟨fun _ _ => by kernel_rfl⟩
instance : BldT Try.prog 42 #[(0, 1), (1, 1), (2, 2), (4, 2), (6, 1), (7, 1)] #[(.int .i64 0), (.int .i64 0), (.int .i64 0), (.int .i64 0), (.int .i64 0), (.int .i64 0), (.slice none 0 0), (.slice none 0 0)] := ⟨fun _ => by kernel_rfl⟩
instance : ElT Try.prog 43 8 96 (.agg #[(.int .i64 0), (.int .i64 0), (.int .i64 0), (.int .i64 0), (.int .i64 0), (.int .i64 0), (.slice none 0 0), (.slice none 0 0)]) := ⟨by kernel_rfl⟩
instance : AggT Try.prog 43 8 := ⟨fun _ => by kernel_rfl, fun _ => by kernel_rfl⟩
instance : FldT Try.prog 43 0 0 := ⟨fun _ _ => by kernel_rfl⟩
instance : FldT Try.prog 43 1 1 := ⟨fun _ _ => by kernel_rfl⟩
instance : FldT Try.prog 43 2 2 := ⟨fun _ _ => by kernel_rfl⟩
instance : FldT Try.prog 43 3 4 := ⟨fun _ _ => by kernel_rfl⟩
instance : FldT Try.prog 43 4 6 := ⟨fun _ _ => by kernel_rfl⟩
instance : FldT Try.prog 43 5 7 := ⟨fun _ _ => by kernel_rfl⟩
instance : BldT Try.prog 43 #[(0, 1), (1, 1), (2, 2), (4, 2), (6, 1), (7, 1)] #[(.int .i64 0), (.int .i64 0), (.int .i64 0), (.int .i64 0), (.int .i64 0), (.int .i64 0), (.slice none 0 0), (.slice none 0 0)] := ⟨fun _ => by kernel_rfl⟩
instance : ElT Try.prog 44 1 8 .nilFunc := ⟨by kernel_rfl⟩
instance : CellT Try.prog 44 := ⟨fun _ => by kernel_rfl, fun _ => by kernel_rfl⟩
instance : ElT Try.prog 45 1 8 .nilFunc := ⟨by kernel_rfl⟩
instance : CellT Try.prog 45 := ⟨fun _ => by kernel_rfl, fun _ => by kernel_rfl⟩
instance : ElT Try.prog 46 1 8 .nilFunc := ⟨by kernel_rfl⟩
instance : CellT Try.prog 46 := ⟨fun _ => by kernel_rfl, fun _ => by kernel_rfl⟩
instance : ElT Try.prog 47 1 8 .nilFunc := ⟨by kernel_rfl⟩
instance : CellT Try.prog 47 := ⟨fun _ => by kernel_rfl, fun _ => by kernel_rfl⟩
instance : ElT Try.prog 48 1 8 .nilFunc := ⟨by kernel_rfl⟩
instance : CellT Try.prog 48 := ⟨fun _ => by kernel_rfl, fun _ => by kernel_rfl⟩
instance : ElT Try.prog 50 1 8 .nilFunc := ⟨by kernel_rfl⟩
instance : CellT Try.prog 50 := ⟨fun _ => by kernel_rfl, fun _ => by kernel_rfl⟩
instance : ElT Try.prog 51 1 8 .nilFunc := ⟨by kernel_rfl⟩
instance : CellT Try.prog 51 := ⟨fun _ => by kernel_rfl, fun _ => by kernel_rfl⟩
instance : ElT Try.prog 52 1 8 .nilFunc := ⟨by kernel_rfl⟩
instance : CellT Try.prog 52 := ⟨fun _ => by kernel_rfl, fun _ => by kernel_rfl⟩
instance : ElT Try.prog 53 1 8 .nilFunc := ⟨by kernel_rfl⟩
instance : CellT Try.prog 53 := ⟨fun _ => by kernel_rfl, fun _ => by kernel_rfl⟩
instance : ElT Try.prog 54 1 8 .nilFunc := ⟨by kernel_rfl⟩
instance : CellT Try.prog 54 := ⟨fun _ => by kernel_rfl, fun _ => by kernel_rfl⟩
instance : ElT Try.prog 55 2 16 (.agg #[(.int .i64 0), (.int .i64 0)]) := ⟨by kernel_rfl⟩
instance : AggT Try.prog 55 2 := ⟨fun _ => by kernel_rfl, fun _ => by kernel_rfl⟩
instance : ArrT Try.prog 55 2 3 := ⟨by kernel_rfl⟩
instance : ElT Try.prog 56 1 24 (.agg #[(.slice none 0 0)]) := ⟨by kernel_rfl⟩
instance : AggT Try.prog 56 1 := ⟨fun _ => by kernel_rfl, fun _ => by kernel_rfl⟩
instance : FldT Try.prog 56 0 0 := ⟨fun _ _ => by kernel_rfl⟩
instance : BldT Try.prog 56 #[(0, 1)] #[(.slice none 0 0)] := ⟨fun _ => by kernel_rfl⟩
instance : ElT Try.prog 57 1 24 (.agg #[(.slice none 0 0)]) := ⟨by kernel_rfl⟩
instance : AggT Try.prog 57 1 := ⟨fun _ => by kernel_rfl, fun _ => by kernel_rfl⟩
instance : FldT Try.prog 57 0 0 := ⟨fun _ _ => by kernel_rfl⟩
instance : BldT Try.prog 57 #[(0, 1)] #[(.slice none 0 0)] := ⟨fun _ => by kernel_rfl⟩
instance : ElT Try.prog 58 1 8 .nilFunc := ⟨by kernel_rfl⟩
instance : CellT Try.prog 58 := ⟨fun _ => by kernel_rfl, fun _ => by kernel_rfl⟩
instance : ElT Try.prog 59 1 8 .nilFunc := ⟨by kernel_rfl⟩
instance : CellT Try.prog 59 := ⟨fun _ => by kernel_rfl, fun _ => by kernel_rfl⟩
instance : ElT Try.prog 60 1 8 .nilFunc := ⟨by kernel_rfl⟩
instance : CellT Try.prog 60 := ⟨fun _ => by kernel_rfl, fun _ => by kernel_rfl⟩
instance : ElT Try.prog 61 1 8 .nilFunc := ⟨by kernel_rfl⟩
instance : CellT Try.prog 61 := ⟨fun _ => by kernel_rfl, fun _ => by kernel_rfl⟩
instance : ElT Try.prog 62 1 8 .nilFunc := ⟨by kernel_rfl⟩
instance : CellT Try.prog 62 := ⟨fun _ => by kernel_rfl, fun _ => by kernel_rfl⟩
instance : ElT Try.prog 63 1 8 .nilFunc := ⟨by kernel_rfl⟩
instance : CellT Try.prog 63 := ⟨fun _ => by kernel_rfl, fun _ => by kernel_rfl⟩
instance : ElT Try.prog 65 1 8 .nilFunc := ⟨by kernel_rfl⟩
instance : CellT Try.prog 65 := ⟨fun _ => by kernel_rfl, fun _ => by kernel_rfl⟩
instance : PtrT Try.prog 66 85 := ⟨by kernel_rfl⟩
instance : ElT Try.prog 66 1 8 (.pointer none) := ⟨by kernel_rfl⟩
instance : CellT Try.prog 66 := ⟨fun _ => by kernel_rfl, fun _ => by kernel_rfl⟩
instance : ElT Try.prog 67 1 8 .nilFunc := ⟨by kernel_rfl⟩
instance : CellT Try.prog 67 := ⟨fun _ => by kernel_rfl, fun _ => by kernel_rfl⟩
instance : SlT Try.prog 68 93 := ⟨by kernel_rfl⟩
instance : ElT Try.prog 68 1 24 (.slice none 0 0) := ⟨by kernel_rfl⟩
instance : CellT Try.prog 68 := ⟨fun _ => by kernel_rfl, fun _ => by kernel_rfl⟩
instance : ElT Try.prog 69 2 32 (.agg #[(.slice none 0 0), (.int .i64 0)]) := ⟨by kernel_rfl⟩
instance : AggT Try.prog 69 2 := ⟨fun _ => by kernel_rfl, fun _ => by kernel_rfl⟩
instance : FldT Try.prog 69 0 0 := ⟨fun _ _ => by kernel_rfl⟩
instance : FldT Try.prog 69 1 1 := ⟨fun _ _ => by kernel_rfl⟩
instance : BldT Try.prog 69 #[(0, 1), (1, 1)] #[(.slice none 0 0), (.int .i64 0)] := ⟨fun _ => by kernel_rfl⟩
instance : ElT Try.prog 70 2 32 (.agg #[(.slice none 0 0), (.int .i64 0)]) := ⟨by kernel_rfl⟩
instance : AggT Try.prog 70 2 := ⟨fun _ => by kernel_rfl, fun _ => by kernel_rfl⟩
instance : FldT Try.prog 70 0 0 := ⟨fun _ _ => by kernel_rfl⟩
instance : FldT Try.prog 70 1 1 := ⟨fun _ _ => by kernel_rfl⟩
instance : BldT Try.prog 70 #[(0, 1), (1, 1)] #[(.slice none 0 0), (.int .i64 0)] := ⟨fun _ => by kernel_rfl⟩
instance : ElT Try.prog 71 1 8 .nilFunc := ⟨by kernel_rfl⟩
instance : CellT Try.prog 71 := ⟨fun _ => by kernel_rfl, fun _ => by kernel_rfl⟩
instance : ElT Try.prog 72 3 40 (.agg #[(.pointer none), (.slice none 0 0), (.int .i64 0)]) := ⟨by kernel_rfl⟩
instance : AggT Try.prog 72 3 := ⟨fun _ => by kernel_rfl, fun _ => by kernel_rfl⟩
instance : FldT Try.prog 72 0 0 := ⟨fun _ _ => by kernel_rfl⟩
instance : FldT Try.prog 72 1 1 := ⟨fun _ _ => by kernel_rfl⟩
instance : BldT Try.prog 72 #[(0, 1), (1, 2)] #[(.pointer none), (.slice none 0 0), (.int .i64 0)] := ⟨fun _ => by kernel_rfl⟩
instance : ElT Try.prog 73 3 40 (.agg #[(.pointer none), (.slice none 0 0), (.int .i64 0)]) := ⟨by kernel_rfl⟩
instance : AggT Try.prog 73 3 := ⟨fun _ => by kernel_rfl, fun _ => by kernel_rfl⟩
instance : FldT Try.prog 73 0 0 := ⟨fun _ _ => by kernel_rfl⟩
instance : FldT Try.prog 73 1 1 := ⟨fun _ _ => by kernel_rfl⟩
instance : BldT Try.prog 73 #[(0, 1), (1, 2)] #[(.pointer none), (.slice none 0 0), (.int .i64 0)] := ⟨fun _ => by kernel_rfl⟩
instance : ElT Try.prog 74 1 8 .nilFunc := ⟨by kernel_rfl⟩
instance : CellT Try.prog 74 := ⟨fun _ => by kernel_rfl, fun _ => by kernel_rfl⟩
instance : ElT Try.prog 76 1 8 .nilFunc := ⟨by kernel_rfl⟩
instance : CellT Try.prog 76 := ⟨fun _ => by kernel_rfl, fun _ => by kernel_rfl⟩
instance : ElT Try.prog 77 1 8 .nilFunc := ⟨by kernel_rfl⟩
instance : CellT Try.prog 77 := ⟨fun _ => by kernel_rfl, fun _ => by kernel_rfl⟩
instance : ElT Try.prog 78 1 8 .nilFunc := ⟨by kernel_rfl⟩
instance : CellT Try.prog 78 := ⟨fun _ => by kernel_rfl, fun _ => by kernel_rfl⟩
instance : ElT Try.prog 80 1 8 .nilFunc := ⟨by kernel_rfl⟩
instance : CellT Try.prog 80 := ⟨fun _ => by kernel_rfl, fun _ => by kernel_rfl⟩
instance : ElT Try.prog 81 1 8 .nilFunc := ⟨by kernel_rfl⟩
instance : CellT Try.prog 81 := ⟨fun _ => by kernel_rfl, fun _ => by kernel_rfl⟩
instance : SlT Try.prog 82 87 := ⟨by kernel_rfl⟩
instance : ElT Try.prog 82 1 24 (.slice none 0 0) := ⟨by kernel_rfl⟩
instance : CellT Try.prog 82 := ⟨fun _ => by kernel_rfl, fun _ => by kernel_rfl⟩
instance : SlT Try.prog 83 82 := ⟨by kernel_rfl⟩
instance : ElT Try.prog 83 1 24 (.slice none 0 0) := ⟨by kernel_rfl⟩
instance : CellT Try.prog 83 := ⟨fun _ => by kernel_rfl, fun _ => by kernel_rfl⟩
instance : ElT Try.prog 84 4 80 (.agg #[(.slice none 0 0), (.slice none 0 0), (.slice none 0 0), (.int .i64 0)]) := ⟨by kernel_rfl⟩
instance : AggT Try.prog 84 4 := ⟨fun _ => by kernel_rfl, fun _ => by kernel_rfl⟩
instance : FldT Try.prog 84 0 0 := ⟨fun _ _ => by kernel_rfl⟩
instance : FldT Try.prog 84 1 1 := ⟨fun _ _ => by kernel_rfl⟩
instance : FldT Try.prog 84 2 2 := ⟨fun _ _ => by kernel_rfl⟩
instance : FldT Try.prog 84 3 3 := ⟨fun _ _ => by kernel_rfl⟩
instance : BldT Try.prog 84 #[(0, 1), (1, 1), (2, 1), (3, 1)] #[(.slice none 0 0), (.slice none 0 0), (.slice none 0 0), (.int .i64 0)] := ⟨fun _ => by kernel_rfl⟩
instance : ElT Try.prog 85 4 80 (.agg #[(.slice none 0 0), (.slice none 0 0), (.slice none 0 0), (.int .i64 0)]) := ⟨by kernel_rfl⟩
instance : AggT Try.prog 85 4 := ⟨fun _ => by kernel_rfl, fun _ => by kernel_rfl⟩
instance : FldT Try.prog 85 0 0 := ⟨fun _ _ => by kernel_rfl⟩
instance : FldT Try.prog 85 1 1 := ⟨fun _ _ => by kernel_rfl⟩
instance : FldT Try.prog 85 2 2 := ⟨fun _ _ => by kernel_rfl⟩
instance : FldT Try.prog 85 3 3 := ⟨fun _ _ => by kernel_rfl⟩
instance : BldT Try.prog 85 #[(0, 1), (1, 1), (2, 1), (3, 1)] #[(.slice none 0 0), (.slice none 0 0), (.slice none 0 0), (.int .i64 0)] := ⟨fun _ => by kernel_rfl⟩
instance : ElT Try.prog 86 2 16 (.agg #[(.int .i64 0), (.int .i64 0)]) := ⟨by kernel_rfl⟩
instance : AggT Try.prog 86 2 := ⟨fun _ => by kernel_rfl, fun _ => by kernel_rfl⟩
instance : FldT Try.prog 86 0 0 := ⟨fun _ _ => by kernel_rfl⟩
instance : FldT Try.prog 86 1 1 := ⟨fun _ _ => by kernel_rfl⟩
instance : BldT Try.prog 86 #[(0, 1), (1, 1)] #[(.int .i64 0), (.int .i64 0)] := ⟨fun _ => by kernel_rfl⟩
instance : ElT Try.prog 87 2 16 (.agg #[(.int .i64 0), (.int .i64 0)]) := ⟨by kernel_rfl⟩
instance : AggT Try.prog 87 2 := ⟨fun _ => by kernel_rfl, fun _ => by kernel_rfl⟩
instance : FldT Try.prog 87 0 0 := ⟨fun _ _ => by kernel_rfl⟩
instance : FldT Try.prog 87 1 1 := ⟨fun _ _ => by kernel_rfl⟩
instance : BldT Try.prog 87 #[(0, 1), (1, 1)] #[(.int .i64 0), (.int .i64 0)] := ⟨fun _ => by kernel_rfl⟩
instance : SlT Try.prog 88 3 := ⟨by kernel_rfl⟩
instance : ElT Try.prog 88 1 24 (.slice none 0 0) := ⟨by kernel_rfl⟩
instance : CellT Try.prog 88 := ⟨fun _ => by kernel_rfl, fun _ => by kernel_rfl⟩
instance : ElT Try.prog 89 1 8 .nilFunc := ⟨by kernel_rfl⟩
instance : CellT Try.prog 89 := ⟨fun _ => by kernel_rfl, fun _ => by kernel_rfl⟩
instance : ElT Try.prog 90 1 8 .nilFunc := ⟨by kernel_rfl⟩
instance : CellT Try.prog 90 := ⟨fun _ => by kernel_rfl, fun _ => by kernel_rfl⟩
instance : PtrT Try.prog 91 70 := ⟨by kernel_rfl⟩
instance : ElT Try.prog 91 1 8 (.pointer none) := ⟨by kernel_rfl⟩
instance : CellT Try.prog 91 := ⟨fun _ => by kernel_rfl, fun _ => by kernel_rfl⟩
instance : ElT Try.prog 92 2 32 (.agg #[(.slice none 0 0), (.int .i64 0)]) := ⟨by kernel_rfl⟩
instance : AggT Try.prog 92 2 := ⟨fun _ => by kernel_rfl, fun _ => by kernel_rfl⟩
instance : FldT Try.prog 92 0 0 := ⟨fun _ _ => by kernel_rfl⟩
instance : FldT Try.prog 92 1 1 := ⟨fun _ _ => by kernel_rfl⟩
instance : BldT Try.prog 92 #[(0, 1), (1, 1)] #[(.slice none 0 0), (.int .i64 0)] := ⟨fun _ => by kernel_rfl⟩
instance : ElT Try.prog 93 2 32 (.agg #[(.slice none 0 0), (.int .i64 0)]) := ⟨by kernel_rfl⟩
instance : AggT Try.prog 93 2 := ⟨fun _ => by kernel_rfl, fun _ => by kernel_rfl⟩
instance : FldT Try.prog 93 0 0 := ⟨fun _ _ => by kernel_rfl⟩
instance : FldT Try.prog 93 1 1 := ⟨fun _ _ => by kernel_rfl⟩
instance : BldT Try.prog 93 #[(0, 1), (1, 1)] #[(.slice none 0 0), (.int .i64 0)] := ⟨fun _ => by kernel_rfl⟩
instance : ElT Try.prog 94 1 8 .nilFunc := ⟨by kernel_rfl⟩
instance : CellT Try.prog 94 := ⟨fun _ => by kernel_rfl, fun _ => by kernel_rfl⟩
instance : ElT Try.prog 95 1 8 .nilFunc := ⟨by kernel_rfl⟩
instance : CellT Try.prog 95 := ⟨fun _ => by kernel_rfl, fun _ => by kernel_rfl⟩
instance : ElT Try.prog 96 1 8 .nilFunc := ⟨by kernel_rfl⟩
instance : CellT Try.prog 96 := ⟨fun _ => by kernel_rfl, fun _ => by kernel_rfl⟩
instance : ElT Try.prog 97 1 8 .nilFunc := ⟨by kernel_rfl⟩
instance : CellT Try.prog 97 := ⟨fun _ => by kernel_rfl, fun _ => by kernel_rfl⟩
instance : ElT Try.prog 98 1 8 .nilFunc := ⟨by kernel_rfl⟩
instance : CellT Try.prog 98 := ⟨fun _ => by kernel_rfl, fun _ => by kernel_rfl⟩
instance : ElT Try.prog 99 1 8 .nilFunc := ⟨by kernel_rfl⟩
instance : CellT Try.prog 99 := ⟨fun _ => by kernel_rfl, fun _ => by kernel_rfl⟩
instance : ElT Try.prog 100 1 8 .nilFunc := ⟨by kernel_rfl⟩
instance : CellT Try.prog 100 := ⟨fun _ => by kernel_rfl, fun _ => by kernel_rfl⟩
instance : IntT Try.prog 106 .u32 := ⟨by kernel_rfl⟩
instance : ElT Try.prog 106 1 4 (.int .u32 0) := ⟨by kernel_rfl⟩
instance : CellT Try.prog 106 := ⟨fun _ => by kernel_rfl, fun _ => by kernel_rfl⟩
instance : ElT Try.prog 109 1 8 .nilFunc := ⟨by kernel_rfl⟩
instance : CellT Try.prog 109 := ⟨fun _ => by kernel_rfl, fun _ => by kernel_rfl⟩
instance : PtrT Try.prog 110 5 := ⟨by kernel_rfl⟩
instance : ElT Try.prog 110 1 8 (.pointer none) := ⟨by kernel_rfl⟩
instance : CellT Try.prog 110 := ⟨fun _ => by kernel_rfl, fun _ => by kernel_rfl⟩
instance : ElT Try.prog 115 1 8 (.pointer none) := ⟨by kernel_rfl⟩
instance : CellT Try.prog 115 := ⟨fun _ => by kernel_rfl, fun _ => by kernel_rfl⟩
instance : FnT Try.prog 3 := ⟨fun _ _ => by kernel_rfl⟩
instance : FnT Try.prog 4 := ⟨fun _ _ => by kernel_rfl⟩
instance : FnT Try.prog 5 := ⟨fun _ _ => by kernel_rfl⟩
instance : FnT Try.prog 6 := ⟨fun _ _ => by kernel_rfl⟩
instance : FnT Try.prog 7 := ⟨fun _ _ => by kernel_rfl⟩
instance : FnT Try.prog 8 := ⟨fun _ _ => by kernel_rfl⟩
instance : FnT Try.prog 9 := ⟨fun _ _ => by kernel_rfl⟩
instance : FnT Try.prog 10 := ⟨fun _ _ => by kernel_rfl⟩
instance : FnT Try.prog 11 := ⟨fun _ _ => by kernel_rfl⟩
instance : FnT Try.prog 12 := ⟨fun _ _ => by kernel_rfl⟩
instance : FnT Try.prog 13 := ⟨fun _ _ => by kernel_rfl⟩
instance : FnT Try.prog 14 := ⟨fun _ _ => by kernel_rfl⟩
instance : FnT Try.prog 15 := ⟨fun _ _ => by kernel_rfl⟩
instance : FnT Try.prog 16 := ⟨fun _ _ => by kernel_rfl⟩
instance : FnT Try.prog 17 := ⟨fun _ _ => by kernel_rfl⟩
instance : FnT Try.prog 18 := ⟨fun _ _ => by kernel_rfl⟩
instance : FnT Try.prog 19 := ⟨fun _ _ => by kernel_rfl⟩
instance : FnT Try.prog 20 := ⟨fun _ _ => by kernel_rfl⟩
instance : FnT Try.prog 21 := ⟨fun _ _ => by kernel_rfl⟩
instance : FnT Try.prog 22 := ⟨fun _ _ => by kernel_rfl⟩
instance : FnT Try.prog 23 := ⟨fun _ _ => by kernel_rfl⟩
instance : FnT Try.prog 24 := ⟨fun _ _ => by kernel_rfl⟩
instance : FnT Try.prog 25 := ⟨fun _ _ => by kernel_rfl⟩
instance : FnT Try.prog 26 := ⟨fun _ _ => by kernel_rfl⟩
instance : FnT Try.prog 27 := ⟨fun _ _ => by kernel_rfl⟩
instance : FnT Try.prog 28 := ⟨fun _ _ => by kernel_rfl⟩
instance : FnT Try.prog 29 := ⟨fun _ _ => by kernel_rfl⟩
instance : FnT Try.prog 30 := ⟨fun _ _ => by kernel_rfl⟩
instance : FnT Try.prog 31 := ⟨fun _ _ => by kernel_rfl⟩
instance : FnT Try.prog 32 := ⟨fun _ _ => by kernel_rfl⟩
instance : FnT Try.prog 33 := ⟨fun _ _ => by kernel_rfl⟩
instance : FnT Try.prog 34 := ⟨fun _ _ => by kernel_rfl⟩
instance : FnT Try.prog 35 := ⟨fun _ _ => by kernel_rfl⟩
instance : FnT Try.prog 36 := ⟨fun _ _ => by kernel_rfl⟩
instance : FnT Try.prog 37 := ⟨fun _ _ => by kernel_rfl⟩
instance : FnT Try.prog 38 := ⟨fun _ _ => by kernel_rfl⟩
instance : FnT Try.prog 39 := ⟨fun _ _ => by kernel_rfl⟩
instance : FnT Try.prog 40 := ⟨fun _ _ => by kernel_rfl⟩
instance : FnT Try.prog 41 := ⟨fun _ _ => by kernel_rfl⟩
instance : FnT Try.prog 42 := ⟨fun _ _ => by kernel_rfl⟩
instance : FnT Try.prog 43 := ⟨fun _ _ => by kernel_rfl⟩
instance : FnT Try.prog 44 := ⟨fun _ _ => by kernel_rfl⟩
instance : FnT Try.prog 45 := ⟨fun _ _ => by kernel_rfl⟩
instance : FnT Try.prog 46 := ⟨fun _ _ => by kernel_rfl⟩
instance : FnT Try.prog 47 := ⟨fun _ _ => by kernel_rfl⟩
instance : FnT Try.prog 48 := ⟨fun _ _ => by kernel_rfl⟩
instance : FnT Try.prog 49 := ⟨fun _ _ => by kernel_rfl⟩
instance : FnT Try.prog 50 := ⟨fun _ _ => by kernel_rfl⟩
instance : FnT Try.prog 51 := ⟨fun _ _ => by kernel_rfl⟩
instance : FnT Try.prog 52 := ⟨fun _ _ => by kernel_rfl⟩
instance : FnT Try.prog 53 := ⟨fun _ _ => by kernel_rfl⟩
instance : FnT Try.prog 54 := ⟨fun _ _ => by kernel_rfl⟩
instance : FnT Try.prog 55 := ⟨fun _ _ => by kernel_rfl⟩
instance : FnT Try.prog 56 := ⟨fun _ _ => by kernel_rfl⟩
instance : FnT Try.prog 57 := ⟨fun _ _ => by kernel_rfl⟩
instance : FnT Try.prog 58 := ⟨fun _ _ => by kernel_rfl⟩
end Go.Ink
