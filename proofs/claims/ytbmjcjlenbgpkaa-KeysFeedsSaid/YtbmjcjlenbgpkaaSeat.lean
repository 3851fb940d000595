/-
  The seat's types and functions, as instances (printed by mkseat.py).
-/
import Derived.Test.YtbmjcjlenbgpkaaRul
import Derived.Test.YtbmjcjlenbgpkaaRows
set_option linter.unusedVariables false
namespace Go.Ink
open Go Go.Proofs

instance : ElT Try.prog 1 1 8 .nilFunc := ⟨by kernel_rfl⟩
instance : CellT Try.prog 1 := ⟨fun _ => by kernel_rfl, fun _ => by kernel_rfl⟩
instance : IntT Try.prog 2 .i64 := ⟨by kernel_rfl⟩
instance : ElT Try.prog 2 1 8 (.int .i64 0) := ⟨by kernel_rfl⟩
instance : CellT Try.prog 2 := ⟨fun _ => by kernel_rfl, fun _ => by kernel_rfl⟩
instance : IntT Try.prog 3 .i64 := ⟨by kernel_rfl⟩
instance : ElT Try.prog 3 1 8 (.int .i64 0) := ⟨by kernel_rfl⟩
instance : CellT Try.prog 3 := ⟨fun _ => by kernel_rfl, fun _ => by kernel_rfl⟩
instance : BoolT Try.prog 4 := ⟨by kernel_rfl⟩
instance : ElT Try.prog 4 1 1 (.bool false) := ⟨by kernel_rfl⟩
instance : CellT Try.prog 4 := ⟨fun _ => by kernel_rfl, fun _ => by kernel_rfl⟩
instance : IntT Try.prog 5 .u8 := ⟨by kernel_rfl⟩
instance : ElT Try.prog 5 1 1 (.int .u8 0) := ⟨by kernel_rfl⟩
instance : CellT Try.prog 5 := ⟨fun _ => by kernel_rfl, fun _ => by kernel_rfl⟩
instance : StrT Try.prog 9 := ⟨by kernel_rfl⟩
instance : ElT Try.prog 9 1 16 (.string ⟨#[]⟩) := ⟨by kernel_rfl⟩
instance : CellT Try.prog 9 := ⟨fun _ => by kernel_rfl, fun _ => by kernel_rfl⟩
instance : IntT Try.prog 12 .u64 := ⟨by kernel_rfl⟩
instance : ElT Try.prog 12 1 8 (.int .u64 0) := ⟨by kernel_rfl⟩
instance : CellT Try.prog 12 := ⟨fun _ => by kernel_rfl, fun _ => by kernel_rfl⟩
instance : ElT Try.prog 13 2 24 (.agg #[(.string ⟨#[]⟩), (.int .u64 0)]) := ⟨by kernel_rfl⟩
instance : AggT Try.prog 13 2 := ⟨fun _ => by kernel_rfl, fun _ => by kernel_rfl⟩
instance : FldT Try.prog 13 0 0 := ⟨fun _ _ => by kernel_rfl⟩
instance : FldT Try.prog 13 1 1 := ⟨fun _ _ => by kernel_rfl⟩
instance : BldT Try.prog 13 #[(0, 1), (1, 1)] #[(.string ⟨#[]⟩), (.int .u64 0)] := ⟨fun _ => by kernel_rfl⟩
instance : ElT Try.prog 20 1 16 .nilIface := ⟨by kernel_rfl⟩
instance : CellT Try.prog 20 := ⟨fun _ => by kernel_rfl, fun _ => by kernel_rfl⟩
instance : IntT Try.prog 21 .i32 := ⟨by kernel_rfl⟩
instance : ElT Try.prog 21 1 4 (.int .i32 0) := ⟨by kernel_rfl⟩
instance : CellT Try.prog 21 := ⟨fun _ => by kernel_rfl, fun _ => by kernel_rfl⟩
instance : SlT Try.prog 22 31 := ⟨by kernel_rfl⟩
instance : ElT Try.prog 22 1 24 (.slice none 0 0) := ⟨by kernel_rfl⟩
instance : CellT Try.prog 22 := ⟨fun _ => by kernel_rfl, fun _ => by kernel_rfl⟩
instance : PtrT Try.prog 23 60 := ⟨by kernel_rfl⟩
instance : ElT Try.prog 23 1 8 (.pointer none) := ⟨by kernel_rfl⟩
instance : CellT Try.prog 23 := ⟨fun _ => by kernel_rfl, fun _ => by kernel_rfl⟩
instance : ElT Try.prog 24 1 8 .nilFunc := ⟨by kernel_rfl⟩
instance : CellT Try.prog 24 := ⟨fun _ => by kernel_rfl, fun _ => by kernel_rfl⟩
instance : PtrT Try.prog 25 29 := ⟨by kernel_rfl⟩
instance : ElT Try.prog 25 1 8 (.pointer none) := ⟨by kernel_rfl⟩
instance : CellT Try.prog 25 := ⟨fun _ => by kernel_rfl, fun _ => by kernel_rfl⟩
instance : SlT Try.prog 26 68 := ⟨by kernel_rfl⟩
instance : ElT Try.prog 26 1 24 (.slice none 0 0) := ⟨by kernel_rfl⟩
instance : CellT Try.prog 26 := ⟨fun _ => by kernel_rfl, fun _ => by kernel_rfl⟩
instance : SlT Try.prog 27 21 := ⟨by kernel_rfl⟩
instance : ElT Try.prog 27 1 24 (.slice none 0 0) := ⟨by kernel_rfl⟩
instance : CellT Try.prog 27 := ⟨fun _ => by kernel_rfl, fun _ => by kernel_rfl⟩
instance : ElT Try.prog 28 2 48 (.agg #[(.slice none 0 0), (.slice none 0 0)]) := ⟨by kernel_rfl⟩
instance : AggT Try.prog 28 2 := ⟨fun _ => by kernel_rfl, fun _ => by kernel_rfl⟩
instance : FldT Try.prog 28 0 0 := ⟨fun _ _ => by kernel_rfl⟩
instance : FldT Try.prog 28 1 1 := ⟨fun _ _ => by kernel_rfl⟩
instance : BldT Try.prog 28 #[(0, 1), (1, 1)] #[(.slice none 0 0), (.slice none 0 0)] := ⟨fun _ => by kernel_rfl⟩
instance : ElT Try.prog 29 2 48 (.agg #[(.slice none 0 0), (.slice none 0 0)]) := ⟨by kernel_rfl⟩
instance : AggT Try.prog 29 2 := ⟨fun _ => by kernel_rfl, fun _ => by kernel_rfl⟩
instance : FldT Try.prog 29 0 0 := ⟨fun _ _ => by kernel_rfl⟩
instance : FldT Try.prog 29 1 1 := ⟨fun _ _ => by kernel_rfl⟩
instance : BldT Try.prog 29 #[(0, 1), (1, 1)] #[(.slice none 0 0), (.slice none 0 0)] := ⟨fun _ => by kernel_rfl⟩
instance : ElT Try.prog 30 4 64 (.agg #[(.int .i64 0), (.int .i32 0), (.slice none 0 0), (.slice none 0 0)]) := ⟨by kernel_rfl⟩
instance : AggT Try.prog 30 4 := ⟨fun _ => by kernel_rfl, fun _ => by kernel_rfl⟩
instance : FldT Try.prog 30 0 0 := ⟨fun _ _ => by kernel_rfl⟩
instance : FldT Try.prog 30 1 1 := ⟨fun _ _ => by kernel_rfl⟩
instance : FldT Try.prog 30 2 2 := ⟨fun _ _ => by kernel_rfl⟩
instance : FldT Try.prog 30 3 3 := ⟨fun _ _ => by kernel_rfl⟩
instance : BldT Try.prog 30 #[(0, 1), (1, 1), (2, 1), (3, 1)] #[(.int .i64 0), (.int .i32 0), (.slice none 0 0), (.slice none 0 0)] := ⟨fun _ => by kernel_rfl⟩
instance : ElT Try.prog 31 4 64 (.agg #[(.int .i64 0), (.int .i32 0), (.slice none 0 0), (.slice none 0 0)]) := ⟨by kernel_rfl⟩
instance : AggT Try.prog 31 4 := ⟨fun _ => by kernel_rfl, fun _ => by kernel_rfl⟩
instance : FldT Try.prog 31 0 0 := ⟨fun _ _ => by kernel_rfl⟩
instance : FldT Try.prog 31 1 1 := ⟨fun _ _ => by kernel_rfl⟩
instance : FldT Try.prog 31 2 2 := ⟨fun _ _ => by kernel_rfl⟩
instance : FldT Try.prog 31 3 3 := ⟨fun _ _ => by kernel_rfl⟩
instance : BldT Try.prog 31 #[(0, 1), (1, 1), (2, 1), (3, 1)] #[(.int .i64 0), (.int .i32 0), (.slice none 0 0), (.slice none 0 0)] := ⟨fun _ => by kernel_rfl⟩
instance : IntT Try.prog 32 .i64 := ⟨by kernel_rfl⟩
instance : ElT Try.prog 32 1 8 (.int .i64 0) := ⟨by kernel_rfl⟩
instance : CellT Try.prog 32 := ⟨fun _ => by kernel_rfl, fun _ => by kernel_rfl⟩
instance : ElT Try.prog 34 1 8 .nilFunc := ⟨by kernel_rfl⟩
instance : CellT Try.prog 34 := ⟨fun _ => by kernel_rfl, fun _ => by kernel_rfl⟩
instance : ElT Try.prog 35 1 8 .nilFunc := ⟨by kernel_rfl⟩
instance : CellT Try.prog 35 := ⟨fun _ => by kernel_rfl, fun _ => by kernel_rfl⟩
instance : ElT Try.prog 36 1 8 .nilFunc := ⟨by kernel_rfl⟩
instance : CellT Try.prog 36 := ⟨fun _ => by kernel_rfl, fun _ => by kernel_rfl⟩
instance : ElT Try.prog 37 1 8 .nilFunc := ⟨by kernel_rfl⟩
instance : CellT Try.prog 37 := ⟨fun _ => by kernel_rfl, fun _ => by kernel_rfl⟩
instance : ElT Try.prog 38 1 8 .nilFunc := ⟨by kernel_rfl⟩
instance : CellT Try.prog 38 := ⟨fun _ => by kernel_rfl, fun _ => by kernel_rfl⟩
instance : ElT Try.prog 39 1 8 .nilFunc := ⟨by kernel_rfl⟩
instance : CellT Try.prog 39 := ⟨fun _ => by kernel_rfl, fun _ => by kernel_rfl⟩
instance : ElT Try.prog 40 1 8 .nilFunc := ⟨by kernel_rfl⟩
instance : CellT Try.prog 40 := ⟨fun _ => by kernel_rfl, fun _ => by kernel_rfl⟩
instance : PtrT Try.prog 41 78 := ⟨by kernel_rfl⟩
instance : ElT Try.prog 41 1 8 (.pointer none) := ⟨by kernel_rfl⟩
instance : CellT Try.prog 41 := ⟨fun _ => by kernel_rfl, fun _ => by kernel_rfl⟩
instance : ElT Try.prog 42 7 40 (.agg #[(.int .i32 0), (.int .i64 0), (.int .i32 0), (.int .i32 0), (.int .i32 0), (.int .i32 0), (.bool false)]) := ⟨by kernel_rfl⟩
instance : AggT Try.prog 42 7 := ⟨fun _ => by kernel_rfl, fun _ => by kernel_rfl⟩
instance : FldT Try.prog 42 0 0 := ⟨fun _ _ => by kernel_rfl⟩
instance : FldT Try.prog 42 1 1 := ⟨fun _ _ => by kernel_rfl⟩
instance : FldT Try.prog 42 2 2 := ⟨fun _ _ => by kernel_rfl⟩
instance : FldT Try.prog 42 3 3 := ⟨fun _ _ => by kernel_rfl⟩
instance : FldT Try.prog 42 4 4 := ⟨fun _ _ => by kernel_rfl⟩
instance : FldT Try.prog 42 5 5 := ⟨fun _ _ => by kernel_rfl⟩
instance : FldT Try.prog 42 6 6 := ⟨fun _ _ => by kernel_rfl⟩
instance : BldT Try.prog 42 #[(0, 1), (1, 1), (2, 1), (3, 1), (4, 1), (5, 1), (6, 1)] #[(.int .i32 0), (.int .i64 0), (.int .i32 0), (.int .i32 0), (.int .i32 0), (.int .i32 0), (.bool false)] := ⟨fun _ => by kernel_rfl⟩
instance : ElT Try.prog 43 7 40 (.agg #[(.int .i32 0), (.int .i64 0), (.int .i32 0), (.int .i32 0), (.int .i32 0), (.int .i32 0), (.bool false)]) := ⟨by kernel_rfl⟩
instance : AggT Try.prog 43 7 := ⟨fun _ => by kernel_rfl, fun _ => by kernel_rfl⟩
instance : FldT Try.prog 43 0 0 := ⟨fun _ _ => by kernel_rfl⟩
instance : FldT Try.prog 43 1 1 := ⟨fun _ _ => by kernel_rfl⟩
instance : FldT Try.prog 43 2 2 := ⟨fun _ _ => by kernel_rfl⟩
instance : FldT Try.prog 43 3 3 := ⟨fun _ _ => by kernel_rfl⟩
instance : FldT Try.prog 43 4 4 := ⟨fun _ _ => by kernel_rfl⟩
instance : FldT Try.prog 43 5 5 := ⟨fun _ _ => by kernel_rfl⟩
instance : FldT Try.prog 43 6 6 := ⟨fun _ _ => by kernel_rfl⟩
instance : BldT Try.prog 43 #[(0, 1), (1, 1), (2, 1), (3, 1), (4, 1), (5, 1), (6, 1)] #[(.int .i32 0), (.int .i64 0), (.int .i32 0), (.int .i32 0), (.int .i32 0), (.int .i32 0), (.bool false)] := ⟨fun _ => by kernel_rfl⟩
instance : ElT Try.prog 45 1 8 .nilFunc := ⟨by kernel_rfl⟩
instance : CellT Try.prog 45 := ⟨fun _ => by kernel_rfl, fun _ => by kernel_rfl⟩
instance : ElT Try.prog 46 1 8 .nilFunc := ⟨by kernel_rfl⟩
instance : CellT Try.prog 46 := ⟨fun _ => by kernel_rfl, fun _ => by kernel_rfl⟩
instance : ElT Try.prog 47 1 8 .nilFunc := ⟨by kernel_rfl⟩
instance : CellT Try.prog 47 := ⟨fun _ => by kernel_rfl, fun _ => by kernel_rfl⟩
instance : ElT Try.prog 48 1 8 .nilFunc := ⟨by kernel_rfl⟩
instance : CellT Try.prog 48 := ⟨fun _ => by kernel_rfl, fun _ => by kernel_rfl⟩
instance : ElT Try.prog 49 1 8 .nilFunc := ⟨by kernel_rfl⟩
instance : CellT Try.prog 49 := ⟨fun _ => by kernel_rfl, fun _ => by kernel_rfl⟩
instance : ElT Try.prog 50 1 8 .nilFunc := ⟨by kernel_rfl⟩
instance : CellT Try.prog 50 := ⟨fun _ => by kernel_rfl, fun _ => by kernel_rfl⟩
instance : ElT Try.prog 51 1 8 .nilFunc := ⟨by kernel_rfl⟩
instance : CellT Try.prog 51 := ⟨fun _ => by kernel_rfl, fun _ => by kernel_rfl⟩
instance : SlT Try.prog 52 4 := ⟨by kernel_rfl⟩
instance : ElT Try.prog 52 1 24 (.slice none 0 0) := ⟨by kernel_rfl⟩
instance : CellT Try.prog 52 := ⟨fun _ => by kernel_rfl, fun _ => by kernel_rfl⟩
instance : ElT Try.prog 53 1 8 .nilFunc := ⟨by kernel_rfl⟩
instance : CellT Try.prog 53 := ⟨fun _ => by kernel_rfl, fun _ => by kernel_rfl⟩
instance : ElT Try.prog 54 1 8 .nilFunc := ⟨by kernel_rfl⟩
instance : CellT Try.prog 54 := ⟨fun _ => by kernel_rfl, fun _ => by kernel_rfl⟩
instance : ElT Try.prog 55 1 8 .nilFunc := ⟨by kernel_rfl⟩
instance : CellT Try.prog 55 := ⟨fun _ => by kernel_rfl, fun _ => by kernel_rfl⟩
instance : ElT Try.prog 56 1 8 .nilFunc := ⟨by kernel_rfl⟩
instance : CellT Try.prog 56 := ⟨fun _ => by kernel_rfl, fun _ => by kernel_rfl⟩
instance : ElT Try.prog 57 1 8 .nilFunc := ⟨by kernel_rfl⟩
instance : CellT Try.prog 57 := ⟨fun _ => by kernel_rfl, fun _ => by kernel_rfl⟩
instance : SlT Try.prog 58 63 := ⟨by kernel_rfl⟩
instance : ElT Try.prog 58 1 24 (.slice none 0 0) := ⟨by kernel_rfl⟩
instance : CellT Try.prog 58 := ⟨fun _ => by kernel_rfl, fun _ => by kernel_rfl⟩
instance : ElT Try.prog 59 2 48 (.agg #[(.slice none 0 0), (.slice none 0 0)]) := ⟨by kernel_rfl⟩
instance : AggT Try.prog 59 2 := ⟨fun _ => by kernel_rfl, fun _ => by kernel_rfl⟩
instance : FldT Try.prog 59 0 0 := ⟨fun _ _ => by kernel_rfl⟩
instance : FldT Try.prog 59 1 1 := ⟨fun _ _ => by kernel_rfl⟩
instance : BldT Try.prog 59 #[(0, 1), (1, 1)] #[(.slice none 0 0), (.slice none 0 0)] := ⟨fun _ => by kernel_rfl⟩
instance : ElT Try.prog 60 2 48 (.agg #[(.slice none 0 0), (.slice none 0 0)]) := ⟨by kernel_rfl⟩
instance : AggT Try.prog 60 2 := ⟨fun _ => by kernel_rfl, fun _ => by kernel_rfl⟩
instance : FldT Try.prog 60 0 0 := ⟨fun _ _ => by kernel_rfl⟩
instance : FldT Try.prog 60 1 1 := ⟨fun _ _ => by kernel_rfl⟩
instance : BldT Try.prog 60 #[(0, 1), (1, 1)] #[(.slice none 0 0), (.slice none 0 0)] := ⟨fun _ => by kernel_rfl⟩
instance : ElT Try.prog 61 1 8 .nilFunc := ⟨by kernel_rfl⟩
instance : CellT Try.prog 61 := ⟨fun _ => by kernel_rfl, fun _ => by kernel_rfl⟩
instance : ElT Try.prog 62 2 48 (.agg #[(.slice none 0 0), (.slice none 0 0)]) := ⟨by kernel_rfl⟩
instance : AggT Try.prog 62 2 := ⟨fun _ => by kernel_rfl, fun _ => by kernel_rfl⟩
instance : FldT Try.prog 62 0 0 := ⟨fun _ _ => by kernel_rfl⟩
instance : FldT Try.prog 62 1 1 := ⟨fun _ _ => by kernel_rfl⟩
instance : BldT Try.prog 62 #[(0, 1), (1, 1)] #[(.slice none 0 0), (.slice none 0 0)] := ⟨fun _ => by kernel_rfl⟩
instance : ElT Try.prog 63 2 48 (.agg #[(.slice none 0 0), (.slice none 0 0)]) := ⟨by kernel_rfl⟩
instance : AggT Try.prog 63 2 := ⟨fun _ => by kernel_rfl, fun _ => by kernel_rfl⟩
instance : FldT Try.prog 63 0 0 := ⟨fun _ _ => by kernel_rfl⟩
instance : FldT Try.prog 63 1 1 := ⟨fun _ _ => by kernel_rfl⟩
instance : BldT Try.prog 63 #[(0, 1), (1, 1)] #[(.slice none 0 0), (.slice none 0 0)] := ⟨fun _ => by kernel_rfl⟩
instance : ElT Try.prog 64 1 8 .nilFunc := ⟨by kernel_rfl⟩
instance : CellT Try.prog 64 := ⟨fun _ => by kernel_rfl, fun _ => by kernel_rfl⟩
instance : ElT Try.prog 65 1 8 .nilFunc := ⟨by kernel_rfl⟩
instance : CellT Try.prog 65 := ⟨fun _ => by kernel_rfl, fun _ => by kernel_rfl⟩
instance : ElT Try.prog 66 1 8 .nilFunc := ⟨by kernel_rfl⟩
instance : CellT Try.prog 66 := ⟨fun _ => by kernel_rfl, fun _ => by kernel_rfl⟩
instance : ElT Try.prog 67 2 48 (.agg #[(.slice none 0 0), (.slice none 0 0)]) := ⟨by kernel_rfl⟩
instance : AggT Try.prog 67 2 := ⟨fun _ => by kernel_rfl, fun _ => by kernel_rfl⟩
instance : FldT Try.prog 67 0 0 := ⟨fun _ _ => by kernel_rfl⟩
instance : FldT Try.prog 67 1 1 := ⟨fun _ _ => by kernel_rfl⟩
instance : BldT Try.prog 67 #[(0, 1), (1, 1)] #[(.slice none 0 0), (.slice none 0 0)] := ⟨fun _ => by kernel_rfl⟩
instance : ElT Try.prog 68 2 48 (.agg #[(.slice none 0 0), (.slice none 0 0)]) := ⟨by kernel_rfl⟩
instance : AggT Try.prog 68 2 := ⟨fun _ => by kernel_rfl, fun _ => by kernel_rfl⟩
instance : FldT Try.prog 68 0 0 := ⟨fun _ _ => by kernel_rfl⟩
instance : FldT Try.prog 68 1 1 := ⟨fun _ _ => by kernel_rfl⟩
instance : BldT Try.prog 68 #[(0, 1), (1, 1)] #[(.slice none 0 0), (.slice none 0 0)] := ⟨fun _ => by kernel_rfl⟩
instance : ElT Try.prog 69 1 8 .nilFunc := ⟨by kernel_rfl⟩
instance : CellT Try.prog 69 := ⟨fun _ => by kernel_rfl, fun _ => by kernel_rfl⟩
instance : ElT Try.prog 70 1 8 .nilFunc := ⟨by kernel_rfl⟩
instance : CellT Try.prog 70 := ⟨fun _ => by kernel_rfl, fun _ => by kernel_rfl⟩
instance : ElT Try.prog 71 1 8 .nilFunc := ⟨by kernel_rfl⟩
instance : CellT Try.prog 71 := ⟨fun _ => by kernel_rfl, fun _ => by kernel_rfl⟩
instance : ElT Try.prog 72 1 8 .nilFunc := ⟨by kernel_rfl⟩
instance : CellT Try.prog 72 := ⟨fun _ => by kernel_rfl, fun _ => by kernel_rfl⟩
instance : ElT Try.prog 73 1 8 .nilFunc := ⟨by kernel_rfl⟩
instance : CellT Try.prog 73 := ⟨fun _ => by kernel_rfl, fun _ => by kernel_rfl⟩
instance : ElT Try.prog 74 1 8 .nilFunc := ⟨by kernel_rfl⟩
instance : CellT Try.prog 74 := ⟨fun _ => by kernel_rfl, fun _ => by kernel_rfl⟩
instance : ElT Try.prog 75 1 16 .nilIface := ⟨by kernel_rfl⟩
instance : CellT Try.prog 75 := ⟨fun _ => by kernel_rfl, fun _ => by kernel_rfl⟩
instance : ElT Try.prog 76 1 16 .nilIface := ⟨by kernel_rfl⟩
instance : CellT Try.prog 76 := ⟨fun _ => by kernel_rfl, fun _ => by kernel_rfl⟩
instance : ElT Try.prog 77 11 96 (.agg #[(.slice none 0 0), .nilIface, (.int .i32 0), (.int .i64 0), (.int .i32 0), (.int .i32 0), (.int .i32 0), (.int .i32 0), (.bool false), (.int .i64 0), (.bool false)]) := ⟨by kernel_rfl⟩
instance : AggT Try.prog 77 11 := ⟨fun _ => by kernel_rfl, fun _ => by kernel_rfl⟩
instance : FldT Try.prog 77 0 0 := ⟨fun _ _ => by kernel_rfl⟩
instance : FldT Try.prog 77 1 1 := ⟨fun _ _ => by kernel_rfl⟩
instance : FldT Try.prog 77 2 2 := ⟨fun _ _ => by kernel_rfl⟩
instance : FldT Try.prog 77 3 9 := ⟨fun _ _ => by kernel_rfl⟩
instance : FldT Try.prog 77 4 10 := ⟨fun _ _ => by kernel_rfl⟩
instance : BldT Try.prog 77 #[(0, 1), (1, 1), (2, 7), (9, 1), (10, 1)] #[(.slice none 0 0), .nilIface, (.int .i32 0), (.int .i64 0), (.int .i32 0), (.int .i32 0), (.int .i32 0), (.int .i32 0), (.bool false), (.int .i64 0), (.bool false)] := ⟨fun _ => by kernel_rfl⟩
instance : ElT Try.prog 78 11 96 (.agg #[(.slice none 0 0), .nilIface, (.int .i32 0), (.int .i64 0), (.int .i32 0), (.int .i32 0), (.int .i32 0), (.int .i32 0), (.bool false), (.int .i64 0), (.bool false)]) := ⟨by kernel_rfl⟩
instance : AggT Try.prog 78 11 := ⟨fun _ => by kernel_rfl, fun _ => by kernel_rfl⟩
instance : FldT Try.prog 78 0 0 := ⟨fun _ _ => by kernel_rfl⟩
instance : FldT Try.prog 78 1 1 := ⟨fun _ _ => by kernel_rfl⟩
instance : FldT Try.prog 78 2 2 := ⟨fun _ _ => by kernel_rfl⟩
instance : FldT Try.prog 78 3 9 := ⟨fun _ _ => by kernel_rfl⟩
instance : FldT Try.prog 78 4 10 := ⟨fun _ _ => by kernel_rfl⟩
instance : BldT Try.prog 78 #[(0, 1), (1, 1), (2, 7), (9, 1), (10, 1)] #[(.slice none 0 0), .nilIface, (.int .i32 0), (.int .i64 0), (.int .i32 0), (.int .i32 0), (.int .i32 0), (.int .i32 0), (.bool false), (.int .i64 0), (.bool false)] := ⟨fun _ => by kernel_rfl⟩
instance : ElT Try.prog 79 1 8 .nilFunc := ⟨by kernel_rfl⟩
instance : CellT Try.prog 79 := ⟨fun _ => by kernel_rfl, fun _ => by kernel_rfl⟩
instance : AggT Try.prog 80 0 := ⟨fun _ => by kernel_rfl, fun _ => by kernel_rfl⟩
instance : BldT Try.prog 80 #[] #[] := ⟨fun _ => by kernel_rfl⟩
instance : AggT Try.prog 81 0 := ⟨fun _ => by kernel_rfl, fun _ => by kernel_rfl⟩
instance : BldT Try.prog 81 #[] #[] := ⟨fun _ => by kernel_rfl⟩
instance : AggT Try.prog 83 0 := ⟨fun _ => by kernel_rfl, fun _ => by kernel_rfl⟩
instance : BldT Try.prog 83 #[] #[] := ⟨fun _ => by kernel_rfl⟩
instance : ElT Try.prog 85 1 8 .nilFunc := ⟨by kernel_rfl⟩
instance : CellT Try.prog 85 := ⟨fun _ => by kernel_rfl, fun _ => by kernel_rfl⟩
instance : ElT Try.prog 86 1 8 .nilFunc := ⟨by kernel_rfl⟩
instance : CellT Try.prog 86 := ⟨fun _ => by kernel_rfl, fun _ => by kernel_rfl⟩
instance : ElT Try.prog 87 1 8 .nilFunc := ⟨by kernel_rfl⟩
instance : CellT Try.prog 87 := ⟨fun _ => by kernel_rfl, fun _ => by kernel_rfl⟩
instance : SlT Try.prog 88 27 := ⟨by kernel_rfl⟩
instance : ElT Try.prog 88 1 24 (.slice none 0 0) := ⟨by kernel_rfl⟩
instance : CellT Try.prog 88 := ⟨fun _ => by kernel_rfl, fun _ => by kernel_rfl⟩
instance : ElT Try.prog 89 1 8 .nilFunc := ⟨by kernel_rfl⟩
instance : CellT Try.prog 89 := ⟨fun _ => by kernel_rfl, fun _ => by kernel_rfl⟩
instance : ElT Try.prog 90 1 8 .nilFunc := ⟨by kernel_rfl⟩
instance : CellT Try.prog 90 := ⟨fun _ => by kernel_rfl, fun _ => by kernel_rfl⟩
instance : ElT Try.prog 91 1 8 .nilFunc := ⟨by kernel_rfl⟩
instance : CellT Try.prog 91 := ⟨fun _ => by kernel_rfl, fun _ => by kernel_rfl⟩
instance : ElT Try.prog 92 1 8 .nilFunc := ⟨by kernel_rfl⟩
instance : CellT Try.prog 92 := ⟨fun _ => by kernel_rfl, fun _ => by kernel_rfl⟩
instance : IntT Try.prog 93 .u64 := ⟨by kernel_rfl⟩
instance : ElT Try.prog 93 1 8 (.int .u64 0) := ⟨by kernel_rfl⟩
instance : CellT Try.prog 93 := ⟨fun _ => by kernel_rfl, fun _ => by kernel_rfl⟩
instance : ElT Try.prog 94 1 8 .nilFunc := ⟨by kernel_rfl⟩
instance : CellT Try.prog 94 := ⟨fun _ => by kernel_rfl, fun _ => by kernel_rfl⟩
instance : IntT Try.prog 100 .u32 := ⟨by kernel_rfl⟩
instance : ElT Try.prog 100 1 4 (.int .u32 0) := ⟨by kernel_rfl⟩
instance : CellT Try.prog 100 := ⟨fun _ => by kernel_rfl, fun _ => by kernel_rfl⟩
instance : ElT Try.prog 103 1 8 .nilFunc := ⟨by kernel_rfl⟩
instance : CellT Try.prog 103 := ⟨fun _ => by kernel_rfl, fun _ => by kernel_rfl⟩
instance : PtrT Try.prog 104 5 := ⟨by kernel_rfl⟩
instance : ElT Try.prog 104 1 8 (.pointer none) := ⟨by kernel_rfl⟩
instance : CellT Try.prog 104 := ⟨fun _ => by kernel_rfl, fun _ => by kernel_rfl⟩
instance : ElT Try.prog 109 1 8 .nilFunc := ⟨by kernel_rfl⟩
instance : CellT Try.prog 109 := ⟨fun _ => by kernel_rfl, fun _ => by kernel_rfl⟩
instance : AggT Try.prog 110 0 := ⟨fun _ => by kernel_rfl, fun _ => by kernel_rfl⟩
instance : BldT Try.prog 110 #[] #[] := ⟨fun _ => by kernel_rfl⟩
instance : ElT Try.prog 111 1 1 (.agg #[(.bool false)]) := ⟨by kernel_rfl⟩
instance : AggT Try.prog 111 1 := ⟨fun _ => by kernel_rfl, fun _ => by kernel_rfl⟩
instance : FldT Try.prog 111 0 0 := ⟨fun _ _ => by kernel_rfl⟩
instance : BldT Try.prog 111 #[(0, 1)] #[(.bool false)] := ⟨fun _ => by kernel_rfl⟩
instance : ElT Try.prog 112 1 1 (.agg #[(.bool false)]) := ⟨by kernel_rfl⟩
instance : AggT Try.prog 112 1 := ⟨fun _ => by kernel_rfl, fun _ => by kernel_rfl⟩
instance : FldT Try.prog 112 0 0 := ⟨fun _ _ => by kernel_rfl⟩
instance : BldT Try.prog 112 #[(0, 1)] #[(.bool false)] := ⟨fun _ => by kernel_rfl⟩
instance : AggT Try.prog 113 0 := ⟨fun _ => by kernel_rfl, fun _ => by kernel_rfl⟩
instance : BldT Try.prog 113 #[] #[] := ⟨fun _ => by kernel_rfl⟩
instance : AggT Try.prog 114 0 := ⟨fun _ => by kernel_rfl, fun _ => by kernel_rfl⟩
instance : BldT Try.prog 114 #[] #[] := ⟨fun _ => by kernel_rfl⟩
instance : AggT Try.prog 115 0 := ⟨fun _ => by kernel_rfl, fun _ => by kernel_rfl⟩
instance : BldT Try.prog 115 #[] #[] := ⟨fun _ => by kernel_rfl⟩
instance : AggT Try.prog 116 0 := ⟨fun _ => by kernel_rfl, fun _ => by kernel_rfl⟩
instance : BldT Try.prog 116 #[] #[] := ⟨fun _ => by kernel_rfl⟩
instance : ElT Try.prog 117 1 8 .nilFunc := ⟨by kernel_rfl⟩
instance : CellT Try.prog 117 := ⟨fun _ => by kernel_rfl, fun _ => by kernel_rfl⟩
instance : ElT Try.prog 118 1 8 (.pointer none) := ⟨by kernel_rfl⟩
instance : CellT Try.prog 118 := ⟨fun _ => by kernel_rfl, fun _ => by kernel_rfl⟩
instance : FnT Try.prog 3 := ⟨fun _ _ => by kernel_rfl⟩
instance : FnT Try.prog 4 := ⟨fun _ _ => by kernel_rfl⟩
instance : FnT Try.prog 5 := ⟨fun _ _ => by kernel_rfl⟩
instance : FnT Try.prog 6 := ⟨fun _ _ => by kernel_rfl⟩
instance : FnT Try.prog 7 := ⟨fun _ _ => by kernel_rfl⟩
instance : FnT Try.prog 8 := ⟨fun _ _ => by kernel_rfl⟩
instance : FnT Try.prog 9 := ⟨fun _ _ => by kernel_rfl⟩
instance : FnT Try.prog 10 := ⟨fun _ _ => by kernel_rfl⟩
instance : FnT Try.prog 11 := ⟨fun _ _ => by kernel_rfl⟩
instance : FnT Try.prog 12 := ⟨fun _ _ => by kernel_rfl⟩
instance : FnT Try.prog 13 := ⟨fun _ _ => by kernel_rfl⟩
instance : FnT Try.prog 14 := ⟨fun _ _ => by kernel_rfl⟩
instance : FnT Try.prog 15 := ⟨fun _ _ => by kernel_rfl⟩
instance : FnT Try.prog 16 := ⟨fun _ _ => by kernel_rfl⟩
instance : FnT Try.prog 17 := ⟨fun _ _ => by kernel_rfl⟩
instance : FnT Try.prog 18 := ⟨fun _ _ => by kernel_rfl⟩
instance : FnT Try.prog 19 := ⟨fun _ _ => by kernel_rfl⟩
instance : FnT Try.prog 20 := ⟨fun _ _ => by kernel_rfl⟩
instance : FnT Try.prog 21 := ⟨fun _ _ => by kernel_rfl⟩
instance : FnT Try.prog 22 := ⟨fun _ _ => by kernel_rfl⟩
instance : FnT Try.prog 23 := ⟨fun _ _ => by kernel_rfl⟩
instance : FnT Try.prog 24 := ⟨fun _ _ => by kernel_rfl⟩
instance : FnT Try.prog 25 := ⟨fun _ _ => by kernel_rfl⟩
instance : FnT Try.prog 26 := ⟨fun _ _ => by kernel_rfl⟩
instance : FnT Try.prog 27 := ⟨fun _ _ => by kernel_rfl⟩
instance : FnT Try.prog 28 := ⟨fun _ _ => by kernel_rfl⟩
instance : FnT Try.prog 29 := ⟨fun _ _ => by kernel_rfl⟩
instance : FnT Try.prog 30 := ⟨fun _ _ => by kernel_rfl⟩
instance : FnT Try.prog 31 := ⟨fun _ _ => by kernel_rfl⟩
instance : FnT Try.prog 32 := ⟨fun _ _ => by kernel_rfl⟩
instance : FnT Try.prog 33 := ⟨fun _ _ => by kernel_rfl⟩
instance : FnT Try.prog 34 := ⟨fun _ _ => by kernel_rfl⟩
instance : FnT Try.prog 35 := ⟨fun _ _ => by kernel_rfl⟩
instance : FnT Try.prog 36 := ⟨fun _ _ => by kernel_rfl⟩
instance : FnT Try.prog 37 := ⟨fun _ _ => by kernel_rfl⟩
instance : FnT Try.prog 38 := ⟨fun _ _ => by kernel_rfl⟩
instance : FnT Try.prog 39 := ⟨fun _ _ => by kernel_rfl⟩
instance : FnT Try.prog 40 := ⟨fun _ _ => by kernel_rfl⟩
instance : FnT Try.prog 41 := ⟨fun _ _ => by kernel_rfl⟩
instance : FnT Try.prog 42 := ⟨fun _ _ => by kernel_rfl⟩
instance : FnT Try.prog 43 := ⟨fun _ _ => by kernel_rfl⟩
instance : FnT Try.prog 44 := ⟨fun _ _ => by kernel_rfl⟩
instance : FnT Try.prog 45 := ⟨fun _ _ => by kernel_rfl⟩
instance : FnT Try.prog 46 := ⟨fun _ _ => by kernel_rfl⟩
instance : FnT Try.prog 47 := ⟨fun _ _ => by kernel_rfl⟩
instance : FnT Try.prog 48 := ⟨fun _ _ => by kernel_rfl⟩
instance : FnT Try.prog 49 := ⟨fun _ _ => by kernel_rfl⟩
instance : FnT Try.prog 50 := ⟨fun _ _ => by kernel_rfl⟩
instance : FnT Try.prog 51 := ⟨fun _ _ => by kernel_rfl⟩
instance : FnT Try.prog 52 := ⟨fun _ _ => by kernel_rfl⟩
instance : FnT Try.prog 53 := ⟨fun _ _ => by kernel_rfl⟩
instance : FnT Try.prog 54 := ⟨fun _ _ => by kernel_rfl⟩
instance : FnT Try.prog 70 := ⟨fun _ _ => by kernel_rfl⟩
instance : FnT Try.prog 71 := ⟨fun _ _ => by kernel_rfl⟩
instance : FnT Try.prog 72 := ⟨fun _ _ => by kernel_rfl⟩
instance : FnT Try.prog 73 := ⟨fun _ _ => by kernel_rfl⟩
instance : FnT Try.prog 74 := ⟨fun _ _ => by kernel_rfl⟩
instance : FnT Try.prog 75 := ⟨fun _ _ => by kernel_rfl⟩
instance : FnT Try.prog 76 := ⟨fun _ _ => by kernel_rfl⟩
instance : FnT Try.prog 78 := ⟨fun _ _ => by kernel_rfl⟩
instance : FnT Try.prog 79 := ⟨fun _ _ => by kernel_rfl⟩
instance : FnT Try.prog 80 := ⟨fun _ _ => by kernel_rfl⟩
instance : FnT Try.prog 81 := ⟨fun _ _ => by kernel_rfl⟩
instance : FnT Try.prog 82 := ⟨fun _ _ => by kernel_rfl⟩
instance : FnT Try.prog 83 := ⟨fun _ _ => by kernel_rfl⟩
end Go.Ink
