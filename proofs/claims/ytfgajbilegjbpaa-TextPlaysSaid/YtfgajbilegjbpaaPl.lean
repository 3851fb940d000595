/-
  Places, as values (for seats that have not word's functions: not together with W1, W2).
-/
import Derived.Test.YtfgajbilegjbpaaRow
import Derived.Test.YtfgajbilegjbpaaIdx
import Derived.Test.YtfgajbilegjbpaaEq2
set_option linter.unusedVariables false
namespace Go.Ink
open Go
abbrev Ps := Int × Int
abbrev posV (p : Ps) : Value := .agg #[.int .i64 p.1, .int .i64 p.2]
def P64 (p : Ps) : Prop := (-9223372036854775808 ≤ p.1 ∧ p.1 ≤ 9223372036854775807) ∧ (-9223372036854775808 ≤ p.2 ∧ p.2 ≤ 9223372036854775807)
end Go.Ink
