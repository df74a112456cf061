/- Functions, step by step. -/
import Derived.Test.YtlgjdgebmiegeaaGAxis
import Derived.Test.YtlgjdgebmiegeaaGBehind
namespace Go.Ev
set_option linter.unusedVariables false
set_option maxRecDepth 100000
open Go.Proofs
def sig_axis_Pair : Sig := ⟨[.v false (.list YSpan), .v false (.list YSpan)], [], [(false, [.fr (.list YSpan)]), (false, [.fr (.list YSpan)]), (false, [.fr (.int .i64)])]⟩
def ret_axis_Pair (v0 : List YSpan.den) (v1 : List YSpan.den) (v2 : Int) : sig_axis_Pair.Out := (((v0, ()), (v1, ()), (v2, ()), ()), ())
end Go.Ev
