/- Functions, step by step. -/
import Derived.Test.YtlgjdgebmiegeaaGRead
import Derived.Test.YtlgjdgebmiegeaaGBehind
namespace Go.Ev
set_option linter.unusedVariables false
set_option maxRecDepth 100000
open Go.Proofs
def sig_delta_Pair : Sig := ⟨[.v false (.list YStep), .v false (.list YStep)], [], [(false, [.fr (.list YStep)]), (false, [.fr (.list YStep)]), (false, [.fr (.int .i64)])]⟩
def ret_delta_Pair (v0 : List YStep.den) (v1 : List YStep.den) (v2 : Int) : sig_delta_Pair.Out := (((v0, ()), (v1, ()), (v2, ()), ()), ())
end Go.Ev
