/- Functions, step by step. -/
import Derived.Test.YtpmeeopafdgbpaaDoorGUtf
namespace Go.Ev
set_option linter.unusedVariables false
set_option maxRecDepth 100000
open Go.Proofs
end Go.Ev
