
import Derived.Test.YteojfhgljknmiaaDoorEvGot
import Derived.Test.YteojfhgljknmiaaDoorGInts
namespace Go.Ev
set_option linter.unusedVariables false
set_option linter.unusedSimpArgs false
end Go.Ev
