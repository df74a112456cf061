
import Derived.Test.YtlgjdgebmiegeaaEvGot
import Derived.Test.YtlgjdgebmiegeaaGInts
namespace Go.Ev
set_option linter.unusedVariables false
set_option linter.unusedSimpArgs false
end Go.Ev
