
import Derived.Test.YtlgjdgebmiegeaaPUnit
namespace Go.Ev.Delta
open Go.Ev Go.Ev.Attr Go.Ev.Track
set_option linter.unusedVariables false
set_option linter.unusedSimpArgs false
end Go.Ev.Delta
