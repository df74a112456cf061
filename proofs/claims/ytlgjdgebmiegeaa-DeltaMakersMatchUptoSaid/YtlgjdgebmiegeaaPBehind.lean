
import Derived.Test.YtlgjdgebmiegeaaPZip
import Derived.Test.YtlgjdgebmiegeaaGBehind
namespace Go.Ev.Delta
open Go.Ev Go.Ev.Attr Go.Ev.Track
set_option linter.unusedVariables false
set_option linter.unusedSimpArgs false
section
variable (a b : Act) (ha : AOk a) (hb : AOk b) (hl : b.2.1.length = a.2.1.length) (hn : a.2.1.length ≤ 1048576)
include ha hb hl hn
end
end Go.Ev.Delta
