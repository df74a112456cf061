
import Derived.Test.YtlgjdgebmiegeaaPZip
import Derived.Test.YtlgjdgebmiegeaaGBehind
namespace Go.Ev.Delta
open Go.Ev Go.Ev.Attr Go.Ev.Track
set_option linter.unusedVariables false
set_option linter.unusedSimpArgs false
theorem last_ebl (o : Act) : (o.1.getD (o.1.length - 1) []).length ≤ ebl o.1 := by
  by_cases hk : o.1.length - 1 < o.1.length
  · rw [List.getD_eq_getElem?_getD, List.getElem?_eq_getElem hk]; exact ebl_mem _ _ (List.getElem_mem hk)
  · rw [List.getD_eq_getElem?_getD, List.getElem?_eq_none (by omega)]; simp
section
variable (a b : Act) (ha : AOk a) (hb : AOk b) (hl : b.2.1.length = a.2.1.length) (hn : a.2.1.length ≤ 1048576)
include ha hb hl hn
end
end Go.Ev.Delta
