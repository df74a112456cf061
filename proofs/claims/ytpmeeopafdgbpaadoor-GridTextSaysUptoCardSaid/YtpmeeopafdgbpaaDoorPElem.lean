
import Derived.Test.YtpmeeopafdgbpaaDoorPFlow
namespace Go.Ev.Delta
open Go.Ev Go.Ev.Attr Go.Ev.Track
set_option linter.unusedVariables false
set_option linter.unusedSimpArgs false
def emp {α : Type} (l : List α) : Bool := l.isEmpty
theorem len_pos {α : Type} (l : List α) : decide ((l.length : Int) > 0) = !(emp l) := by
  cases l with
  | nil => rfl
  | cons x l => exact decide_eq_true (by have : (x :: l).length = l.length + 1 := rfl; omega)
end Go.Ev.Delta
