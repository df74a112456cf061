
import Derived.Test.YtpmeeopafdgbpaaDoorPFlow
namespace Go.Ev.Delta
open Go.Ev Go.Ev.Attr Go.Ev.Track
set_option linter.unusedVariables false
set_option linter.unusedSimpArgs false
/-- Lists that are the same. -/
def eqA (a b : Attrs) : Bool := decide ((a : List (List UInt8 × List UInt8)) = b)
theorem eqA_iff (a b : Attrs) : eqA a b = true ↔ a = b := decide_eq_true_iff
theorem same35 (a b : Attrs) (hl : a.length ≤ 1048576) : C_R_SameAttrs F_R_SameAttrs a b = some (ret_R_SameAttrs (eqA a b)) := by
  obtain ⟨r, h1, h2⟩ := same_eq a b hl
  have : r = eqA a b := by rw [Bool.eq_iff_iff, h2, eqA_iff]
  rw [h1, this]
def emp {α : Type} (l : List α) : Bool := l.isEmpty
theorem len_pos {α : Type} (l : List α) : decide ((l.length : Int) > 0) = !(emp l) := by
  cases l with
  | nil => rfl
  | cons x l => exact decide_eq_true (by have : (x :: l).length = l.length + 1 := rfl; omega)
end Go.Ev.Delta
