
import Derived.Test.YtpmeeopafdgbpaaDoorEvGot
namespace Go.Ev
set_option linter.unusedVariables false
set_option linter.unusedSimpArgs false
theorem at_int (l : List Int) (i : Nat) : at_ (e := .int .i64) l (i : Int) = l.getD i 0 := rfl
theorem drop_int (l : List Int) {i : Nat} (h : i < l.length) : l.drop i = l.getD i 0 :: l.drop (i + 1) := by
  rw [List.drop_eq_getElem_cons h]
  simp [List.getD_eq_getElem?_getD, h]
end Go.Ev
