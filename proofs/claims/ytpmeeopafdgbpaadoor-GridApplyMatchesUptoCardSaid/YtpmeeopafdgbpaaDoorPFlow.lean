
import Derived.Test.YtpmeeopafdgbpaaDoorPAttrF
import Derived.Test.YtpmeeopafdgbpaaDoorGFlow
namespace Go.Ev.Axis
open Go.Ev
theorem in_eq (x lo hi : Int) : C_R_In F_R_In x lo hi = some (ret_R_In (decide (lo ≤ x) && decide (x ≤ hi))) := by
  rw [e_R_In]
  simp only [bcond_if]
  by_cases h : lo ≤ x <;> simp [h]
end Go.Ev.Axis
namespace Go.Ev.Track
open Go.Ev Go.Ev.Attr
set_option linter.unusedVariables false
set_option linter.unusedSimpArgs false
def ec (x : YElem.den) : Int := x.1
def er (x : YElem.den) : Int := x.2.1
def ea (x : YElem.den) : Attrs := x.2.2
def chr (c : Int) : Bool := c == 9 || c == 10 || (decide (32 ≤ c) && decide (c ≤ 126)) || (decide (160 ≤ c) && decide (c ≤ 55295)) || (decide (57344 ≤ c) && decide (c ≤ 1114111))
theorem char_eq (c : Int) : C_flow_Char F_flow_Char c = some (ret_flow_Char (chr c)) := by
  rw [e_flow_Char]
  unfold chr
  have q1 : decide (c < 127) = decide (c ≤ 126) := by
    by_cases h : c ≤ 126
    · rw [decide_eq_true h, decide_eq_true (by omega)]
    · rw [decide_eq_false h, decide_eq_false (by omega)]
  have q2 : decide (c < 55296) = decide (c ≤ 55295) := by
    by_cases h : c ≤ 55295
    · rw [decide_eq_true h, decide_eq_true (by omega)]
    · rw [decide_eq_false h, decide_eq_false (by omega)]
  have q3 : decide (c > 57343) = decide (57344 ≤ c) := by
    by_cases h : 57344 ≤ c
    · rw [decide_eq_true h, decide_eq_true (by omega)]
    · rw [decide_eq_false h, decide_eq_false (by omega)]
  have q4 : decide (c ≥ 32) = decide (32 ≤ c) := rfl
  have q5 : decide (c ≥ 160) = decide (160 ≤ c) := rfl
  rw [q1, q2, q3, q4, q5]
  simp only [bcond_if]
  cases (c == 9) <;> cases (c == 10) <;> cases decide (32 ≤ c) <;> cases decide (c ≤ 126) <;> cases decide (160 ≤ c) <;> cases decide (c ≤ 55295) <;> cases decide (57344 ≤ c) <;> simp
theorem rchar_eq (c : Int) : C_R_Char F_R_Char c = some (ret_R_Char (chr c)) := by
  rw [e_R_Char]
  unfold chr
  simp only [bcond_if, Axis.in_eq, Option.bind_some, res_R_In_0_ret]
  cases (c == 9) <;> cases (c == 10) <;> cases decide (32 ≤ c) <;> cases decide (c ≤ 126) <;> cases decide (160 ≤ c) <;> cases decide (c ≤ 55295) <;> cases decide (57344 ≤ c) <;> simp
def on (b : Str) : Bool := b == [111, 110]
end Go.Ev.Track
