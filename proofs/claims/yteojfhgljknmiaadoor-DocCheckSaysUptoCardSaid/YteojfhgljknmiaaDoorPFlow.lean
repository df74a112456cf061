
import Derived.Test.YteojfhgljknmiaaDoorPAttrF
import Derived.Test.YteojfhgljknmiaaDoorGFlow
namespace Go.Ev.Axis
open Go.Ev
theorem in_eq (x lo hi : Int) : C_R_In F_R_In x lo hi = some (ret_R_In (decide (lo ≤ x) && decide (x ≤ hi))) := by
  rw [e_R_In]
  simp only [bcond_if]
  by_cases h : lo ≤ x <;> simp [h]
end Go.Ev.Axis
namespace Go.Ev.Track
open Go.Ev Go.Ev.Attr
set_option linter.unusedVariables false
set_option linter.unusedSimpArgs false
abbrev Flow := List YElem.den
def ec (x : YElem.den) : Int := x.1
def er (x : YElem.den) : Int := x.2.1
def ea (x : YElem.den) : Attrs := x.2.2
def mkE (c r : Int) (a : Attrs) : YElem.den := (c, r, a)
@[simp] theorem ec_mk (c r : Int) (a : Attrs) : ec (mkE c r a) = c := rfl
@[simp] theorem er_mk (c r : Int) (a : Attrs) : er (mkE c r a) = r := rfl
@[simp] theorem ea_mk (c r : Int) (a : Attrs) : ea (mkE c r a) = a := rfl
def atE (l : Flow) (i : Nat) : YElem.den := at_ (e := YElem) l (i : Int)
theorem drop_elem (l : Flow) {i : Nat} (h : i < l.length) : l.drop i = atE l i :: l.drop (i + 1) := drop_at' l h
/-- Flows and their attributes are short enough. -/
def Fs (f : Flow) : Prop := f.length ≤ 1048576 ∧ ∀ i, Sh (ea (atE f i))
def chr (c : Int) : Bool := c == 9 || c == 10 || (decide (32 ≤ c) && decide (c ≤ 126)) || (decide (160 ≤ c) && decide (c ≤ 55295)) || (decide (57344 ≤ c) && decide (c ≤ 1114111))
theorem char_eq (c : Int) : C_flow_Char F_flow_Char c = some (ret_flow_Char (chr c)) := by
  rw [e_flow_Char]
  unfold chr
  have q1 : decide (c < 127) = decide (c ≤ 126) := by
    by_cases h : c ≤ 126
    · rw [decide_eq_true h, decide_eq_true (by omega)]
    · rw [decide_eq_false h, decide_eq_false (by omega)]
  have q2 : decide (c < 55296) = decide (c ≤ 55295) := by
    by_cases h : c ≤ 55295
    · rw [decide_eq_true h, decide_eq_true (by omega)]
    · rw [decide_eq_false h, decide_eq_false (by omega)]
  have q3 : decide (c > 57343) = decide (57344 ≤ c) := by
    by_cases h : 57344 ≤ c
    · rw [decide_eq_true h, decide_eq_true (by omega)]
    · rw [decide_eq_false h, decide_eq_false (by omega)]
  have q4 : decide (c ≥ 32) = decide (32 ≤ c) := rfl
  have q5 : decide (c ≥ 160) = decide (160 ≤ c) := rfl
  rw [q1, q2, q3, q4, q5]
  simp only [bcond_if]
  cases (c == 9) <;> cases (c == 10) <;> cases decide (32 ≤ c) <;> cases decide (c ≤ 126) <;> cases decide (160 ≤ c) <;> cases decide (c ≤ 55295) <;> cases decide (57344 ≤ c) <;> simp
theorem rchar_eq (c : Int) : C_R_Char F_R_Char c = some (ret_R_Char (chr c)) := by
  rw [e_R_Char]
  unfold chr
  simp only [bcond_if, Axis.in_eq, Option.bind_some, res_R_In_0_ret]
  cases (c == 9) <;> cases (c == 10) <;> cases decide (32 ≤ c) <;> cases decide (c ≤ 126) <;> cases decide (160 ≤ c) <;> cases decide (c ≤ 55295) <;> cases decide (57344 ≤ c) <;> simp
def eErr (x : YElem.den) : Int :=
  if (ec x = 0 ∧ er x = 0) ∨ (ec x ≠ 0 ∧ er x ≠ 0) then 4 else if (er x = 0 ∧ chr (ec x) = false) ∨ (er x ≠ 0 ∧ (er x < 1 ∨ 1073741824 < er x)) then 2 else err false (ea x)
theorem elem_eq (x : YElem.den) (h : Sh (ea x)) : C_flow_elem F_flow_elem x = some (ret_flow_elem (eErr x)) := by
  have e1 : x.1 = ec x := rfl
  have e2 : x.2.1 = er x := rfl
  have e3 : x.2.2 = ea x := rfl
  rw [e_flow_elem]
  simp only [e1, e2, e3, char_eq, Option.bind_some, res_flow_Char_0_ret, check_eq _ h, res_attr_Check_0_ret, bcond_if]
  unfold eErr
  by_cases h1 : ec x = 0
  · by_cases h2 : er x = 0
    · simp [h1, h2]
    · by_cases h3 : er x < 1
      · simp [h1, h2, h3]
      · by_cases h4 : 1073741824 < er x
        · simp [h1, h2, h3, h4]
        · simp [h1, h2, h3, h4]
  · by_cases h2 : er x = 0
    · cases hc : chr (ec x) <;> simp [h1, h2, hc]
    · have b1 : (ec x != 0) = true := by simpa using h1
      have b2 : (er x != 0) = true := by simpa using h2
      simp [h1, h2, b1, b2]
theorem relem_eq (x : YElem.den) (h : Sh (ea x)) : C_R_ElemError F_R_ElemError x = some (ret_R_ElemError (eErr x)) := by
  have e1 : x.1 = ec x := rfl
  have e2 : x.2.1 = er x := rfl
  have e3 : x.2.2 = ea x := rfl
  rw [e_R_ElemError]
  simp only [e1, e2, e3, rchar_eq, Option.bind_some, res_R_Char_0_ret, rerr_eq _ h, res_R_AttrsError_0_ret, bcond_if, Axis.in_eq, res_R_In_0_ret]
  unfold eErr
  by_cases h1 : ec x = 0
  · by_cases h2 : er x = 0
    · simp [h1, h2]
    · by_cases h3 : er x < 1
      · have h3' : ¬ 1 ≤ er x := by omega
        simp [h1, h2, h3, h3']
      · have h3' : 1 ≤ er x := by omega
        by_cases h4 : 1073741824 < er x
        · have h4' : ¬ er x ≤ 1073741824 := by omega
          simp [h1, h2, h3, h3', h4, h4']
        · have h4' : er x ≤ 1073741824 := by omega
          simp [h1, h2, h3, h3', h4, h4']
  · by_cases h2 : er x = 0
    · cases hc : chr (ec x) <;> simp [h1, h2, hc]
    · simp [h1, h2]
def on (b : Str) : Bool := b == [111, 110]
end Go.Ev.Track
