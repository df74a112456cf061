
import Derived.Test.YteojfhgljknmiaaDoorPFlow
namespace Go.Ev.Track
open Go.Ev Go.Ev.Attr
set_option linter.unusedVariables false
set_option linter.unusedSimpArgs false
def lErr (text : Bool) : Flow → Int
  | [] => 0
  | x :: l => if eErr x ≠ 0 then eErr x else if text = false ∧ er x = 0 then 8 else lErr text l
def tErr (text : Bool) (f : Flow) : Int := if text = true ∧ (f = [] ∨ ec (atE f (f.length - 1)) ≠ 10) then 11 else 0
def fErr (text : Bool) (f : Flow) : Int := if lErr text f ≠ 0 then lErr text f else tErr text f
theorem eErr_one {x : YElem.den} (h : eErr x = 0) : er x = 0 ↔ ec x ≠ 0 := by
  unfold eErr at h
  split at h
  · cases h
  · rename_i h1
    constructor
    · intro h2 h3; exact h1 (.inl ⟨h3, h2⟩)
    · intro h2; exact Decidable.byContradiction fun h3 => h1 (.inr ⟨h2, h3⟩)
theorem flow_loop (f : Flow) (text : Bool) (hf : Fs f) (n : Nat) : ∀ (d i m : Nat), i + d = f.length → d < m →
    L_flow_Check_0 n m f text f (f.length : Int) i = some (ret_flow_Check (if lErr text (f.drop i) ≠ 0 then lErr text (f.drop i) else tErr text f)) ∧
    L_R_FlowError_0 n m f text (f.length : Int) i = some (ret_R_FlowError (if lErr text (f.drop i) ≠ 0 then lErr text (f.drop i) else tErr text f)) := by
  have hl := hf.1
  intro d
  induction d with
  | zero =>
    intro i m hi hm
    obtain ⟨m, rfl⟩ : ∃ k, m = k + 1 := ⟨m - 1, by omega⟩
    have : i = f.length := by omega
    subst this
    rw [L_flow_Check_0_step, L_R_FlowError_0_step, List.drop_length]
    simp only [bcond_if, dlt_self, Bool.false_eq_true, if_false, lErr, ne_eq, not_true]
    unfold tErr
    cases text
    · simp
    · by_cases h0 : f = []
      · subst h0; simp
      · have hp : 1 ≤ f.length := by
          cases f with
          | nil => exact absurd rfl h0
          | cons x f => simp
        have b0 : ((f.length : Int) == 0) = false := beq_eq_false_iff_ne.2 (by omega)
        have w : IntKind.i64.wrap ((f.length : Int) - 1) = ((f.length - 1 : Nat) : Int) := wnat (by omega) (by omega)
        have ex : at_ (e := YElem) f ((f.length - 1 : Nat) : Int) = atE f (f.length - 1) := rfl
        have e1 : (atE f (f.length - 1)).1 = ec (atE f (f.length - 1)) := rfl
        simp only [b0, w, inb, show f.length - 1 < f.length by omega, ex, e1, beq_self_eq_true, if_true, Bool.false_eq_true, if_false, h0, false_or, true_and]
        by_cases h1 : ec (atE f (f.length - 1)) = 10
        · simp [h1]
        · have : (ec (atE f (f.length - 1)) != 10) = true := by simpa using h1
          simp [h1]
  | succ d ih =>
    intro i m hi hm
    obtain ⟨m, rfl⟩ : ∃ k, m = k + 1 := ⟨m - 1, by omega⟩
    have hil : i < f.length := by omega
    have w1 := wsucc hil (show f.length ≤ 4611686018427387904 by omega)
    have ex : at_ (e := YElem) f (i : Int) = atE f i := rfl
    have e1 : (atE f i).1 = ec (atE f i) := rfl
    have e2 : (atE f i).2.1 = er (atE f i) := rfl
    rw [L_flow_Check_0_step, L_R_FlowError_0_step, drop_elem f hil]
    simp only [bcond_if, inb, hil, dlt hil, if_true, w1, ex, e1, e2, elem_eq _ (hf.2 i), relem_eq _ (hf.2 i), Option.bind_some, res_flow_elem_0_ret, res_R_ElemError_0_ret, lErr, (ih (i + 1) m (by omega) (by omega)).1, (ih (i + 1) m (by omega) (by omega)).2]
    by_cases h : eErr (atE f i) = 0
    · have ho := eErr_one h
      cases text
      · by_cases h2 : er (atE f i) = 0
        · have h3 := ho.1 h2
          simp [h, h2, h3]
        · have h3 : ec (atE f i) = 0 := Decidable.byContradiction fun z => h2 (ho.2 z)
          simp [h, h2, h3]
      · simp [h]
    · simp [h]
theorem flow_eq (f : Flow) (text : Bool) (hf : Fs f) : C_flow_Check F_flow_Check f text = some (ret_flow_Check (fErr text f)) ∧ C_R_FlowError F_R_FlowError f text = some (ret_R_FlowError (fErr text f)) := by
  have hl := hf.1
  rw [e_flow_Check, e_R_FlowError]
  have := flow_loop f text hf big f.length 0 big (by omega) (big_ge (n := f.length + 1) (by omega))
  rw [List.drop_zero] at this
  exact this
end Go.Ev.Track
