
/- Attributes: the plain side, second part: errors of lists, getting, comparing; the law of checks but for its facts. -/
import Derived.Test.YtlgjdgebmiegeaaPAttr
namespace Go.Ev.Attr
open Go.Ev
set_option linter.unusedVariables false
set_option linter.unusedSimpArgs false

/-- The error of one attribute behind one named `p`. -/
def eOne (emp : Bool) (p : Option Str) (a : YAttr.den) : Int :=
  if nm (an a) = false then 9 else if vl (av a) = false ∧ ¬ (emp = true ∧ av a = []) then 23 else match p with
  | none => 0
  | some q => if strLess q (an a) = true then 0 else 5
def aErr (emp : Bool) : Option Str → Attrs → Int
  | _, [] => 0
  | p, a :: l => if eOne emp p a ≠ 0 then eOne emp p a else aErr emp (some (an a)) l
def prv (l : Attrs) (i : Nat) : Option Str := if i = 0 then none else some (an (atA l (i - 1)))
/-- Texts are short enough. -/
def Sh (l : Attrs) : Prop := l.length ≤ 1048576 ∧ ∀ i, (an (atA l i)).length ≤ 1048576 ∧ (av (atA l i)).length ≤ 1048576

theorem check_step (l : Attrs) (hl : Sh l) (emp : Bool) (n m i : Nat) (hi : i < l.length) : L_attr_check_0 n (m + 1) l emp l (l.length : Int) i =
    if eOne emp (prv l i) (atA l i) ≠ 0 then some (ret_attr_check (eOne emp (prv l i) (atA l i))) else L_attr_check_0 n m l emp l (l.length : Int) ((i + 1 : Nat) : Int) := by
  have hlen := hl.1
  have c1 : decide ((i : Int) < (l.length : Int)) = true := decide_eq_true (by omega)
  have w1 : IntKind.i64.wrap ((i : Int) + 1) = ((i + 1 : Nat) : Int) := wnat (by omega) (by omega)
  have e1 : (at_ (e := YAttr) l (i : Int)).1 = an (atA l i) := rfl
  have e2 : (at_ (e := YAttr) l (i : Int)).2 = av (atA l i) := rfl
  rw [L_attr_check_0_step]
  simp only [bcond_if, inb, hi, c1, if_true, w1, e1, e2, name_eq _ (hl.2 i).1, value_eq _ (hl.2 i).2, Option.bind_some, res_attr_Name_0_ret, res_attr_Value_0_ret]
  generalize atA l i = a
  cases hn : nm (an a) with
  | false =>
    have : eOne emp (prv l i) a = 9 := by simp [eOne, hn]
    rw [this]; rfl
  | true =>
    simp only [Bool.not_true, Bool.false_eq_true, if_false]
    by_cases h0 : i = 0
    · subst h0
      have hp : prv l 0 = none := rfl
      have c2 : decide (((0 : Nat) : Int) > 0) = false := rfl
      simp only [hp, c2]
      cases hv : vl (av a) with
      | true =>
        have : eOne emp none a = 0 := by simp [eOne, hn, hv]
        rw [this]; simp
      | false =>
        cases he : (av a == []) with
        | true =>
          have he' : av a = [] := by simpa using he
          cases emp with
          | true =>
            have : eOne true none a = 0 := by simp [eOne, hn, hv, he']
            rw [this]; simp
          | false =>
            have : eOne false none a = 23 := by simp [eOne, hn, hv]
            rw [this]; simp
        | false =>
          have he' : ¬ av a = [] := by simpa using he
          have : eOne emp none a = 23 := by simp [eOne, hn, hv, he']
          rw [this]; cases emp <;> simp
    · have hp : prv l i = some (an (atA l (i - 1))) := by simp [prv, h0]
      have w2 : IntKind.i64.wrap ((i : Int) - 1) = ((i - 1 : Nat) : Int) := wnat (by omega) (by omega)
      have h6 : i - 1 < l.length := by omega
      have c2 : decide ((i : Int) > 0) = true := decide_eq_true (by omega)
      have e3 : (at_ (e := YAttr) l ((i - 1 : Nat) : Int)).1 = an (atA l (i - 1)) := rfl
      simp only [hp, c2, w2, inb, h6, if_true, e3, ← sl_not]
      generalize an (atA l (i - 1)) = q
      cases hv : vl (av a) with
      | true =>
        cases hs : strLess q (an a) with
        | true =>
          have : eOne emp (some q) a = 0 := by simp [eOne, hn, hv, hs]
          rw [this]; simp
        | false =>
          have : eOne emp (some q) a = 5 := by simp [eOne, hn, hv, hs]
          rw [this]; simp
      | false =>
        cases he : (av a == []) with
        | true =>
          have he' : av a = [] := by simpa using he
          cases emp with
          | true =>
            cases hs : strLess q (an a) with
            | true =>
              have : eOne true (some q) a = 0 := by simp [eOne, hn, hv, hs, he']
              rw [this]; simp
            | false =>
              have : eOne true (some q) a = 5 := by simp [eOne, hn, hv, hs, he']
              rw [this]; simp
          | false =>
            have : eOne false (some q) a = 23 := by simp [eOne, hn, hv]
            rw [this]; simp
        | false =>
          have he' : ¬ av a = [] := by simpa using he
          have : eOne emp (some q) a = 23 := by simp [eOne, hn, hv, he']
          rw [this]; cases emp <;> simp
theorem rcheck_step (l : Attrs) (hl : Sh l) (emp : Bool) (n m i : Nat) (hi : i < l.length) : L_R_AttrsError_0 n (m + 1) l emp (l.length : Int) i =
    if eOne emp (prv l i) (atA l i) ≠ 0 then some (ret_R_AttrsError (eOne emp (prv l i) (atA l i))) else L_R_AttrsError_0 n m l emp (l.length : Int) ((i + 1 : Nat) : Int) := by
  have hlen := hl.1
  have c1 : decide ((i : Int) < (l.length : Int)) = true := decide_eq_true (by omega)
  have w1 : IntKind.i64.wrap ((i : Int) + 1) = ((i + 1 : Nat) : Int) := wnat (by omega) (by omega)
  have e1 : (at_ (e := YAttr) l (i : Int)).1 = an (atA l i) := rfl
  have e2 : (at_ (e := YAttr) l (i : Int)).2 = av (atA l i) := rfl
  rw [L_R_AttrsError_0_step]
  simp only [bcond_if, inb, hi, c1, if_true, w1, e1, e2, rname_eq _ (hl.2 i).1, rvalue_eq _ (hl.2 i).2, Option.bind_some, res_R_Name_0_ret, res_R_Value_0_ret]
  generalize atA l i = a
  cases hn : nm (an a) with
  | false =>
    have : eOne emp (prv l i) a = 9 := by simp [eOne, hn]
    rw [this]; rfl
  | true =>
    simp only [Bool.not_true, Bool.false_eq_true, if_false]
    by_cases h0 : i = 0
    · subst h0
      have hp : prv l 0 = none := rfl
      have c2 : decide (((0 : Nat) : Int) > 0) = false := rfl
      simp only [hp, c2]
      cases hv : vl (av a) with
      | true =>
        have : eOne emp none a = 0 := by simp [eOne, hn, hv]
        rw [this]; simp
      | false =>
        cases he : (av a == []) with
        | true =>
          have he' : av a = [] := by simpa using he
          cases emp with
          | true =>
            have : eOne true none a = 0 := by simp [eOne, hn, hv, he']
            rw [this]; simp
          | false =>
            have : eOne false none a = 23 := by simp [eOne, hn, hv]
            rw [this]; simp
        | false =>
          have he' : ¬ av a = [] := by simpa using he
          have : eOne emp none a = 23 := by simp [eOne, hn, hv, he']
          rw [this]; cases emp <;> simp
    · have hp : prv l i = some (an (atA l (i - 1))) := by simp [prv, h0]
      have w2 : IntKind.i64.wrap ((i : Int) - 1) = ((i - 1 : Nat) : Int) := wnat (by omega) (by omega)
      have h6 : i - 1 < l.length := by omega
      have c2 : decide ((i : Int) > 0) = true := decide_eq_true (by omega)
      have e3 : (at_ (e := YAttr) l ((i - 1 : Nat) : Int)).1 = an (atA l (i - 1)) := rfl
      simp only [hp, c2, w2, inb, h6, if_true, e3]
      generalize an (atA l (i - 1)) = q
      cases hv : vl (av a) with
      | true =>
        cases hs : strLess q (an a) with
        | true =>
          have : eOne emp (some q) a = 0 := by simp [eOne, hn, hv, hs]
          rw [this]; simp
        | false =>
          have : eOne emp (some q) a = 5 := by simp [eOne, hn, hv, hs]
          rw [this]; simp
      | false =>
        cases he : (av a == []) with
        | true =>
          have he' : av a = [] := by simpa using he
          cases emp with
          | true =>
            cases hs : strLess q (an a) with
            | true =>
              have : eOne true (some q) a = 0 := by simp [eOne, hn, hv, hs, he']
              rw [this]; simp
            | false =>
              have : eOne true (some q) a = 5 := by simp [eOne, hn, hv, hs, he']
              rw [this]; simp
          | false =>
            have : eOne false (some q) a = 23 := by simp [eOne, hn, hv]
            rw [this]; simp
        | false =>
          have he' : ¬ av a = [] := by simpa using he
          have : eOne emp (some q) a = 23 := by simp [eOne, hn, hv, he']
          rw [this]; cases emp <;> simp

theorem check_loop (l : Attrs) (hl : Sh l) (emp : Bool) (n : Nat) : ∀ (d i m : Nat), i + d = l.length → d < m → L_attr_check_0 n m l emp l (l.length : Int) i = some (ret_attr_check (aErr emp (prv l i) (l.drop i))) := by
  intro d
  induction d with
  | zero =>
    intro i m hi hm
    cases m with
    | zero => omega
    | succ m =>
    have : i = l.length := by omega
    subst this
    have c1 : decide ((l.length : Int) < (l.length : Int)) = false := decide_eq_false (by omega)
    rw [L_attr_check_0_step, List.drop_length]
    simp [bcond_if, c1, aErr]
  | succ d ih =>
    intro i m hi hm
    cases m with
    | zero => omega
    | succ m =>
    have hil : i < l.length := by omega
    have hp : prv l (i + 1) = some (an (atA l i)) := by simp [prv]
    rw [check_step l hl emp n m i hil, drop_attr l hil, aErr, ih (i + 1) m (by omega) (by omega), hp]
    split <;> rfl
theorem rcheck_loop (l : Attrs) (hl : Sh l) (emp : Bool) (n : Nat) : ∀ (d i m : Nat), i + d = l.length → d < m → L_R_AttrsError_0 n m l emp (l.length : Int) i = some (ret_R_AttrsError (aErr emp (prv l i) (l.drop i))) := by
  intro d
  induction d with
  | zero =>
    intro i m hi hm
    cases m with
    | zero => omega
    | succ m =>
    have : i = l.length := by omega
    subst this
    have c1 : decide ((l.length : Int) < (l.length : Int)) = false := decide_eq_false (by omega)
    rw [L_R_AttrsError_0_step, List.drop_length]
    simp [bcond_if, c1, aErr]
  | succ d ih =>
    intro i m hi hm
    cases m with
    | zero => omega
    | succ m =>
    have hil : i < l.length := by omega
    have hp : prv l (i + 1) = some (an (atA l i)) := by simp [prv]
    rw [rcheck_step l hl emp n m i hil, drop_attr l hil, aErr, ih (i + 1) m (by omega) (by omega), hp]
    split <;> rfl
def err (emp : Bool) (l : Attrs) : Int := aErr emp none l
theorem chk_eq (l : Attrs) (hl : Sh l) (emp : Bool) : C_attr_check F_attr_check l emp = some (ret_attr_check (err emp l)) := by
  obtain ⟨m, hm⟩ := big_succ (n := 1048577) (by omega)
  have hlen := hl.1
  rw [e_attr_check]
  have := check_loop l hl emp big l.length 0 big (by omega) (by omega)
  simpa [prv, err] using this
theorem check_eq (l : Attrs) (hl : Sh l) : C_attr_Check F_attr_Check l = some (ret_attr_Check (err false l)) := by rw [e_attr_Check, chk_eq l hl]; rfl
theorem checkc_eq (l : Attrs) (hl : Sh l) : C_attr_CheckChange F_attr_CheckChange l = some (ret_attr_CheckChange (err true l)) := by rw [e_attr_CheckChange, chk_eq l hl]; rfl
theorem rerr_eq (l : Attrs) (hl : Sh l) (emp : Bool) : C_R_AttrsError F_R_AttrsError l emp = some (ret_R_AttrsError (err emp l)) := by
  obtain ⟨m, hm⟩ := big_succ (n := 1048577) (by omega)
  have hlen := hl.1
  rw [e_R_AttrsError]
  have := rcheck_loop l hl emp big l.length 0 big (by omega) (by omega)
  simpa [prv, err] using this

/-! ### Getting -/
def get (s : Str) : Attrs → Str
  | [] => []
  | a :: l => if an a = s then av a else get s l
theorem rget_loop (l : Attrs) (hl : l.length ≤ 1048576) (s : Str) (n : Nat) : ∀ (d i m : Nat), i + d = l.length → d < m → L_R_Get_0 n m l s (l.length : Int) i = some (ret_R_Get (get s (l.drop i))) := by
  intro d
  induction d with
  | zero =>
    intro i m hi hm
    cases m with
    | zero => omega
    | succ m =>
    have : i = l.length := by omega
    subst this
    have c1 : decide ((l.length : Int) < (l.length : Int)) = false := decide_eq_false (by omega)
    rw [L_R_Get_0_step, List.drop_length]
    simp [bcond_if, c1, get]
  | succ d ih =>
    intro i m hi hm
    cases m with
    | zero => omega
    | succ m =>
    have hil : i < l.length := by omega
    have c1 : decide ((i : Int) < (l.length : Int)) = true := decide_eq_true (by omega)
    have w1 : IntKind.i64.wrap ((i : Int) + 1) = ((i + 1 : Nat) : Int) := wnat (by omega) (by omega)
    have e1 : (at_ (e := YAttr) l (i : Int)).1 = an (atA l i) := rfl
    have e2 : (at_ (e := YAttr) l (i : Int)).2 = av (atA l i) := rfl
    rw [L_R_Get_0_step, drop_attr l hil]
    simp only [bcond_if, inb, hil, c1, if_true, w1, e1, e2, get, ih (i + 1) m (by omega) (by omega)]
    by_cases h : an (atA l i) = s
    · simp [h]
    · simp [h]
theorem rget_eq (l : Attrs) (hl : l.length ≤ 1048576) (s : Str) : C_R_Get F_R_Get l s = some (ret_R_Get (get s l)) := by
  obtain ⟨m, hm⟩ := big_succ (n := 1048577) (by omega)
  rw [e_R_Get]
  have := rget_loop l hl s big l.length 0 big (by omega) (by omega)
  simpa using this
theorem get_loop (l : Attrs) (hl : l.length ≤ 1048576) (s : Str) (n : Nat) : ∀ (d i m : Nat), i + d = l.length → d < m → L_attr_Get_0 n m s l (l.length : Int) i = some (ret_attr_Get (get s (l.drop i))) ∧ L_R_Get_0 n m l s (l.length : Int) i = some (ret_R_Get (get s (l.drop i))) := by
  intro d
  induction d with
  | zero =>
    intro i m hi hm
    cases m with
    | zero => omega
    | succ m =>
    have : i = l.length := by omega
    subst this
    have c1 : decide ((l.length : Int) < (l.length : Int)) = false := decide_eq_false (by omega)
    rw [L_attr_Get_0_step, L_R_Get_0_step, List.drop_length]
    simp [bcond_if, c1, get]
  | succ d ih =>
    intro i m hi hm
    cases m with
    | zero => omega
    | succ m =>
    have hil : i < l.length := by omega
    have c1 : decide ((i : Int) < (l.length : Int)) = true := decide_eq_true (by omega)
    have w1 : IntKind.i64.wrap ((i : Int) + 1) = ((i + 1 : Nat) : Int) := wnat (by omega) (by omega)
    have e1 : (at_ (e := YAttr) l (i : Int)).1 = an (atA l i) := rfl
    have e2 : (at_ (e := YAttr) l (i : Int)).2 = av (atA l i) := rfl
    rw [L_attr_Get_0_step, L_R_Get_0_step, drop_attr l hil]
    simp only [bcond_if, inb, hil, c1, if_true, w1, e1, e2, get, (ih (i + 1) m (by omega) (by omega)).1, (ih (i + 1) m (by omega) (by omega)).2]
    by_cases h : an (atA l i) = s
    · simp [h]
    · simp [h]
theorem get_eq (l : Attrs) (hl : l.length ≤ 1048576) (s : Str) : C_attr_Get F_attr_Get l s = some (ret_attr_Get (get s l)) := by
  obtain ⟨m, hm⟩ := big_succ (n := 1048577) (by omega)
  rw [e_attr_Get]
  have := (get_loop l hl s big l.length 0 big (by omega) (by omega)).1
  simpa using this
end Go.Ev.Attr
