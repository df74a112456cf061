
import Derived.Test.YteojfhgljknmiaaDoorEvGot
import Derived.Test.YteojfhgljknmiaaDoorGInts
namespace Go.Ev
set_option linter.unusedVariables false
set_option linter.unusedSimpArgs false
theorem at_int (l : List Int) (i : Nat) : at_ (e := .int .i64) l (i : Int) = l.getD i 0 := rfl
theorem drop_int (l : List Int) {i : Nat} (h : i < l.length) : l.drop i = l.getD i 0 :: l.drop (i + 1) := by
  rw [List.drop_eq_getElem_cons h]
  simp [List.getD_eq_getElem?_getD, h]
theorem ints_loop (a b : List Int) (hl : a.length ≤ 1048576) (he : a.length = b.length) (n : Nat) : ∀ (d i m : Nat), i + d = a.length → d < m → L_R_SameInts_0 n m a b (a.length : Int) i = some (ret_R_SameInts (decide (a.drop i = b.drop i))) := by
  intro d
  induction d with
  | zero =>
    intro i m hi hm
    cases m with
    | zero => omega
    | succ m =>
    have : i = a.length := by omega
    subst this
    have c1 : decide ((a.length : Int) < (a.length : Int)) = false := decide_eq_false (by omega)
    rw [L_R_SameInts_0_step, List.drop_length, he, List.drop_length]
    rw [he] at c1
    simp [bcond_if, c1]
  | succ d ih =>
    intro i m hi hm
    cases m with
    | zero => omega
    | succ m =>
    have hil : i < a.length := by omega
    have hib : i < b.length := by omega
    have c1 : decide ((i : Int) < (a.length : Int)) = true := decide_eq_true (by omega)
    have w1 : IntKind.i64.wrap ((i : Int) + 1) = ((i + 1 : Nat) : Int) := wnat (by omega) (by omega)
    rw [L_R_SameInts_0_step, drop_int a hil, drop_int b hib]
    simp only [bcond_if, inb, hil, hib, c1, if_true, w1, at_int, ih (i + 1) m (by omega) (by omega)]
    by_cases h0 : a.getD i 0 = b.getD i 0
    · rw [if_neg (by simpa using h0)]
      simp only [List.cons.injEq, h0, true_and]
    · rw [if_pos (by simpa using h0)]
      simp only [List.cons.injEq, h0, false_and, decide_false]
theorem ints_eq (a b : List Int) (hl : a.length ≤ 1048576) : C_R_SameInts F_R_SameInts a b = some (ret_R_SameInts (decide (a = b))) := by
  obtain ⟨m, hm⟩ := big_succ (n := 1048577) (by omega)
  rw [e_R_SameInts]
  simp only [bcond_if]
  by_cases he : a.length = b.length
  · rw [if_neg (by simp; omega)]
    have := ints_loop a b hl he big a.length 0 big (by omega) (by omega)
    simpa using this
  · rw [if_pos (by simp; omega)]
    have : ¬ a = b := fun e => he (by rw [e])
    simp [this]
end Go.Ev
