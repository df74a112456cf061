
import Derived.Test.YtpmeeopafdgbpaaDoorEvGot
import Derived.Test.YtpmeeopafdgbpaaDoorGAxis
import Derived.Test.YtpmeeopafdgbpaaDoorPInts
namespace Go.Ev.Axis
open Go.Ev
set_option linter.unusedVariables false
set_option linter.unusedSimpArgs false
abbrev Steps := List YSpan.den
def kind (l : Steps) (i : Nat) : Int := (at_ (e := YSpan) l (i : Int)).1
def num (l : Steps) (i : Nat) : Int := (at_ (e := YSpan) l (i : Int)).2
def sk (s : YSpan.den) : Int := s.1
def sn (s : YSpan.den) : Int := s.2
def mkS (k n : Int) : YSpan.den := (k, n)
@[simp] theorem sk_mk (a b : Int) : sk (mkS a b) = a := rfl
@[simp] theorem sn_mk (a b : Int) : sn (mkS a b) = b := rfl
theorem drop_cons (l : Steps) {i : Nat} (h : i < l.length) : l.drop i = mkS (kind l i) (num l i) :: l.drop (i + 1) := by
  rw [List.drop_eq_getElem_cons h]
  congr 1
  unfold kind num at_ mkS
  simp [List.getD_eq_getElem?_getD, h]
/-- The error of one step behind one of kind `p`. -/
def sErr (p : Option Int) (k n : Int) : Int :=
  if k < 0 ∨ 2 < k then 8 else if n < 1 ∨ 2147483647 < n then 2 else match p with
  | none => 0
  | some q => if q = k ∨ q = 2 ∧ k = 1 then 5 else 0
def addB (k n b : Int) : Int := if k = 1 then b else b + n
def addA (k n a : Int) : Int := if k = 2 then a else a + n
def err : Option Int → Int → Int → Steps → Int
  | _, b, a, [] => if 2147483647 < b ∨ 2147483647 < a then 3 else 0
  | p, b, a, s :: l => if sErr p (sk s) (sn s) ≠ 0 then sErr p (sk s) (sn s) else err (some (sk s)) (addB (sk s) (sn s) b) (addA (sk s) (sn s) a) l
def prev (l : Steps) (i : Nat) : Option Int := if i = 0 then none else some (kind l (i - 1))
/-- A bounded number tells of an unbounded one. -/
def R (x b : Int) : Prop := 0 ≤ x ∧ x ≤ 4294967296 ∧ ((x < 2147483648 ∧ x = b) ∨ (2147483648 ≤ x ∧ 2147483648 ≤ b))
theorem R_min {x b n : Int} (h : R x b) (h1 : 1 ≤ n) (h2 : n ≤ 2147483647) : R (if (2147483648 : Int) < IntKind.i64.wrap (x + n) then 2147483648 else IntKind.i64.wrap (x + n)) (b + n) := by
  obtain ⟨a1, a2, a3⟩ := h
  rw [w64 (by omega) (by omega)]
  unfold R
  split <;> omega
theorem sErr_zero {p : Option Int} {k n : Int} (h : sErr p k n = 0) : (k = 0 ∨ k = 1 ∨ k = 2) ∧ 1 ≤ n ∧ n ≤ 2147483647 ∧ ∀ q, p = some q → q ≠ k ∧ ¬ (q = 2 ∧ k = 1) := by
  unfold sErr at h
  split at h
  · cases h
  · split at h
    · cases h
    · refine ⟨by omega, by omega, by omega, fun q hq => ?_⟩
      subst hq
      simp only at h
      split at h
      · cases h
      · rename_i h3
        exact ⟨fun e => h3 (.inl e), fun e => h3 (.inr e)⟩
theorem check_step (l : Steps) (hl : l.length ≤ 1048576) (n m i : Nat) (hi : i < l.length) (x3 x4 : Int) :
    L_axis_Check_0 n (m + 1) l x3 x4 l (l.length : Int) i = if sErr (prev l i) (kind l i) (num l i) ≠ 0 then some (ret_axis_Check (sErr (prev l i) (kind l i) (num l i))) else
      L_axis_Check_0 n m l (if kind l i = 1 then x3 else if (2147483648 : Int) < IntKind.i64.wrap (x3 + num l i) then 2147483648 else IntKind.i64.wrap (x3 + num l i)) (if kind l i = 2 then x4 else if (2147483648 : Int) < IntKind.i64.wrap (x4 + num l i) then 2147483648 else IntKind.i64.wrap (x4 + num l i)) l (l.length : Int) ((i + 1 : Nat) : Int) := by
  have c1 : decide ((i : Int) < (l.length : Int)) = true := decide_eq_true (by omega)
  have w1 : IntKind.i64.wrap ((i : Int) + 1) = ((i + 1 : Nat) : Int) := wnat (by omega) (by omega)
  rw [L_axis_Check_0_step]
  have ek : (at_ (e := YSpan) l (i : Int)).1 = kind l i := rfl
  have en : (at_ (e := YSpan) l (i : Int)).2 = num l i := rfl
  simp only [bcond_if, inb, hi, c1, if_true, w1, ek, en]
  generalize kind l i = k
  generalize num l i = N
  by_cases h1 : k < 0
  · have : sErr (prev l i) k N = 8 := by simp [sErr, h1]
    rw [this]; simp [h1]
  by_cases h2 : 2 < k
  · have : sErr (prev l i) k N = 8 := by simp [sErr, h2]
    have h2' : k > 2 := h2
    rw [this]; simp [h1, h2']
  have h2' : ¬ k > 2 := h2
  by_cases h3 : N < 1
  · have : sErr (prev l i) k N = 2 := by simp [sErr, h1, h2, h3]
    rw [this]; simp [h1, h2', h3]
  by_cases h4 : 2147483647 < N
  · have : sErr (prev l i) k N = 2 := by simp [sErr, h1, h2, h4]
    have h4' : N > 2147483647 := h4
    rw [this]; simp [h1, h2', h3, h4']
  have h4' : ¬ N > 2147483647 := h4
  by_cases h5 : i = 0
  · subst h5
    have : sErr (prev l 0) k N = 0 := by simp [sErr, h1, h2, h3, h4, prev]
    rw [this]
    have : k = 0 ∨ k = 1 ∨ k = 2 := by omega
    rcases this with rfl | rfl | rfl <;> simp [h3, h4']
  · have hp : prev l i = some (kind l (i - 1)) := by simp [prev, h5]
    have w2 : IntKind.i64.wrap ((i : Int) - 1) = ((i - 1 : Nat) : Int) := wnat (by omega) (by omega)
    have ek2 : (at_ (e := YSpan) l ((i - 1 : Nat) : Int)).1 = kind l (i - 1) := rfl
    have h6 : i - 1 < l.length := by omega
    have h7 : decide ((i : Int) > 0) = true := decide_eq_true (by omega)
    simp only [w2, inb, h6, ek2, if_true, hp, h7, beq_self_eq_true]
    generalize kind l (i - 1) = q
    have : k = 0 ∨ k = 1 ∨ k = 2 := by omega
    by_cases h8 : q = k
    · have : sErr (some q) k N = 5 := by simp [sErr, h1, h2, h3, h4, h8]
      rw [this]; simp [h1, h2', h3, h4', h8]
    · by_cases h9 : q = 2 ∧ k = 1
      · have : sErr (some q) k N = 5 := by simp [sErr, h1, h2, h3, h4, h9]
        rw [this]; simp [h1, h2', h3, h4', h9]
      · have : sErr (some q) k N = 0 := by simp [sErr, h1, h2, h3, h4, h8, h9]
        rw [this]
        by_cases h10 : q = 2
        · subst h10
          have hk1 : ¬ k = 1 := fun e => h9 ⟨rfl, e⟩
          rcases ‹k = 0 ∨ k = 1 ∨ k = 2› with rfl | rfl | rfl
          · simp [h3, h4']
          · exact absurd rfl hk1
          · exact absurd rfl h8
        · rcases ‹k = 0 ∨ k = 1 ∨ k = 2› with rfl | rfl | rfl <;> simp [h3, h4', h8, h10]
theorem check_loop (l : Steps) (hl : l.length ≤ 1048576) (n : Nat) : ∀ (d i m : Nat) (x3 x4 b a : Int), i + d = l.length → d < m → R x3 b → R x4 a → L_axis_Check_0 n m l x3 x4 l (l.length : Int) i = some (ret_axis_Check (err (prev l i) b a (l.drop i))) := by
  intro d
  induction d with
  | zero =>
    intro i m x3 x4 b a hi hm hb ha
    cases m with
    | zero => omega
    | succ m =>
    have : i = l.length := by omega
    subst this
    have c1 : decide ((l.length : Int) < (l.length : Int)) = false := decide_eq_false (by omega)
    rw [L_axis_Check_0_step, List.drop_length]
    simp only [bcond_if, c1, Bool.false_eq_true, if_false, err]
    unfold R at hb ha
    by_cases h1 : x3 > 2147483647
    · have : 2147483647 < b ∨ 2147483647 < a := by omega
      simp [h1, this]
    · by_cases h2 : x4 > 2147483647
      · have : 2147483647 < b ∨ 2147483647 < a := by omega
        simp [h1, h2, this]
      · have : ¬ (2147483647 < b ∨ 2147483647 < a) := by omega
        simp [h1, h2, this]
  | succ d ih =>
    intro i m x3 x4 b a hi hm hb ha
    cases m with
    | zero => omega
    | succ m =>
    have hil : i < l.length := by omega
    rw [check_step l hl n m i hil, drop_cons l hil, err, sk_mk, sn_mk]
    by_cases h : sErr (prev l i) (kind l i) (num l i) = 0
    · obtain ⟨k1, n1, n2, _⟩ := sErr_zero h
      simp only [h, ne_eq, not_true, if_false]
      have hp : prev l (i + 1) = some (kind l i) := by simp [prev]
      rw [← hp]
      refine ih (i + 1) m _ _ _ _ (by omega) (by omega) ?_ ?_
      · unfold addB; split
        · exact hb
        · exact R_min hb n1 n2
      · unfold addA; split
        · exact ha
        · exact R_min ha n1 n2
    · simp only [h, ne_eq, not_false_eq_true, if_true]
theorem in_eq (x lo hi : Int) : C_R_In F_R_In x lo hi = some (ret_R_In (decide (lo ≤ x) && decide (x ≤ hi))) := by
  rw [e_R_In]
  simp only [bcond_if]
  by_cases h : lo ≤ x <;> simp [h]
def up (x n : Int) : Int := if x < 2147483648 then IntKind.i64.wrap (x + n) else x
theorem R_up {x b n : Int} (h : R x b) (h1 : 1 ≤ n) (h2 : n ≤ 2147483647) : R (up x n) (b + n) := by
  obtain ⟨a1, a2, a3⟩ := h
  unfold up
  split
  · rw [w64 (by omega) (by omega)]
    unfold R; omega
  · unfold R; omega
theorem axerr_step (l : Steps) (hl : l.length ≤ 1048576) (n m i : Nat) (hi : i < l.length) (x3 x4 : Int) :
    L_R_AxisError_0 n (m + 1) l x3 x4 (l.length : Int) i = if sErr (prev l i) (kind l i) (num l i) ≠ 0 then some (ret_R_AxisError (sErr (prev l i) (kind l i) (num l i))) else
      L_R_AxisError_0 n m l (if kind l i = 1 then x3 else up x3 (num l i)) (if kind l i = 2 then x4 else up x4 (num l i)) (l.length : Int) ((i + 1 : Nat) : Int) := by
  have c1 : decide ((i : Int) < (l.length : Int)) = true := decide_eq_true (by omega)
  have w1 : IntKind.i64.wrap ((i : Int) + 1) = ((i + 1 : Nat) : Int) := wnat (by omega) (by omega)
  rw [L_R_AxisError_0_step]
  have ek : (at_ (e := YSpan) l (i : Int)).1 = kind l i := rfl
  have en : (at_ (e := YSpan) l (i : Int)).2 = num l i := rfl
  simp only [J_R_AxisError_0, bcond_if, inb, hi, c1, if_true, w1, ek, en, in_eq, Option.bind_some, res_R_In_0_ret]
  generalize kind l i = k
  generalize num l i = N
  by_cases h1 : k < 0
  · have : sErr (prev l i) k N = 8 := by simp [sErr, h1]
    have h1' : ¬ 0 ≤ k := by omega
    rw [this]; simp [h1']
  have h1' : 0 ≤ k := by omega
  by_cases h2 : 2 < k
  · have : sErr (prev l i) k N = 8 := by simp [sErr, h2]
    have h2' : ¬ k ≤ 2 := by omega
    rw [this]; simp [h2']
  have h2' : k ≤ 2 := by omega
  by_cases h3 : N < 1
  · have : sErr (prev l i) k N = 2 := by simp [sErr, h1, h2, h3]
    have h3' : ¬ 1 ≤ N := by omega
    rw [this]; simp [h1', h2', h3']
  have h3' : 1 ≤ N := by omega
  by_cases h4 : 2147483647 < N
  · have : sErr (prev l i) k N = 2 := by simp [sErr, h1, h2, h4]
    have h4' : ¬ N ≤ 2147483647 := by omega
    rw [this]; simp [h1', h2', h3', h4']
  have h4' : N ≤ 2147483647 := by omega
  simp only [h1', h2', h3', h4', decide_true, Bool.and_self, Bool.not_true, Bool.false_eq_true, if_false]
  have last : ∀ (k : Int), k = 0 ∨ k = 1 ∨ k = 2 → (if ((k != 1) == true) = true then if decide (x3 < 2147483648) = true then if ((k != 2) == true) = true then if decide (x4 < 2147483648) = true then L_R_AxisError_0 n m l (IntKind.i64.wrap (x3 + N)) (IntKind.i64.wrap (x4 + N)) (l.length : Int) ((i + 1 : Nat) : Int) else L_R_AxisError_0 n m l (IntKind.i64.wrap (x3 + N)) x4 (l.length : Int) ((i + 1 : Nat) : Int) else L_R_AxisError_0 n m l (IntKind.i64.wrap (x3 + N)) x4 (l.length : Int) ((i + 1 : Nat) : Int)
      else if ((k != 2) == true) = true then if decide (x4 < 2147483648) = true then L_R_AxisError_0 n m l x3 (IntKind.i64.wrap (x4 + N)) (l.length : Int) ((i + 1 : Nat) : Int) else L_R_AxisError_0 n m l x3 x4 (l.length : Int) ((i + 1 : Nat) : Int) else L_R_AxisError_0 n m l x3 x4 (l.length : Int) ((i + 1 : Nat) : Int)
      else if ((k != 2) == true) = true then if decide (x4 < 2147483648) = true then L_R_AxisError_0 n m l x3 (IntKind.i64.wrap (x4 + N)) (l.length : Int) ((i + 1 : Nat) : Int) else L_R_AxisError_0 n m l x3 x4 (l.length : Int) ((i + 1 : Nat) : Int) else L_R_AxisError_0 n m l x3 x4 (l.length : Int) ((i + 1 : Nat) : Int)) = L_R_AxisError_0 n m l (if k = 1 then x3 else up x3 N) (if k = 2 then x4 else up x4 N) (l.length : Int) ((i + 1 : Nat) : Int) := by
    intro k hk
    unfold up
    by_cases hx : x3 < 2147483648 <;> by_cases hy : x4 < 2147483648 <;> rcases hk with rfl | rfl | rfl <;> simp [hx, hy]
  have hk3 : k = 0 ∨ k = 1 ∨ k = 2 := by omega
  by_cases h5 : i = 0
  · subst h5
    have : sErr (prev l 0) k N = 0 := by simp [sErr, h1, h2, h3, h4, prev]
    rw [this, ← last k hk3]
    simp
  · have hp : prev l i = some (kind l (i - 1)) := by simp [prev, h5]
    have w2 : IntKind.i64.wrap ((i : Int) - 1) = ((i - 1 : Nat) : Int) := wnat (by omega) (by omega)
    have ek2 : (at_ (e := YSpan) l ((i - 1 : Nat) : Int)).1 = kind l (i - 1) := rfl
    have h6 : i - 1 < l.length := by omega
    have h7 : decide ((i : Int) > 0) = true := decide_eq_true (by omega)
    simp only [w2, inb, h6, ek2, if_true, hp, h7, beq_self_eq_true]
    generalize kind l (i - 1) = q
    by_cases h8 : q = k
    · have : sErr (some q) k N = 5 := by simp [sErr, h1, h2, h3, h4, h8]
      rw [this]; simp [h8]
    · have h8' : ¬ k = q := fun e => h8 e.symm
      by_cases h9 : q = 2 ∧ k = 1
      · have : sErr (some q) k N = 5 := by simp [sErr, h1, h2, h3, h4, h9]
        rw [this]; simp [h9]
      · have : sErr (some q) k N = 0 := by simp [sErr, h1, h2, h3, h4, h8, h9]
        rw [this, ← last k hk3]
        by_cases h11 : k = 1
        · have h10 : ¬ q = 2 := fun e => h9 ⟨e, h11⟩
          subst h11
          simp [h8', h10]
        · simp [h8', h11]
theorem axerr_loop (l : Steps) (hl : l.length ≤ 1048576) (n : Nat) : ∀ (d i m : Nat) (x3 x4 b a : Int), i + d = l.length → d < m → R x3 b → R x4 a → L_R_AxisError_0 n m l x3 x4 (l.length : Int) i = some (ret_R_AxisError (err (prev l i) b a (l.drop i))) := by
  intro d
  induction d with
  | zero =>
    intro i m x3 x4 b a hi hm hb ha
    cases m with
    | zero => omega
    | succ m =>
    have : i = l.length := by omega
    subst this
    have c1 : decide ((l.length : Int) < (l.length : Int)) = false := decide_eq_false (by omega)
    rw [L_R_AxisError_0_step, List.drop_length]
    simp only [bcond_if, c1, Bool.false_eq_true, if_false, err]
    unfold R at hb ha
    by_cases h1 : x3 > 2147483647
    · have : 2147483647 < b ∨ 2147483647 < a := by omega
      simp [h1, this]
    · by_cases h2 : x4 > 2147483647
      · have : 2147483647 < b ∨ 2147483647 < a := by omega
        simp [h1, h2, this]
      · have : ¬ (2147483647 < b ∨ 2147483647 < a) := by omega
        simp [h1, h2, this]
  | succ d ih =>
    intro i m x3 x4 b a hi hm hb ha
    cases m with
    | zero => omega
    | succ m =>
    have hil : i < l.length := by omega
    rw [axerr_step l hl n m i hil, drop_cons l hil, err, sk_mk, sn_mk]
    by_cases h : sErr (prev l i) (kind l i) (num l i) = 0
    · obtain ⟨k1, n1, n2, _⟩ := sErr_zero h
      simp only [h, ne_eq, not_true, if_false]
      have hp : prev l (i + 1) = some (kind l i) := by simp [prev]
      rw [← hp]
      refine ih (i + 1) m _ _ _ _ (by omega) (by omega) ?_ ?_
      · unfold addB; split
        · exact hb
        · exact R_up hb n1 n2
      · unfold addA; split
        · exact ha
        · exact R_up ha n1 n2
    · simp only [h, ne_eq, not_false_eq_true, if_true]
def E (l : Steps) : Int := err none 0 0 l
theorem R0 : R 0 0 := by unfold R; omega
theorem check_eq (l : Steps) (hl : l.length ≤ 1048576) : C_axis_Check F_axis_Check l = some (ret_axis_Check (E l)) := by
  obtain ⟨m, hm⟩ := big_succ (n := 1048577) (by omega)
  rw [e_axis_Check]
  have := check_loop l hl big l.length 0 big 0 0 0 0 (by omega) (by omega) R0 R0
  simpa [prev, E] using this
theorem axerr_eq (l : Steps) (hl : l.length ≤ 1048576) : C_R_AxisError F_R_AxisError l = some (ret_R_AxisError (E l)) := by
  obtain ⟨m, hm⟩ := big_succ (n := 1048577) (by omega)
  rw [e_R_AxisError]
  have := axerr_loop l hl big l.length 0 big 0 0 0 0 (by omega) (by omega) R0 R0
  simpa [prev, E] using this
end Go.Ev.Axis
namespace Go.Ev.Axis
open Go.Ev
set_option linter.unusedVariables false
set_option linter.unusedSimpArgs false
def sumB : Steps → Int
  | [] => 0
  | s :: l => (if sk s = 1 then 0 else sn s) + sumB l
def sumA : Steps → Int
  | [] => 0
  | s :: l => (if sk s = 2 then 0 else sn s) + sumA l
def sumN : Steps → Int
  | [] => 0
  | s :: l => sn s + sumN l
/-- Every step is of a kind, and of a number. -/
def Good : Steps → Prop
  | [] => True
  | s :: l => ((sk s = 0 ∨ sk s = 1 ∨ sk s = 2) ∧ 1 ≤ sn s ∧ sn s ≤ 2147483647) ∧ Good l
theorem err_good : ∀ (l : Steps) (p : Option Int) (b a : Int), err p b a l = 0 → Good l ∧ b + sumB l ≤ 2147483647 ∧ a + sumA l ≤ 2147483647
  | [], p, b, a, h => by
    simp only [err] at h
    split at h
    · cases h
    · exact ⟨trivial, by simp only [sumB]; omega, by simp only [sumA]; omega⟩
  | s :: l, p, b, a, h => by
    simp only [err] at h
    split at h
    · rename_i h1; exact absurd h h1
    · rename_i h1
      have h1 : sErr p (sk s) (sn s) = 0 := Decidable.not_not.1 h1
      obtain ⟨k1, n1, n2, _⟩ := sErr_zero h1
      obtain ⟨g, hb, ha⟩ := err_good l _ _ _ h
      refine ⟨⟨⟨k1, n1, n2⟩, g⟩, ?_, ?_⟩
      · simp only [sumB, addB] at *; split at hb <;> split <;> omega
      · simp only [sumA, addA] at *; split at ha <;> split <;> omega
theorem E_good {l : Steps} (h : E l = 0) : Good l ∧ sumB l ≤ 2147483647 ∧ sumA l ≤ 2147483647 := by
  have := err_good l none 0 0 h
  simpa using this
theorem sum_pos : ∀ {l : Steps}, Good l → 0 ≤ sumB l ∧ 0 ≤ sumA l ∧ sumB l ≤ sumN l ∧ sumA l ≤ sumN l ∧ sumN l ≤ sumB l + sumA l
  | [], _ => by simp [sumB, sumA, sumN]
  | s :: l, ⟨⟨k, n1, n2⟩, g⟩ => by
    have := sum_pos g
    simp only [sumB, sumA, sumN]
    split <;> split <;> omega
theorem good_at {l : Steps} (g : Good l) {i : Nat} (h : i < l.length) : (kind l i = 0 ∨ kind l i = 1 ∨ kind l i = 2) ∧ 1 ≤ num l i ∧ num l i ≤ 2147483647 := by
  have hd : ∀ (l : Steps), Good l → ∀ i, Good (l.drop i) := by
    intro l
    induction l with
    | nil => intro _ i; simp [Good]
    | cons s l ih =>
      intro g i
      cases i with
      | zero => exact g
      | succ i => exact ih g.2 i
  have := hd l g i
  rw [drop_cons l h] at this
  exact this.1
theorem good_drop : ∀ {l : Steps}, Good l → ∀ i, Good (l.drop i)
  | [], g, i => by simp [Good]
  | s :: l, g, 0 => g
  | s :: l, g, i + 1 => good_drop g.2 i
theorem lengths_loop (l : Steps) (hl : l.length ≤ 1048576) (g : Good l) (n : Nat) : ∀ (d i m : Nat) (b a : Int), i + d = l.length → d < m → 0 ≤ b → 0 ≤ a → b + sumB (l.drop i) ≤ 2147483647 → a + sumA (l.drop i) ≤ 2147483647 →
    L_axis_lengths_0 n m b a l (l.length : Int) i = some (ret_axis_lengths (b + sumB (l.drop i)) (a + sumA (l.drop i))) := by
  intro d
  induction d with
  | zero =>
    intro i m b a hi hm hb ha hB hA
    cases m with
    | zero => omega
    | succ m =>
    have : i = l.length := by omega
    subst this
    have c1 : decide ((l.length : Int) < (l.length : Int)) = false := decide_eq_false (by omega)
    rw [L_axis_lengths_0_step, List.drop_length]
    simp [bcond_if, c1, sumB, sumA]
  | succ d ih =>
    intro i m b a hi hm hb ha hB hA
    cases m with
    | zero => omega
    | succ m =>
    have hil : i < l.length := by omega
    have c1 : decide ((i : Int) < (l.length : Int)) = true := decide_eq_true (by omega)
    have w1 : IntKind.i64.wrap ((i : Int) + 1) = ((i + 1 : Nat) : Int) := wnat (by omega) (by omega)
    have ek : (at_ (e := YSpan) l (i : Int)).1 = kind l i := rfl
    have en : (at_ (e := YSpan) l (i : Int)).2 = num l i := rfl
    obtain ⟨k1, n1, n2⟩ := good_at g hil
    have hp := sum_pos (good_drop g (i + 1))
    rw [drop_cons l hil] at hB hA ⊢
    simp only [sumB, sumA, sk_mk, sn_mk] at hB hA ⊢
    rw [L_axis_lengths_0_step]
    simp only [bcond_if, inb, hil, c1, if_true, w1, ek, en]
    rcases k1 with hk | hk | hk <;> rw [hk] at hB hA ⊢
    · rw [w64 (by simp at hB; omega) (by simp at hB; omega), w64 (by simp at hA; omega) (by simp at hA; omega)]
      have := ih (i + 1) m (b + num l i) (a + num l i) (by omega) (by omega) (by omega) (by omega) (by simp at hB; omega) (by simp at hA; omega)
      simpa [Int.add_assoc] using this
    · rw [w64 (x := a + num l i) (by simp at hA; omega) (by simp at hA; omega)]
      have := ih (i + 1) m b (a + num l i) (by omega) (by omega) (by omega) (by omega) (by simp at hB; omega) (by simp at hA; omega)
      simpa [Int.add_assoc] using this
    · rw [w64 (x := b + num l i) (by simp at hB; omega) (by simp at hB; omega)]
      have := ih (i + 1) m (b + num l i) a (by omega) (by omega) (by omega) (by omega) (by simp at hB; omega) (by simp at hA; omega)
      simpa [Int.add_assoc] using this
theorem lengths_eq (l : Steps) (hl : l.length ≤ 1048576) (h : E l = 0) : C_axis_lengths F_axis_lengths l = some (ret_axis_lengths (sumB l) (sumA l)) := by
  obtain ⟨m, hm⟩ := big_succ (n := 1048577) (by omega)
  obtain ⟨g, hb, ha⟩ := E_good h
  rw [e_axis_lengths]
  have := lengths_loop l hl g big l.length 0 big 0 0 (by omega) (by omega) (by omega) (by omega) (by simpa using hb) (by simpa using ha)
  simpa using this
/-- Where old row `p` is after a change; `f` old rows and `t` new ones are behind. -/
def pl (p : Int) : Int → Int → Steps → Int
  | _, _, [] => -1
  | f, t, s :: l => if sk s = 1 then pl p f (t + sn s) l else if sk s = 0 then (if p < f + sn s then t + p - f else pl p (f + sn s) (t + sn s) l) else if p < f + sn s then -1 else pl p (f + sn s) t l
theorem place_loop (l : Steps) (hl : l.length ≤ 1048576) (g : Good l) (p : Int) (hp0 : 0 ≤ p) (hp1 : p ≤ 2147483647) (n : Nat) : ∀ (d i m : Nat) (f t : Int), i + d = l.length → d < m → 0 ≤ f → 0 ≤ t → f + sumB (l.drop i) ≤ 2147483647 → t + sumA (l.drop i) ≤ 2147483647 →
    L_axis_place_0 n m p f t l (l.length : Int) i = some (ret_axis_place (pl p f t (l.drop i))) := by
  intro d
  induction d with
  | zero =>
    intro i m b a hi hm hb ha hB hA
    cases m with
    | zero => omega
    | succ m =>
    have : i = l.length := by omega
    subst this
    have c1 : decide ((l.length : Int) < (l.length : Int)) = false := decide_eq_false (by omega)
    rw [L_axis_place_0_step, List.drop_length]
    simp [bcond_if, c1, pl]
  | succ d ih =>
    intro i m f t hi hm hb ha hB hA
    cases m with
    | zero => omega
    | succ m =>
    have hil : i < l.length := by omega
    have c1 : decide ((i : Int) < (l.length : Int)) = true := decide_eq_true (by omega)
    have w1 : IntKind.i64.wrap ((i : Int) + 1) = ((i + 1 : Nat) : Int) := wnat (by omega) (by omega)
    have ek : (at_ (e := YSpan) l (i : Int)).1 = kind l i := rfl
    have en : (at_ (e := YSpan) l (i : Int)).2 = num l i := rfl
    obtain ⟨k1, n1, n2⟩ := good_at g hil
    have hp := sum_pos (good_drop g (i + 1))
    rw [drop_cons l hil] at hB hA ⊢
    simp only [sumB, sumA, sk_mk, sn_mk] at hB hA
    simp only [pl, sk_mk, sn_mk]
    rw [L_axis_place_0_step]
    simp only [bcond_if, inb, hil, c1, if_true, w1, ek, en]
    rcases k1 with hk | hk | hk <;> rw [hk] at hB hA ⊢
    · rw [w64 (x := f + num l i) (by simp at hB; omega) (by simp at hB; omega), w64 (x := t + num l i) (by simp at hA; omega) (by simp at hA; omega), w64 (x := t + p) (by simp at hA; omega) (by simp at hA; omega), w64 (x := t + p - f) (by simp at hA hB; omega) (by simp at hA; omega)]
      have := ih (i + 1) m (f + num l i) (t + num l i) (by omega) (by omega) (by omega) (by omega) (by simp at hB; omega) (by simp at hA; omega)
      by_cases hlt : p < f + num l i
      · simp [hlt]
      · simpa [hlt] using this
    · rw [w64 (x := t + num l i) (by simp at hA; omega) (by simp at hA; omega)]
      have := ih (i + 1) m f (t + num l i) (by omega) (by omega) (by omega) (by omega) (by simp at hB; omega) (by simp at hA; omega)
      simpa using this
    · rw [w64 (x := f + num l i) (by simp at hB; omega) (by simp at hB; omega)]
      have := ih (i + 1) m (f + num l i) t (by omega) (by omega) (by omega) (by omega) (by simp at hB; omega) (by simp at hA; omega)
      by_cases hlt : p < f + num l i
      · simp [hlt]
      · simpa [hlt] using this
theorem place_eq (l : Steps) (hl : l.length ≤ 1048576) (h : E l = 0) (p : Int) (hp0 : 0 ≤ p) (hp1 : p ≤ 2147483647) : C_axis_place F_axis_place l p = some (ret_axis_place (pl p 0 0 l)) := by
  obtain ⟨m, hm⟩ := big_succ (n := 1048577) (by omega)
  obtain ⟨g, hb, ha⟩ := E_good h
  rw [e_axis_place]
  have := place_loop l hl g p hp0 hp1 big l.length 0 big 0 0 (by omega) (by omega) (by omega) (by omega) (by simpa using hb) (by simpa using ha)
  simpa using this
theorem size_loop (l : Steps) (hl : l.length ≤ 1048576) (g : Good l) (n : Nat) : ∀ (d i m : Nat) (b : Int), i + d = l.length → d < m → 0 ≤ b → b + sumN (l.drop i) ≤ 4294967296 →
    L_R_AxisSize_0 n m l b (l.length : Int) i = some (ret_R_AxisSize (b + sumN (l.drop i))) := by
  intro d
  induction d with
  | zero =>
    intro i m b hi hm hb hB
    cases m with
    | zero => omega
    | succ m =>
    have : i = l.length := by omega
    subst this
    have c1 : decide ((l.length : Int) < (l.length : Int)) = false := decide_eq_false (by omega)
    rw [L_R_AxisSize_0_step, List.drop_length]
    simp [bcond_if, c1, sumN]
  | succ d ih =>
    intro i m b hi hm hb hB
    cases m with
    | zero => omega
    | succ m =>
    have hil : i < l.length := by omega
    have c1 : decide ((i : Int) < (l.length : Int)) = true := decide_eq_true (by omega)
    have w1 : IntKind.i64.wrap ((i : Int) + 1) = ((i + 1 : Nat) : Int) := wnat (by omega) (by omega)
    have en : (at_ (e := YSpan) l (i : Int)).2 = num l i := rfl
    obtain ⟨k1, n1, n2⟩ := good_at g hil
    have hp := sum_pos (good_drop g (i + 1))
    rw [drop_cons l hil] at hB ⊢
    simp only [sumN, sn_mk] at hB ⊢
    rw [L_R_AxisSize_0_step]
    simp only [bcond_if, inb, hil, c1, if_true, w1, en]
    rw [w64 (x := b + num l i) (by omega) (by omega), ih (i + 1) m _ (by omega) (by omega) (by omega) (by omega)]
    simp [Int.add_assoc]
theorem size_eq (l : Steps) (hl : l.length ≤ 1048576) (h : E l = 0) : C_R_AxisSize F_R_AxisSize l = some (ret_R_AxisSize (sumN l)) := by
  obtain ⟨m, hm⟩ := big_succ (n := 1048577) (by omega)
  obtain ⟨g, hb, ha⟩ := E_good h
  have := sum_pos g
  rw [e_R_AxisSize]
  have := size_loop l hl g big l.length 0 big 0 (by omega) (by omega) (by omega) (by rw [List.drop_zero]; omega)
  simpa using this
end Go.Ev.Axis
namespace Go.Ev.Axis
open Go.Ev
set_option linter.unusedVariables false
set_option linter.unusedSimpArgs false
/-- A place outside of the old rows. -/
def bad (old : Int) : List Int → Bool
  | [] => false
  | p :: ps => decide (p < 0 ∨ old ≤ p) || bad old ps
theorem axa_loop (a : Steps) (hl : a.length ≤ 1048576) (h : E a = 0) (ps : List Int) (hp : ps.length ≤ 1048576) (n : Nat) : ∀ (d i m : Nat) (out : List Int), i + d = ps.length → d < m → out.length ≤ i →
    L_axis_Apply_0 n m a (sumB a) out ps (ps.length : Int) i = some (if bad (sumB a) (ps.drop i) = true then ret_axis_Apply [] 2 else ret_axis_Apply (out ++ (ps.drop i).map fun p => pl p 0 0 a) 0) := by
  intro d
  induction d with
  | zero =>
    intro i m out hi hm ho
    cases m with
    | zero => omega
    | succ m =>
    have : i = ps.length := by omega
    subst this
    have c1 : decide ((ps.length : Int) < (ps.length : Int)) = false := decide_eq_false (by omega)
    rw [L_axis_Apply_0_step, List.drop_length]
    simp [bcond_if, c1, bad]
  | succ d ih =>
    intro i m out hi hm ho
    cases m with
    | zero => omega
    | succ m =>
    have hil : i < ps.length := by omega
    have c1 : decide ((i : Int) < (ps.length : Int)) = true := decide_eq_true (by omega)
    have w1 : IntKind.i64.wrap ((i : Int) + 1) = ((i + 1 : Nat) : Int) := wnat (by omega) (by omega)
    obtain ⟨g, hb, ha⟩ := E_good h
    obtain ⟨p, hp⟩ : ∃ p : Int, at_ (e := .int .i64) ps (i : Int) = p := ⟨_, rfl⟩
    rw [L_axis_Apply_0_step, drop_int ps hil, ← at_int, hp]
    simp only [bcond_if, inb, hil, c1, if_true, w1, bad, List.map_cons]
    by_cases h0 : p < 0
    · simp [h0]
    · by_cases h1 : sumB a ≤ p
      · have h1' : p ≥ sumB a := h1
        simp [h0, h1']
      · have h1' : ¬ p ≥ sumB a := h1
        rw [place_eq a hl h p (by omega) (by omega)]
        simp only [Option.bind_some, res_axis_place_0_ret]
        have := ih (i + 1) m (out ++ [pl p 0 0 a]) (by omega) (by omega) (by simp; omega)
        rw [this]
        rw [if_pos (show (out.length + [pl p 0 0 a].length) * 8 ≤ 140737488355328 by simp; omega)]
        simp [h0, h1, h1']
theorem axa_eq (a : Steps) (hl : a.length ≤ 1048576) (ps : List Int) (hp : ps.length ≤ 1048576) :
    C_axis_Apply F_axis_Apply a ps = some (if E a ≠ 0 then ret_axis_Apply [] (E a) else if bad (sumB a) ps = true then ret_axis_Apply [] 2 else ret_axis_Apply (ps.map fun p => pl p 0 0 a) 0) := by
  obtain ⟨m, hm⟩ := big_succ (n := 1048577) (by omega)
  rw [e_axis_Apply, check_eq a hl]
  simp only [Option.bind_some, res_axis_Check_0_ret, bcond_if]
  by_cases h : E a = 0
  · rw [h, lengths_eq a hl h]
    simp only [Option.bind_some, res_axis_lengths_0_ret]
    have := axa_loop a hl h ps hp big ps.length 0 big [] (by omega) (by omega) (by simp)
    simpa using this
  · simp [h]
end Go.Ev.Axis
