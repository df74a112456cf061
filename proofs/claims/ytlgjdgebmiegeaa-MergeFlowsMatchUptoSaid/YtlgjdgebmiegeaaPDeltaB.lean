
import Derived.Test.YtlgjdgebmiegeaaPFlow
import Derived.Test.YtlgjdgebmiegeaaGDelta
namespace Go.Ev.Delta
open Go.Ev Go.Ev.Attr Go.Ev.Track
set_option linter.unusedVariables false
set_option linter.unusedSimpArgs false
abbrev Steps := List YStep.den
def sk (s : YStep.den) : Int := s.1
def sn (s : YStep.den) : Int := s.2.1
def sa (s : YStep.den) : Attrs := s.2.2.1
def se (s : YStep.den) : Flow := s.2.2.2
def mkT (k n : Int) (a : Attrs) (e : Flow) : YStep.den := (k, n, a, e)
@[simp] theorem sk_mk (k n : Int) (a : Attrs) (e : Flow) : sk (mkT k n a e) = k := rfl
@[simp] theorem sn_mk (k n : Int) (a : Attrs) (e : Flow) : sn (mkT k n a e) = n := rfl
@[simp] theorem sa_mk (k n : Int) (a : Attrs) (e : Flow) : sa (mkT k n a e) = a := rfl
@[simp] theorem se_mk (k n : Int) (a : Attrs) (e : Flow) : se (mkT k n a e) = e := rfl
def atT (l : Steps) (i : Nat) : YStep.den := at_ (e := YStep) l (i : Int)
theorem drop_step (l : Steps) {i : Nat} (h : i < l.length) : l.drop i = atT l i :: l.drop (i + 1) := drop_at' l h
theorem atT_mem (l : Steps) {i : Nat} (h : i < l.length) : atT l i ∈ l := by
  unfold atT at_
  simp [List.getD_eq_getElem?_getD, h]
/-- Steps and what they hold are short enough. -/
def Ss (s : YStep.den) : Prop := Sh (sa s) ∧ Fs (se s)
def Ds (d : Steps) : Prop := d.length ≤ 1048576 ∧ ∀ i, Ss (atT d i)
/-- Lists that are the same. -/
def eqA (a b : Attrs) : Bool := decide ((a : List (List UInt8 × List UInt8)) = b)
theorem eqA_iff (a b : Attrs) : eqA a b = true ↔ a = b := decide_eq_true_iff
theorem same35 (a b : Attrs) (hl : a.length ≤ 1048576) : C_R_SameAttrs F_R_SameAttrs a b = some (ret_R_SameAttrs (eqA a b)) := by
  obtain ⟨r, h1, h2⟩ := same_eq a b hl
  have : r = eqA a b := by rw [Bool.eq_iff_iff, h2, eqA_iff]
  rw [h1, this]
theorem same38 (a b : Attrs) (hl : a.length ≤ 1048576) : C_attr_Same F_attr_Same a b = some (ret_attr_Same (eqA a b)) := by
  obtain ⟨r, h1, h2⟩ := lsame_eq a b hl
  have : r = eqA a b := by rw [Bool.eq_iff_iff, h2, eqA_iff]
  rw [h1, this]
def emp {α : Type} (l : List α) : Bool := l.isEmpty
theorem len_pos {α : Type} (l : List α) : decide ((l.length : Int) > 0) = !(emp l) := by
  cases l with
  | nil => rfl
  | cons x l => exact decide_eq_true (by have : (x :: l).length = l.length + 1 := rfl; omega)
theorem len_zero {α : Type} (l : List α) : ((l.length : Int) == 0) = emp l := by
  cases l with
  | nil => rfl
  | cons x l =>
    exact beq_eq_false_iff_ne.2 (by have : (x :: l).length = l.length + 1 := rfl; omega)
def sErr (s : YStep.den) : Int :=
  if sk s = 1 then (if sn s ≠ 0 ∨ emp (sa s) = false then 4 else if emp (se s) = true then 11 else pErr (se s))
  else if sk s = 0 ∨ sk s = 2 then (if emp (se s) = false ∨ (sk s = 2 ∧ emp (sa s) = false) then 4 else if sn s < 1 ∨ 2147483647 < sn s then 2 else err true (sa s))
  else 8
theorem step_eq (s : YStep.den) (h : Ss s) : C_delta_step F_delta_step s = some (ret_delta_step (sErr s)) := by
  have e1 : s.1 = sk s := rfl
  have e2 : s.2.1 = sn s := rfl
  have e3 : s.2.2.1 = sa s := rfl
  have e4 : s.2.2.2 = se s := rfl
  rw [e_delta_step]
  unfold J_delta_step_0
  simp only [e1, e2, e3, e4, len_pos, len_zero, checkc_eq _ h.1, (part_eq _ h.2).1, Option.bind_some, res_attr_CheckChange_0_ret, res_flow_CheckPart_0_ret, bcond_if]
  unfold sErr
  generalize sk s = k
  generalize sn s = N
  generalize emp (sa s) = p
  generalize emp (se s) = q
  by_cases k1 : k = 1
  · subst k1
    by_cases n0 : N = 0 <;> cases p <;> cases q <;> simp [n0]
  by_cases k0 : k = 0
  · subst k0
    by_cases n1 : N < 1 <;> by_cases n2 : 2147483647 < N <;> cases p <;> cases q <;> simp [n1, n2]
  by_cases k2 : k = 2
  · subst k2
    by_cases n1 : N < 1 <;> by_cases n2 : 2147483647 < N <;> cases p <;> cases q <;> simp [n1, n2]
  · simp [k0, k1, k2]
theorem rstep_eq (s : YStep.den) (h : Ss s) : C_R_StepError F_R_StepError s = some (ret_R_StepError (sErr s)) := by
  have e1 : s.1 = sk s := rfl
  have e2 : s.2.1 = sn s := rfl
  have e3 : s.2.2.1 = sa s := rfl
  have e4 : s.2.2.2 = se s := rfl
  rw [e_R_StepError]
  simp only [e1, e2, e3, e4, len_pos, len_zero, rerr_eq _ h.1, (part_eq _ h.2).2, Axis.in_eq, Option.bind_some, res_R_AttrsError_0_ret, res_R_PartError_0_ret, res_R_In_0_ret, bcond_if]
  unfold sErr
  generalize sk s = k
  generalize sn s = N
  generalize emp (sa s) = p
  generalize emp (se s) = q
  by_cases k1 : k = 1
  · subst k1
    by_cases n0 : N = 0 <;> cases p <;> cases q <;> simp [n0]
  have b1 : (decide (1 ≤ N) && decide (N ≤ 2147483647)) = !(decide (N < 1) || decide (2147483647 < N)) := by
    by_cases n1 : N < 1
    · rw [decide_eq_true n1, decide_eq_false (show ¬ 1 ≤ N by omega)]; rfl
    · by_cases n2 : 2147483647 < N
      · rw [decide_eq_true n2, decide_eq_false (show ¬ N ≤ 2147483647 by omega)]; simp
      · rw [decide_eq_false n1, decide_eq_false n2, decide_eq_true (show 1 ≤ N by omega), decide_eq_true (show N ≤ 2147483647 by omega)]; rfl
  rw [b1]
  by_cases k0 : k = 0
  · subst k0
    by_cases n1 : N < 1 <;> by_cases n2 : 2147483647 < N <;> cases p <;> cases q <;> simp [n1, n2]
  by_cases k2 : k = 2
  · subst k2
    by_cases n1 : N < 1 <;> by_cases n2 : 2147483647 < N <;> cases p <;> cases q <;> simp [n1, n2]
  · have : (decide (0 ≤ k) && decide (k ≤ 2)) = false := by
      by_cases z : 0 ≤ k
      · rw [decide_eq_true z, decide_eq_false (by omega)]; rfl
      · rw [decide_eq_false z]; rfl
    simp [this, k0, k1, k2]
def ssz (s : YStep.den) : Int := if sk s = 1 then ((se s).length : Int) else sn s
theorem size_eq (s : YStep.den) : C_delta_size F_delta_size s = some (ret_delta_size (ssz s)) := by
  have e1 : s.1 = sk s := rfl
  have e2 : s.2.1 = sn s := rfl
  have e4 : s.2.2.2 = se s := rfl
  rw [e_delta_size]
  simp only [e1, e2, e4, bcond_if, ssz]
  by_cases k1 : sk s = 1 <;> simp [k1]
theorem emp_iff {α : Type} (l : List α) : emp l = true ↔ l = [] := by cases l <;> simp [emp]
theorem sErr_zero {s : YStep.den} (h : sErr s = 0) : (sk s = 1 ∧ sn s = 0 ∧ sa s = [] ∧ se s ≠ [] ∧ pErr (se s) = 0) ∨ ((sk s = 0 ∨ sk s = 2 ∧ sa s = []) ∧ se s = [] ∧ 1 ≤ sn s ∧ sn s ≤ 2147483647 ∧ err true (sa s) = 0) := by
  unfold sErr at h
  split at h
  · rename_i k1
    split at h
    · cases h
    · rename_i h2
      split at h
      · cases h
      · rename_i h3
        refine .inl ⟨k1, ?_, ?_, ?_, h⟩
        · exact Decidable.not_not.1 fun q => h2 (.inl q)
        · rw [← emp_iff]; cases hq : emp (sa s) with
          | true => rfl
          | false => exact absurd (.inr hq) h2
        · intro q; exact h3 ((emp_iff _).2 q)
  · split at h
    · rename_i k2
      split at h
      · cases h
      · rename_i h2
        split at h
        · cases h
        · rename_i h3
          have q1 : se s = [] := by
            rw [← emp_iff]; cases hq : emp (se s) with
            | true => rfl
            | false => exact absurd (.inl hq) h2
          refine .inr ⟨?_, q1, by omega, by omega, h⟩
          rcases k2 with k | k
          · exact .inl k
          · refine .inr ⟨k, ?_⟩
            rw [← emp_iff]; cases hq : emp (sa s) with
            | true => rfl
            | false => exact absurd (.inr ⟨k, hq⟩) h2
    · cases h
theorem sErr_kind {s : YStep.den} (h : sErr s = 0) : sk s = 0 ∨ sk s = 1 ∨ sk s = 2 := by
  rcases sErr_zero h with h | h
  · exact .inr (.inl h.1)
  · rcases h.1 with q | q
    · exact .inl q
    · exact .inr (.inr q.1)
theorem ssz_valid {s : YStep.den} (h : sErr s = 0) (hs : Ss s) : 1 ≤ ssz s ∧ ssz s ≤ 2147483647 ∧ (sk s ≠ 1 → 1 ≤ sn s ∧ sn s ≤ 2147483647) ∧ sn s + (se s).length = ssz s := by
  unfold ssz
  rcases sErr_zero h with ⟨h1, h2, h3, h4, h5⟩ | ⟨h1, h2, h3, h4, h5⟩
  · have l1 := hs.2.1
    have l2 : 0 < (se s).length := List.length_pos_iff.2 h4
    rw [if_pos h1]
    refine ⟨by omega, by omega, fun q => absurd h1 q, by omega⟩
  · have : ¬ sk s = 1 := by rcases h1 with q | q <;> omega
    rw [if_neg this, h2]
    refine ⟨h3, h4, fun _ => ⟨h3, h4⟩, by simp⟩
def ord (p s : YStep.den) : Bool := (sk p == sk s && (sk s != 0 || eqA (sa p) (sa s))) || (sk p == 2 && sk s == 1)
def dOne (p : Option YStep.den) (s : YStep.den) : Int := if sErr s ≠ 0 then sErr s else match p with
  | none => 0
  | some p => if ord p s = true then 5 else 0
def addB (s : YStep.den) (b : Int) : Int := if sk s = 1 then b else b + sn s
def addA (s : YStep.den) (a : Int) : Int := if sk s = 2 then a else a + ssz s
def dErr : Option YStep.den → Int → Int → Steps → Int
  | _, b, a, [] => if 2147483647 < b ∨ 2147483647 < a then 3 else 0
  | p, b, a, s :: l => if dOne p s ≠ 0 then dOne p s else dErr (some s) (addB s b) (addA s a) l
def prv (l : Steps) (i : Nat) : Option YStep.den := if i = 0 then none else some (atT l (i - 1))
theorem dOne_zero {p : Option YStep.den} {s : YStep.den} (h : dOne p s = 0) : sErr s = 0 ∧ ∀ q, p = some q → ord q s = false := by
  unfold dOne at h
  split at h
  · rename_i h1; exact absurd h h1
  · rename_i h1
    refine ⟨Decidable.not_not.1 h1, fun q hq => ?_⟩
    subst hq
    simp only at h
    split at h
    · cases h
    · rename_i h2; simpa using h2
/-- A bounded number tells of an unbounded one. -/
def R (x b : Int) : Prop := 0 ≤ x ∧ x ≤ 4294967296 ∧ ((x < 2147483648 ∧ x = b) ∨ (2147483648 ≤ x ∧ 2147483648 ≤ b))
def mn (y : Int) : Int := if (2147483648 : Int) < IntKind.i64.wrap y then 2147483648 else IntKind.i64.wrap y
theorem R_min {x b n : Int} (h : R x b) (h1 : 1 ≤ n) (h2 : n ≤ 2147483647) : R (mn (x + n)) (b + n) := by
  obtain ⟨a1, a2, a3⟩ := h
  unfold mn
  rw [w64 (by omega) (by omega)]
  unfold R
  split <;> omega
def up (x n : Int) : Int := if x < 2147483648 then IntKind.i64.wrap (x + n) else x
theorem R_up {x b n : Int} (h : R x b) (h1 : 1 ≤ n) (h2 : n ≤ 2147483647) : R (up x n) (b + n) := by
  obtain ⟨a1, a2, a3⟩ := h
  unfold up
  split
  · rw [w64 (by omega) (by omega)]
    unfold R; omega
  · unfold R; omega
theorem check_step (l : Steps) (hl : Ds l) (n m i : Nat) (hi : i < l.length) (x3 x4 : Int) (hp : ∀ q, prv l i = some q → sErr q = 0) :
    L_delta_Check_0 n (m + 1) l x3 x4 l (l.length : Int) i = if dOne (prv l i) (atT l i) ≠ 0 then some (ret_delta_Check (dOne (prv l i) (atT l i))) else
      L_delta_Check_0 n m l (if sk (atT l i) = 1 then x3 else mn (x3 + sn (atT l i))) (if sk (atT l i) = 2 then x4 else mn (x4 + ssz (atT l i))) l (l.length : Int) ((i + 1 : Nat) : Int) := by
  have hlen := hl.1
  have c1 : decide ((i : Int) < (l.length : Int)) = true := decide_eq_true (by omega)
  have w1 : IntKind.i64.wrap ((i : Int) + 1) = ((i + 1 : Nat) : Int) := wnat (by omega) (by omega)
  have ea0 : at_ (e := YStep) l (i : Int) = atT l i := rfl
  have e1 : (atT l i).1 = sk (atT l i) := rfl
  have e2 : (atT l i).2.1 = sn (atT l i) := rfl
  have e3 : (atT l i).2.2.1 = sa (atT l i) := rfl
  have mf : ∀ y : Int, (if (2147483648 : Int) < IntKind.i64.wrap y then 2147483648 else IntKind.i64.wrap y) = mn y := fun y => rfl
  rw [L_delta_Check_0_step]
  unfold J_delta_Check_0
  simp only [bcond_if, inb, hi, c1, if_true, w1, ea0, step_eq _ (hl.2 i), Option.bind_some, res_delta_step_0_ret, size_eq, res_delta_size_0_ret, mf]
  by_cases hz : sErr (atT l i) = 0
  · have hk := sErr_kind hz
    by_cases h0 : i = 0
    · subst h0
      have : dOne (prv l 0) (atT l 0) = 0 := by simp [dOne, prv, hz]
      rw [this]
      simp only [e1, e2, e3]
      generalize sk (atT l 0) = k at hk
      rcases hk with rfl | rfl | rfl <;> simp [hz]
    · have hp2 : prv l i = some (atT l (i - 1)) := by simp [prv, h0]
      have hq := sErr_kind (hp _ hp2)
      have w2 : IntKind.i64.wrap ((i : Int) - 1) = ((i - 1 : Nat) : Int) := wnat (by omega) (by omega)
      have h6 : i - 1 < l.length := by omega
      have h7 : decide ((i : Int) > 0) = true := decide_eq_true (by omega)
      have ea1 : at_ (e := YStep) l ((i - 1 : Nat) : Int) = atT l (i - 1) := rfl
      have e4 : (atT l (i - 1)).1 = sk (atT l (i - 1)) := rfl
      have e5 : (atT l (i - 1)).2.2.1 = sa (atT l (i - 1)) := rfl
      have hone : dOne (prv l i) (atT l i) = if ord (atT l (i - 1)) (atT l i) = true then 5 else 0 := by simp [dOne, hp2, hz]
      rw [hone]
      simp only [w2, inb, h6, if_true, h7, ea1, e1, e2, e3, e4, e5, same38 _ _ (hl.2 (i - 1)).1.1, Option.bind_some, res_attr_Same_0_ret]
      unfold ord
      generalize sk (atT l i) = k at hk
      generalize sk (atT l (i - 1)) = q at hq
      generalize eqA (sa (atT l (i - 1))) (sa (atT l i)) = r
      rcases hk with rfl | rfl | rfl <;> rcases hq with rfl | rfl | rfl <;> cases r <;> simp [hz]
  · have : dOne (prv l i) (atT l i) = sErr (atT l i) := by simp [dOne, hz]
    rw [this]
    simp [hz]
theorem prv_ok {l : Steps} {i : Nat} (h : dOne (prv l i) (atT l i) = 0) : ∀ q, prv l (i + 1) = some q → sErr q = 0 := by
  intro q hq
  have : prv l (i + 1) = some (atT l i) := by simp [prv]
  rw [this] at hq
  injection hq with hq
  subst hq
  exact (dOne_zero h).1
theorem check_loop (l : Steps) (hl : Ds l) (n : Nat) : ∀ (d i m : Nat) (x3 x4 b a : Int), i + d = l.length → d < m → R x3 b → R x4 a → (∀ q, prv l i = some q → sErr q = 0) → L_delta_Check_0 n m l x3 x4 l (l.length : Int) i = some (ret_delta_Check (dErr (prv l i) b a (l.drop i))) := by
  have hlen := hl.1
  intro d
  induction d with
  | zero =>
    intro i m x3 x4 b a hi hm hb ha hp
    cases m with
    | zero => omega
    | succ m =>
    have : i = l.length := by omega
    subst this
    have c1 : decide ((l.length : Int) < (l.length : Int)) = false := decide_eq_false (by omega)
    rw [L_delta_Check_0_step, List.drop_length]
    simp only [bcond_if, c1, Bool.false_eq_true, if_false, dErr]
    unfold R at hb ha
    by_cases h1 : x3 > 2147483647
    · have : 2147483647 < b ∨ 2147483647 < a := by omega
      simp [h1, this]
    · by_cases h2 : x4 > 2147483647
      · have : 2147483647 < b ∨ 2147483647 < a := by omega
        simp [h1, h2, this]
      · have : ¬ (2147483647 < b ∨ 2147483647 < a) := by omega
        simp [h1, h2, this]
  | succ d ih =>
    intro i m x3 x4 b a hi hm hb ha hp
    cases m with
    | zero => omega
    | succ m =>
    have hil : i < l.length := by omega
    rw [check_step l hl n m i hil _ _ hp, drop_step l hil, dErr]
    by_cases h : dOne (prv l i) (atT l i) = 0
    · obtain ⟨s1, s2, s3, s4⟩ := ssz_valid (dOne_zero h).1 (hl.2 i)
      simp only [h, ne_eq, not_true, if_false]
      have hp' : prv l (i + 1) = some (atT l i) := by simp [prv]
      rw [← hp']
      refine ih (i + 1) m _ _ _ _ (by omega) (by omega) ?_ ?_ (prv_ok h)
      · unfold addB; split
        · exact hb
        · rename_i hk; exact R_min hb (s3 hk).1 (s3 hk).2
      · unfold addA; split
        · exact ha
        · exact R_min ha s1 s2
    · simp only [h, ne_eq, not_false_eq_true, if_true]
theorem rcheck_step (l : Steps) (hl : Ds l) (n m i : Nat) (hi : i < l.length) (x3 x4 : Int) (hp : ∀ q, prv l i = some q → sErr q = 0) :
    L_R_DeltaError_0 n (m + 1) l x3 x4 (l.length : Int) i = if dOne (prv l i) (atT l i) ≠ 0 then some (ret_R_DeltaError (dOne (prv l i) (atT l i))) else
      L_R_DeltaError_0 n m l (if sk (atT l i) = 1 then x3 else up x3 (sn (atT l i))) (if sk (atT l i) = 2 then x4 else up x4 (ssz (atT l i))) (l.length : Int) ((i + 1 : Nat) : Int) := by
  have hlen := hl.1
  have c1 : decide ((i : Int) < (l.length : Int)) = true := decide_eq_true (by omega)
  have w1 : IntKind.i64.wrap ((i : Int) + 1) = ((i + 1 : Nat) : Int) := wnat (by omega) (by omega)
  have ea0 : at_ (e := YStep) l (i : Int) = atT l i := rfl
  have e1 : (atT l i).1 = sk (atT l i) := rfl
  have e2 : (atT l i).2.1 = sn (atT l i) := rfl
  have e3 : (atT l i).2.2.1 = sa (atT l i) := rfl
  have e6 : (atT l i).2.2.2 = se (atT l i) := rfl
  rw [L_R_DeltaError_0_step]
  unfold J_R_DeltaError_0
  simp only [bcond_if, inb, hi, c1, if_true, w1, ea0, rstep_eq _ (hl.2 i), Option.bind_some, res_R_StepError_0_ret]
  by_cases hz : sErr (atT l i) = 0
  · have hk := sErr_kind hz
    obtain ⟨s1, s2, s3, s4⟩ := ssz_valid hz (hl.2 i)
    have w3 : IntKind.i64.wrap (sn (atT l i) + (se (atT l i)).length) = ssz (atT l i) := by rw [s4]; exact w64 (by omega) (by omega)
    by_cases h0 : i = 0
    · subst h0
      have : dOne (prv l 0) (atT l 0) = 0 := by simp [dOne, prv, hz]
      rw [this]
      simp only [e1, e2, e3, e6, w3]
      unfold up
      generalize sk (atT l 0) = k at hk
      by_cases hx : x3 < 2147483648 <;> by_cases hy : x4 < 2147483648 <;> rcases hk with rfl | rfl | rfl <;> simp [hz, hx, hy]
    · have hp2 : prv l i = some (atT l (i - 1)) := by simp [prv, h0]
      have hq := sErr_kind (hp _ hp2)
      have w2 : IntKind.i64.wrap ((i : Int) - 1) = ((i - 1 : Nat) : Int) := wnat (by omega) (by omega)
      have h6 : i - 1 < l.length := by omega
      have h7 : decide ((i : Int) > 0) = true := decide_eq_true (by omega)
      have ea1 : at_ (e := YStep) l ((i - 1 : Nat) : Int) = atT l (i - 1) := rfl
      have e4 : (atT l (i - 1)).1 = sk (atT l (i - 1)) := rfl
      have e5 : (atT l (i - 1)).2.2.1 = sa (atT l (i - 1)) := rfl
      have hone : dOne (prv l i) (atT l i) = if ord (atT l (i - 1)) (atT l i) = true then 5 else 0 := by simp [dOne, hp2, hz]
      rw [hone]
      simp only [w2, inb, h6, if_true, h7, ea1, e1, e2, e3, e4, e5, e6, w3, same35 _ _ (hl.2 (i - 1)).1.1, Option.bind_some, res_R_SameAttrs_0_ret]
      unfold ord up
      generalize sk (atT l i) = k at hk
      generalize sk (atT l (i - 1)) = q at hq
      generalize eqA (sa (atT l (i - 1))) (sa (atT l i)) = r
      by_cases hx : x3 < 2147483648 <;> by_cases hy : x4 < 2147483648 <;> rcases hk with rfl | rfl | rfl <;> rcases hq with rfl | rfl | rfl <;> cases r <;> simp [hz, hx, hy]
  · have : dOne (prv l i) (atT l i) = sErr (atT l i) := by simp [dOne, hz]
    rw [this]
    simp [hz]
theorem rcheck_loop (l : Steps) (hl : Ds l) (n : Nat) : ∀ (d i m : Nat) (x3 x4 b a : Int), i + d = l.length → d < m → R x3 b → R x4 a → (∀ q, prv l i = some q → sErr q = 0) → L_R_DeltaError_0 n m l x3 x4 (l.length : Int) i = some (ret_R_DeltaError (dErr (prv l i) b a (l.drop i))) := by
  have hlen := hl.1
  intro d
  induction d with
  | zero =>
    intro i m x3 x4 b a hi hm hb ha hp
    cases m with
    | zero => omega
    | succ m =>
    have : i = l.length := by omega
    subst this
    have c1 : decide ((l.length : Int) < (l.length : Int)) = false := decide_eq_false (by omega)
    rw [L_R_DeltaError_0_step, List.drop_length]
    simp only [bcond_if, c1, Bool.false_eq_true, if_false, dErr]
    unfold R at hb ha
    by_cases h1 : x3 > 2147483647
    · have : 2147483647 < b ∨ 2147483647 < a := by omega
      simp [h1, this]
    · by_cases h2 : x4 > 2147483647
      · have : 2147483647 < b ∨ 2147483647 < a := by omega
        simp [h1, h2, this]
      · have : ¬ (2147483647 < b ∨ 2147483647 < a) := by omega
        simp [h1, h2, this]
  | succ d ih =>
    intro i m x3 x4 b a hi hm hb ha hp
    cases m with
    | zero => omega
    | succ m =>
    have hil : i < l.length := by omega
    rw [rcheck_step l hl n m i hil _ _ hp, drop_step l hil, dErr]
    by_cases h : dOne (prv l i) (atT l i) = 0
    · obtain ⟨s1, s2, s3, s4⟩ := ssz_valid (dOne_zero h).1 (hl.2 i)
      simp only [h, ne_eq, not_true, if_false]
      have hp' : prv l (i + 1) = some (atT l i) := by simp [prv]
      rw [← hp']
      refine ih (i + 1) m _ _ _ _ (by omega) (by omega) ?_ ?_ (prv_ok h)
      · unfold addB; split
        · exact hb
        · rename_i hk; exact R_up hb (s3 hk).1 (s3 hk).2
      · unfold addA; split
        · exact ha
        · exact R_up ha s1 s2
    · simp only [h, ne_eq, not_false_eq_true, if_true]
def err (l : Steps) : Int := dErr none 0 0 l
theorem R0 : R 0 0 := by unfold R; omega
theorem check_eq (l : Steps) (hl : Ds l) : C_delta_Check F_delta_Check l = some (ret_delta_Check (err l)) ∧ C_R_DeltaError F_R_DeltaError l = some (ret_R_DeltaError (err l)) := by
  have hlen := hl.1
  obtain ⟨m, hm⟩ := big_succ (n := 1048577) (by omega)
  rw [e_delta_Check, e_R_DeltaError]
  have h1 := check_loop l hl big l.length 0 big 0 0 0 0 (by omega) (by omega) R0 R0 (fun q h => by simp [prv] at h)
  have h2 := rcheck_loop l hl big l.length 0 big 0 0 0 0 (by omega) (by omega) R0 R0 (fun q h => by simp [prv] at h)
  simp only [prv, if_true, List.drop_zero] at h1 h2
  exact ⟨h1, h2⟩
def befs : Steps → Int
  | [] => 0
  | s :: l => addB s 0 + befs l
def afts : Steps → Int
  | [] => 0
  | s :: l => addA s 0 + afts l
theorem addB_0 (s : YStep.den) (b : Int) : addB s b = b + addB s 0 := by unfold addB; split <;> omega
theorem addA_0 (s : YStep.den) (b : Int) : addA s b = b + addA s 0 := by unfold addA; split <;> omega
theorem dErr_zero : ∀ (l : Steps) (p : Option YStep.den) (b a : Int), dErr p b a l = 0 → (∀ s ∈ l, sErr s = 0) ∧ b + befs l ≤ 2147483647 ∧ a + afts l ≤ 2147483647
  | [], p, b, a, h => by
    simp only [dErr] at h
    split at h
    · cases h
    · simp [befs, afts]; omega
  | s :: l, p, b, a, h => by
    simp only [dErr] at h
    split at h
    · rename_i h1; exact absurd h h1
    · rename_i h1
      obtain ⟨q1, q2, q3⟩ := dErr_zero l (some s) (addB s b) (addA s a) h
      rw [addB_0] at q2
      rw [addA_0] at q3
      refine ⟨fun t ht => ?_, by simp only [befs]; omega, by simp only [afts]; omega⟩
      rcases List.mem_cons.1 ht with rfl | ht
      · exact (dOne_zero (Decidable.not_not.1 h1)).1
      · exact q1 t ht
theorem ss_mem {l : Steps} (hl : Ds l) {s : YStep.den} (h : s ∈ l) : Ss s := by
  obtain ⟨i, h1, h2⟩ := List.getElem_of_mem h
  have := hl.2 i
  have e : atT l i = s := by
    unfold atT at_
    simp [List.getD_eq_getElem?_getD, h1, h2]
  rwa [e] at this
theorem adds_pos {l : Steps} (h : ∀ s ∈ l, sErr s = 0) (hl : ∀ s ∈ l, Ss s) : 0 ≤ befs l ∧ 0 ≤ afts l := by
  induction l with
  | nil => simp [befs, afts]
  | cons s l ih =>
    obtain ⟨i1, i2⟩ := ih (fun t ht => h t (by simp [ht])) (fun t ht => hl t (by simp [ht]))
    obtain ⟨s1, s2, s3, s4⟩ := ssz_valid (h s (by simp)) (hl s (by simp))
    simp only [befs, afts]
    unfold addB addA
    constructor
    · split
      · omega
      · rename_i hk; have := (s3 hk).1; omega
    · split <;> omega
end Go.Ev.Delta
namespace Go.Ev.Delta
open Go.Ev Go.Ev.Attr Go.Ev.Track
set_option linter.unusedVariables false
set_option linter.unusedSimpArgs false
theorem sh_nil : Sh [] := ⟨by decide, fun i => by
  have : atA [] i = nul := by unfold atA at_; simp [List.getD_eq_getElem?_getD]; rfl
  rw [this]; exact ⟨by decide, by decide⟩⟩
theorem fs_of {f : Flow} (hl : f.length ≤ 1048576) (h : ∀ x ∈ f, Sh (ea x)) : Fs f := ⟨hl, fun i => by
  by_cases hi : i < f.length
  · refine h _ ?_
    unfold atE at_
    simp [List.getD_eq_getElem?_getD, hi]
  · have : atE f i = mkE 0 0 [] := by
      unfold atE at_
      rw [List.getD_eq_getElem?_getD, List.getElem?_eq_none (by simp; omega)]
      rfl
    rw [this]; exact sh_nil⟩
theorem fs_nil : Fs [] := fs_of (by decide) (fun x h => by simp at h)
theorem ds_of {d : Steps} (hl : d.length ≤ 1048576) (h : ∀ s ∈ d, Ss s) : Ds d := ⟨hl, fun i => by
  by_cases hi : i < d.length
  · exact h _ (atT_mem d hi)
  · have : atT d i = mkT 0 0 [] [] := by
      unfold atT at_
      rw [List.getD_eq_getElem?_getD, List.getElem?_eq_none (by simp; omega)]
      rfl
    rw [this]; exact ⟨sh_nil, fs_nil⟩⟩
theorem fs_mem {f : Flow} (hf : Fs f) {x : YElem.den} (h : x ∈ f) : Sh (ea x) := by
  obtain ⟨i, h1, h2⟩ := List.getElem_of_mem h
  have := hf.2 i
  have e : atE f i = x := by
    unfold atE at_
    simp [List.getD_eq_getElem?_getD, h1, h2]
  rwa [e] at this
theorem fs_bulk {f : Flow} (h : (Ty.list YElem).bulk f ≤ 1048576) : Fs f := by
  have h1 := bulk_len f
  refine fs_of (by omega) (fun x hx => ?_)
  have := bulk_mem f _ hx
  have e : YElem.bulk x = 1 + (1 + (Ty.list YAttr).bulk (ea x)) := rfl
  exact sh_of _ (by omega)
theorem set_fill {α : Type} (p : List α) (z y : α) (k i : Nat) (hi : i = p.length) : List.set (p ++ List.replicate (k + 1) z) i y = p ++ [y] ++ List.replicate k z := by
  subst hi
  simp [List.replicate_succ]
theorem copy_loop (f : Flow) (hf : f.length ≤ 1048576) (ha : ∀ i, (ea (atE f i)).length ≤ 1048576) (n : Nat) (z : YElem.den) : ∀ (d i m : Nat), i + d = f.length → d < m →
    L_flow_Copy_0 n m (f.take i ++ List.replicate d z) f (f.length : Int) i = some (ret_flow_Copy f) := by
  intro d
  induction d with
  | zero =>
    intro i m hi hm
    cases m with
    | zero => omega
    | succ m =>
    have : i = f.length := by omega
    subst this
    have c1 : decide ((f.length : Int) < (f.length : Int)) = false := decide_eq_false (by omega)
    rw [L_flow_Copy_0_step]
    simp [bcond_if, c1]
  | succ d ih =>
    intro i m hi hm
    cases m with
    | zero => omega
    | succ m =>
    have hil : i < f.length := by omega
    have c1 : decide ((i : Int) < (f.length : Int)) = true := decide_eq_true (by omega)
    have w1 : IntKind.i64.wrap ((i : Int) + 1) = ((i + 1 : Nat) : Int) := wnat (by omega) (by omega)
    have ex : at_ (e := YElem) f (i : Int) = atE f i := rfl
    have e2 : (atE f i).2.2 = ea (atE f i) := rfl
    have hlen : (f.take i ++ List.replicate (d + 1) z).length = f.length := by simp; omega
    have b1 : (ea (atE f i)).length * 32 ≤ 140737488355328 := by have := ha i; omega
    rw [L_flow_Copy_0_step, hlen]
    simp only [bcond_if, c1, if_true, inb, hil, w1, ex, e2, b1, Int.toNat_natCast]
    rw [set_fill _ _ _ _ _ (by simp; omega)]
    have : f.take i ++ [atE f i] = f.take (i + 1) := by
      have e : atE f i = f[i] := by unfold atE at_; simp [List.getD_eq_getElem?_getD, hil]
      rw [e]; simp
    rw [this]
    exact ih (i + 1) m (by omega) (by omega)
theorem copy_eq (f : Flow) (hf : f.length ≤ 1048576) (ha : ∀ i, (ea (atE f i)).length ≤ 1048576) : C_flow_Copy F_flow_Copy f = some (ret_flow_Copy f) := by
  obtain ⟨m, hm⟩ := big_succ (n := 1048577) (by omega)
  have c : (0 ≤ (f.length : Int) ∧ (f.length : Int) = (f.length : Int) ∧ (f.length : Int) * 40 ≤ 140737488355328 ∧ (f.length : Int) ≤ 140737488355328) := by omega
  rw [e_flow_Copy, if_pos c]
  have := copy_loop f hf ha big (0, (0, [])) f.length 0 big (by omega) (by omega)
  simpa using this
/-- An element with changed attributes. -/
def chgE (c : Attrs) (x : YElem.den) : YElem.den := mkE (ec x) (er x) (raw (ea x) c)
theorem changed_loop (f : Flow) (c : Attrs) (hf : f.length ≤ 1048576) (ha : ∀ i, (ea (atE f i)).length ≤ 1048576) (hc : c.length ≤ 1048576) (n : Nat) (z : YElem.den) : ∀ (d i m : Nat), i + d = f.length → d < m →
    L_delta_changed_0 n m c ((f.take i).map (chgE c) ++ List.replicate d z) f (f.length : Int) i = some (ret_delta_changed (f.map (chgE c))) := by
  intro d
  induction d with
  | zero =>
    intro i m hi hm
    cases m with
    | zero => omega
    | succ m =>
    have : i = f.length := by omega
    subst this
    have c1 : decide ((f.length : Int) < (f.length : Int)) = false := decide_eq_false (by omega)
    rw [L_delta_changed_0_step]
    simp [bcond_if, c1]
  | succ d ih =>
    intro i m hi hm
    cases m with
    | zero => omega
    | succ m =>
    have hil : i < f.length := by omega
    have c1 : decide ((i : Int) < (f.length : Int)) = true := decide_eq_true (by omega)
    have w1 : IntKind.i64.wrap ((i : Int) + 1) = ((i + 1 : Nat) : Int) := wnat (by omega) (by omega)
    have ex : at_ (e := YElem) f (i : Int) = atE f i := rfl
    have e2 : (atE f i).2.2 = ea (atE f i) := rfl
    have hlen : ((f.take i).map (chgE c) ++ List.replicate (d + 1) z).length = f.length := by simp; omega
    have e5 : ((atE f i).1, ((atE f i).2.1, raw (ea (atE f i)) c)) = chgE c (atE f i) := rfl
    rw [L_delta_changed_0_step, hlen]
    simp only [bcond_if, c1, if_true, inb, hil, w1, ex, e2, Int.toNat_natCast, raw_eq _ _ (ha i) hc, Option.bind_some, res_attr_Raw_0_ret, e5]
    rw [set_fill _ _ _ _ _ (by simp; omega)]
    have : (f.take i).map (chgE c) ++ [chgE c (atE f i)] = (f.take (i + 1)).map (chgE c) := by
      have e : atE f i = f[i] := by unfold atE at_; simp [List.getD_eq_getElem?_getD, hil]
      rw [e, show f.take (i + 1) = f.take i ++ [f[i]] from by simp, List.map_append]
      rfl
    rw [this]
    exact ih (i + 1) m (by omega) (by omega)
theorem changed_eq (f : Flow) (c : Attrs) (hf : f.length ≤ 1048576) (ha : ∀ i, (ea (atE f i)).length ≤ 1048576) (hc : c.length ≤ 1048576) : C_delta_changed F_delta_changed f c = some (ret_delta_changed (f.map (chgE c))) := by
  obtain ⟨m, hm⟩ := big_succ (n := 1048577) (by omega)
  have cc : (0 ≤ (f.length : Int) ∧ (f.length : Int) = (f.length : Int) ∧ (f.length : Int) * 40 ≤ 140737488355328 ∧ (f.length : Int) ≤ 140737488355328) := by omega
  rw [e_delta_changed, if_pos cc]
  have := changed_loop f c hf ha hc big (0, (0, [])) f.length 0 big (by omega) (by omega)
  simpa using this
def rawD : Flow → Steps → Flow
  | f, [] => []
  | f, s :: d => if sk s = 0 then (f.take (sn s).toNat).map (chgE (sa s)) ++ rawD (f.drop (sn s).toNat) d else if sk s = 1 then se s ++ rawD f d else rawD (f.drop (sn s).toNat) d
theorem fs_take {f : Flow} (hf : Fs f) (k : Nat) : Fs (f.take k) := fs_of (by have := hf.1; simp; omega) (fun x hx => fs_mem hf (List.mem_of_mem_take hx))
theorem fs_drop {f : Flow} (hf : Fs f) (k : Nat) : Fs (f.drop k) := fs_of (by have := hf.1; simp; omega) (fun x hx => fs_mem hf (List.mem_of_mem_drop hx))
theorem raw_loop (l : Steps) (hl : Ds l) (hv : ∀ s ∈ l, sErr s = 0) (n : Nat) : ∀ (d i m : Nat) (f out : Flow), i + d = l.length → d < m → Fs f → befs (l.drop i) = f.length → out.length + f.length ≤ 1048576 + i * 1048576 →
    L_delta_Raw_0 n m f out l (l.length : Int) i = some (ret_delta_Raw (out ++ rawD f (l.drop i))) := by
  have hlen := hl.1
  intro d
  induction d with
  | zero =>
    intro i m f out hi hm hf hb ho
    cases m with
    | zero => omega
    | succ m =>
    have : i = l.length := by omega
    subst this
    have c1 : decide ((l.length : Int) < (l.length : Int)) = false := decide_eq_false (by omega)
    rw [L_delta_Raw_0_step, List.drop_length]
    simp [bcond_if, c1, rawD]
  | succ d ih =>
    intro i m f out hi hm hf hb ho
    cases m with
    | zero => omega
    | succ m =>
    have hil : i < l.length := by omega
    have c1 : decide ((i : Int) < (l.length : Int)) = true := decide_eq_true (by omega)
    have w1 : IntKind.i64.wrap ((i : Int) + 1) = ((i + 1 : Nat) : Int) := wnat (by omega) (by omega)
    have ea0 : at_ (e := YStep) l (i : Int) = atT l i := rfl
    have e1 : (atT l i).1 = sk (atT l i) := rfl
    have e2 : (atT l i).2.1 = sn (atT l i) := rfl
    have e3 : (atT l i).2.2.1 = sa (atT l i) := rfl
    have e4 : (atT l i).2.2.2 = se (atT l i) := rfl
    have hm1 := atT_mem l hil
    have hz := hv _ hm1
    have hS := hl.2 i
    have hdr : ∀ s ∈ l.drop (i + 1), s ∈ l := fun s h => List.mem_of_mem_drop h
    obtain ⟨p1, p2⟩ := adds_pos (fun s h => hv s (hdr s h)) (fun s h => ss_mem hl (hdr s h))
    have hmul : (i + 1) * 1048576 = i * 1048576 + 1048576 := Nat.succ_mul _ _
    have hi2 : i * 1048576 ≤ 1048576 * 1048576 := Nat.mul_le_mul_right _ (by omega)
    have ct : List.take (Int.toNat (f.length : Int)) f = f := by simp
    have lf := hf.1
    have kz : ¬ sk (atT l i) = 1 → 1 ≤ sn (atT l i) := fun h => ((ssz_valid hz hS).2.2.1 h).1
    rw [drop_step l hil] at hb ⊢
    simp only [befs, addB] at hb
    rw [L_delta_Raw_0_step]
    simp only [bcond_if, c1, if_true, inb, hil, w1, ea0, e1, e2, e3, e4, ct, rawD]
    rcases sErr_kind hz with hk | hk | hk
    · rw [hk] at hb
      simp only [show ¬ ((0 : Int) = 1) from by decide, if_false] at hb
      have hn := kz (by omega)
      obtain ⟨N, hN⟩ : ∃ N : Nat, sn (atT l i) = (N : Int) := ⟨(sn (atT l i)).toNat, by omega⟩
      rw [hN] at hb ⊢
      have hNl : N ≤ f.length := by omega
      have lt : (f.take N).length = N := by simp; omega
      have ld : (f.drop N).length = f.length - N := by simp
      have q1 : (0 ≤ (N : Int) ∧ (N : Int) ≤ (f.length : Int) ∧ 0 ≤ (0 : Int) ∧ (0 : Int) ≤ (N : Int)) := by omega
      have q2 : (0 ≤ (f.length : Int) ∧ (f.length : Int) ≤ (f.length : Int) ∧ 0 ≤ (N : Int) ∧ (N : Int) ≤ (f.length : Int)) := by omega
      have ft := fs_take hf N
      have ch := changed_eq (f.take N) (sa (atT l i)) ft.1 (fun j => (ft.2 j).1) hS.1.1
      have b1 : (out.length + ((f.take N).map (chgE (sa (atT l i)))).length) * 40 ≤ 140737488355328 := by rw [List.length_map, lt]; omega
      have := ih (i + 1) m (f.drop N) (out ++ (f.take N).map (chgE (sa (atT l i)))) (by omega) (by omega) (fs_drop hf N) (by rw [ld]; omega) (by rw [List.length_append, List.length_map, lt, ld, hmul]; omega)
      simp only [hk, beq_self_eq_true, if_true, if_pos q1, if_pos q2, Int.toNat_natCast, Int.toNat_zero, List.drop_zero, ch, Option.bind_some, res_delta_changed_0_ret, b1]
      rw [this, List.append_assoc]
    · rw [hk] at hb
      simp only [if_true] at hb
      have cp := copy_eq (se (atT l i)) hS.2.1 (fun j => (hS.2.2 j).1)
      have b1 : (out.length + (se (atT l i)).length) * 40 ≤ 140737488355328 := by have := hS.2.1; omega
      have := ih (i + 1) m f (out ++ se (atT l i)) (by omega) (by omega) hf (by omega) (by have := hS.2.1; rw [List.length_append, hmul]; omega)
      simp only [hk, show ((1 : Int) == 0) = false from rfl, show ¬ ((1 : Int) = 0) from by decide, beq_self_eq_true, if_true, if_false, Bool.false_eq_true, cp, Option.bind_some, res_flow_Copy_0_ret, b1]
      rw [this, List.append_assoc]
    · rw [hk] at hb
      simp only [show ¬ ((2 : Int) = 1) from by decide, if_false] at hb
      have hn := kz (by omega)
      obtain ⟨N, hN⟩ : ∃ N : Nat, sn (atT l i) = (N : Int) := ⟨(sn (atT l i)).toNat, by omega⟩
      rw [hN] at hb ⊢
      have ld : (f.drop N).length = f.length - N := by simp
      have q2 : (0 ≤ (f.length : Int) ∧ (f.length : Int) ≤ (f.length : Int) ∧ 0 ≤ (N : Int) ∧ (N : Int) ≤ (f.length : Int)) := by omega
      have := ih (i + 1) m (f.drop N) out (by omega) (by omega) (fs_drop hf N) (by rw [ld]; omega) (by rw [ld, hmul]; omega)
      simp only [hk, show ((2 : Int) == 0) = false from rfl, show ((2 : Int) == 1) = false from rfl, show ¬ ((2 : Int) = 0) from by decide, show ¬ ((2 : Int) = 1) from by decide, if_false, Bool.false_eq_true, if_pos q2, Int.toNat_natCast]
      exact this
def lts (s : Str) : Flow := s.map fun b => mkE (b.toNat : Int) 0 []
theorem letters_loop (s : Str) (hl : s.length ≤ 1048576) (n : Nat) : ∀ (d i m : Nat) (out : Flow), i + d = s.length → d < m → out.length ≤ i → L_law_letters_0 n m s out (s.length : Int) i = some (ret_law_letters (out ++ lts (s.drop i))) := by
  intro d
  induction d with
  | zero =>
    intro i m out hi hm ho
    cases m with
    | zero => omega
    | succ m =>
    have : i = s.length := by omega
    subst this
    have c1 : decide ((s.length : Int) < (s.length : Int)) = false := decide_eq_false (by omega)
    rw [L_law_letters_0_step, List.drop_length]
    simp [bcond_if, c1, lts]
  | succ d ih =>
    intro i m out hi hm ho
    cases m with
    | zero => omega
    | succ m =>
    have hil : i < s.length := by omega
    have c1 : decide ((i : Int) < (s.length : Int)) = true := decide_eq_true (by omega)
    have w1 : IntKind.i64.wrap ((i : Int) + 1) = ((i + 1 : Nat) : Int) := wnat (by omega) (by omega)
    have hb : (List.getD s i 0).toNat < 256 := UInt8.toNat_lt _
    have w2 : IntKind.i64.wrap ((List.getD s i 0).toNat : Int) = ((List.getD s i 0).toNat : Int) := w64 (by omega) (by omega)
    have b1 : ∀ y : YElem.den, (out.length + [y].length) * 40 ≤ 140737488355328 := fun y => by
      have : [y].length = 1 := rfl
      omega
    have e5 : (((List.getD s i 0).toNat : Int), ((0 : Int), ([] : Attrs))) = mkE ((List.getD s i 0).toNat : Int) 0 [] := rfl
    rw [L_law_letters_0_step]
    simp only [bcond_if, c1, if_true, inb, hil, w1, Int.toNat_natCast, w2, b1]
    have hd : s.drop i = s.getD i 0 :: s.drop (i + 1) := by
      rw [List.drop_eq_getElem_cons hil]
      congr 1
      simp [List.getD_eq_getElem?_getD, hil]
    rw [hd]
    have := ih (i + 1) m (out ++ [mkE ((List.getD s i 0).toNat : Int) 0 []]) (by omega) (by omega) (by simp; omega)
    rw [List.append_assoc] at this
    exact this
theorem letters_eq (s : Str) (hl : s.length ≤ 1048576) : C_law_letters F_law_letters s = some (ret_law_letters (lts s)) := by
  obtain ⟨m, hm⟩ := big_succ (n := 1048577) (by omega)
  rw [e_law_letters]
  have := letters_loop s hl big s.length 0 big [] (by omega) (by omega) (by simp)
  simpa using this
end Go.Ev.Delta
