
/- Deltas: the plain side, first part: errors, lengths. -/
import Derived.Test.YtlgjdgebmiegeaaPFlow
import Derived.Test.YtlgjdgebmiegeaaGDelta
namespace Go.Ev.Delta
open Go.Ev Go.Ev.Attr Go.Ev.Track
set_option linter.unusedVariables false
set_option linter.unusedSimpArgs false

abbrev Steps := List YStep.den
def sk (s : YStep.den) : Int := s.1
def sn (s : YStep.den) : Int := s.2.1
def sa (s : YStep.den) : Attrs := s.2.2.1
def se (s : YStep.den) : Flow := s.2.2.2
def mkT (k n : Int) (a : Attrs) (e : Flow) : YStep.den := (k, n, a, e)
@[simp] theorem sk_mk (k n : Int) (a : Attrs) (e : Flow) : sk (mkT k n a e) = k := rfl
@[simp] theorem sn_mk (k n : Int) (a : Attrs) (e : Flow) : sn (mkT k n a e) = n := rfl
@[simp] theorem sa_mk (k n : Int) (a : Attrs) (e : Flow) : sa (mkT k n a e) = a := rfl
@[simp] theorem se_mk (k n : Int) (a : Attrs) (e : Flow) : se (mkT k n a e) = e := rfl
theorem step_ext {s t : YStep.den} (h1 : sk s = sk t) (h2 : sn s = sn t) (h3 : sa s = sa t) (h4 : se s = se t) : s = t :=
  Prod.ext h1 (Prod.ext h2 (Prod.ext h3 h4))
def atT (l : Steps) (i : Nat) : YStep.den := at_ (e := YStep) l (i : Int)
theorem drop_step (l : Steps) {i : Nat} (h : i < l.length) : l.drop i = atT l i :: l.drop (i + 1) := drop_at' l h
theorem atT_mem (l : Steps) {i : Nat} (h : i < l.length) : atT l i ∈ l := by
  unfold atT at_
  simp [List.getD_eq_getElem?_getD, h]
/-- Steps and what they hold are short enough. -/
def Ss (s : YStep.den) : Prop := Sh (sa s) ∧ Fs (se s)
def Ds (d : Steps) : Prop := d.length ≤ 1048576 ∧ ∀ i, Ss (atT d i)

/-- Lists that are the same. -/
def eqA (a b : Attrs) : Bool := decide ((a : List (List UInt8 × List UInt8)) = b)
theorem eqA_iff (a b : Attrs) : eqA a b = true ↔ a = b := decide_eq_true_iff
theorem same35 (a b : Attrs) (hl : a.length ≤ 1048576) : C_R_SameAttrs F_R_SameAttrs a b = some (ret_R_SameAttrs (eqA a b)) := by
  obtain ⟨r, h1, h2⟩ := same_eq a b hl
  have : r = eqA a b := by rw [Bool.eq_iff_iff, h2, eqA_iff]
  rw [h1, this]
theorem same38 (a b : Attrs) (hl : a.length ≤ 1048576) : C_attr_Same F_attr_Same a b = some (ret_attr_Same (eqA a b)) := by
  obtain ⟨r, h1, h2⟩ := lsame_eq a b hl
  have : r = eqA a b := by rw [Bool.eq_iff_iff, h2, eqA_iff]
  rw [h1, this]

/-! ### A step by itself -/
def emp {α : Type} (l : List α) : Bool := l.isEmpty
theorem len_pos {α : Type} (l : List α) : decide ((l.length : Int) > 0) = !(emp l) := by
  cases l with
  | nil => rfl
  | cons x l => exact decide_eq_true (by have : (x :: l).length = l.length + 1 := rfl; omega)
theorem len_zero {α : Type} (l : List α) : ((l.length : Int) == 0) = emp l := by
  cases l with
  | nil => rfl
  | cons x l =>
    exact beq_eq_false_iff_ne.2 (by have : (x :: l).length = l.length + 1 := rfl; omega)
def sErr (s : YStep.den) : Int :=
  if sk s = 1 then (if sn s ≠ 0 ∨ emp (sa s) = false then 4 else if emp (se s) = true then 11 else pErr (se s))
  else if sk s = 0 ∨ sk s = 2 then (if emp (se s) = false ∨ (sk s = 2 ∧ emp (sa s) = false) then 4 else if sn s < 1 ∨ 2147483647 < sn s then 2 else err true (sa s))
  else 8
theorem step_eq (s : YStep.den) (h : Ss s) : C_delta_step F_delta_step s = some (ret_delta_step (sErr s)) := by
  have e1 : s.1 = sk s := rfl
  have e2 : s.2.1 = sn s := rfl
  have e3 : s.2.2.1 = sa s := rfl
  have e4 : s.2.2.2 = se s := rfl
  rw [e_delta_step]
  unfold J_delta_step_0
  simp only [e1, e2, e3, e4, len_pos, len_zero, checkc_eq _ h.1, (part_eq _ h.2).1, Option.bind_some, res_attr_CheckChange_0_ret, res_flow_CheckPart_0_ret, bcond_if]
  unfold sErr
  generalize sk s = k
  generalize sn s = N
  generalize emp (sa s) = p
  generalize emp (se s) = q
  by_cases k1 : k = 1
  · subst k1
    by_cases n0 : N = 0 <;> cases p <;> cases q <;> simp [n0]
  by_cases k0 : k = 0
  · subst k0
    by_cases n1 : N < 1 <;> by_cases n2 : 2147483647 < N <;> cases p <;> cases q <;> simp [n1, n2]
  by_cases k2 : k = 2
  · subst k2
    by_cases n1 : N < 1 <;> by_cases n2 : 2147483647 < N <;> cases p <;> cases q <;> simp [n1, n2]
  · simp [k0, k1, k2]
theorem rstep_eq (s : YStep.den) (h : Ss s) : C_R_StepError F_R_StepError s = some (ret_R_StepError (sErr s)) := by
  have e1 : s.1 = sk s := rfl
  have e2 : s.2.1 = sn s := rfl
  have e3 : s.2.2.1 = sa s := rfl
  have e4 : s.2.2.2 = se s := rfl
  rw [e_R_StepError]
  simp only [e1, e2, e3, e4, len_pos, len_zero, rerr_eq _ h.1, (part_eq _ h.2).2, Axis.in_eq, Option.bind_some, res_R_AttrsError_0_ret, res_R_PartError_0_ret, res_R_In_0_ret, bcond_if]
  unfold sErr
  generalize sk s = k
  generalize sn s = N
  generalize emp (sa s) = p
  generalize emp (se s) = q
  by_cases k1 : k = 1
  · subst k1
    by_cases n0 : N = 0 <;> cases p <;> cases q <;> simp [n0]
  have b1 : (decide (1 ≤ N) && decide (N ≤ 2147483647)) = !(decide (N < 1) || decide (2147483647 < N)) := by
    by_cases n1 : N < 1
    · rw [decide_eq_true n1, decide_eq_false (show ¬ 1 ≤ N by omega)]; rfl
    · by_cases n2 : 2147483647 < N
      · rw [decide_eq_true n2, decide_eq_false (show ¬ N ≤ 2147483647 by omega)]; simp
      · rw [decide_eq_false n1, decide_eq_false n2, decide_eq_true (show 1 ≤ N by omega), decide_eq_true (show N ≤ 2147483647 by omega)]; rfl
  rw [b1]
  by_cases k0 : k = 0
  · subst k0
    by_cases n1 : N < 1 <;> by_cases n2 : 2147483647 < N <;> cases p <;> cases q <;> simp [n1, n2]
  by_cases k2 : k = 2
  · subst k2
    by_cases n1 : N < 1 <;> by_cases n2 : 2147483647 < N <;> cases p <;> cases q <;> simp [n1, n2]
  · have : (decide (0 ≤ k) && decide (k ≤ 2)) = false := by
      by_cases z : 0 ≤ k
      · rw [decide_eq_true z, decide_eq_false (by omega)]; rfl
      · rw [decide_eq_false z]; rfl
    simp [this, k0, k1, k2]
def ssz (s : YStep.den) : Int := if sk s = 1 then ((se s).length : Int) else sn s
theorem size_eq (s : YStep.den) : C_delta_size F_delta_size s = some (ret_delta_size (ssz s)) := by
  have e1 : s.1 = sk s := rfl
  have e2 : s.2.1 = sn s := rfl
  have e4 : s.2.2.2 = se s := rfl
  rw [e_delta_size]
  simp only [e1, e2, e4, bcond_if, ssz]
  by_cases k1 : sk s = 1 <;> simp [k1]
theorem emp_iff {α : Type} (l : List α) : emp l = true ↔ l = [] := by cases l <;> simp [emp]
theorem emp_false {α : Type} (l : List α) : emp l = false ↔ l ≠ [] := by cases l <;> simp [emp]
theorem sErr_zero {s : YStep.den} (h : sErr s = 0) : (sk s = 1 ∧ sn s = 0 ∧ sa s = [] ∧ se s ≠ [] ∧ pErr (se s) = 0) ∨ ((sk s = 0 ∨ sk s = 2 ∧ sa s = []) ∧ se s = [] ∧ 1 ≤ sn s ∧ sn s ≤ 2147483647 ∧ err true (sa s) = 0) := by
  unfold sErr at h
  split at h
  · rename_i k1
    split at h
    · cases h
    · rename_i h2
      split at h
      · cases h
      · rename_i h3
        refine .inl ⟨k1, ?_, ?_, ?_, h⟩
        · exact Decidable.not_not.1 fun q => h2 (.inl q)
        · rw [← emp_iff]; cases hq : emp (sa s) with
          | true => rfl
          | false => exact absurd (.inr hq) h2
        · intro q; exact h3 ((emp_iff _).2 q)
  · split at h
    · rename_i k2
      split at h
      · cases h
      · rename_i h2
        split at h
        · cases h
        · rename_i h3
          have q1 : se s = [] := by
            rw [← emp_iff]; cases hq : emp (se s) with
            | true => rfl
            | false => exact absurd (.inl hq) h2
          refine .inr ⟨?_, q1, by omega, by omega, h⟩
          rcases k2 with k | k
          · exact .inl k
          · refine .inr ⟨k, ?_⟩
            rw [← emp_iff]; cases hq : emp (sa s) with
            | true => rfl
            | false => exact absurd (.inr ⟨k, hq⟩) h2
    · cases h
theorem sErr_kind {s : YStep.den} (h : sErr s = 0) : sk s = 0 ∨ sk s = 1 ∨ sk s = 2 := by
  rcases sErr_zero h with h | h
  · exact .inr (.inl h.1)
  · rcases h.1 with q | q
    · exact .inl q
    · exact .inr (.inr q.1)
theorem ssz_valid {s : YStep.den} (h : sErr s = 0) (hs : Ss s) : 1 ≤ ssz s ∧ ssz s ≤ 2147483647 ∧ (sk s ≠ 1 → 1 ≤ sn s ∧ sn s ≤ 2147483647) ∧ sn s + (se s).length = ssz s := by
  unfold ssz
  rcases sErr_zero h with ⟨h1, h2, h3, h4, h5⟩ | ⟨h1, h2, h3, h4, h5⟩
  · have l1 := hs.2.1
    have l2 : 0 < (se s).length := List.length_pos_iff.2 h4
    rw [if_pos h1]
    refine ⟨by omega, by omega, fun q => absurd h1 q, by omega⟩
  · have : ¬ sk s = 1 := by rcases h1 with q | q <;> omega
    rw [if_neg this, h2]
    refine ⟨h3, h4, fun _ => ⟨h3, h4⟩, by simp⟩

/-! ### All steps -/
def ord (p s : YStep.den) : Bool := (sk p == sk s && (sk s != 0 || eqA (sa p) (sa s))) || (sk p == 2 && sk s == 1)
def dOne (p : Option YStep.den) (s : YStep.den) : Int := if sErr s ≠ 0 then sErr s else match p with
  | none => 0
  | some p => if ord p s = true then 5 else 0
def addB (s : YStep.den) (b : Int) : Int := if sk s = 1 then b else b + sn s
def addA (s : YStep.den) (a : Int) : Int := if sk s = 2 then a else a + ssz s
def dErr : Option YStep.den → Int → Int → Steps → Int
  | _, b, a, [] => if 2147483647 < b ∨ 2147483647 < a then 3 else 0
  | p, b, a, s :: l => if dOne p s ≠ 0 then dOne p s else dErr (some s) (addB s b) (addA s a) l
def prv (l : Steps) (i : Nat) : Option YStep.den := if i = 0 then none else some (atT l (i - 1))
theorem dOne_zero {p : Option YStep.den} {s : YStep.den} (h : dOne p s = 0) : sErr s = 0 ∧ ∀ q, p = some q → ord q s = false := by
  unfold dOne at h
  split at h
  · rename_i h1; exact absurd h h1
  · rename_i h1
    refine ⟨Decidable.not_not.1 h1, fun q hq => ?_⟩
    subst hq
    simp only at h
    split at h
    · cases h
    · rename_i h2; simpa using h2
/-- A bounded number tells of an unbounded one. -/
def R (x b : Int) : Prop := 0 ≤ x ∧ x ≤ 4294967296 ∧ ((x < 2147483648 ∧ x = b) ∨ (2147483648 ≤ x ∧ 2147483648 ≤ b))
def mn (y : Int) : Int := if (2147483648 : Int) < IntKind.i64.wrap y then 2147483648 else IntKind.i64.wrap y
theorem R_min {x b n : Int} (h : R x b) (h1 : 1 ≤ n) (h2 : n ≤ 2147483647) : R (mn (x + n)) (b + n) := by
  obtain ⟨a1, a2, a3⟩ := h
  unfold mn
  rw [w64 (by omega) (by omega)]
  unfold R
  split <;> omega
def up (x n : Int) : Int := if x < 2147483648 then IntKind.i64.wrap (x + n) else x
theorem R_up {x b n : Int} (h : R x b) (h1 : 1 ≤ n) (h2 : n ≤ 2147483647) : R (up x n) (b + n) := by
  obtain ⟨a1, a2, a3⟩ := h
  unfold up
  split
  · rw [w64 (by omega) (by omega)]
    unfold R; omega
  · unfold R; omega

theorem check_step (l : Steps) (hl : Ds l) (n m i : Nat) (hi : i < l.length) (x3 x4 : Int) (hp : ∀ q, prv l i = some q → sErr q = 0) :
    L_delta_Check_0 n (m + 1) l x3 x4 l (l.length : Int) i = if dOne (prv l i) (atT l i) ≠ 0 then some (ret_delta_Check (dOne (prv l i) (atT l i))) else
      L_delta_Check_0 n m l (if sk (atT l i) = 1 then x3 else mn (x3 + sn (atT l i))) (if sk (atT l i) = 2 then x4 else mn (x4 + ssz (atT l i))) l (l.length : Int) ((i + 1 : Nat) : Int) := by
  have hlen := hl.1
  have c1 : decide ((i : Int) < (l.length : Int)) = true := decide_eq_true (by omega)
  have w1 : IntKind.i64.wrap ((i : Int) + 1) = ((i + 1 : Nat) : Int) := wnat (by omega) (by omega)
  have ea0 : at_ (e := YStep) l (i : Int) = atT l i := rfl
  have e1 : (atT l i).1 = sk (atT l i) := rfl
  have e2 : (atT l i).2.1 = sn (atT l i) := rfl
  have e3 : (atT l i).2.2.1 = sa (atT l i) := rfl
  have mf : ∀ y : Int, (if (2147483648 : Int) < IntKind.i64.wrap y then 2147483648 else IntKind.i64.wrap y) = mn y := fun y => rfl
  rw [L_delta_Check_0_step]
  unfold J_delta_Check_0
  simp only [bcond_if, inb, hi, c1, if_true, w1, ea0, step_eq _ (hl.2 i), Option.bind_some, res_delta_step_0_ret, size_eq, res_delta_size_0_ret, mf]
  by_cases hz : sErr (atT l i) = 0
  · have hk := sErr_kind hz
    by_cases h0 : i = 0
    · subst h0
      have : dOne (prv l 0) (atT l 0) = 0 := by simp [dOne, prv, hz]
      rw [this]
      simp only [e1, e2, e3]
      generalize sk (atT l 0) = k at hk
      rcases hk with rfl | rfl | rfl <;> simp [hz]
    · have hp2 : prv l i = some (atT l (i - 1)) := by simp [prv, h0]
      have hq := sErr_kind (hp _ hp2)
      have w2 : IntKind.i64.wrap ((i : Int) - 1) = ((i - 1 : Nat) : Int) := wnat (by omega) (by omega)
      have h6 : i - 1 < l.length := by omega
      have h7 : decide ((i : Int) > 0) = true := decide_eq_true (by omega)
      have ea1 : at_ (e := YStep) l ((i - 1 : Nat) : Int) = atT l (i - 1) := rfl
      have e4 : (atT l (i - 1)).1 = sk (atT l (i - 1)) := rfl
      have e5 : (atT l (i - 1)).2.2.1 = sa (atT l (i - 1)) := rfl
      have hone : dOne (prv l i) (atT l i) = if ord (atT l (i - 1)) (atT l i) = true then 5 else 0 := by simp [dOne, hp2, hz]
      rw [hone]
      simp only [w2, inb, h6, if_true, h7, ea1, e1, e2, e3, e4, e5, same38 _ _ (hl.2 (i - 1)).1.1, Option.bind_some, res_attr_Same_0_ret]
      unfold ord
      generalize sk (atT l i) = k at hk
      generalize sk (atT l (i - 1)) = q at hq
      generalize eqA (sa (atT l (i - 1))) (sa (atT l i)) = r
      rcases hk with rfl | rfl | rfl <;> rcases hq with rfl | rfl | rfl <;> cases r <;> simp [hz]
  · have : dOne (prv l i) (atT l i) = sErr (atT l i) := by simp [dOne, hz]
    rw [this]
    simp [hz]
theorem prv_ok {l : Steps} {i : Nat} (h : dOne (prv l i) (atT l i) = 0) : ∀ q, prv l (i + 1) = some q → sErr q = 0 := by
  intro q hq
  have : prv l (i + 1) = some (atT l i) := by simp [prv]
  rw [this] at hq
  injection hq with hq
  subst hq
  exact (dOne_zero h).1
theorem check_loop (l : Steps) (hl : Ds l) (n : Nat) : ∀ (d i m : Nat) (x3 x4 b a : Int), i + d = l.length → d < m → R x3 b → R x4 a → (∀ q, prv l i = some q → sErr q = 0) → L_delta_Check_0 n m l x3 x4 l (l.length : Int) i = some (ret_delta_Check (dErr (prv l i) b a (l.drop i))) := by
  have hlen := hl.1
  intro d
  induction d with
  | zero =>
    intro i m x3 x4 b a hi hm hb ha hp
    cases m with
    | zero => omega
    | succ m =>
    have : i = l.length := by omega
    subst this
    have c1 : decide ((l.length : Int) < (l.length : Int)) = false := decide_eq_false (by omega)
    rw [L_delta_Check_0_step, List.drop_length]
    simp only [bcond_if, c1, Bool.false_eq_true, if_false, dErr]
    unfold R at hb ha
    by_cases h1 : x3 > 2147483647
    · have : 2147483647 < b ∨ 2147483647 < a := by omega
      simp [h1, this]
    · by_cases h2 : x4 > 2147483647
      · have : 2147483647 < b ∨ 2147483647 < a := by omega
        simp [h1, h2, this]
      · have : ¬ (2147483647 < b ∨ 2147483647 < a) := by omega
        simp [h1, h2, this]
  | succ d ih =>
    intro i m x3 x4 b a hi hm hb ha hp
    cases m with
    | zero => omega
    | succ m =>
    have hil : i < l.length := by omega
    rw [check_step l hl n m i hil _ _ hp, drop_step l hil, dErr]
    by_cases h : dOne (prv l i) (atT l i) = 0
    · obtain ⟨s1, s2, s3, s4⟩ := ssz_valid (dOne_zero h).1 (hl.2 i)
      simp only [h, ne_eq, not_true, if_false]
      have hp' : prv l (i + 1) = some (atT l i) := by simp [prv]
      rw [← hp']
      refine ih (i + 1) m _ _ _ _ (by omega) (by omega) ?_ ?_ (prv_ok h)
      · unfold addB; split
        · exact hb
        · rename_i hk; exact R_min hb (s3 hk).1 (s3 hk).2
      · unfold addA; split
        · exact ha
        · exact R_min ha s1 s2
    · simp only [h, ne_eq, not_false_eq_true, if_true]
theorem rcheck_step (l : Steps) (hl : Ds l) (n m i : Nat) (hi : i < l.length) (x3 x4 : Int) (hp : ∀ q, prv l i = some q → sErr q = 0) :
    L_R_DeltaError_0 n (m + 1) l x3 x4 (l.length : Int) i = if dOne (prv l i) (atT l i) ≠ 0 then some (ret_R_DeltaError (dOne (prv l i) (atT l i))) else
      L_R_DeltaError_0 n m l (if sk (atT l i) = 1 then x3 else up x3 (sn (atT l i))) (if sk (atT l i) = 2 then x4 else up x4 (ssz (atT l i))) (l.length : Int) ((i + 1 : Nat) : Int) := by
  have hlen := hl.1
  have c1 : decide ((i : Int) < (l.length : Int)) = true := decide_eq_true (by omega)
  have w1 : IntKind.i64.wrap ((i : Int) + 1) = ((i + 1 : Nat) : Int) := wnat (by omega) (by omega)
  have ea0 : at_ (e := YStep) l (i : Int) = atT l i := rfl
  have e1 : (atT l i).1 = sk (atT l i) := rfl
  have e2 : (atT l i).2.1 = sn (atT l i) := rfl
  have e3 : (atT l i).2.2.1 = sa (atT l i) := rfl
  have e6 : (atT l i).2.2.2 = se (atT l i) := rfl
  rw [L_R_DeltaError_0_step]
  unfold J_R_DeltaError_0
  simp only [bcond_if, inb, hi, c1, if_true, w1, ea0, rstep_eq _ (hl.2 i), Option.bind_some, res_R_StepError_0_ret]
  by_cases hz : sErr (atT l i) = 0
  · have hk := sErr_kind hz
    obtain ⟨s1, s2, s3, s4⟩ := ssz_valid hz (hl.2 i)
    have w3 : IntKind.i64.wrap (sn (atT l i) + (se (atT l i)).length) = ssz (atT l i) := by rw [s4]; exact w64 (by omega) (by omega)
    by_cases h0 : i = 0
    · subst h0
      have : dOne (prv l 0) (atT l 0) = 0 := by simp [dOne, prv, hz]
      rw [this]
      simp only [e1, e2, e3, e6, w3]
      unfold up
      generalize sk (atT l 0) = k at hk
      by_cases hx : x3 < 2147483648 <;> by_cases hy : x4 < 2147483648 <;> rcases hk with rfl | rfl | rfl <;> simp [hz, hx, hy]
    · have hp2 : prv l i = some (atT l (i - 1)) := by simp [prv, h0]
      have hq := sErr_kind (hp _ hp2)
      have w2 : IntKind.i64.wrap ((i : Int) - 1) = ((i - 1 : Nat) : Int) := wnat (by omega) (by omega)
      have h6 : i - 1 < l.length := by omega
      have h7 : decide ((i : Int) > 0) = true := decide_eq_true (by omega)
      have ea1 : at_ (e := YStep) l ((i - 1 : Nat) : Int) = atT l (i - 1) := rfl
      have e4 : (atT l (i - 1)).1 = sk (atT l (i - 1)) := rfl
      have e5 : (atT l (i - 1)).2.2.1 = sa (atT l (i - 1)) := rfl
      have hone : dOne (prv l i) (atT l i) = if ord (atT l (i - 1)) (atT l i) = true then 5 else 0 := by simp [dOne, hp2, hz]
      rw [hone]
      simp only [w2, inb, h6, if_true, h7, ea1, e1, e2, e3, e4, e5, e6, w3, same35 _ _ (hl.2 (i - 1)).1.1, Option.bind_some, res_R_SameAttrs_0_ret]
      unfold ord up
      generalize sk (atT l i) = k at hk
      generalize sk (atT l (i - 1)) = q at hq
      generalize eqA (sa (atT l (i - 1))) (sa (atT l i)) = r
      by_cases hx : x3 < 2147483648 <;> by_cases hy : x4 < 2147483648 <;> rcases hk with rfl | rfl | rfl <;> rcases hq with rfl | rfl | rfl <;> cases r <;> simp [hz, hx, hy]
  · have : dOne (prv l i) (atT l i) = sErr (atT l i) := by simp [dOne, hz]
    rw [this]
    simp [hz]
theorem rcheck_loop (l : Steps) (hl : Ds l) (n : Nat) : ∀ (d i m : Nat) (x3 x4 b a : Int), i + d = l.length → d < m → R x3 b → R x4 a → (∀ q, prv l i = some q → sErr q = 0) → L_R_DeltaError_0 n m l x3 x4 (l.length : Int) i = some (ret_R_DeltaError (dErr (prv l i) b a (l.drop i))) := by
  have hlen := hl.1
  intro d
  induction d with
  | zero =>
    intro i m x3 x4 b a hi hm hb ha hp
    cases m with
    | zero => omega
    | succ m =>
    have : i = l.length := by omega
    subst this
    have c1 : decide ((l.length : Int) < (l.length : Int)) = false := decide_eq_false (by omega)
    rw [L_R_DeltaError_0_step, List.drop_length]
    simp only [bcond_if, c1, Bool.false_eq_true, if_false, dErr]
    unfold R at hb ha
    by_cases h1 : x3 > 2147483647
    · have : 2147483647 < b ∨ 2147483647 < a := by omega
      simp [h1, this]
    · by_cases h2 : x4 > 2147483647
      · have : 2147483647 < b ∨ 2147483647 < a := by omega
        simp [h1, h2, this]
      · have : ¬ (2147483647 < b ∨ 2147483647 < a) := by omega
        simp [h1, h2, this]
  | succ d ih =>
    intro i m x3 x4 b a hi hm hb ha hp
    cases m with
    | zero => omega
    | succ m =>
    have hil : i < l.length := by omega
    rw [rcheck_step l hl n m i hil _ _ hp, drop_step l hil, dErr]
    by_cases h : dOne (prv l i) (atT l i) = 0
    · obtain ⟨s1, s2, s3, s4⟩ := ssz_valid (dOne_zero h).1 (hl.2 i)
      simp only [h, ne_eq, not_true, if_false]
      have hp' : prv l (i + 1) = some (atT l i) := by simp [prv]
      rw [← hp']
      refine ih (i + 1) m _ _ _ _ (by omega) (by omega) ?_ ?_ (prv_ok h)
      · unfold addB; split
        · exact hb
        · rename_i hk; exact R_up hb (s3 hk).1 (s3 hk).2
      · unfold addA; split
        · exact ha
        · exact R_up ha s1 s2
    · simp only [h, ne_eq, not_false_eq_true, if_true]
def err (l : Steps) : Int := dErr none 0 0 l
theorem R0 : R 0 0 := by unfold R; omega
theorem check_eq (l : Steps) (hl : Ds l) : C_delta_Check F_delta_Check l = some (ret_delta_Check (err l)) ∧ C_R_DeltaError F_R_DeltaError l = some (ret_R_DeltaError (err l)) := by
  have hlen := hl.1
  obtain ⟨m, hm⟩ := big_succ (n := 1048577) (by omega)
  rw [e_delta_Check, e_R_DeltaError]
  have h1 := check_loop l hl big l.length 0 big 0 0 0 0 (by omega) (by omega) R0 R0 (fun q h => by simp [prv] at h)
  have h2 := rcheck_loop l hl big l.length 0 big 0 0 0 0 (by omega) (by omega) R0 R0 (fun q h => by simp [prv] at h)
  simp only [prv, if_true, List.drop_zero] at h1 h2
  exact ⟨h1, h2⟩

/-! ### Lengths -/
def befs : Steps → Int
  | [] => 0
  | s :: l => addB s 0 + befs l
def afts : Steps → Int
  | [] => 0
  | s :: l => addA s 0 + afts l
theorem addB_0 (s : YStep.den) (b : Int) : addB s b = b + addB s 0 := by unfold addB; split <;> omega
theorem addA_0 (s : YStep.den) (b : Int) : addA s b = b + addA s 0 := by unfold addA; split <;> omega
theorem dErr_zero : ∀ (l : Steps) (p : Option YStep.den) (b a : Int), dErr p b a l = 0 → (∀ s ∈ l, sErr s = 0) ∧ b + befs l ≤ 2147483647 ∧ a + afts l ≤ 2147483647
  | [], p, b, a, h => by
    simp only [dErr] at h
    split at h
    · cases h
    · simp [befs, afts]; omega
  | s :: l, p, b, a, h => by
    simp only [dErr] at h
    split at h
    · rename_i h1; exact absurd h h1
    · rename_i h1
      obtain ⟨q1, q2, q3⟩ := dErr_zero l (some s) (addB s b) (addA s a) h
      rw [addB_0] at q2
      rw [addA_0] at q3
      refine ⟨fun t ht => ?_, by simp only [befs]; omega, by simp only [afts]; omega⟩
      rcases List.mem_cons.1 ht with rfl | ht
      · exact (dOne_zero (Decidable.not_not.1 h1)).1
      · exact q1 t ht
theorem ss_mem {l : Steps} (hl : Ds l) {s : YStep.den} (h : s ∈ l) : Ss s := by
  obtain ⟨i, h1, h2⟩ := List.getElem_of_mem h
  have := hl.2 i
  have e : atT l i = s := by
    unfold atT at_
    simp [List.getD_eq_getElem?_getD, h1, h2]
  rwa [e] at this
theorem adds_pos {l : Steps} (h : ∀ s ∈ l, sErr s = 0) (hl : ∀ s ∈ l, Ss s) : 0 ≤ befs l ∧ 0 ≤ afts l := by
  induction l with
  | nil => simp [befs, afts]
  | cons s l ih =>
    obtain ⟨i1, i2⟩ := ih (fun t ht => h t (by simp [ht])) (fun t ht => hl t (by simp [ht]))
    obtain ⟨s1, s2, s3, s4⟩ := ssz_valid (h s (by simp)) (hl s (by simp))
    simp only [befs, afts]
    unfold addB addA
    constructor
    · split
      · omega
      · rename_i hk; have := (s3 hk).1; omega
    · split <;> omega
theorem len_loop (l : Steps) (hlen : l.length ≤ 1048576) (hv : ∀ s ∈ l, sErr s = 0) (hs : ∀ s ∈ l, Ss s) (n : Nat) : ∀ (d i m : Nat) (b a : Int), i + d = l.length → d < m → 0 ≤ b → 0 ≤ a → b + befs (l.drop i) ≤ 2147483647 → a + afts (l.drop i) ≤ 2147483647 →
    L_delta_lengths_0 n m b a l (l.length : Int) i = some (ret_delta_lengths (b + befs (l.drop i)) (a + afts (l.drop i))) := by
  intro d
  induction d with
  | zero =>
    intro i m b a hi hm hb ha h1 h2
    cases m with
    | zero => omega
    | succ m =>
    have : i = l.length := by omega
    subst this
    have c1 : decide ((l.length : Int) < (l.length : Int)) = false := decide_eq_false (by omega)
    rw [L_delta_lengths_0_step, List.drop_length]
    simp [bcond_if, c1, befs, afts]
  | succ d ih =>
    intro i m b a hi hm hb ha h1 h2
    cases m with
    | zero => omega
    | succ m =>
    have hil : i < l.length := by omega
    have c1 : decide ((i : Int) < (l.length : Int)) = true := decide_eq_true (by omega)
    have w1 : IntKind.i64.wrap ((i : Int) + 1) = ((i + 1 : Nat) : Int) := wnat (by omega) (by omega)
    have ea0 : at_ (e := YStep) l (i : Int) = atT l i := rfl
    have e1 : (atT l i).1 = sk (atT l i) := rfl
    have e2 : (atT l i).2.1 = sn (atT l i) := rfl
    have hm1 := atT_mem l hil
    have hz := hv _ hm1
    obtain ⟨s1, s2, s3, s4⟩ := ssz_valid hz (hs _ hm1)
    have hdr : ∀ s ∈ l.drop (i + 1), s ∈ l := fun s h => List.mem_of_mem_drop h
    obtain ⟨p1, p2⟩ := adds_pos (fun s h => hv s (hdr s h)) (fun s h => hs s (hdr s h))
    rw [drop_step l hil] at h1 h2 ⊢
    simp only [befs, afts] at h1 h2 ⊢
    have hk := sErr_kind hz
    rw [L_delta_lengths_0_step]
    simp only [bcond_if, inb, hil, c1, if_true, w1, ea0, size_eq, Option.bind_some, res_delta_size_0_ret, e1, e2]
    have fin : ∀ b' a' : Int, b' = b + addB (atT l i) 0 → a' = a + addA (atT l i) 0 → L_delta_lengths_0 n m b' a' l (l.length : Int) ((i + 1 : Nat) : Int) = some (ret_delta_lengths (b + (addB (atT l i) 0 + befs (l.drop (i + 1)))) (a + (addA (atT l i) 0 + afts (l.drop (i + 1))))) := by
      intro b' a' hb' ha'
      have q1 : 0 ≤ addB (atT l i) 0 := by
        unfold addB; split
        · omega
        · rename_i hk; have := (s3 hk).1; omega
      have q2 : 0 ≤ addA (atT l i) 0 := by unfold addA; split <;> omega
      rw [ih (i + 1) m b' a' (by omega) (by omega) (by omega) (by omega) (by omega) (by omega)]
      subst hb' ha'
      rw [Int.add_assoc, Int.add_assoc]
    unfold addB at h1
    unfold addA at h2
    unfold addB addA at fin
    unfold addB addA
    generalize sn (atT l i) = N at *
    generalize ssz (atT l i) = Z at *
    generalize sk (atT l i) = k at *
    rcases hk with rfl | rfl | rfl
    · simp only [show ¬ ((0 : Int) = 1) from by decide, show ¬ ((0 : Int) = 2) from by decide, if_false] at fin h1 h2 s3
      have := s3 (by decide)
      have f := fin (b + N) (a + Z) (by omega) (by omega)
      rw [w64 (by omega) (by omega), w64 (by omega) (by omega)]
      simpa using f
    · simp only [show ¬ ((1 : Int) = 2) from by decide, if_true, if_false] at fin h1 h2
      have f := fin b (a + Z) (by omega) (by omega)
      have wz : IntKind.i64.wrap (a + Z) = a + Z := w64 (by omega) (by omega)
      rw [wz]
      simpa using f
    · simp only [show ¬ ((2 : Int) = 1) from by decide, if_true, if_false] at fin h1 h2 s3
      have := s3 (by decide)
      have f := fin (b + N) a (by omega) (by omega)
      rw [w64 (by omega) (by omega)]
      simpa using f
theorem len_eq (l : Steps) (hl : Ds l) (h : err l = 0) : C_delta_lengths F_delta_lengths l = some (ret_delta_lengths (befs l) (afts l)) := by
  obtain ⟨h1, h2, h3⟩ := dErr_zero l none 0 0 h
  have hlen := hl.1
  obtain ⟨m, hm⟩ := big_succ (n := 1048577) (by omega)
  rw [e_delta_lengths]
  have := len_loop l hlen h1 (fun s hs => ss_mem hl hs) big l.length 0 big 0 0 (by omega) (by omega) (by omega) (by omega) h2 h3
  simpa using this
end Go.Ev.Delta
