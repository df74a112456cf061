/- Changes of an axis: the plain side, first part: errors, lengths, places. -/
import Derived.Test.YtphlkpahfcainaaEvGot
import Derived.Test.YtphlkpahfcainaaGAxis
namespace Go.Ev.Axis
open Go.Ev
set_option linter.unusedVariables false
set_option linter.unusedSimpArgs false

abbrev Steps := List YSpan.den
def kind (l : Steps) (i : Nat) : Int := (at_ (e := YSpan) l (i : Int)).1
def num (l : Steps) (i : Nat) : Int := (at_ (e := YSpan) l (i : Int)).2
def sk (s : YSpan.den) : Int := s.1
def sn (s : YSpan.den) : Int := s.2
def mkS (k n : Int) : YSpan.den := (k, n)
@[simp] theorem sk_mk (a b : Int) : sk (mkS a b) = a := rfl
@[simp] theorem sn_mk (a b : Int) : sn (mkS a b) = b := rfl
theorem drop_cons (l : Steps) {i : Nat} (h : i < l.length) : l.drop i = mkS (kind l i) (num l i) :: l.drop (i + 1) := by
  rw [List.drop_eq_getElem_cons h]
  congr 1
  unfold kind num at_ mkS
  simp [List.getD_eq_getElem?_getD, h]

/-- The error of one step behind one of kind `p`. -/
def sErr (p : Option Int) (k n : Int) : Int :=
  if k < 0 ∨ 2 < k then 8 else if n < 1 ∨ 2147483647 < n then 2 else match p with
  | none => 0
  | some q => if q = k ∨ q = 2 ∧ k = 1 then 5 else 0
def addB (k n b : Int) : Int := if k = 1 then b else b + n
def addA (k n a : Int) : Int := if k = 2 then a else a + n
def err : Option Int → Int → Int → Steps → Int
  | _, b, a, [] => if 2147483647 < b ∨ 2147483647 < a then 3 else 0
  | p, b, a, s :: l => if sErr p (sk s) (sn s) ≠ 0 then sErr p (sk s) (sn s) else err (some (sk s)) (addB (sk s) (sn s) b) (addA (sk s) (sn s) a) l
def prev (l : Steps) (i : Nat) : Option Int := if i = 0 then none else some (kind l (i - 1))

/-- A bounded number tells of an unbounded one. -/
def R (x b : Int) : Prop := 0 ≤ x ∧ x ≤ 4294967296 ∧ ((x < 2147483648 ∧ x = b) ∨ (2147483648 ≤ x ∧ 2147483648 ≤ b))
theorem R_min {x b n : Int} (h : R x b) (h1 : 1 ≤ n) (h2 : n ≤ 2147483647) : R (if (2147483648 : Int) < IntKind.i64.wrap (x + n) then 2147483648 else IntKind.i64.wrap (x + n)) (b + n) := by
  obtain ⟨a1, a2, a3⟩ := h
  rw [w64 (by omega) (by omega)]
  unfold R
  split <;> omega

theorem sErr_zero {p : Option Int} {k n : Int} (h : sErr p k n = 0) : (k = 0 ∨ k = 1 ∨ k = 2) ∧ 1 ≤ n ∧ n ≤ 2147483647 ∧ ∀ q, p = some q → q ≠ k ∧ ¬ (q = 2 ∧ k = 1) := by
  unfold sErr at h
  split at h
  · cases h
  · split at h
    · cases h
    · refine ⟨by omega, by omega, by omega, fun q hq => ?_⟩
      subst hq
      simp only at h
      split at h
      · cases h
      · rename_i h3
        exact ⟨fun e => h3 (.inl e), fun e => h3 (.inr e)⟩

theorem check_step (l : Steps) (hl : l.length ≤ 1048576) (n m i : Nat) (hi : i < l.length) (x3 x4 : Int) :
    L61_0 n (m + 1) l x3 x4 l (l.length : Int) i = if sErr (prev l i) (kind l i) (num l i) ≠ 0 then some (ret61 (sErr (prev l i) (kind l i) (num l i))) else
      L61_0 n m l (if kind l i = 1 then x3 else if (2147483648 : Int) < IntKind.i64.wrap (x3 + num l i) then 2147483648 else IntKind.i64.wrap (x3 + num l i)) (if kind l i = 2 then x4 else if (2147483648 : Int) < IntKind.i64.wrap (x4 + num l i) then 2147483648 else IntKind.i64.wrap (x4 + num l i)) l (l.length : Int) ((i + 1 : Nat) : Int) := by
  have c1 : decide ((i : Int) < (l.length : Int)) = true := decide_eq_true (by omega)
  have w1 : IntKind.i64.wrap ((i : Int) + 1) = ((i + 1 : Nat) : Int) := wnat (by omega) (by omega)
  rw [L61_0_step]
  have ek : (at_ (e := YSpan) l (i : Int)).1 = kind l i := rfl
  have en : (at_ (e := YSpan) l (i : Int)).2 = num l i := rfl
  simp only [bcond_if, inb, hi, c1, if_true, w1, ek, en]
  generalize kind l i = k
  generalize num l i = N
  by_cases h1 : k < 0
  · have : sErr (prev l i) k N = 8 := by simp [sErr, h1]
    rw [this]; simp [h1]
  by_cases h2 : 2 < k
  · have : sErr (prev l i) k N = 8 := by simp [sErr, h2]
    have h2' : k > 2 := h2
    rw [this]; simp [h1, h2']
  have h2' : ¬ k > 2 := h2
  by_cases h3 : N < 1
  · have : sErr (prev l i) k N = 2 := by simp [sErr, h1, h2, h3]
    rw [this]; simp [h1, h2', h3]
  by_cases h4 : 2147483647 < N
  · have : sErr (prev l i) k N = 2 := by simp [sErr, h1, h2, h4]
    have h4' : N > 2147483647 := h4
    rw [this]; simp [h1, h2', h3, h4']
  have h4' : ¬ N > 2147483647 := h4
  by_cases h5 : i = 0
  · subst h5
    have : sErr (prev l 0) k N = 0 := by simp [sErr, h1, h2, h3, h4, prev]
    rw [this]
    have : k = 0 ∨ k = 1 ∨ k = 2 := by omega
    rcases this with rfl | rfl | rfl <;> simp [h3, h4']
  · have hp : prev l i = some (kind l (i - 1)) := by simp [prev, h5]
    have w2 : IntKind.i64.wrap ((i : Int) - 1) = ((i - 1 : Nat) : Int) := wnat (by omega) (by omega)
    have ek2 : (at_ (e := YSpan) l ((i - 1 : Nat) : Int)).1 = kind l (i - 1) := rfl
    have h6 : i - 1 < l.length := by omega
    have h7 : decide ((i : Int) > 0) = true := decide_eq_true (by omega)
    simp only [w2, inb, h6, ek2, if_true, hp, h7, beq_self_eq_true]
    generalize kind l (i - 1) = q
    have : k = 0 ∨ k = 1 ∨ k = 2 := by omega
    by_cases h8 : q = k
    · have : sErr (some q) k N = 5 := by simp [sErr, h1, h2, h3, h4, h8]
      rw [this]; simp [h1, h2', h3, h4', h8]
    · by_cases h9 : q = 2 ∧ k = 1
      · have : sErr (some q) k N = 5 := by simp [sErr, h1, h2, h3, h4, h9]
        rw [this]; simp [h1, h2', h3, h4', h9]
      · have : sErr (some q) k N = 0 := by simp [sErr, h1, h2, h3, h4, h8, h9]
        rw [this]
        by_cases h10 : q = 2
        · subst h10
          have hk1 : ¬ k = 1 := fun e => h9 ⟨rfl, e⟩
          rcases ‹k = 0 ∨ k = 1 ∨ k = 2› with rfl | rfl | rfl
          · simp [h3, h4']
          · exact absurd rfl hk1
          · exact absurd rfl h8
        · rcases ‹k = 0 ∨ k = 1 ∨ k = 2› with rfl | rfl | rfl <;> simp [h3, h4', h8, h10]

theorem check_loop (l : Steps) (hl : l.length ≤ 1048576) (n : Nat) : ∀ (d i m : Nat) (x3 x4 b a : Int), i + d = l.length → d < m → R x3 b → R x4 a → L61_0 n m l x3 x4 l (l.length : Int) i = some (ret61 (err (prev l i) b a (l.drop i))) := by
  intro d
  induction d with
  | zero =>
    intro i m x3 x4 b a hi hm hb ha
    cases m with
    | zero => omega
    | succ m =>
    have : i = l.length := by omega
    subst this
    have c1 : decide ((l.length : Int) < (l.length : Int)) = false := decide_eq_false (by omega)
    rw [L61_0_step, List.drop_length]
    simp only [bcond_if, c1, Bool.false_eq_true, if_false, err]
    unfold R at hb ha
    by_cases h1 : x3 > 2147483647
    · have : 2147483647 < b ∨ 2147483647 < a := by omega
      simp [h1, this]
    · by_cases h2 : x4 > 2147483647
      · have : 2147483647 < b ∨ 2147483647 < a := by omega
        simp [h1, h2, this]
      · have : ¬ (2147483647 < b ∨ 2147483647 < a) := by omega
        simp [h1, h2, this]
  | succ d ih =>
    intro i m x3 x4 b a hi hm hb ha
    cases m with
    | zero => omega
    | succ m =>
    have hil : i < l.length := by omega
    rw [check_step l hl n m i hil, drop_cons l hil, err, sk_mk, sn_mk]
    by_cases h : sErr (prev l i) (kind l i) (num l i) = 0
    · obtain ⟨k1, n1, n2, _⟩ := sErr_zero h
      simp only [h, ne_eq, not_true, if_false]
      have hp : prev l (i + 1) = some (kind l i) := by simp [prev]
      rw [← hp]
      refine ih (i + 1) m _ _ _ _ (by omega) (by omega) ?_ ?_
      · unfold addB; split
        · exact hb
        · exact R_min hb n1 n2
      · unfold addA; split
        · exact ha
        · exact R_min ha n1 n2
    · simp only [h, ne_eq, not_false_eq_true, if_true]

theorem in_eq (x lo hi : Int) : C32 F32 x lo hi = some (ret32 (decide (lo ≤ x) && decide (x ≤ hi))) := by
  rw [e32]
  simp only [bcond_if]
  by_cases h : lo ≤ x <;> simp [h]

def up (x n : Int) : Int := if x < 2147483648 then IntKind.i64.wrap (x + n) else x
theorem R_up {x b n : Int} (h : R x b) (h1 : 1 ≤ n) (h2 : n ≤ 2147483647) : R (up x n) (b + n) := by
  obtain ⟨a1, a2, a3⟩ := h
  unfold up
  split
  · rw [w64 (by omega) (by omega)]
    unfold R; omega
  · unfold R; omega

theorem axerr_step (l : Steps) (hl : l.length ≤ 1048576) (n m i : Nat) (hi : i < l.length) (x3 x4 : Int) :
    L29_0 F32 n (m + 1) l x3 x4 (l.length : Int) i = if sErr (prev l i) (kind l i) (num l i) ≠ 0 then some (ret29 (sErr (prev l i) (kind l i) (num l i))) else
      L29_0 F32 n m l (if kind l i = 1 then x3 else up x3 (num l i)) (if kind l i = 2 then x4 else up x4 (num l i)) (l.length : Int) ((i + 1 : Nat) : Int) := by
  have c1 : decide ((i : Int) < (l.length : Int)) = true := decide_eq_true (by omega)
  have w1 : IntKind.i64.wrap ((i : Int) + 1) = ((i + 1 : Nat) : Int) := wnat (by omega) (by omega)
  rw [L29_0_step]
  have ek : (at_ (e := YSpan) l (i : Int)).1 = kind l i := rfl
  have en : (at_ (e := YSpan) l (i : Int)).2 = num l i := rfl
  simp only [bcond_if, inb, hi, c1, if_true, w1, ek, en, in_eq, Option.bind_some, res32_0_ret]
  generalize kind l i = k
  generalize num l i = N
  by_cases h1 : k < 0
  · have : sErr (prev l i) k N = 8 := by simp [sErr, h1]
    have h1' : ¬ 0 ≤ k := by omega
    rw [this]; simp [h1']
  have h1' : 0 ≤ k := by omega
  by_cases h2 : 2 < k
  · have : sErr (prev l i) k N = 8 := by simp [sErr, h2]
    have h2' : ¬ k ≤ 2 := by omega
    rw [this]; simp [h2']
  have h2' : k ≤ 2 := by omega
  by_cases h3 : N < 1
  · have : sErr (prev l i) k N = 2 := by simp [sErr, h1, h2, h3]
    have h3' : ¬ 1 ≤ N := by omega
    rw [this]; simp [h1', h2', h3']
  have h3' : 1 ≤ N := by omega
  by_cases h4 : 2147483647 < N
  · have : sErr (prev l i) k N = 2 := by simp [sErr, h1, h2, h4]
    have h4' : ¬ N ≤ 2147483647 := by omega
    rw [this]; simp [h1', h2', h3', h4']
  have h4' : N ≤ 2147483647 := by omega
  simp only [h1', h2', h3', h4', decide_true, Bool.and_self, Bool.not_true, Bool.false_eq_true, if_false]
  have last : ∀ (k : Int), k = 0 ∨ k = 1 ∨ k = 2 → (if ((k != 1) == true) = true then if decide (x3 < 2147483648) = true then if ((k != 2) == true) = true then if decide (x4 < 2147483648) = true then L29_0 F32 n m l (IntKind.i64.wrap (x3 + N)) (IntKind.i64.wrap (x4 + N)) (l.length : Int) ((i + 1 : Nat) : Int) else L29_0 F32 n m l (IntKind.i64.wrap (x3 + N)) x4 (l.length : Int) ((i + 1 : Nat) : Int) else L29_0 F32 n m l (IntKind.i64.wrap (x3 + N)) x4 (l.length : Int) ((i + 1 : Nat) : Int)
      else if ((k != 2) == true) = true then if decide (x4 < 2147483648) = true then L29_0 F32 n m l x3 (IntKind.i64.wrap (x4 + N)) (l.length : Int) ((i + 1 : Nat) : Int) else L29_0 F32 n m l x3 x4 (l.length : Int) ((i + 1 : Nat) : Int) else L29_0 F32 n m l x3 x4 (l.length : Int) ((i + 1 : Nat) : Int)
      else if ((k != 2) == true) = true then if decide (x4 < 2147483648) = true then L29_0 F32 n m l x3 (IntKind.i64.wrap (x4 + N)) (l.length : Int) ((i + 1 : Nat) : Int) else L29_0 F32 n m l x3 x4 (l.length : Int) ((i + 1 : Nat) : Int) else L29_0 F32 n m l x3 x4 (l.length : Int) ((i + 1 : Nat) : Int)) = L29_0 F32 n m l (if k = 1 then x3 else up x3 N) (if k = 2 then x4 else up x4 N) (l.length : Int) ((i + 1 : Nat) : Int) := by
    intro k hk
    unfold up
    by_cases hx : x3 < 2147483648 <;> by_cases hy : x4 < 2147483648 <;> rcases hk with rfl | rfl | rfl <;> simp [hx, hy]
  have hk3 : k = 0 ∨ k = 1 ∨ k = 2 := by omega
  by_cases h5 : i = 0
  · subst h5
    have : sErr (prev l 0) k N = 0 := by simp [sErr, h1, h2, h3, h4, prev]
    rw [this, ← last k hk3]
    simp
  · have hp : prev l i = some (kind l (i - 1)) := by simp [prev, h5]
    have w2 : IntKind.i64.wrap ((i : Int) - 1) = ((i - 1 : Nat) : Int) := wnat (by omega) (by omega)
    have ek2 : (at_ (e := YSpan) l ((i - 1 : Nat) : Int)).1 = kind l (i - 1) := rfl
    have h6 : i - 1 < l.length := by omega
    have h7 : decide ((i : Int) > 0) = true := decide_eq_true (by omega)
    simp only [w2, inb, h6, ek2, if_true, hp, h7, beq_self_eq_true]
    generalize kind l (i - 1) = q
    by_cases h8 : q = k
    · have : sErr (some q) k N = 5 := by simp [sErr, h1, h2, h3, h4, h8]
      rw [this]; simp [h8]
    · have h8' : ¬ k = q := fun e => h8 e.symm
      by_cases h9 : q = 2 ∧ k = 1
      · have : sErr (some q) k N = 5 := by simp [sErr, h1, h2, h3, h4, h9]
        rw [this]; simp [h9]
      · have : sErr (some q) k N = 0 := by simp [sErr, h1, h2, h3, h4, h8, h9]
        rw [this, ← last k hk3]
        by_cases h11 : k = 1
        · have h10 : ¬ q = 2 := fun e => h9 ⟨e, h11⟩
          subst h11
          simp [h8', h10]
        · simp [h8', h11]

theorem axerr_loop (l : Steps) (hl : l.length ≤ 1048576) (n : Nat) : ∀ (d i m : Nat) (x3 x4 b a : Int), i + d = l.length → d < m → R x3 b → R x4 a → L29_0 F32 n m l x3 x4 (l.length : Int) i = some (ret29 (err (prev l i) b a (l.drop i))) := by
  intro d
  induction d with
  | zero =>
    intro i m x3 x4 b a hi hm hb ha
    cases m with
    | zero => omega
    | succ m =>
    have : i = l.length := by omega
    subst this
    have c1 : decide ((l.length : Int) < (l.length : Int)) = false := decide_eq_false (by omega)
    rw [L29_0_step, List.drop_length]
    simp only [bcond_if, c1, Bool.false_eq_true, if_false, err]
    unfold R at hb ha
    by_cases h1 : x3 > 2147483647
    · have : 2147483647 < b ∨ 2147483647 < a := by omega
      simp [h1, this]
    · by_cases h2 : x4 > 2147483647
      · have : 2147483647 < b ∨ 2147483647 < a := by omega
        simp [h1, h2, this]
      · have : ¬ (2147483647 < b ∨ 2147483647 < a) := by omega
        simp [h1, h2, this]
  | succ d ih =>
    intro i m x3 x4 b a hi hm hb ha
    cases m with
    | zero => omega
    | succ m =>
    have hil : i < l.length := by omega
    rw [axerr_step l hl n m i hil, drop_cons l hil, err, sk_mk, sn_mk]
    by_cases h : sErr (prev l i) (kind l i) (num l i) = 0
    · obtain ⟨k1, n1, n2, _⟩ := sErr_zero h
      simp only [h, ne_eq, not_true, if_false]
      have hp : prev l (i + 1) = some (kind l i) := by simp [prev]
      rw [← hp]
      refine ih (i + 1) m _ _ _ _ (by omega) (by omega) ?_ ?_
      · unfold addB; split
        · exact hb
        · exact R_up hb n1 n2
      · unfold addA; split
        · exact ha
        · exact R_up ha n1 n2
    · simp only [h, ne_eq, not_false_eq_true, if_true]

def E (l : Steps) : Int := err none 0 0 l
theorem R0 : R 0 0 := by unfold R; omega
theorem check_eq (l : Steps) (hl : l.length ≤ 1048576) : C61 F61 l = some (ret61 (E l)) := by
  obtain ⟨m, hm⟩ := big_succ (n := 1048577) (by omega)
  rw [e61]
  have := check_loop l hl big l.length 0 big 0 0 0 0 (by omega) (by omega) R0 R0
  simpa [prev, E] using this
theorem axerr_eq (l : Steps) (hl : l.length ≤ 1048576) : C29 F29 l = some (ret29 (E l)) := by
  obtain ⟨m, hm⟩ := big_succ (n := 1048577) (by omega)
  rw [e29]
  have := axerr_loop l hl big l.length 0 big 0 0 0 0 (by omega) (by omega) R0 R0
  simpa [prev, E] using this
end Go.Ev.Axis
