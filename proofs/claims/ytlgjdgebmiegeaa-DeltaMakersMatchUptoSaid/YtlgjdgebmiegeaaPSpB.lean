
import Derived.Test.YtlgjdgebmiegeaaPFlow
import Derived.Test.YtlgjdgebmiegeaaGSpan
namespace Go.Ev.Span
open Go.Ev
set_option linter.unusedVariables false
set_option linter.unusedSimpArgs false
abbrev Set_ := List YSpan.den
def lo (s : YSpan.den) : Int := s.1
def hi (s : YSpan.den) : Int := s.2
def mkS (a b : Int) : YSpan.den := (a, b)
@[simp] theorem lo_mk (a b : Int) : lo (mkS a b) = a := rfl
@[simp] theorem hi_mk (a b : Int) : hi (mkS a b) = b := rfl
def atS (l : Set_) (i : Nat) : YSpan.den := at_ (e := YSpan) l (i : Int)
theorem drop_atS {e : Ty} (xs : List e.den) {i : Nat} (h : i < xs.length) : xs.drop i = at_ xs (i : Int) :: xs.drop (i + 1) := by
  rw [List.drop_eq_getElem_cons h]
  congr 1
  unfold at_
  simp [List.getD_eq_getElem?_getD, h]
theorem drop_span (l : Set_) {i : Nat} (h : i < l.length) : l.drop i = atS l i :: l.drop (i + 1) := drop_atS l h
def cOne (p : Option Int) (s : YSpan.den) : Int := if lo s < 0 ∨ hi s ≤ lo s ∨ 2147483647 < hi s then 2 else match p with
  | none => 0
  | some t => if lo s ≤ t then 5 else 0
def cErr : Option Int → Set_ → Int
  | _, [] => 0
  | p, s :: l => if cOne p s ≠ 0 then cOne p s else cErr (some (hi s)) l
def prv (l : Set_) (i : Nat) : Option Int := if i = 0 then none else some (hi (atS l (i - 1)))
theorem check_loop (l : Set_) (hl : l.length ≤ 4194304) (n : Nat) : ∀ (d i m : Nat), i + d = l.length → d < m →
    L_span_Check_0 n m l l (l.length : Int) i = some (ret_span_Check (cErr (prv l i) (l.drop i))) ∧ L_law_setError_0 n m l (l.length : Int) i = some (ret_law_setError (cErr (prv l i) (l.drop i))) := by
  intro d
  induction d with
  | zero =>
    intro i m hi' hm
    cases m with
    | zero => omega
    | succ m =>
    have : i = l.length := by omega
    subst this
    have c1 : decide ((l.length : Int) < (l.length : Int)) = false := decide_eq_false (by omega)
    rw [L_span_Check_0_step, L_law_setError_0_step, List.drop_length]
    simp [bcond_if, c1, cErr]
  | succ d ih =>
    intro i m hi' hm
    cases m with
    | zero => omega
    | succ m =>
    have hil : i < l.length := by omega
    have c1 : decide ((i : Int) < (l.length : Int)) = true := decide_eq_true (by omega)
    have w1 : IntKind.i64.wrap ((i : Int) + 1) = ((i + 1 : Nat) : Int) := wnat (by omega) (by omega)
    have e1 : (at_ (e := YSpan) l (i : Int)).1 = lo (atS l i) := rfl
    have e2 : (at_ (e := YSpan) l (i : Int)).2 = hi (atS l i) := rfl
    obtain ⟨ih1, ih2⟩ := ih (i + 1) m (by omega) (by omega)
    have hp : prv l (i + 1) = some (hi (atS l i)) := by simp [prv]
    rw [hp] at ih1 ih2
    rw [L_span_Check_0_step, L_law_setError_0_step, drop_span l hil, cErr]
    simp only [bcond_if, inb, hil, c1, if_true, w1, e1, e2, ih1, ih2]
    generalize atS l i = s
    by_cases h1 : lo s < 0
    · have : cOne (prv l i) s = 2 := by simp [cOne, h1]
      rw [this]; simp [h1]
    by_cases h2 : hi s ≤ lo s
    · have : cOne (prv l i) s = 2 := by simp [cOne, h2]
      rw [this]; simp [h1, h2]
    by_cases h3 : 2147483647 < hi s
    · have : cOne (prv l i) s = 2 := by simp [cOne, h3]
      have h3' : hi s > 2147483647 := h3
      rw [this]; simp [h1, h2, h3']
    have h3' : ¬ hi s > 2147483647 := h3
    by_cases h0 : i = 0
    · subst h0
      have : cOne (prv l 0) s = 0 := by simp [cOne, h1, h2, h3, prv]
      rw [this]; simp [h1, h2, h3']
    · have hp2 : prv l i = some (hi (atS l (i - 1))) := by simp [prv, h0]
      have w2 : IntKind.i64.wrap ((i : Int) - 1) = ((i - 1 : Nat) : Int) := wnat (by omega) (by omega)
      have h6 : i - 1 < l.length := by omega
      have c2 : decide ((i : Int) > 0) = true := decide_eq_true (by omega)
      have e3 : (at_ (e := YSpan) l ((i - 1 : Nat) : Int)).2 = hi (atS l (i - 1)) := rfl
      simp only [hp2, w2, inb, h6, if_true, c2, e3, beq_self_eq_true]
      generalize hi (atS l (i - 1)) = q
      by_cases h4 : lo s ≤ q
      · have : cOne (some q) s = 5 := by simp [cOne, h1, h2, h3, h4]
        rw [this]; simp [h1, h2, h3', h4]
      · have : cOne (some q) s = 0 := by simp [cOne, h1, h2, h3, h4]
        rw [this]; simp [h1, h2, h3', h4]
def E (l : Set_) : Int := cErr none l
theorem check_eq (l : Set_) (hl : l.length ≤ 4194304) : C_span_Check F_span_Check l = some (ret_span_Check (E l)) ∧ C_law_setError F_law_setError l = some (ret_law_setError (E l)) := by
  obtain ⟨m, hm⟩ := big_succ (n := 4194305) (by omega)
  rw [e_span_Check, e_law_setError]
  have := check_loop l hl big l.length 0 big (by omega) (by omega)
  simpa [prv, E] using this
def Mem (l : Set_) (x : Int) : Prop := ∃ s ∈ l, lo s ≤ x ∧ x < hi s
theorem mem_append (l : Set_) (s : YSpan.den) (x : Int) : Mem (l ++ [s]) x ↔ Mem l x ∨ (lo s ≤ x ∧ x < hi s) := by
  unfold Mem
  simp only [List.mem_append, List.mem_singleton]
  constructor
  · rintro ⟨u, hu | rfl, q⟩
    · exact .inl ⟨u, hu, q⟩
    · exact .inr q
  · rintro (⟨u, hu, q⟩ | q)
    · exact ⟨u, .inl hu, q⟩
    · exact ⟨s, .inr rfl, q⟩
open Classical in
theorem in_eq (x lo hi : Int) : C_R_In F_R_In x lo hi = some (ret_R_In (decide (lo ≤ x) && decide (x ≤ hi))) := by
  rw [e_R_In]
  simp only [bcond_if]
  by_cases h : lo ≤ x <;> simp [h]
end Go.Ev.Span
namespace Go.Ev.Span
open Go.Ev
set_option linter.unusedVariables false
set_option linter.unusedSimpArgs false
/-- The `k`-th end. -/
def en (a : Set_) (k : Nat) : Int := if k % 2 = 0 then lo (atS a (k / 2)) else hi (atS a (k / 2))
end Go.Ev.Span
