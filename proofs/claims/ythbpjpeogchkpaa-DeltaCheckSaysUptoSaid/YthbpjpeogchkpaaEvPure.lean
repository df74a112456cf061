/- Plain steps that every law needs. -/
import Derived.Test.YthbpjpeogchkpaaGTab
namespace Go.Ev
set_option linter.unusedVariables false
set_option linter.unusedSimpArgs false

theorem bcond_if {A : Type} (b : Bool) (x y : A) : bcond b x y = if b = true then x else y := by cases b <;> rfl
theorem w64 {x : Int} (h1 : -9223372036854775808 ≤ x) (h2 : x < 9223372036854775808) : IntKind.i64.wrap x = x := by
  simp only [IntKind.wrap, IntKind.signed, IntKind.bits]
  first | omega | (simp; omega) | skip
theorem wnat {x : Int} {n : Nat} (h : x = n) (h2 : n < 9223372036854775808) : IntKind.i64.wrap x = n := by
  rw [w64 (by omega) (by omega), h]
theorem at_nat {e : Ty} (xs : List e.den) (i : Nat) : at_ xs (i : Int) = xs.getD i e.zero := rfl
theorem at_bool (xs : List Bool) (i : Nat) : at_ (e := .bool) xs (i : Int) = xs.getD i false := rfl
theorem big_ge {n : Nat} (h : n ≤ 4611686018427387904) : n ≤ big := Nat.le_trans h (Classical.choose_spec big_ex)
theorem big_succ {n : Nat} (h : n < 4611686018427387904) : ∃ m, big = n + 1 + m := ⟨big - (n + 1), by have := big_ge (n := n + 1) (by omega); omega⟩
theorem inb (i n : Nat) : (0 ≤ (i : Int) ∧ (i : Int) < (n : Int)) ↔ i < n := by omega
theorem getD_setB (c : List Bool) (i j : Nat) (b : Bool) (h : i < c.length) : (c.set i b).getD j false = if i = j then b else c.getD j false := by
  simp only [List.getD_eq_getElem?_getD, List.getElem?_set]
  split
  · rename_i e; subst e; simp [h]
  · rfl
theorem pred_cast {k : Nat} (h : 0 < k) : (k : Int) - 1 = ((k - 1 : Nat) : Int) := by omega
theorem ext_getD {c d : List Bool} (hl : c.length = d.length) (h : ∀ i, i < c.length → (c.getD i false = true ↔ d.getD i false = true)) : c = d := by
  apply List.ext_getElem hl
  intro i h1 h2
  have := h i h1
  simp only [List.getD_eq_getElem?_getD, List.getElem?_eq_getElem h1, List.getElem?_eq_getElem h2, Option.getD_some] at this
  cases hc : c[i] <;> cases hd : d[i] <;> simp_all
end Go.Ev
