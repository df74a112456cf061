/- Plain steps that every law needs. -/
import Derived.Test.YtpmeeopafdgbpaaDoorGTab
namespace Go.Ev
set_option linter.unusedVariables false
set_option linter.unusedSimpArgs false
theorem bcond_if {A : Type} (b : Bool) (x y : A) : bcond b x y = if b = true then x else y := by cases b <;> rfl
theorem w64 {x : Int} (h1 : -9223372036854775808 ≤ x) (h2 : x < 9223372036854775808) : IntKind.i64.wrap x = x := by
  simp only [IntKind.wrap, IntKind.signed, IntKind.bits]
  first | omega | (simp; omega) | skip
theorem wnat {x : Int} {n : Nat} (h : x = n) (h2 : n < 9223372036854775808) : IntKind.i64.wrap x = n := by
  rw [w64 (by omega) (by omega), h]
theorem big_ge {n : Nat} (h : n ≤ 4611686018427387904) : n ≤ big := Nat.le_trans h (Classical.choose_spec big_ex)
theorem big_succ {n : Nat} (h : n < 4611686018427387904) : ∃ m, big = n + 1 + m := ⟨big - (n + 1), by have := big_ge (n := n + 1) (by omega); omega⟩
theorem inb (i n : Nat) : (0 ≤ (i : Int) ∧ (i : Int) < (n : Int)) ↔ i < n := by omega
theorem at_get {e : Ty} (xs : List e.den) (i : Nat) (h : i < xs.length) : at_ xs (i : Int) = xs[i] := by
  unfold at_; simp [List.getD_eq_getElem?_getD, h]
theorem wsucc {i n : Nat} (h : i < n) (hn : n ≤ 4611686018427387904) : IntKind.i64.wrap ((i : Int) + 1) = ((i + 1 : Nat) : Int) := wnat (by omega) (by omega)
theorem dlt {i n : Nat} (h : i < n) : decide ((i : Int) < (n : Int)) = true := decide_eq_true (by omega)
theorem dlt_self (n : Nat) : decide ((n : Int) < (n : Int)) = false := decide_eq_false (by omega)
end Go.Ev
