/- Functions, step by step. -/
import Derived.Test.YthbpjpeogchkpaaGTab
namespace Go.Ev
set_option linter.unusedVariables false
set_option maxRecDepth 100000
open Go.Proofs

/-! ### chancery/chanceryref1.In -/
def sig31 : Sig := ⟨[.v false (.int .i64), .v false (.int .i64), .v false (.int .i64)], [], [(false, [.fr .bool])]⟩
def C31 (F : sig31.Fn) (a0 : Int) (a1 : Int) (a2 : Int) : Option sig31.Out := F (a0, a1, a2, ()) ()
def ret31 (v0 : Bool) : sig31.Out := (((v0, ()), ()), ())
def res31_0 (r : sig31.Out) : Bool := r.1.1.1
@[simp] theorem res31_0_ret (v0 : Bool) : res31_0 (ret31 v0) = v0 := rfl
def os31 : List (Nat × Ord) := []
def hs31 : List Keep := []
@[reducible] def env31 : Env := []
theorem run31 (n : Nat) (a0 : Int) (a1 : Int) (a2 : Int) : C31 (fun x y => run T (env31) os31 sig31 Try.f31 hs31 n x y) a0 a1 a2 =
  (bcond ((decide ((a0 : Int) ≥ a1)) == true)
   (some (ret31 (decide ((a0 : Int) ≤ a2))))
   (some (ret31 false))) := by kernel_rfl
theorem ok31 : fnOk os31 sig31 Try.f31 = true := by kernel_rfl
theorem fn31 : P.funcs[31]? = some Try.f31 := by kernel_rfl
noncomputable def F31 : sig31.Fn := fun x y => run T (env31) os31 sig31 Try.f31 hs31 big x y
theorem S31 : Sound P 31 ⟨sig31, F31⟩ := sound_of (os := os31) (hs := hs31) (env_nil) fn31 ok31 (fun x y out h => ⟨big, h⟩)
theorem e31 (a0 : Int) (a1 : Int) (a2 : Int) : C31 F31 a0 a1 a2 =
  (bcond ((decide ((a0 : Int) ≥ a1)) == true)
   (some (ret31 (decide ((a0 : Int) ≤ a2))))
   (some (ret31 false))) := run31 big a0 a1 a2
end Go.Ev
