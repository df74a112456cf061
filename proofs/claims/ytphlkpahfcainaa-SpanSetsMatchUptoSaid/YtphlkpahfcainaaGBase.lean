/- Functions, step by step. -/
import Derived.Test.YtphlkpahfcainaaGTab
namespace Go.Ev
set_option linter.unusedVariables false
set_option maxRecDepth 100000
open Go.Proofs

/-! ### chancery/chanceryref1.In -/
def sig32 : Sig := ⟨[.v false (.int .i64), .v false (.int .i64), .v false (.int .i64)], [], [(false, [.fr .bool])]⟩
def C32 (F : sig32.Fn) (a0 : Int) (a1 : Int) (a2 : Int) : Option sig32.Out := F (a0, a1, a2, ()) ()
def ret32 (v0 : Bool) : sig32.Out := (((v0, ()), ()), ())
def res32_0 (r : sig32.Out) : Bool := r.1.1.1
@[simp] theorem res32_0_ret (v0 : Bool) : res32_0 (ret32 v0) = v0 := rfl
def os32 : List (Nat × Ord) := []
def hs32 : List Keep := []
@[reducible] def env32 : Env := []
theorem run32 (n : Nat) (a0 : Int) (a1 : Int) (a2 : Int) : C32 (fun x y => run T (env32) os32 sig32 Try.f32 hs32 n x y) a0 a1 a2 =
  (bcond ((decide ((a0 : Int) ≥ a1)) == true)
   (some (ret32 (decide ((a0 : Int) ≤ a2))))
   (some (ret32 false))) := by kernel_rfl
theorem ok32 : fnOk os32 sig32 Try.f32 = true := by kernel_rfl
theorem fn32 : P.funcs[32]? = some Try.f32 := by kernel_rfl
noncomputable def F32 : sig32.Fn := fun x y => run T (env32) os32 sig32 Try.f32 hs32 big x y
theorem S32 : Sound P 32 ⟨sig32, F32⟩ := sound_of (os := os32) (hs := hs32) (env_nil) fn32 ok32 (fun x y out h => ⟨big, h⟩)
theorem e32 (a0 : Int) (a1 : Int) (a2 : Int) : C32 F32 a0 a1 a2 =
  (bcond ((decide ((a0 : Int) ≥ a1)) == true)
   (some (ret32 (decide ((a0 : Int) ≤ a2))))
   (some (ret32 false))) := run32 big a0 a1 a2
end Go.Ev
