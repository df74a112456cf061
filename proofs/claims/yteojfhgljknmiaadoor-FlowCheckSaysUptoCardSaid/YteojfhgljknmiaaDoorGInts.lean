/- Functions, step by step. -/
import Derived.Test.YteojfhgljknmiaaDoorGFlow
namespace Go.Ev
set_option linter.unusedVariables false
set_option maxRecDepth 100000
open Go.Proofs
def sig_R_SameInts : Sig := ⟨[.v false (.list (.int .i64)), .v false (.list (.int .i64))], [], [(false, [.fr .bool])]⟩
def C_R_SameInts (F : sig_R_SameInts.Fn) (a0 : List (Int)) (a1 : List (Int)) : Option sig_R_SameInts.Out := F (a0, a1, ()) ()
def ret_R_SameInts (v0 : Bool) : sig_R_SameInts.Out := (((v0, ()), ()), ())
def res_R_SameInts_0 (r : sig_R_SameInts.Out) : Bool := r.1.1.1
@[simp] theorem res_R_SameInts_0_ret (v0 : Bool) : res_R_SameInts_0 (ret_R_SameInts v0) = v0 := rfl
def os_R_SameInts : RegT := ⟨[(6, .st 0 (.st 1 (.st 2 (.st 4 (.st 5 (.st 6 (.st 3 (.st 7 (.st 8 (.nil))))))))))], [], false⟩
def hs_R_SameInts : List Keep := [[(0, []), (1, []), (12, []), (13, [])]]
@[reducible] noncomputable def env_R_SameInts : Env := []
noncomputable def L_R_SameInts_0 (n m1 : Nat) (x0 : List (Int)) (x1 : List (Int)) (x12 : Int) (x13 : Int) : Option sig_R_SameInts.Out :=
  loopAt T (env_R_SameInts) os_R_SameInts sig_R_SameInts Tryd.f20 hs_R_SameInts n [.sr, .sr, .sl, .sr, .bl] m1 (mk 26 [(0, .cs false [.val (.list (.int .i64)) x0]), (1, .cs false [.val (.list (.int .i64)) x1]), (12, .cs false [.val (.int .i64) x12]), (13, .cs false [.val (.int .i64) x13])])
theorem L_R_SameInts_0_step (n m1 : Nat) (x0 : List (Int)) (x1 : List (Int)) (x12 : Int) (x13 : Int) : L_R_SameInts_0 n (m1 + 1) x0 x1 x12 x13 =
  (bcond (decide ((x13 : Int) < x12))
   (if 0 ≤ (x13 : Int) ∧ (x13 : Int) < (List.length x0 : Int) then
    (if 0 ≤ (x13 : Int) ∧ (x13 : Int) < (List.length x1 : Int) then
     (bcond (((at_ (e := (.int .i64)) x0 x13) : Int) != (at_ (e := (.int .i64)) x1 x13))
      (some (ret_R_SameInts false))
      (L_R_SameInts_0 n m1 x0 x1 x12 (IntKind.i64.wrap (x13 + 1))))
    else none)
   else none)
   (some (ret_R_SameInts true))) := by kernel_rfl
theorem ok_R_SameInts : fnOk os_R_SameInts sig_R_SameInts Tryd.f20 = true := by kernel_rfl
theorem fn_R_SameInts : P.funcs[20]? = some Tryd.f20 := by kernel_rfl
noncomputable def F_R_SameInts : sig_R_SameInts.Fn := fun x y => run T (env_R_SameInts) os_R_SameInts sig_R_SameInts Tryd.f20 hs_R_SameInts big x y
theorem S_R_SameInts : Sound P 20 ⟨sig_R_SameInts, F_R_SameInts⟩ := sound_of (os := os_R_SameInts) (hs := hs_R_SameInts) (env_nil) fn_R_SameInts ok_R_SameInts (fun x y out h => ⟨big, h⟩)
theorem e_R_SameInts (a0 : List (Int)) (a1 : List (Int)) : C_R_SameInts F_R_SameInts a0 a1 =
  (bcond (((List.length a0 : Int) : Int) != (List.length a1 : Int))
   (some (ret_R_SameInts false))
   (L_R_SameInts_0 big big a0 a1 (List.length a0 : Int) 0)) := by kernel_rfl
end Go.Ev
