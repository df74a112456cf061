/- Functions, step by step. -/
import Derived.Test.YtlgjdgebmiegeaaGAct
namespace Go.Ev
set_option linter.unusedVariables false
set_option maxRecDepth 100000
open Go.Proofs
def sig_law_steps : Sig := ⟨[.v true YAct], [], [(false, [.fr (.list YSpan)])]⟩
def C_law_steps (F : sig_law_steps.Fn) (a0 : YAct.den) : Option sig_law_steps.Out := F (a0, ()) ()
def ret_law_steps (v0 : List YSpan.den) : sig_law_steps.Out := (((v0, ()), ()), ())
def res_law_steps_0 (r : sig_law_steps.Out) : List YSpan.den := r.1.1.1
@[simp] theorem res_law_steps_0_ret (v0 : List YSpan.den) : res_law_steps_0 (ret_law_steps v0) = v0 := rfl
def os_law_steps : RegT := ⟨[(6, .st 0 (.st 1 (.st 2 (.st 3 (.st 4 (.st 6 (.st 7 (.st 8 (.st 9 (.st 11 (.st 12 (.st 13 (.st 14 (.st 15 (.st 16 (.st 10 (.st 17 (.st 5 (.st 18 (.st 19 (.st 20 (.st 21 (.nil)))))))))))))))))))))))], [], false⟩
def hs_law_steps : List Keep := [[(3, [(0, 128, YSpan)]), (4, []), (9, []), (10, [])]]
@[reducible] noncomputable def env_law_steps : Env := [(20, ⟨sig_R_DeltaOf, F_R_DeltaOf⟩)]
noncomputable def L_law_steps_0 (n m1 : Nat) (x3 : List YSpan.den) (x4 : List YStep.den) (x9 : Int) (x10 : Int) : Option sig_law_steps.Out :=
  loopAt T (env_law_steps) os_law_steps sig_law_steps Try.f34 hs_law_steps n [.sr, .sr, .sr, .sl, .sr, .bl] m1 (mk 36 [(3, .cs false [.own 128 YSpan x3]), (4, .cs false [.val (.list YStep) x4]), (9, .cs false [.val (.int .i64) x9]), (10, .cs false [.val (.int .i64) x10])])
theorem L_law_steps_0_step (n m1 : Nat) (x3 : List YSpan.den) (x4 : List YStep.den) (x9 : Int) (x10 : Int) : L_law_steps_0 n (m1 + 1) x3 x4 x9 x10 =
  (bcond (decide ((x10 : Int) < x9))
   (if 0 ≤ (x10 : Int) ∧ (x10 : Int) < (List.length x4 : Int) then
    (if 0 ≤ (x10 : Int) ∧ (x10 : Int) < (List.length x4 : Int) then
     (if 0 ≤ (x10 : Int) ∧ (x10 : Int) < (List.length x4 : Int) then
      (if (List.length (x3 : List YSpan.den) + List.length ([((at_ (e := YStep) x4 x10).1, (IntKind.i64.wrap ((at_ (e := YStep) x4 x10).2.1 + (List.length (at_ (e := YStep) x4 x10).2.2.2 : Int))))] : List YSpan.den)) * 16 ≤ 140737488355328 then
       (L_law_steps_0 n m1 (x3 ++ [((at_ (e := YStep) x4 x10).1, (IntKind.i64.wrap ((at_ (e := YStep) x4 x10).2.1 + (List.length (at_ (e := YStep) x4 x10).2.2.2 : Int))))]) x4 x9 (IntKind.i64.wrap (x10 + 1)))
      else none)
     else none)
    else none)
   else none)
   (some (ret_law_steps x3))) := by kernel_rfl
theorem ok_law_steps : fnOk os_law_steps sig_law_steps Try.f34 = true := by kernel_rfl
theorem fn_law_steps : P.funcs[34]? = some Try.f34 := by kernel_rfl
noncomputable def F_law_steps : sig_law_steps.Fn := fun x y => run T (env_law_steps) os_law_steps sig_law_steps Try.f34 hs_law_steps big x y
theorem S_law_steps : Sound P 34 ⟨sig_law_steps, F_law_steps⟩ := sound_of (os := os_law_steps) (hs := hs_law_steps) (env_cons S_R_DeltaOf (env_nil)) fn_law_steps ok_law_steps (fun x y out h => ⟨big, h⟩)
theorem e_law_steps (a0 : YAct.den) : C_law_steps F_law_steps a0 =
  ((C_R_DeltaOf F_R_DeltaOf a0).bind fun r1 =>
   (L_law_steps_0 big big [] (res_R_DeltaOf_0 r1) (List.length (res_R_DeltaOf_0 r1) : Int) 0)) := by kernel_rfl
def sig_R_SameSteps : Sig := ⟨[.v false (.list YSpan), .v false (.list YSpan)], [], [(false, [.fr .bool])]⟩
def C_R_SameSteps (F : sig_R_SameSteps.Fn) (a0 : List YSpan.den) (a1 : List YSpan.den) : Option sig_R_SameSteps.Out := F (a0, a1, ()) ()
def ret_R_SameSteps (v0 : Bool) : sig_R_SameSteps.Out := (((v0, ()), ()), ())
def res_R_SameSteps_0 (r : sig_R_SameSteps.Out) : Bool := r.1.1.1
@[simp] theorem res_R_SameSteps_0_ret (v0 : Bool) : res_R_SameSteps_0 (ret_R_SameSteps v0) = v0 := rfl
def os_R_SameSteps : RegT := ⟨[(6, .st 0 (.st 1 (.st 2 (.st 4 (.st 5 (.st 6 (.st 3 (.st 7 (.st 8 (.nil))))))))))], [], false⟩
def hs_R_SameSteps : List Keep := [[(0, []), (1, []), (12, []), (13, [])]]
@[reducible] noncomputable def env_R_SameSteps : Env := []
noncomputable def L_R_SameSteps_0 (n m1 : Nat) (x0 : List YSpan.den) (x1 : List YSpan.den) (x12 : Int) (x13 : Int) : Option sig_R_SameSteps.Out :=
  loopAt T (env_R_SameSteps) os_R_SameSteps sig_R_SameSteps Try.f33 hs_R_SameSteps n [.sr, .sr, .sl, .sr, .bl] m1 (mk 26 [(0, .cs false [.val (.list YSpan) x0]), (1, .cs false [.val (.list YSpan) x1]), (12, .cs false [.val (.int .i64) x12]), (13, .cs false [.val (.int .i64) x13])])
theorem L_R_SameSteps_0_step (n m1 : Nat) (x0 : List YSpan.den) (x1 : List YSpan.den) (x12 : Int) (x13 : Int) : L_R_SameSteps_0 n (m1 + 1) x0 x1 x12 x13 =
  (bcond (decide ((x13 : Int) < x12))
   (if 0 ≤ (x13 : Int) ∧ (x13 : Int) < (List.length x0 : Int) then
    (if 0 ≤ (x13 : Int) ∧ (x13 : Int) < (List.length x1 : Int) then
     (bcond (!((((at_ (e := YSpan) x0 x13).1 : Int) == (at_ (e := YSpan) x1 x13).1) && ((((at_ (e := YSpan) x0 x13).2 : Int) == (at_ (e := YSpan) x1 x13).2) && true)))
      (some (ret_R_SameSteps false))
      (L_R_SameSteps_0 n m1 x0 x1 x12 (IntKind.i64.wrap (x13 + 1))))
    else none)
   else none)
   (some (ret_R_SameSteps true))) := by kernel_rfl
theorem ok_R_SameSteps : fnOk os_R_SameSteps sig_R_SameSteps Try.f33 = true := by kernel_rfl
theorem fn_R_SameSteps : P.funcs[33]? = some Try.f33 := by kernel_rfl
noncomputable def F_R_SameSteps : sig_R_SameSteps.Fn := fun x y => run T (env_R_SameSteps) os_R_SameSteps sig_R_SameSteps Try.f33 hs_R_SameSteps big x y
theorem S_R_SameSteps : Sound P 33 ⟨sig_R_SameSteps, F_R_SameSteps⟩ := sound_of (os := os_R_SameSteps) (hs := hs_R_SameSteps) (env_nil) fn_R_SameSteps ok_R_SameSteps (fun x y out h => ⟨big, h⟩)
theorem e_R_SameSteps (a0 : List YSpan.den) (a1 : List YSpan.den) : C_R_SameSteps F_R_SameSteps a0 a1 =
  (bcond (((List.length a0 : Int) : Int) != (List.length a1 : Int))
   (some (ret_R_SameSteps false))
   (L_R_SameSteps_0 big big a0 a1 (List.length a0 : Int) 0)) := by kernel_rfl
end Go.Ev
