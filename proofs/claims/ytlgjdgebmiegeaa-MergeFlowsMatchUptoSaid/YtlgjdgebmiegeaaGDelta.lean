/- Functions, step by step. -/
import Derived.Test.YtlgjdgebmiegeaaGFlow
namespace Go.Ev
set_option linter.unusedVariables false
set_option maxRecDepth 100000
open Go.Proofs
def sig_delta_step : Sig := ⟨[.v true YStep], [], [(false, [.fr (.int .i64)])]⟩
def C_delta_step (F : sig_delta_step.Fn) (a0 : YStep.den) : Option sig_delta_step.Out := F (a0, ()) ()
def ret_delta_step (v0 : Int) : sig_delta_step.Out := (((v0, ()), ()), ())
def res_delta_step_0 (r : sig_delta_step.Out) : Int := r.1.1.1
@[simp] theorem res_delta_step_0_ret (v0 : Int) : res_delta_step_0 (ret_delta_step v0) = v0 := rfl
def os_delta_step : RegT := ⟨[], [], false⟩
def hs_delta_step : List Keep := []
@[reducible] noncomputable def env_delta_step : Env := [(79, ⟨sig_attr_CheckChange, F_attr_CheckChange⟩), (93, ⟨sig_flow_CheckPart, F_flow_CheckPart⟩)]
noncomputable def J_delta_step_0 (n : Nat) (y1 : YStep.den) (y4 : Int) (y5 : Bool) : Option sig_delta_step.Out :=
  (bcond y5
   (bcond ((decide (((List.length y1.2.2.2 : Int) : Int) > 0)) == false)
    (bcond (((y1.1 : Int) == 2) == true)
     (bcond (decide (((List.length y1.2.2.1 : Int) : Int) > 0))
      (some (ret_delta_step 4))
      (bcond ((decide ((y1.2.1 : Int) < 1)) == false)
       (bcond (decide ((y1.2.1 : Int) > 2147483647))
        (some (ret_delta_step 2))
        ((C_attr_CheckChange F_attr_CheckChange y1.2.2.1).bind fun r1 =>
         (some (ret_delta_step (res_attr_CheckChange_0 r1)))))
       (some (ret_delta_step 2))))
     (bcond ((decide ((y1.2.1 : Int) < 1)) == false)
      (bcond (decide ((y1.2.1 : Int) > 2147483647))
       (some (ret_delta_step 2))
       ((C_attr_CheckChange F_attr_CheckChange y1.2.2.1).bind fun r1 =>
        (some (ret_delta_step (res_attr_CheckChange_0 r1)))))
      (some (ret_delta_step 2))))
    (some (ret_delta_step 4)))
   (bcond ((y4 : Int) == 1)
    (bcond (((y1.2.1 : Int) != 0) == false)
     (bcond (decide (((List.length y1.2.2.1 : Int) : Int) > 0))
      (some (ret_delta_step 4))
      (bcond (((List.length y1.2.2.2 : Int) : Int) == 0)
       (some (ret_delta_step 11))
       ((C_flow_CheckPart F_flow_CheckPart y1.2.2.2).bind fun r1 =>
        (some (ret_delta_step (res_flow_CheckPart_0 r1))))))
     (some (ret_delta_step 4)))
    (some (ret_delta_step 8))))
theorem ok_delta_step : fnOk os_delta_step sig_delta_step Try.f78 = true := by kernel_rfl
theorem fn_delta_step : P.funcs[78]? = some Try.f78 := by kernel_rfl
noncomputable def F_delta_step : sig_delta_step.Fn := fun x y => run T (env_delta_step) os_delta_step sig_delta_step Try.f78 hs_delta_step big x y
theorem S_delta_step : Sound P 78 ⟨sig_delta_step, F_delta_step⟩ := sound_of (os := os_delta_step) (hs := hs_delta_step) (env_cons S_attr_CheckChange (env_cons S_flow_CheckPart (env_nil))) fn_delta_step ok_delta_step (fun x y out h => ⟨big, h⟩)
theorem e_delta_step (a0 : YStep.den) : C_delta_step F_delta_step a0 =
  (bcond ((a0.1 : Int) == 0)
   (J_delta_step_0 big a0 a0.1 true)
   (J_delta_step_0 big a0 a0.1 ((a0.1 : Int) == 2))) := by kernel_rfl
def sig_delta_size : Sig := ⟨[.v true YStep], [], [(false, [.fr (.int .i64)])]⟩
def C_delta_size (F : sig_delta_size.Fn) (a0 : YStep.den) : Option sig_delta_size.Out := F (a0, ()) ()
def ret_delta_size (v0 : Int) : sig_delta_size.Out := (((v0, ()), ()), ())
def res_delta_size_0 (r : sig_delta_size.Out) : Int := r.1.1.1
@[simp] theorem res_delta_size_0_ret (v0 : Int) : res_delta_size_0 (ret_delta_size v0) = v0 := rfl
def os_delta_size : RegT := ⟨[], [], false⟩
def hs_delta_size : List Keep := []
@[reducible] noncomputable def env_delta_size : Env := []
theorem ok_delta_size : fnOk os_delta_size sig_delta_size Try.f95 = true := by kernel_rfl
theorem fn_delta_size : P.funcs[95]? = some Try.f95 := by kernel_rfl
noncomputable def F_delta_size : sig_delta_size.Fn := fun x y => run T (env_delta_size) os_delta_size sig_delta_size Try.f95 hs_delta_size big x y
theorem S_delta_size : Sound P 95 ⟨sig_delta_size, F_delta_size⟩ := sound_of (os := os_delta_size) (hs := hs_delta_size) (env_nil) fn_delta_size ok_delta_size (fun x y out h => ⟨big, h⟩)
theorem e_delta_size (a0 : YStep.den) : C_delta_size F_delta_size a0 =
  (bcond ((a0.1 : Int) == 1)
   (some (ret_delta_size (List.length a0.2.2.2 : Int)))
   (some (ret_delta_size a0.2.1))) := by kernel_rfl
def sig_delta_Check : Sig := ⟨[.v false (.list YStep)], [], [(false, [.fr (.int .i64)])]⟩
def C_delta_Check (F : sig_delta_Check.Fn) (a0 : List YStep.den) : Option sig_delta_Check.Out := F (a0, ()) ()
def ret_delta_Check (v0 : Int) : sig_delta_Check.Out := (((v0, ()), ()), ())
def res_delta_Check_0 (r : sig_delta_Check.Out) : Int := r.1.1.1
@[simp] theorem res_delta_Check_0_ret (v0 : Int) : res_delta_Check_0 (ret_delta_Check v0) = v0 := rfl
def os_delta_Check : RegT := ⟨[], [], false⟩
def hs_delta_Check : List Keep := [[(0, []), (3, []), (4, []), (9, []), (10, []), (11, [])]]
@[reducible] noncomputable def env_delta_Check : Env := [(78, ⟨sig_delta_step, F_delta_step⟩), (134, ⟨sig_attr_Same, F_attr_Same⟩), (95, ⟨sig_delta_size, F_delta_size⟩)]
noncomputable def L_delta_Check_0 (n m1 : Nat) (x0 : List YStep.den) (x3 : Int) (x4 : Int) (x9 : List YStep.den) (x10 : Int) (x11 : Int) : Option sig_delta_Check.Out :=
  loopAt T (env_delta_Check) os_delta_Check sig_delta_Check Try.f94 hs_delta_Check n [.sr, .sr, .sl, .sr, .bl] m1 (mk 78 [(0, .cs false [.val (.list YStep) x0]), (3, .cs false [.val (.int .i64) x3]), (4, .cs false [.val (.int .i64) x4]), (9, .cs false [.val (.list YStep) x9]), (10, .cs false [.val (.int .i64) x10]), (11, .cs false [.val (.int .i64) x11])])
noncomputable def J_delta_Check_0 (n m1 : Nat) (y0 : List YStep.den) (y3 : Int) (y4 : Int) (y6 : YStep.den) (y9 : List YStep.den) (y10 : Int) (y11 : Int) : Option sig_delta_Check.Out :=
  (bcond ((y6.1 : Int) != 1)
   (bcond ((y6.1 : Int) != 2)
    ((C_delta_size F_delta_size y6).bind fun r3 =>
     (L_delta_Check_0 n m1 y0 (if (2147483648 : Int) < (IntKind.i64.wrap (y3 + y6.2.1)) then 2147483648 else (IntKind.i64.wrap (y3 + y6.2.1))) (if (2147483648 : Int) < (IntKind.i64.wrap (y4 + (res_delta_size_0 r3))) then 2147483648 else (IntKind.i64.wrap (y4 + (res_delta_size_0 r3)))) y9 y10 (IntKind.i64.wrap (y11 + 1))))
    (L_delta_Check_0 n m1 y0 (if (2147483648 : Int) < (IntKind.i64.wrap (y3 + y6.2.1)) then 2147483648 else (IntKind.i64.wrap (y3 + y6.2.1))) y4 y9 y10 (IntKind.i64.wrap (y11 + 1))))
   (bcond ((y6.1 : Int) != 2)
    ((C_delta_size F_delta_size y6).bind fun r3 =>
     (L_delta_Check_0 n m1 y0 y3 (if (2147483648 : Int) < (IntKind.i64.wrap (y4 + (res_delta_size_0 r3))) then 2147483648 else (IntKind.i64.wrap (y4 + (res_delta_size_0 r3)))) y9 y10 (IntKind.i64.wrap (y11 + 1))))
    (L_delta_Check_0 n m1 y0 y3 y4 y9 y10 (IntKind.i64.wrap (y11 + 1)))))
theorem L_delta_Check_0_step (n m1 : Nat) (x0 : List YStep.den) (x3 : Int) (x4 : Int) (x9 : List YStep.den) (x10 : Int) (x11 : Int) : L_delta_Check_0 n (m1 + 1) x0 x3 x4 x9 x10 x11 =
  (bcond (decide ((x11 : Int) < x10))
   (if 0 ≤ (x11 : Int) ∧ (x11 : Int) < (List.length x9 : Int) then
    ((C_delta_step F_delta_step (at_ (e := YStep) x9 x11)).bind fun r1 =>
     (bcond (((res_delta_step_0 r1) : Int) != 0)
      (some (ret_delta_Check (res_delta_step_0 r1)))
      (bcond (decide ((x11 : Int) > 0))
       (if 0 ≤ ((IntKind.i64.wrap (x11 - 1)) : Int) ∧ ((IntKind.i64.wrap (x11 - 1)) : Int) < (List.length x0 : Int) then
        (bcond ((((at_ (e := YStep) x0 (IntKind.i64.wrap (x11 - 1))).1 : Int) == (at_ (e := YStep) x9 x11).1) == true)
         (bcond ((((at_ (e := YStep) x9 x11).1 : Int) != 0) == false)
          ((C_attr_Same F_attr_Same (at_ (e := YStep) x0 (IntKind.i64.wrap (x11 - 1))).2.2.1 (at_ (e := YStep) x9 x11).2.2.1).bind fun r2 =>
           (bcond ((res_attr_Same_0 r2) == false)
            (bcond ((((at_ (e := YStep) x0 (IntKind.i64.wrap (x11 - 1))).1 : Int) == 2) == true)
             (bcond (((at_ (e := YStep) x9 x11).1 : Int) == 1)
              (some (ret_delta_Check 5))
              (J_delta_Check_0 n m1 x0 x3 x4 (at_ (e := YStep) x9 x11) x9 x10 x11))
             (J_delta_Check_0 n m1 x0 x3 x4 (at_ (e := YStep) x9 x11) x9 x10 x11))
            (some (ret_delta_Check 5))))
          (some (ret_delta_Check 5)))
         (bcond ((((at_ (e := YStep) x0 (IntKind.i64.wrap (x11 - 1))).1 : Int) == 2) == true)
          (bcond (((at_ (e := YStep) x9 x11).1 : Int) == 1)
           (some (ret_delta_Check 5))
           (J_delta_Check_0 n m1 x0 x3 x4 (at_ (e := YStep) x9 x11) x9 x10 x11))
          (J_delta_Check_0 n m1 x0 x3 x4 (at_ (e := YStep) x9 x11) x9 x10 x11)))
       else none)
       (J_delta_Check_0 n m1 x0 x3 x4 (at_ (e := YStep) x9 x11) x9 x10 x11))))
   else none)
   (bcond ((decide ((x3 : Int) > 2147483647)) == false)
    (bcond (decide ((x4 : Int) > 2147483647))
     (some (ret_delta_Check 3))
     (some (ret_delta_Check 0)))
    (some (ret_delta_Check 3)))) := by kernel_rfl
theorem ok_delta_Check : fnOk os_delta_Check sig_delta_Check Try.f94 = true := by kernel_rfl
theorem fn_delta_Check : P.funcs[94]? = some Try.f94 := by kernel_rfl
noncomputable def F_delta_Check : sig_delta_Check.Fn := fun x y => run T (env_delta_Check) os_delta_Check sig_delta_Check Try.f94 hs_delta_Check big x y
theorem S_delta_Check : Sound P 94 ⟨sig_delta_Check, F_delta_Check⟩ := sound_of (os := os_delta_Check) (hs := hs_delta_Check) (env_cons S_delta_step (env_cons S_attr_Same (env_cons S_delta_size (env_nil)))) fn_delta_Check ok_delta_Check (fun x y out h => ⟨big, h⟩)
theorem e_delta_Check (a0 : List YStep.den) : C_delta_Check F_delta_Check a0 =
  (L_delta_Check_0 big big a0 0 0 a0 (List.length a0 : Int) 0) := by kernel_rfl
def sig_delta_changed : Sig := ⟨[.v false (.list YElem), .v false (.list YAttr)], [], [(false, [.fr (.list YElem)])]⟩
def C_delta_changed (F : sig_delta_changed.Fn) (a0 : List YElem.den) (a1 : List YAttr.den) : Option sig_delta_changed.Out := F (a0, a1, ()) ()
def ret_delta_changed (v0 : List YElem.den) : sig_delta_changed.Out := (((v0, ()), ()), ())
def res_delta_changed_0 (r : sig_delta_changed.Out) : List YElem.den := r.1.1.1
@[simp] theorem res_delta_changed_0_ret (v0 : List YElem.den) : res_delta_changed_0 (ret_delta_changed v0) = v0 := rfl
def os_delta_changed : RegT := ⟨[], [], false⟩
def hs_delta_changed : List Keep := [[(1, []), (5, [(0, 113, YElem)]), (11, []), (12, []), (13, [])]]
@[reducible] noncomputable def env_delta_changed : Env := [(88, ⟨sig_attr_Raw, F_attr_Raw⟩)]
noncomputable def L_delta_changed_0 (n m1 : Nat) (x1 : List YAttr.den) (x5 : List YElem.den) (x11 : List YElem.den) (x12 : Int) (x13 : Int) : Option sig_delta_changed.Out :=
  loopAt T (env_delta_changed) os_delta_changed sig_delta_changed Try.f102 hs_delta_changed n [.sr, .sr, .sl, .sr, .bl] m1 (mk 29 [(1, .cs false [.val (.list YAttr) x1]), (5, .cs false [.own 113 YElem x5]), (11, .cs false [.val (.list YElem) x11]), (12, .cs false [.val (.int .i64) x12]), (13, .cs false [.val (.int .i64) x13])])
theorem L_delta_changed_0_step (n m1 : Nat) (x1 : List YAttr.den) (x5 : List YElem.den) (x11 : List YElem.den) (x12 : Int) (x13 : Int) : L_delta_changed_0 n (m1 + 1) x1 x5 x11 x12 x13 =
  (bcond (decide ((x13 : Int) < x12))
   (if 0 ≤ (x13 : Int) ∧ (x13 : Int) < (List.length x11 : Int) then
    ((C_attr_Raw F_attr_Raw (at_ (e := YElem) x11 x13).2.2 x1).bind fun r1 =>
     (if 0 ≤ (x13 : Int) ∧ (x13 : Int) < (List.length x5 : Int) then
      (L_delta_changed_0 n m1 x1 (List.set x5 (Int.toNat x13) ((at_ (e := YElem) x11 x13).1, ((at_ (e := YElem) x11 x13).2.1, (res_attr_Raw_0 r1)))) x11 x12 (IntKind.i64.wrap (x13 + 1)))
     else none))
   else none)
   (some (ret_delta_changed x5))) := by kernel_rfl
noncomputable def F_delta_changed : sig_delta_changed.Fn := fun x y => run T (env_delta_changed) os_delta_changed sig_delta_changed Try.f102 hs_delta_changed big x y
theorem e_delta_changed (a0 : List YElem.den) (a1 : List YAttr.den) : C_delta_changed F_delta_changed a0 a1 =
  (if 0 ≤ ((List.length a0 : Int) : Int) ∧ ((List.length a0 : Int) : Int) = (List.length a0 : Int) ∧ ((List.length a0 : Int) : Int) * 40 ≤ 140737488355328 ∧ ((List.length a0 : Int) : Int) ≤ 140737488355328 then
   (L_delta_changed_0 big big a1 (List.replicate (Int.toNat (List.length a0 : Int)) ((0, (0, [])) : YElem.den)) a0 (List.length a0 : Int) 0)
  else none) := by kernel_rfl
def sig_delta_Raw : Sig := ⟨[.v false (.list YElem), .v false (.list YStep)], [], [(false, [.fr (.list YElem)])]⟩
def ret_delta_Raw (v0 : List YElem.den) : sig_delta_Raw.Out := (((v0, ()), ()), ())
def os_delta_Raw : RegT := ⟨[(8, .st 0 (.st 1 (.st 2 (.st 5 (.st 3 (.st 4 (.st 6 (.st 7 (.st 8 (.st 9 (.nil)))))))))))], [], false⟩
def hs_delta_Raw : List Keep := [[(0, []), (5, [(0, 113, YElem)]), (8, []), (9, []), (10, [])]]
@[reducible] noncomputable def env_delta_Raw : Env := [(102, ⟨sig_delta_changed, F_delta_changed⟩), (135, ⟨sig_flow_Copy, F_flow_Copy⟩)]
noncomputable def L_delta_Raw_0 (n m1 : Nat) (x0 : List YElem.den) (x5 : List YElem.den) (x8 : List YStep.den) (x9 : Int) (x10 : Int) : Option sig_delta_Raw.Out :=
  loopAt T (env_delta_Raw) os_delta_Raw sig_delta_Raw Try.f86 hs_delta_Raw n [.sr, .sr, .sl, .sr, .bl] m1 (mk 44 [(0, .cs false [.val (.list YElem) x0]), (5, .cs false [.own 113 YElem x5]), (8, .cs false [.val (.list YStep) x8]), (9, .cs false [.val (.int .i64) x9]), (10, .cs false [.val (.int .i64) x10])])
theorem L_delta_Raw_0_step (n m1 : Nat) (x0 : List YElem.den) (x5 : List YElem.den) (x8 : List YStep.den) (x9 : Int) (x10 : Int) : L_delta_Raw_0 n (m1 + 1) x0 x5 x8 x9 x10 =
  (bcond (decide ((x10 : Int) < x9))
   (if 0 ≤ (x10 : Int) ∧ (x10 : Int) < (List.length x8 : Int) then
    (bcond (((at_ (e := YStep) x8 x10).1 : Int) == 0)
     (if 0 ≤ ((at_ (e := YStep) x8 x10).2.1 : Int) ∧ ((at_ (e := YStep) x8 x10).2.1 : Int) ≤ (List.length x0 : Int) ∧ 0 ≤ (0 : Int) ∧ (0 : Int) ≤ (at_ (e := YStep) x8 x10).2.1 then
      ((C_delta_changed F_delta_changed (List.drop (Int.toNat 0) (List.take (Int.toNat (at_ (e := YStep) x8 x10).2.1) x0)) (at_ (e := YStep) x8 x10).2.2.1).bind fun r1 =>
       (if (List.length (x5 : List YElem.den) + List.length ((res_delta_changed_0 r1) : List YElem.den)) * 40 ≤ 140737488355328 then
        (if 0 ≤ ((List.length x0 : Int) : Int) ∧ ((List.length x0 : Int) : Int) ≤ (List.length x0 : Int) ∧ 0 ≤ ((at_ (e := YStep) x8 x10).2.1 : Int) ∧ ((at_ (e := YStep) x8 x10).2.1 : Int) ≤ (List.length x0 : Int) then
         (L_delta_Raw_0 n m1 (List.drop (Int.toNat (at_ (e := YStep) x8 x10).2.1) (List.take (Int.toNat (List.length x0 : Int)) x0)) (x5 ++ (res_delta_changed_0 r1)) x8 x9 (IntKind.i64.wrap (x10 + 1)))
        else none)
       else none))
     else none)
     (bcond (((at_ (e := YStep) x8 x10).1 : Int) == 1)
      ((C_flow_Copy F_flow_Copy (at_ (e := YStep) x8 x10).2.2.2).bind fun r1 =>
       (if (List.length (x5 : List YElem.den) + List.length ((res_flow_Copy_0 r1) : List YElem.den)) * 40 ≤ 140737488355328 then
        (L_delta_Raw_0 n m1 x0 (x5 ++ (res_flow_Copy_0 r1)) x8 x9 (IntKind.i64.wrap (x10 + 1)))
       else none))
      (if 0 ≤ ((List.length x0 : Int) : Int) ∧ ((List.length x0 : Int) : Int) ≤ (List.length x0 : Int) ∧ 0 ≤ ((at_ (e := YStep) x8 x10).2.1 : Int) ∧ ((at_ (e := YStep) x8 x10).2.1 : Int) ≤ (List.length x0 : Int) then
       (L_delta_Raw_0 n m1 (List.drop (Int.toNat (at_ (e := YStep) x8 x10).2.1) (List.take (Int.toNat (List.length x0 : Int)) x0)) x5 x8 x9 (IntKind.i64.wrap (x10 + 1)))
      else none)))
   else none)
   (some (ret_delta_Raw x5))) := by kernel_rfl
def sig_R_StepError : Sig := ⟨[.v true YStep], [], [(false, [.fr (.int .i64)])]⟩
def C_R_StepError (F : sig_R_StepError.Fn) (a0 : YStep.den) : Option sig_R_StepError.Out := F (a0, ()) ()
def ret_R_StepError (v0 : Int) : sig_R_StepError.Out := (((v0, ()), ()), ())
def res_R_StepError_0 (r : sig_R_StepError.Out) : Int := r.1.1.1
@[simp] theorem res_R_StepError_0_ret (v0 : Int) : res_R_StepError_0 (ret_R_StepError v0) = v0 := rfl
def os_R_StepError : RegT := ⟨[], [], false⟩
def hs_R_StepError : List Keep := []
@[reducible] noncomputable def env_R_StepError : Env := [(36, ⟨sig_R_In, F_R_In⟩), (37, ⟨sig_R_PartError, F_R_PartError⟩), (18, ⟨sig_R_AttrsError, F_R_AttrsError⟩)]
noncomputable def F_R_StepError : sig_R_StepError.Fn := fun x y => run T (env_R_StepError) os_R_StepError sig_R_StepError Try.f17 hs_R_StepError big x y
theorem e_R_StepError (a0 : YStep.den) : C_R_StepError F_R_StepError a0 =
  ((C_R_In F_R_In a0.1 0 2).bind fun r1 =>
   (bcond (!(res_R_In_0 r1))
    (some (ret_R_StepError 8))
    (bcond ((a0.1 : Int) == 1)
     (bcond (((a0.2.1 : Int) != 0) == false)
      (bcond (decide (((List.length a0.2.2.1 : Int) : Int) > 0))
       (some (ret_R_StepError 4))
       (bcond (((List.length a0.2.2.2 : Int) : Int) == 0)
        (some (ret_R_StepError 11))
        ((C_R_PartError F_R_PartError a0.2.2.2).bind fun r2 =>
         (some (ret_R_StepError (res_R_PartError_0 r2))))))
      (some (ret_R_StepError 4)))
     (bcond ((decide (((List.length a0.2.2.2 : Int) : Int) > 0)) == false)
      (bcond (((a0.1 : Int) == 2) == true)
       (bcond (decide (((List.length a0.2.2.1 : Int) : Int) > 0))
        (some (ret_R_StepError 4))
        ((C_R_In F_R_In a0.2.1 1 2147483647).bind fun r2 =>
         (bcond (!(res_R_In_0 r2))
          (some (ret_R_StepError 2))
          ((C_R_AttrsError F_R_AttrsError a0.2.2.1 true).bind fun r3 =>
           (some (ret_R_StepError (res_R_AttrsError_0 r3)))))))
       ((C_R_In F_R_In a0.2.1 1 2147483647).bind fun r2 =>
        (bcond (!(res_R_In_0 r2))
         (some (ret_R_StepError 2))
         ((C_R_AttrsError F_R_AttrsError a0.2.2.1 true).bind fun r3 =>
          (some (ret_R_StepError (res_R_AttrsError_0 r3)))))))
      (some (ret_R_StepError 4)))))) := by kernel_rfl
def sig_R_DeltaError : Sig := ⟨[.v false (.list YStep)], [], [(false, [.fr (.int .i64)])]⟩
def C_R_DeltaError (F : sig_R_DeltaError.Fn) (a0 : List YStep.den) : Option sig_R_DeltaError.Out := F (a0, ()) ()
def ret_R_DeltaError (v0 : Int) : sig_R_DeltaError.Out := (((v0, ()), ()), ())
def os_R_DeltaError : RegT := ⟨[], [], false⟩
def hs_R_DeltaError : List Keep := [[(0, []), (3, []), (4, []), (10, []), (11, [])]]
@[reducible] noncomputable def env_R_DeltaError : Env := [(17, ⟨sig_R_StepError, F_R_StepError⟩), (77, ⟨sig_R_SameAttrs, F_R_SameAttrs⟩)]
noncomputable def L_R_DeltaError_0 (n m1 : Nat) (x0 : List YStep.den) (x3 : Int) (x4 : Int) (x10 : Int) (x11 : Int) : Option sig_R_DeltaError.Out :=
  loopAt T (env_R_DeltaError) os_R_DeltaError sig_R_DeltaError Try.f31 hs_R_DeltaError n [.sr, .sr, .sl, .sr, .bl] m1 (mk 85 [(0, .cs false [.val (.list YStep) x0]), (3, .cs false [.val (.int .i64) x3]), (4, .cs false [.val (.int .i64) x4]), (10, .cs false [.val (.int .i64) x10]), (11, .cs false [.val (.int .i64) x11])])
noncomputable def J_R_DeltaError_0 (n m1 : Nat) (y0 : List YStep.den) (y3 : Int) (y4 : Int) (y6 : YStep.den) (y10 : Int) (y11 : Int) : Option sig_R_DeltaError.Out :=
  (bcond (((y6.1 : Int) != 1) == true)
   (bcond (decide ((y3 : Int) < 2147483648))
    (bcond (((y6.1 : Int) != 2) == true)
     (bcond (decide ((y4 : Int) < 2147483648))
      (L_R_DeltaError_0 n m1 y0 (IntKind.i64.wrap (y3 + y6.2.1)) (IntKind.i64.wrap (y4 + (IntKind.i64.wrap (y6.2.1 + (List.length y6.2.2.2 : Int))))) y10 (IntKind.i64.wrap (y11 + 1)))
      (L_R_DeltaError_0 n m1 y0 (IntKind.i64.wrap (y3 + y6.2.1)) y4 y10 (IntKind.i64.wrap (y11 + 1))))
     (L_R_DeltaError_0 n m1 y0 (IntKind.i64.wrap (y3 + y6.2.1)) y4 y10 (IntKind.i64.wrap (y11 + 1))))
    (bcond (((y6.1 : Int) != 2) == true)
     (bcond (decide ((y4 : Int) < 2147483648))
      (L_R_DeltaError_0 n m1 y0 y3 (IntKind.i64.wrap (y4 + (IntKind.i64.wrap (y6.2.1 + (List.length y6.2.2.2 : Int))))) y10 (IntKind.i64.wrap (y11 + 1)))
      (L_R_DeltaError_0 n m1 y0 y3 y4 y10 (IntKind.i64.wrap (y11 + 1))))
     (L_R_DeltaError_0 n m1 y0 y3 y4 y10 (IntKind.i64.wrap (y11 + 1)))))
   (bcond (((y6.1 : Int) != 2) == true)
    (bcond (decide ((y4 : Int) < 2147483648))
     (L_R_DeltaError_0 n m1 y0 y3 (IntKind.i64.wrap (y4 + (IntKind.i64.wrap (y6.2.1 + (List.length y6.2.2.2 : Int))))) y10 (IntKind.i64.wrap (y11 + 1)))
     (L_R_DeltaError_0 n m1 y0 y3 y4 y10 (IntKind.i64.wrap (y11 + 1))))
    (L_R_DeltaError_0 n m1 y0 y3 y4 y10 (IntKind.i64.wrap (y11 + 1)))))
theorem L_R_DeltaError_0_step (n m1 : Nat) (x0 : List YStep.den) (x3 : Int) (x4 : Int) (x10 : Int) (x11 : Int) : L_R_DeltaError_0 n (m1 + 1) x0 x3 x4 x10 x11 =
  (bcond (decide ((x11 : Int) < x10))
   (if 0 ≤ (x11 : Int) ∧ (x11 : Int) < (List.length x0 : Int) then
    ((C_R_StepError F_R_StepError (at_ (e := YStep) x0 x11)).bind fun r1 =>
     (bcond (((res_R_StepError_0 r1) : Int) != 0)
      (some (ret_R_DeltaError (res_R_StepError_0 r1)))
      (bcond (decide ((x11 : Int) > 0))
       (if 0 ≤ ((IntKind.i64.wrap (x11 - 1)) : Int) ∧ ((IntKind.i64.wrap (x11 - 1)) : Int) < (List.length x0 : Int) then
        (bcond (((at_ (e := YStep) x0 x11).1 : Int) == 1)
         (bcond (((at_ (e := YStep) x0 (IntKind.i64.wrap (x11 - 1))).1 : Int) != 0)
          (some (ret_R_DeltaError 5))
          (J_R_DeltaError_0 n m1 x0 x3 x4 (at_ (e := YStep) x0 x11) x10 x11))
         (bcond (((at_ (e := YStep) x0 x11).1 : Int) == 2)
          (bcond (((at_ (e := YStep) x0 (IntKind.i64.wrap (x11 - 1))).1 : Int) == 2)
           (some (ret_R_DeltaError 5))
           (J_R_DeltaError_0 n m1 x0 x3 x4 (at_ (e := YStep) x0 x11) x10 x11))
          (bcond ((((at_ (e := YStep) x0 (IntKind.i64.wrap (x11 - 1))).1 : Int) == 0) == true)
           ((C_R_SameAttrs F_R_SameAttrs (at_ (e := YStep) x0 (IntKind.i64.wrap (x11 - 1))).2.2.1 (at_ (e := YStep) x0 x11).2.2.1).bind fun r2 =>
            (bcond (res_R_SameAttrs_0 r2)
             (some (ret_R_DeltaError 5))
             (J_R_DeltaError_0 n m1 x0 x3 x4 (at_ (e := YStep) x0 x11) x10 x11)))
           (J_R_DeltaError_0 n m1 x0 x3 x4 (at_ (e := YStep) x0 x11) x10 x11))))
       else none)
       (J_R_DeltaError_0 n m1 x0 x3 x4 (at_ (e := YStep) x0 x11) x10 x11))))
   else none)
   (bcond ((decide ((x3 : Int) > 2147483647)) == false)
    (bcond (decide ((x4 : Int) > 2147483647))
     (some (ret_R_DeltaError 3))
     (some (ret_R_DeltaError 0)))
    (some (ret_R_DeltaError 3)))) := by kernel_rfl
noncomputable def F_R_DeltaError : sig_R_DeltaError.Fn := fun x y => run T (env_R_DeltaError) os_R_DeltaError sig_R_DeltaError Try.f31 hs_R_DeltaError big x y
theorem e_R_DeltaError (a0 : List YStep.den) : C_R_DeltaError F_R_DeltaError a0 =
  (L_R_DeltaError_0 big big a0 0 0 (List.length a0 : Int) 0) := by kernel_rfl
end Go.Ev
