/- Functions, step by step. -/
import Derived.Test.YtlgjdgebmiegeaaGFlow
namespace Go.Ev
set_option linter.unusedVariables false
set_option maxRecDepth 100000
open Go.Proofs
def sig_delta_step : Sig := ⟨[.v true YStep], [], [(false, [.fr (.int .i64)])]⟩
def C_delta_step (F : sig_delta_step.Fn) (a0 : YStep.den) : Option sig_delta_step.Out := F (a0, ()) ()
def ret_delta_step (v0 : Int) : sig_delta_step.Out := (((v0, ()), ()), ())
def res_delta_step_0 (r : sig_delta_step.Out) : Int := r.1.1.1
@[simp] theorem res_delta_step_0_ret (v0 : Int) : res_delta_step_0 (ret_delta_step v0) = v0 := rfl
def os_delta_step : RegT := ⟨[], [], false⟩
def hs_delta_step : List Keep := []
@[reducible] noncomputable def env_delta_step : Env := [(79, ⟨sig_attr_CheckChange, F_attr_CheckChange⟩), (93, ⟨sig_flow_CheckPart, F_flow_CheckPart⟩)]
noncomputable def J_delta_step_0 (n : Nat) (y1 : YStep.den) (y4 : Int) (y5 : Bool) : Option sig_delta_step.Out :=
  (bcond y5
   (bcond ((decide (((List.length y1.2.2.2 : Int) : Int) > 0)) == false)
    (bcond (((y1.1 : Int) == 2) == true)
     (bcond (decide (((List.length y1.2.2.1 : Int) : Int) > 0))
      (some (ret_delta_step 4))
      (bcond ((decide ((y1.2.1 : Int) < 1)) == false)
       (bcond (decide ((y1.2.1 : Int) > 2147483647))
        (some (ret_delta_step 2))
        ((C_attr_CheckChange F_attr_CheckChange y1.2.2.1).bind fun r1 =>
         (some (ret_delta_step (res_attr_CheckChange_0 r1)))))
       (some (ret_delta_step 2))))
     (bcond ((decide ((y1.2.1 : Int) < 1)) == false)
      (bcond (decide ((y1.2.1 : Int) > 2147483647))
       (some (ret_delta_step 2))
       ((C_attr_CheckChange F_attr_CheckChange y1.2.2.1).bind fun r1 =>
        (some (ret_delta_step (res_attr_CheckChange_0 r1)))))
      (some (ret_delta_step 2))))
    (some (ret_delta_step 4)))
   (bcond ((y4 : Int) == 1)
    (bcond (((y1.2.1 : Int) != 0) == false)
     (bcond (decide (((List.length y1.2.2.1 : Int) : Int) > 0))
      (some (ret_delta_step 4))
      (bcond (((List.length y1.2.2.2 : Int) : Int) == 0)
       (some (ret_delta_step 11))
       ((C_flow_CheckPart F_flow_CheckPart y1.2.2.2).bind fun r1 =>
        (some (ret_delta_step (res_flow_CheckPart_0 r1))))))
     (some (ret_delta_step 4)))
    (some (ret_delta_step 8))))
theorem ok_delta_step : fnOk os_delta_step sig_delta_step Try.f78 = true := by kernel_rfl
theorem fn_delta_step : P.funcs[78]? = some Try.f78 := by kernel_rfl
noncomputable def F_delta_step : sig_delta_step.Fn := fun x y => run T (env_delta_step) os_delta_step sig_delta_step Try.f78 hs_delta_step big x y
theorem S_delta_step : Sound P 78 ⟨sig_delta_step, F_delta_step⟩ := sound_of (os := os_delta_step) (hs := hs_delta_step) (env_cons S_attr_CheckChange (env_cons S_flow_CheckPart (env_nil))) fn_delta_step ok_delta_step (fun x y out h => ⟨big, h⟩)
theorem e_delta_step (a0 : YStep.den) : C_delta_step F_delta_step a0 =
  (bcond ((a0.1 : Int) == 0)
   (J_delta_step_0 big a0 a0.1 true)
   (J_delta_step_0 big a0 a0.1 ((a0.1 : Int) == 2))) := by kernel_rfl
def sig_delta_size : Sig := ⟨[.v true YStep], [], [(false, [.fr (.int .i64)])]⟩
def C_delta_size (F : sig_delta_size.Fn) (a0 : YStep.den) : Option sig_delta_size.Out := F (a0, ()) ()
def ret_delta_size (v0 : Int) : sig_delta_size.Out := (((v0, ()), ()), ())
def res_delta_size_0 (r : sig_delta_size.Out) : Int := r.1.1.1
@[simp] theorem res_delta_size_0_ret (v0 : Int) : res_delta_size_0 (ret_delta_size v0) = v0 := rfl
def os_delta_size : RegT := ⟨[], [], false⟩
def hs_delta_size : List Keep := []
@[reducible] noncomputable def env_delta_size : Env := []
theorem ok_delta_size : fnOk os_delta_size sig_delta_size Try.f95 = true := by kernel_rfl
theorem fn_delta_size : P.funcs[95]? = some Try.f95 := by kernel_rfl
noncomputable def F_delta_size : sig_delta_size.Fn := fun x y => run T (env_delta_size) os_delta_size sig_delta_size Try.f95 hs_delta_size big x y
theorem S_delta_size : Sound P 95 ⟨sig_delta_size, F_delta_size⟩ := sound_of (os := os_delta_size) (hs := hs_delta_size) (env_nil) fn_delta_size ok_delta_size (fun x y out h => ⟨big, h⟩)
theorem e_delta_size (a0 : YStep.den) : C_delta_size F_delta_size a0 =
  (bcond ((a0.1 : Int) == 1)
   (some (ret_delta_size (List.length a0.2.2.2 : Int)))
   (some (ret_delta_size a0.2.1))) := by kernel_rfl
def sig_delta_Check : Sig := ⟨[.v false (.list YStep)], [], [(false, [.fr (.int .i64)])]⟩
def C_delta_Check (F : sig_delta_Check.Fn) (a0 : List YStep.den) : Option sig_delta_Check.Out := F (a0, ()) ()
def ret_delta_Check (v0 : Int) : sig_delta_Check.Out := (((v0, ()), ()), ())
def res_delta_Check_0 (r : sig_delta_Check.Out) : Int := r.1.1.1
@[simp] theorem res_delta_Check_0_ret (v0 : Int) : res_delta_Check_0 (ret_delta_Check v0) = v0 := rfl
def os_delta_Check : RegT := ⟨[], [], false⟩
def hs_delta_Check : List Keep := [[(0, []), (3, []), (4, []), (9, []), (10, []), (11, [])]]
@[reducible] noncomputable def env_delta_Check : Env := [(78, ⟨sig_delta_step, F_delta_step⟩), (134, ⟨sig_attr_Same, F_attr_Same⟩), (95, ⟨sig_delta_size, F_delta_size⟩)]
noncomputable def L_delta_Check_0 (n m1 : Nat) (x0 : List YStep.den) (x3 : Int) (x4 : Int) (x9 : List YStep.den) (x10 : Int) (x11 : Int) : Option sig_delta_Check.Out :=
  loopAt T (env_delta_Check) os_delta_Check sig_delta_Check Try.f94 hs_delta_Check n [.sr, .sr, .sl, .sr, .bl] m1 (mk 78 [(0, .cs false [.val (.list YStep) x0]), (3, .cs false [.val (.int .i64) x3]), (4, .cs false [.val (.int .i64) x4]), (9, .cs false [.val (.list YStep) x9]), (10, .cs false [.val (.int .i64) x10]), (11, .cs false [.val (.int .i64) x11])])
noncomputable def J_delta_Check_0 (n m1 : Nat) (y0 : List YStep.den) (y3 : Int) (y4 : Int) (y6 : YStep.den) (y9 : List YStep.den) (y10 : Int) (y11 : Int) : Option sig_delta_Check.Out :=
  (bcond ((y6.1 : Int) != 1)
   (bcond ((y6.1 : Int) != 2)
    ((C_delta_size F_delta_size y6).bind fun r3 =>
     (L_delta_Check_0 n m1 y0 (if (2147483648 : Int) < (IntKind.i64.wrap (y3 + y6.2.1)) then 2147483648 else (IntKind.i64.wrap (y3 + y6.2.1))) (if (2147483648 : Int) < (IntKind.i64.wrap (y4 + (res_delta_size_0 r3))) then 2147483648 else (IntKind.i64.wrap (y4 + (res_delta_size_0 r3)))) y9 y10 (IntKind.i64.wrap (y11 + 1))))
    (L_delta_Check_0 n m1 y0 (if (2147483648 : Int) < (IntKind.i64.wrap (y3 + y6.2.1)) then 2147483648 else (IntKind.i64.wrap (y3 + y6.2.1))) y4 y9 y10 (IntKind.i64.wrap (y11 + 1))))
   (bcond ((y6.1 : Int) != 2)
    ((C_delta_size F_delta_size y6).bind fun r3 =>
     (L_delta_Check_0 n m1 y0 y3 (if (2147483648 : Int) < (IntKind.i64.wrap (y4 + (res_delta_size_0 r3))) then 2147483648 else (IntKind.i64.wrap (y4 + (res_delta_size_0 r3)))) y9 y10 (IntKind.i64.wrap (y11 + 1))))
    (L_delta_Check_0 n m1 y0 y3 y4 y9 y10 (IntKind.i64.wrap (y11 + 1)))))
theorem L_delta_Check_0_step (n m1 : Nat) (x0 : List YStep.den) (x3 : Int) (x4 : Int) (x9 : List YStep.den) (x10 : Int) (x11 : Int) : L_delta_Check_0 n (m1 + 1) x0 x3 x4 x9 x10 x11 =
  (bcond (decide ((x11 : Int) < x10))
   (if 0 ≤ (x11 : Int) ∧ (x11 : Int) < (List.length x9 : Int) then
    ((C_delta_step F_delta_step (at_ (e := YStep) x9 x11)).bind fun r1 =>
     (bcond (((res_delta_step_0 r1) : Int) != 0)
      (some (ret_delta_Check (res_delta_step_0 r1)))
      (bcond (decide ((x11 : Int) > 0))
       (if 0 ≤ ((IntKind.i64.wrap (x11 - 1)) : Int) ∧ ((IntKind.i64.wrap (x11 - 1)) : Int) < (List.length x0 : Int) then
        (bcond ((((at_ (e := YStep) x0 (IntKind.i64.wrap (x11 - 1))).1 : Int) == (at_ (e := YStep) x9 x11).1) == true)
         (bcond ((((at_ (e := YStep) x9 x11).1 : Int) != 0) == false)
          ((C_attr_Same F_attr_Same (at_ (e := YStep) x0 (IntKind.i64.wrap (x11 - 1))).2.2.1 (at_ (e := YStep) x9 x11).2.2.1).bind fun r2 =>
           (bcond ((res_attr_Same_0 r2) == false)
            (bcond ((((at_ (e := YStep) x0 (IntKind.i64.wrap (x11 - 1))).1 : Int) == 2) == true)
             (bcond (((at_ (e := YStep) x9 x11).1 : Int) == 1)
              (some (ret_delta_Check 5))
              (J_delta_Check_0 n m1 x0 x3 x4 (at_ (e := YStep) x9 x11) x9 x10 x11))
             (J_delta_Check_0 n m1 x0 x3 x4 (at_ (e := YStep) x9 x11) x9 x10 x11))
            (some (ret_delta_Check 5))))
          (some (ret_delta_Check 5)))
         (bcond ((((at_ (e := YStep) x0 (IntKind.i64.wrap (x11 - 1))).1 : Int) == 2) == true)
          (bcond (((at_ (e := YStep) x9 x11).1 : Int) == 1)
           (some (ret_delta_Check 5))
           (J_delta_Check_0 n m1 x0 x3 x4 (at_ (e := YStep) x9 x11) x9 x10 x11))
          (J_delta_Check_0 n m1 x0 x3 x4 (at_ (e := YStep) x9 x11) x9 x10 x11)))
       else none)
       (J_delta_Check_0 n m1 x0 x3 x4 (at_ (e := YStep) x9 x11) x9 x10 x11))))
   else none)
   (bcond ((decide ((x3 : Int) > 2147483647)) == false)
    (bcond (decide ((x4 : Int) > 2147483647))
     (some (ret_delta_Check 3))
     (some (ret_delta_Check 0)))
    (some (ret_delta_Check 3)))) := by kernel_rfl
theorem ok_delta_Check : fnOk os_delta_Check sig_delta_Check Try.f94 = true := by kernel_rfl
theorem fn_delta_Check : P.funcs[94]? = some Try.f94 := by kernel_rfl
noncomputable def F_delta_Check : sig_delta_Check.Fn := fun x y => run T (env_delta_Check) os_delta_Check sig_delta_Check Try.f94 hs_delta_Check big x y
theorem S_delta_Check : Sound P 94 ⟨sig_delta_Check, F_delta_Check⟩ := sound_of (os := os_delta_Check) (hs := hs_delta_Check) (env_cons S_delta_step (env_cons S_attr_Same (env_cons S_delta_size (env_nil)))) fn_delta_Check ok_delta_Check (fun x y out h => ⟨big, h⟩)
theorem e_delta_Check (a0 : List YStep.den) : C_delta_Check F_delta_Check a0 =
  (L_delta_Check_0 big big a0 0 0 a0 (List.length a0 : Int) 0) := by kernel_rfl
def sig_delta_lengths : Sig := ⟨[.v false (.list YStep)], [], [(false, [.fr (.int .i64)]), (false, [.fr (.int .i64)])]⟩
def C_delta_lengths (F : sig_delta_lengths.Fn) (a0 : List YStep.den) : Option sig_delta_lengths.Out := F (a0, ()) ()
def ret_delta_lengths (v0 : Int) (v1 : Int) : sig_delta_lengths.Out := (((v0, ()), (v1, ()), ()), ())
def res_delta_lengths_0 (r : sig_delta_lengths.Out) : Int := r.1.1.1
@[simp] theorem res_delta_lengths_0_ret (v0 : Int) (v1 : Int) : res_delta_lengths_0 (ret_delta_lengths v0 v1) = v0 := rfl
def os_delta_lengths : RegT := ⟨[], [], false⟩
def hs_delta_lengths : List Keep := [[(4, []), (5, []), (8, []), (9, []), (10, [])]]
@[reducible] noncomputable def env_delta_lengths : Env := [(95, ⟨sig_delta_size, F_delta_size⟩)]
noncomputable def L_delta_lengths_0 (n m1 : Nat) (x4 : Int) (x5 : Int) (x8 : List YStep.den) (x9 : Int) (x10 : Int) : Option sig_delta_lengths.Out :=
  loopAt T (env_delta_lengths) os_delta_lengths sig_delta_lengths Try.f97 hs_delta_lengths n [.sr, .sr, .sl, .sr, .bl] m1 (mk 31 [(4, .cs false [.val (.int .i64) x4]), (5, .cs false [.val (.int .i64) x5]), (8, .cs false [.val (.list YStep) x8]), (9, .cs false [.val (.int .i64) x9]), (10, .cs false [.val (.int .i64) x10])])
theorem L_delta_lengths_0_step (n m1 : Nat) (x4 : Int) (x5 : Int) (x8 : List YStep.den) (x9 : Int) (x10 : Int) : L_delta_lengths_0 n (m1 + 1) x4 x5 x8 x9 x10 =
  (bcond (decide ((x10 : Int) < x9))
   (if 0 ≤ (x10 : Int) ∧ (x10 : Int) < (List.length x8 : Int) then
    (bcond (((at_ (e := YStep) x8 x10).1 : Int) != 1)
     (bcond (((at_ (e := YStep) x8 x10).1 : Int) != 2)
      ((C_delta_size F_delta_size (at_ (e := YStep) x8 x10)).bind fun r1 =>
       (L_delta_lengths_0 n m1 (IntKind.i64.wrap (x4 + (at_ (e := YStep) x8 x10).2.1)) (IntKind.i64.wrap (x5 + (res_delta_size_0 r1))) x8 x9 (IntKind.i64.wrap (x10 + 1))))
      (L_delta_lengths_0 n m1 (IntKind.i64.wrap (x4 + (at_ (e := YStep) x8 x10).2.1)) x5 x8 x9 (IntKind.i64.wrap (x10 + 1))))
     (bcond (((at_ (e := YStep) x8 x10).1 : Int) != 2)
      ((C_delta_size F_delta_size (at_ (e := YStep) x8 x10)).bind fun r1 =>
       (L_delta_lengths_0 n m1 x4 (IntKind.i64.wrap (x5 + (res_delta_size_0 r1))) x8 x9 (IntKind.i64.wrap (x10 + 1))))
      (L_delta_lengths_0 n m1 x4 x5 x8 x9 (IntKind.i64.wrap (x10 + 1)))))
   else none)
   (some (ret_delta_lengths x4 x5))) := by kernel_rfl
theorem ok_delta_lengths : fnOk os_delta_lengths sig_delta_lengths Try.f97 = true := by kernel_rfl
theorem fn_delta_lengths : P.funcs[97]? = some Try.f97 := by kernel_rfl
noncomputable def F_delta_lengths : sig_delta_lengths.Fn := fun x y => run T (env_delta_lengths) os_delta_lengths sig_delta_lengths Try.f97 hs_delta_lengths big x y
theorem S_delta_lengths : Sound P 97 ⟨sig_delta_lengths, F_delta_lengths⟩ := sound_of (os := os_delta_lengths) (hs := hs_delta_lengths) (env_cons S_delta_size (env_nil)) fn_delta_lengths ok_delta_lengths (fun x y out h => ⟨big, h⟩)
theorem e_delta_lengths (a0 : List YStep.den) : C_delta_lengths F_delta_lengths a0 =
  (L_delta_lengths_0 big big 0 0 a0 (List.length a0 : Int) 0) := by kernel_rfl
def sig_delta_changed : Sig := ⟨[.v false (.list YElem), .v false (.list YAttr)], [], [(false, [.fr (.list YElem)])]⟩
def C_delta_changed (F : sig_delta_changed.Fn) (a0 : List YElem.den) (a1 : List YAttr.den) : Option sig_delta_changed.Out := F (a0, a1, ()) ()
def ret_delta_changed (v0 : List YElem.den) : sig_delta_changed.Out := (((v0, ()), ()), ())
def res_delta_changed_0 (r : sig_delta_changed.Out) : List YElem.den := r.1.1.1
@[simp] theorem res_delta_changed_0_ret (v0 : List YElem.den) : res_delta_changed_0 (ret_delta_changed v0) = v0 := rfl
def os_delta_changed : RegT := ⟨[], [], false⟩
def hs_delta_changed : List Keep := [[(1, []), (5, [(0, 113, YElem)]), (11, []), (12, []), (13, [])]]
@[reducible] noncomputable def env_delta_changed : Env := [(88, ⟨sig_attr_Raw, F_attr_Raw⟩)]
noncomputable def L_delta_changed_0 (n m1 : Nat) (x1 : List YAttr.den) (x5 : List YElem.den) (x11 : List YElem.den) (x12 : Int) (x13 : Int) : Option sig_delta_changed.Out :=
  loopAt T (env_delta_changed) os_delta_changed sig_delta_changed Try.f102 hs_delta_changed n [.sr, .sr, .sl, .sr, .bl] m1 (mk 29 [(1, .cs false [.val (.list YAttr) x1]), (5, .cs false [.own 113 YElem x5]), (11, .cs false [.val (.list YElem) x11]), (12, .cs false [.val (.int .i64) x12]), (13, .cs false [.val (.int .i64) x13])])
theorem L_delta_changed_0_step (n m1 : Nat) (x1 : List YAttr.den) (x5 : List YElem.den) (x11 : List YElem.den) (x12 : Int) (x13 : Int) : L_delta_changed_0 n (m1 + 1) x1 x5 x11 x12 x13 =
  (bcond (decide ((x13 : Int) < x12))
   (if 0 ≤ (x13 : Int) ∧ (x13 : Int) < (List.length x11 : Int) then
    ((C_attr_Raw F_attr_Raw (at_ (e := YElem) x11 x13).2.2 x1).bind fun r1 =>
     (if 0 ≤ (x13 : Int) ∧ (x13 : Int) < (List.length x5 : Int) then
      (L_delta_changed_0 n m1 x1 (List.set x5 (Int.toNat x13) ((at_ (e := YElem) x11 x13).1, ((at_ (e := YElem) x11 x13).2.1, (res_attr_Raw_0 r1)))) x11 x12 (IntKind.i64.wrap (x13 + 1)))
     else none))
   else none)
   (some (ret_delta_changed x5))) := by kernel_rfl
theorem ok_delta_changed : fnOk os_delta_changed sig_delta_changed Try.f102 = true := by kernel_rfl
theorem fn_delta_changed : P.funcs[102]? = some Try.f102 := by kernel_rfl
noncomputable def F_delta_changed : sig_delta_changed.Fn := fun x y => run T (env_delta_changed) os_delta_changed sig_delta_changed Try.f102 hs_delta_changed big x y
theorem S_delta_changed : Sound P 102 ⟨sig_delta_changed, F_delta_changed⟩ := sound_of (os := os_delta_changed) (hs := hs_delta_changed) (env_cons S_attr_Raw (env_nil)) fn_delta_changed ok_delta_changed (fun x y out h => ⟨big, h⟩)
theorem e_delta_changed (a0 : List YElem.den) (a1 : List YAttr.den) : C_delta_changed F_delta_changed a0 a1 =
  (if 0 ≤ ((List.length a0 : Int) : Int) ∧ ((List.length a0 : Int) : Int) = (List.length a0 : Int) ∧ ((List.length a0 : Int) : Int) * 40 ≤ 140737488355328 ∧ ((List.length a0 : Int) : Int) ≤ 140737488355328 then
   (L_delta_changed_0 big big a1 (List.replicate (Int.toNat (List.length a0 : Int)) ((0, (0, [])) : YElem.den)) a0 (List.length a0 : Int) 0)
  else none) := by kernel_rfl
def sig_delta_Raw : Sig := ⟨[.v false (.list YElem), .v false (.list YStep)], [], [(false, [.fr (.list YElem)])]⟩
def C_delta_Raw (F : sig_delta_Raw.Fn) (a0 : List YElem.den) (a1 : List YStep.den) : Option sig_delta_Raw.Out := F (a0, a1, ()) ()
def ret_delta_Raw (v0 : List YElem.den) : sig_delta_Raw.Out := (((v0, ()), ()), ())
def res_delta_Raw_0 (r : sig_delta_Raw.Out) : List YElem.den := r.1.1.1
@[simp] theorem res_delta_Raw_0_ret (v0 : List YElem.den) : res_delta_Raw_0 (ret_delta_Raw v0) = v0 := rfl
def os_delta_Raw : RegT := ⟨[(8, .st 0 (.st 1 (.st 2 (.st 5 (.st 3 (.st 4 (.st 6 (.st 7 (.st 8 (.st 9 (.nil)))))))))))], [], false⟩
def hs_delta_Raw : List Keep := [[(0, []), (5, [(0, 113, YElem)]), (8, []), (9, []), (10, [])]]
@[reducible] noncomputable def env_delta_Raw : Env := [(102, ⟨sig_delta_changed, F_delta_changed⟩), (135, ⟨sig_flow_Copy, F_flow_Copy⟩)]
noncomputable def L_delta_Raw_0 (n m1 : Nat) (x0 : List YElem.den) (x5 : List YElem.den) (x8 : List YStep.den) (x9 : Int) (x10 : Int) : Option sig_delta_Raw.Out :=
  loopAt T (env_delta_Raw) os_delta_Raw sig_delta_Raw Try.f86 hs_delta_Raw n [.sr, .sr, .sl, .sr, .bl] m1 (mk 44 [(0, .cs false [.val (.list YElem) x0]), (5, .cs false [.own 113 YElem x5]), (8, .cs false [.val (.list YStep) x8]), (9, .cs false [.val (.int .i64) x9]), (10, .cs false [.val (.int .i64) x10])])
theorem L_delta_Raw_0_step (n m1 : Nat) (x0 : List YElem.den) (x5 : List YElem.den) (x8 : List YStep.den) (x9 : Int) (x10 : Int) : L_delta_Raw_0 n (m1 + 1) x0 x5 x8 x9 x10 =
  (bcond (decide ((x10 : Int) < x9))
   (if 0 ≤ (x10 : Int) ∧ (x10 : Int) < (List.length x8 : Int) then
    (bcond (((at_ (e := YStep) x8 x10).1 : Int) == 0)
     (if 0 ≤ ((at_ (e := YStep) x8 x10).2.1 : Int) ∧ ((at_ (e := YStep) x8 x10).2.1 : Int) ≤ (List.length x0 : Int) ∧ 0 ≤ (0 : Int) ∧ (0 : Int) ≤ (at_ (e := YStep) x8 x10).2.1 then
      ((C_delta_changed F_delta_changed (List.drop (Int.toNat 0) (List.take (Int.toNat (at_ (e := YStep) x8 x10).2.1) x0)) (at_ (e := YStep) x8 x10).2.2.1).bind fun r1 =>
       (if (List.length (x5 : List YElem.den) + List.length ((res_delta_changed_0 r1) : List YElem.den)) * 40 ≤ 140737488355328 then
        (if 0 ≤ ((List.length x0 : Int) : Int) ∧ ((List.length x0 : Int) : Int) ≤ (List.length x0 : Int) ∧ 0 ≤ ((at_ (e := YStep) x8 x10).2.1 : Int) ∧ ((at_ (e := YStep) x8 x10).2.1 : Int) ≤ (List.length x0 : Int) then
         (L_delta_Raw_0 n m1 (List.drop (Int.toNat (at_ (e := YStep) x8 x10).2.1) (List.take (Int.toNat (List.length x0 : Int)) x0)) (x5 ++ (res_delta_changed_0 r1)) x8 x9 (IntKind.i64.wrap (x10 + 1)))
        else none)
       else none))
     else none)
     (bcond (((at_ (e := YStep) x8 x10).1 : Int) == 1)
      ((C_flow_Copy F_flow_Copy (at_ (e := YStep) x8 x10).2.2.2).bind fun r1 =>
       (if (List.length (x5 : List YElem.den) + List.length ((res_flow_Copy_0 r1) : List YElem.den)) * 40 ≤ 140737488355328 then
        (L_delta_Raw_0 n m1 x0 (x5 ++ (res_flow_Copy_0 r1)) x8 x9 (IntKind.i64.wrap (x10 + 1)))
       else none))
      (if 0 ≤ ((List.length x0 : Int) : Int) ∧ ((List.length x0 : Int) : Int) ≤ (List.length x0 : Int) ∧ 0 ≤ ((at_ (e := YStep) x8 x10).2.1 : Int) ∧ ((at_ (e := YStep) x8 x10).2.1 : Int) ≤ (List.length x0 : Int) then
       (L_delta_Raw_0 n m1 (List.drop (Int.toNat (at_ (e := YStep) x8 x10).2.1) (List.take (Int.toNat (List.length x0 : Int)) x0)) x5 x8 x9 (IntKind.i64.wrap (x10 + 1)))
      else none)))
   else none)
   (some (ret_delta_Raw x5))) := by kernel_rfl
theorem ok_delta_Raw : fnOk os_delta_Raw sig_delta_Raw Try.f86 = true := by kernel_rfl
theorem fn_delta_Raw : P.funcs[86]? = some Try.f86 := by kernel_rfl
noncomputable def F_delta_Raw : sig_delta_Raw.Fn := fun x y => run T (env_delta_Raw) os_delta_Raw sig_delta_Raw Try.f86 hs_delta_Raw big x y
theorem S_delta_Raw : Sound P 86 ⟨sig_delta_Raw, F_delta_Raw⟩ := sound_of (os := os_delta_Raw) (hs := hs_delta_Raw) (env_cons S_delta_changed (env_cons S_flow_Copy (env_nil))) fn_delta_Raw ok_delta_Raw (fun x y out h => ⟨big, h⟩)
theorem e_delta_Raw (a0 : List YElem.den) (a1 : List YStep.den) : C_delta_Raw F_delta_Raw a0 a1 =
  (L_delta_Raw_0 big big a0 [] a1 (List.length a1 : Int) 0) := by kernel_rfl
def sig_delta_fits : Sig := ⟨[.v false (.list YElem), .v false (.list YStep)], [], [(false, [.fr (.int .i64)])]⟩
def C_delta_fits (F : sig_delta_fits.Fn) (a0 : List YElem.den) (a1 : List YStep.den) : Option sig_delta_fits.Out := F (a0, a1, ()) ()
def ret_delta_fits (v0 : Int) : sig_delta_fits.Out := (((v0, ()), ()), ())
def res_delta_fits_0 (r : sig_delta_fits.Out) : Int := r.1.1.1
@[simp] theorem res_delta_fits_0_ret (v0 : Int) : res_delta_fits_0 (ret_delta_fits v0) = v0 := rfl
def os_delta_fits : RegT := ⟨[], [], false⟩
def hs_delta_fits : List Keep := []
@[reducible] noncomputable def env_delta_fits : Env := [(93, ⟨sig_flow_CheckPart, F_flow_CheckPart⟩), (94, ⟨sig_delta_Check, F_delta_Check⟩), (97, ⟨sig_delta_lengths, F_delta_lengths⟩)]
theorem ok_delta_fits : fnOk os_delta_fits sig_delta_fits Try.f85 = true := by kernel_rfl
theorem fn_delta_fits : P.funcs[85]? = some Try.f85 := by kernel_rfl
noncomputable def F_delta_fits : sig_delta_fits.Fn := fun x y => run T (env_delta_fits) os_delta_fits sig_delta_fits Try.f85 hs_delta_fits big x y
theorem S_delta_fits : Sound P 85 ⟨sig_delta_fits, F_delta_fits⟩ := sound_of (os := os_delta_fits) (hs := hs_delta_fits) (env_cons S_flow_CheckPart (env_cons S_delta_Check (env_cons S_delta_lengths (env_nil)))) fn_delta_fits ok_delta_fits (fun x y out h => ⟨big, h⟩)
theorem e_delta_fits (a0 : List YElem.den) (a1 : List YStep.den) : C_delta_fits F_delta_fits a0 a1 =
  ((C_flow_CheckPart F_flow_CheckPart a0).bind fun r1 =>
   (bcond (((res_flow_CheckPart_0 r1) : Int) != 0)
    (some (ret_delta_fits (res_flow_CheckPart_0 r1)))
    ((C_delta_Check F_delta_Check a1).bind fun r2 =>
     (bcond (((res_delta_Check_0 r2) : Int) != 0)
      (some (ret_delta_fits (res_delta_Check_0 r2)))
      ((C_delta_lengths F_delta_lengths a1).bind fun r3 =>
       (bcond (((res_delta_lengths_0 r3) : Int) != (List.length a0 : Int))
        (some (ret_delta_fits 14))
        (some (ret_delta_fits 0)))))))) := by kernel_rfl
def sig_delta_Apply : Sig := ⟨[.v false (.list YElem), .v false (.list YStep)], [], [(false, [.fr (.list YElem)]), (false, [.fr (.int .i64)])]⟩
def C_delta_Apply (F : sig_delta_Apply.Fn) (a0 : List YElem.den) (a1 : List YStep.den) : Option sig_delta_Apply.Out := F (a0, a1, ()) ()
def ret_delta_Apply (v0 : List YElem.den) (v1 : Int) : sig_delta_Apply.Out := (((v0, ()), (v1, ()), ()), ())
def res_delta_Apply_0 (r : sig_delta_Apply.Out) : List YElem.den := r.1.1.1
@[simp] theorem res_delta_Apply_0_ret (v0 : List YElem.den) (v1 : Int) : res_delta_Apply_0 (ret_delta_Apply v0 v1) = v0 := rfl
def res_delta_Apply_1 (r : sig_delta_Apply.Out) : Int := r.1.2.1.1
@[simp] theorem res_delta_Apply_1_ret (v0 : List YElem.den) (v1 : Int) : res_delta_Apply_1 (ret_delta_Apply v0 v1) = v1 := rfl
def os_delta_Apply : RegT := ⟨[], [], false⟩
def hs_delta_Apply : List Keep := []
@[reducible] noncomputable def env_delta_Apply : Env := [(85, ⟨sig_delta_fits, F_delta_fits⟩), (86, ⟨sig_delta_Raw, F_delta_Raw⟩)]
theorem ok_delta_Apply : fnOk os_delta_Apply sig_delta_Apply Try.f22 = true := by kernel_rfl
theorem fn_delta_Apply : P.funcs[22]? = some Try.f22 := by kernel_rfl
noncomputable def F_delta_Apply : sig_delta_Apply.Fn := fun x y => run T (env_delta_Apply) os_delta_Apply sig_delta_Apply Try.f22 hs_delta_Apply big x y
theorem S_delta_Apply : Sound P 22 ⟨sig_delta_Apply, F_delta_Apply⟩ := sound_of (os := os_delta_Apply) (hs := hs_delta_Apply) (env_cons S_delta_fits (env_cons S_delta_Raw (env_nil))) fn_delta_Apply ok_delta_Apply (fun x y out h => ⟨big, h⟩)
theorem e_delta_Apply (a0 : List YElem.den) (a1 : List YStep.den) : C_delta_Apply F_delta_Apply a0 a1 =
  ((C_delta_fits F_delta_fits a0 a1).bind fun r1 =>
   (bcond (((res_delta_fits_0 r1) : Int) != 0)
    (some (ret_delta_Apply [] (res_delta_fits_0 r1)))
    ((C_delta_Raw F_delta_Raw a0 a1).bind fun r2 =>
     (some (ret_delta_Apply (res_delta_Raw_0 r2) 0))))) := by kernel_rfl
def sig_R_StepError : Sig := ⟨[.v true YStep], [], [(false, [.fr (.int .i64)])]⟩
def C_R_StepError (F : sig_R_StepError.Fn) (a0 : YStep.den) : Option sig_R_StepError.Out := F (a0, ()) ()
def ret_R_StepError (v0 : Int) : sig_R_StepError.Out := (((v0, ()), ()), ())
def res_R_StepError_0 (r : sig_R_StepError.Out) : Int := r.1.1.1
@[simp] theorem res_R_StepError_0_ret (v0 : Int) : res_R_StepError_0 (ret_R_StepError v0) = v0 := rfl
def os_R_StepError : RegT := ⟨[], [], false⟩
def hs_R_StepError : List Keep := []
@[reducible] noncomputable def env_R_StepError : Env := [(36, ⟨sig_R_In, F_R_In⟩), (37, ⟨sig_R_PartError, F_R_PartError⟩), (18, ⟨sig_R_AttrsError, F_R_AttrsError⟩)]
theorem ok_R_StepError : fnOk os_R_StepError sig_R_StepError Try.f17 = true := by kernel_rfl
theorem fn_R_StepError : P.funcs[17]? = some Try.f17 := by kernel_rfl
noncomputable def F_R_StepError : sig_R_StepError.Fn := fun x y => run T (env_R_StepError) os_R_StepError sig_R_StepError Try.f17 hs_R_StepError big x y
theorem S_R_StepError : Sound P 17 ⟨sig_R_StepError, F_R_StepError⟩ := sound_of (os := os_R_StepError) (hs := hs_R_StepError) (env_cons S_R_In (env_cons S_R_PartError (env_cons S_R_AttrsError (env_nil)))) fn_R_StepError ok_R_StepError (fun x y out h => ⟨big, h⟩)
theorem e_R_StepError (a0 : YStep.den) : C_R_StepError F_R_StepError a0 =
  ((C_R_In F_R_In a0.1 0 2).bind fun r1 =>
   (bcond (!(res_R_In_0 r1))
    (some (ret_R_StepError 8))
    (bcond ((a0.1 : Int) == 1)
     (bcond (((a0.2.1 : Int) != 0) == false)
      (bcond (decide (((List.length a0.2.2.1 : Int) : Int) > 0))
       (some (ret_R_StepError 4))
       (bcond (((List.length a0.2.2.2 : Int) : Int) == 0)
        (some (ret_R_StepError 11))
        ((C_R_PartError F_R_PartError a0.2.2.2).bind fun r2 =>
         (some (ret_R_StepError (res_R_PartError_0 r2))))))
      (some (ret_R_StepError 4)))
     (bcond ((decide (((List.length a0.2.2.2 : Int) : Int) > 0)) == false)
      (bcond (((a0.1 : Int) == 2) == true)
       (bcond (decide (((List.length a0.2.2.1 : Int) : Int) > 0))
        (some (ret_R_StepError 4))
        ((C_R_In F_R_In a0.2.1 1 2147483647).bind fun r2 =>
         (bcond (!(res_R_In_0 r2))
          (some (ret_R_StepError 2))
          ((C_R_AttrsError F_R_AttrsError a0.2.2.1 true).bind fun r3 =>
           (some (ret_R_StepError (res_R_AttrsError_0 r3)))))))
       ((C_R_In F_R_In a0.2.1 1 2147483647).bind fun r2 =>
        (bcond (!(res_R_In_0 r2))
         (some (ret_R_StepError 2))
         ((C_R_AttrsError F_R_AttrsError a0.2.2.1 true).bind fun r3 =>
          (some (ret_R_StepError (res_R_AttrsError_0 r3)))))))
      (some (ret_R_StepError 4)))))) := by kernel_rfl
def sig_R_DeltaError : Sig := ⟨[.v false (.list YStep)], [], [(false, [.fr (.int .i64)])]⟩
def C_R_DeltaError (F : sig_R_DeltaError.Fn) (a0 : List YStep.den) : Option sig_R_DeltaError.Out := F (a0, ()) ()
def ret_R_DeltaError (v0 : Int) : sig_R_DeltaError.Out := (((v0, ()), ()), ())
def res_R_DeltaError_0 (r : sig_R_DeltaError.Out) : Int := r.1.1.1
@[simp] theorem res_R_DeltaError_0_ret (v0 : Int) : res_R_DeltaError_0 (ret_R_DeltaError v0) = v0 := rfl
def os_R_DeltaError : RegT := ⟨[], [], false⟩
def hs_R_DeltaError : List Keep := [[(0, []), (3, []), (4, []), (10, []), (11, [])]]
@[reducible] noncomputable def env_R_DeltaError : Env := [(17, ⟨sig_R_StepError, F_R_StepError⟩), (77, ⟨sig_R_SameAttrs, F_R_SameAttrs⟩)]
noncomputable def L_R_DeltaError_0 (n m1 : Nat) (x0 : List YStep.den) (x3 : Int) (x4 : Int) (x10 : Int) (x11 : Int) : Option sig_R_DeltaError.Out :=
  loopAt T (env_R_DeltaError) os_R_DeltaError sig_R_DeltaError Try.f31 hs_R_DeltaError n [.sr, .sr, .sl, .sr, .bl] m1 (mk 85 [(0, .cs false [.val (.list YStep) x0]), (3, .cs false [.val (.int .i64) x3]), (4, .cs false [.val (.int .i64) x4]), (10, .cs false [.val (.int .i64) x10]), (11, .cs false [.val (.int .i64) x11])])
noncomputable def J_R_DeltaError_0 (n m1 : Nat) (y0 : List YStep.den) (y3 : Int) (y4 : Int) (y6 : YStep.den) (y10 : Int) (y11 : Int) : Option sig_R_DeltaError.Out :=
  (bcond (((y6.1 : Int) != 1) == true)
   (bcond (decide ((y3 : Int) < 2147483648))
    (bcond (((y6.1 : Int) != 2) == true)
     (bcond (decide ((y4 : Int) < 2147483648))
      (L_R_DeltaError_0 n m1 y0 (IntKind.i64.wrap (y3 + y6.2.1)) (IntKind.i64.wrap (y4 + (IntKind.i64.wrap (y6.2.1 + (List.length y6.2.2.2 : Int))))) y10 (IntKind.i64.wrap (y11 + 1)))
      (L_R_DeltaError_0 n m1 y0 (IntKind.i64.wrap (y3 + y6.2.1)) y4 y10 (IntKind.i64.wrap (y11 + 1))))
     (L_R_DeltaError_0 n m1 y0 (IntKind.i64.wrap (y3 + y6.2.1)) y4 y10 (IntKind.i64.wrap (y11 + 1))))
    (bcond (((y6.1 : Int) != 2) == true)
     (bcond (decide ((y4 : Int) < 2147483648))
      (L_R_DeltaError_0 n m1 y0 y3 (IntKind.i64.wrap (y4 + (IntKind.i64.wrap (y6.2.1 + (List.length y6.2.2.2 : Int))))) y10 (IntKind.i64.wrap (y11 + 1)))
      (L_R_DeltaError_0 n m1 y0 y3 y4 y10 (IntKind.i64.wrap (y11 + 1))))
     (L_R_DeltaError_0 n m1 y0 y3 y4 y10 (IntKind.i64.wrap (y11 + 1)))))
   (bcond (((y6.1 : Int) != 2) == true)
    (bcond (decide ((y4 : Int) < 2147483648))
     (L_R_DeltaError_0 n m1 y0 y3 (IntKind.i64.wrap (y4 + (IntKind.i64.wrap (y6.2.1 + (List.length y6.2.2.2 : Int))))) y10 (IntKind.i64.wrap (y11 + 1)))
     (L_R_DeltaError_0 n m1 y0 y3 y4 y10 (IntKind.i64.wrap (y11 + 1))))
    (L_R_DeltaError_0 n m1 y0 y3 y4 y10 (IntKind.i64.wrap (y11 + 1)))))
theorem L_R_DeltaError_0_step (n m1 : Nat) (x0 : List YStep.den) (x3 : Int) (x4 : Int) (x10 : Int) (x11 : Int) : L_R_DeltaError_0 n (m1 + 1) x0 x3 x4 x10 x11 =
  (bcond (decide ((x11 : Int) < x10))
   (if 0 ≤ (x11 : Int) ∧ (x11 : Int) < (List.length x0 : Int) then
    ((C_R_StepError F_R_StepError (at_ (e := YStep) x0 x11)).bind fun r1 =>
     (bcond (((res_R_StepError_0 r1) : Int) != 0)
      (some (ret_R_DeltaError (res_R_StepError_0 r1)))
      (bcond (decide ((x11 : Int) > 0))
       (if 0 ≤ ((IntKind.i64.wrap (x11 - 1)) : Int) ∧ ((IntKind.i64.wrap (x11 - 1)) : Int) < (List.length x0 : Int) then
        (bcond (((at_ (e := YStep) x0 x11).1 : Int) == 1)
         (bcond (((at_ (e := YStep) x0 (IntKind.i64.wrap (x11 - 1))).1 : Int) != 0)
          (some (ret_R_DeltaError 5))
          (J_R_DeltaError_0 n m1 x0 x3 x4 (at_ (e := YStep) x0 x11) x10 x11))
         (bcond (((at_ (e := YStep) x0 x11).1 : Int) == 2)
          (bcond (((at_ (e := YStep) x0 (IntKind.i64.wrap (x11 - 1))).1 : Int) == 2)
           (some (ret_R_DeltaError 5))
           (J_R_DeltaError_0 n m1 x0 x3 x4 (at_ (e := YStep) x0 x11) x10 x11))
          (bcond ((((at_ (e := YStep) x0 (IntKind.i64.wrap (x11 - 1))).1 : Int) == 0) == true)
           ((C_R_SameAttrs F_R_SameAttrs (at_ (e := YStep) x0 (IntKind.i64.wrap (x11 - 1))).2.2.1 (at_ (e := YStep) x0 x11).2.2.1).bind fun r2 =>
            (bcond (res_R_SameAttrs_0 r2)
             (some (ret_R_DeltaError 5))
             (J_R_DeltaError_0 n m1 x0 x3 x4 (at_ (e := YStep) x0 x11) x10 x11)))
           (J_R_DeltaError_0 n m1 x0 x3 x4 (at_ (e := YStep) x0 x11) x10 x11))))
       else none)
       (J_R_DeltaError_0 n m1 x0 x3 x4 (at_ (e := YStep) x0 x11) x10 x11))))
   else none)
   (bcond ((decide ((x3 : Int) > 2147483647)) == false)
    (bcond (decide ((x4 : Int) > 2147483647))
     (some (ret_R_DeltaError 3))
     (some (ret_R_DeltaError 0)))
    (some (ret_R_DeltaError 3)))) := by kernel_rfl
theorem ok_R_DeltaError : fnOk os_R_DeltaError sig_R_DeltaError Try.f31 = true := by kernel_rfl
theorem fn_R_DeltaError : P.funcs[31]? = some Try.f31 := by kernel_rfl
noncomputable def F_R_DeltaError : sig_R_DeltaError.Fn := fun x y => run T (env_R_DeltaError) os_R_DeltaError sig_R_DeltaError Try.f31 hs_R_DeltaError big x y
theorem S_R_DeltaError : Sound P 31 ⟨sig_R_DeltaError, F_R_DeltaError⟩ := sound_of (os := os_R_DeltaError) (hs := hs_R_DeltaError) (env_cons S_R_StepError (env_cons S_R_SameAttrs (env_nil))) fn_R_DeltaError ok_R_DeltaError (fun x y out h => ⟨big, h⟩)
theorem e_R_DeltaError (a0 : List YStep.den) : C_R_DeltaError F_R_DeltaError a0 =
  (L_R_DeltaError_0 big big a0 0 0 (List.length a0 : Int) 0) := by kernel_rfl
def sig_law_deltas : Sig := ⟨[], [], [(false, [.fr .bool])]⟩
def C_law_deltas (F : sig_law_deltas.Fn) : Option sig_law_deltas.Out := F () ()
def ret_law_deltas (v0 : Bool) : sig_law_deltas.Out := (((v0, ()), ()), ())
def res_law_deltas_0 (r : sig_law_deltas.Out) : Bool := r.1.1.1
@[simp] theorem res_law_deltas_0_ret (v0 : Bool) : res_law_deltas_0 (ret_law_deltas v0) = v0 := rfl
def os_law_deltas : RegT := ⟨[(2, .st 0 (.st 1 (.st 2 (.st 3 (.st 4 (.st 5 (.st 6 (.st 7 (.st 8 (.st 9 (.st 10 (.st 11 (.st 12 (.st 13 (.st 14 (.st 15 (.st 16 (.st 17 (.grp [18, 19] (.st 20 (.st 21 (.st 22 (.nil)))))))))))))))))))))))], [], false⟩
def hs_law_deltas : List Keep := []
@[reducible] noncomputable def env_law_deltas : Env := [(75, ⟨sig_law_letters, F_law_letters⟩), (76, ⟨sig_law_on, F_law_on⟩), (22, ⟨sig_delta_Apply, F_delta_Apply⟩), (77, ⟨sig_R_SameAttrs, F_R_SameAttrs⟩)]
theorem ok_law_deltas : fnOk os_law_deltas sig_law_deltas Try.f15 = true := by kernel_rfl
theorem fn_law_deltas : P.funcs[15]? = some Try.f15 := by kernel_rfl
noncomputable def F_law_deltas : sig_law_deltas.Fn := fun x y => run T (env_law_deltas) os_law_deltas sig_law_deltas Try.f15 hs_law_deltas big x y
theorem S_law_deltas : Sound P 15 ⟨sig_law_deltas, F_law_deltas⟩ := sound_of (os := os_law_deltas) (hs := hs_law_deltas) (env_cons S_law_letters (env_cons S_law_on (env_cons S_delta_Apply (env_cons S_R_SameAttrs (env_nil))))) fn_law_deltas ok_law_deltas (fun x y out h => ⟨big, h⟩)
theorem e_law_deltas : C_law_deltas F_law_deltas =
  ((C_law_letters F_law_letters [97, 98]).bind fun r1 =>
   ((C_law_letters F_law_letters [120]).bind fun r2 =>
    ((C_law_on F_law_on [98, 111, 108, 100]).bind fun r3 =>
     ((C_delta_Apply F_delta_Apply (res_law_letters_0 r1) [(1, (0, ([], (res_law_letters_0 r2)))), (2, (1, ([], []))), (0, (1, ((res_law_on_0 r3), [])))]).bind fun r4 =>
      (bcond ((((res_delta_Apply_1 r4) : Int) == 0) == true)
       (bcond ((((List.length (res_delta_Apply_0 r4) : Int) : Int) == 2) == true)
        (if 0 ≤ (0 : Int) ∧ (0 : Int) < (List.length (res_delta_Apply_0 r4) : Int) then
         (bcond ((((at_ (e := YElem) (res_delta_Apply_0 r4) 0).1 : Int) == 120) == true)
          (if 0 ≤ (1 : Int) ∧ (1 : Int) < (List.length (res_delta_Apply_0 r4) : Int) then
           ((C_law_on F_law_on [98, 111, 108, 100]).bind fun r5 =>
            ((C_R_SameAttrs F_R_SameAttrs (at_ (e := YElem) (res_delta_Apply_0 r4) 1).2.2 (res_law_on_0 r5)).bind fun r6 =>
             (some (ret_law_deltas (res_R_SameAttrs_0 r6)))))
          else none)
          (some (ret_law_deltas false)))
        else none)
        (some (ret_law_deltas false)))
       (some (ret_law_deltas false))))))) := by kernel_rfl
end Go.Ev
