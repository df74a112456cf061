/- Functions, step by step. -/
import Derived.Test.YtlgjdgebmiegeaaGAct
namespace Go.Ev
set_option linter.unusedVariables false
set_option maxRecDepth 100000
open Go.Proofs

/-! ### chancery/delta.Tidy -/
def sig_delta_Tidy : Sig := ⟨[.v false (.list YStep)], [], [(false, [.fr (.list YStep)]), (false, [.fr (.int .i64)])]⟩
def C_delta_Tidy (F : sig_delta_Tidy.Fn) (a0 : List YStep.den) : Option sig_delta_Tidy.Out := F (a0, ()) ()
def ret_delta_Tidy (v0 : List YStep.den) (v1 : Int) : sig_delta_Tidy.Out := (((v0, ()), (v1, ()), ()), ())
def res_delta_Tidy_0 (r : sig_delta_Tidy.Out) : List YStep.den := r.1.1.1
@[simp] theorem res_delta_Tidy_0_ret (v0 : List YStep.den) (v1 : Int) : res_delta_Tidy_0 (ret_delta_Tidy v0 v1) = v0 := rfl
def res_delta_Tidy_1 (r : sig_delta_Tidy.Out) : Int := r.1.2.1.1
@[simp] theorem res_delta_Tidy_1_ret (v0 : List YStep.den) (v1 : Int) : res_delta_Tidy_1 (ret_delta_Tidy v0 v1) = v1 := rfl
def os_delta_Tidy : RegT := ⟨[], []⟩
def hs_delta_Tidy : List Keep := [[(4, [(0, 30, YStep), (1, 113, YElem)]), (8, []), (9, []), (10, [])]]
@[reducible] noncomputable def env_delta_Tidy : Env := [(78, ⟨sig_delta_step, F_delta_step⟩), (79, ⟨sig_attr_CheckChange, F_attr_CheckChange⟩), (80, ⟨sig_delta_writer_keep, F_delta_writer_keep⟩), (81, ⟨sig_delta_writer_elems, F_delta_writer_elems⟩), (82, ⟨sig_delta_writer_done, F_delta_writer_done⟩)]
noncomputable def L_delta_Tidy_0 (n m1 : Nat) (x4_0 : List YStep.den) (x4_1 : List YElem.den) (x4_2 : Int) (x8 : List YStep.den) (x9 : Int) (x10 : Int) : Option sig_delta_Tidy.Out :=
  loopAt T (env_delta_Tidy) os_delta_Tidy sig_delta_Tidy Try.f16 hs_delta_Tidy n [.sr, .sr, .sl, .sr, .bl] m1 (mk 76 [(4, .box [.own 30 YStep x4_0, .own 113 YElem x4_1, .val (.int .i64) x4_2]), (8, .cs false [.val (.list YStep) x8]), (9, .cs false [.val (.int .i64) x9]), (10, .cs false [.val (.int .i64) x10])])
noncomputable def J_delta_Tidy_0 (n m1 : Nat) (y4_0 : List YStep.den) (y4_1 : List YElem.den) (y4_2 : Int) (y6 : YStep.den) (y7 : Int) (y8 : List YStep.den) (y9 : Int) (y10 : Int) : Option sig_delta_Tidy.Out :=
  (bcond ((y7 : Int) != 0)
   (some (ret_delta_Tidy [] y7))
   (bcond ((y6.1 : Int) == 0)
    ((C_delta_writer_keep F_delta_writer_keep y6.2.1 y6.2.2.1 y4_0 y4_1 y4_2).bind fun r3 =>
     (L_delta_Tidy_0 n m1 (res_delta_writer_keep_0 r3) (res_delta_writer_keep_1 r3) (res_delta_writer_keep_2 r3) y8 y9 (IntKind.i64.wrap (y10 + 1))))
    (bcond ((y6.1 : Int) == 1)
     ((C_delta_writer_elems F_delta_writer_elems y6.2.2.2 y4_0 y4_1 y4_2).bind fun r3 =>
      (L_delta_Tidy_0 n m1 (res_delta_writer_elems_0 r3) (res_delta_writer_elems_1 r3) (res_delta_writer_elems_2 r3) y8 y9 (IntKind.i64.wrap (y10 + 1))))
     (bcond (decide (((IntKind.i64.wrap (y4_2 + y6.2.1)) : Int) > 2147483647))
      (some (ret_delta_Tidy [] 3))
      (L_delta_Tidy_0 n m1 y4_0 y4_1 (IntKind.i64.wrap (y4_2 + y6.2.1)) y8 y9 (IntKind.i64.wrap (y10 + 1)))))))
theorem L_delta_Tidy_0_step (n m1 : Nat) (x4_0 : List YStep.den) (x4_1 : List YElem.den) (x4_2 : Int) (x8 : List YStep.den) (x9 : Int) (x10 : Int) : L_delta_Tidy_0 n (m1 + 1) x4_0 x4_1 x4_2 x8 x9 x10 =
  (bcond (decide ((x10 : Int) < x9))
   (if 0 ≤ (x10 : Int) ∧ (x10 : Int) < (List.length x8 : Int) then
    ((C_delta_step F_delta_step (at_ (e := YStep) x8 x10)).bind fun r1 =>
     (bcond ((((at_ (e := YStep) x8 x10).1 : Int) == 1) == true)
      (bcond ((((List.length (at_ (e := YStep) x8 x10).2.2.2 : Int) : Int) == 0) == true)
       (bcond ((((res_delta_step_0 r1) : Int) == 11) == false)
        (bcond ((((at_ (e := YStep) x8 x10).1 : Int) != 1) == true)
         (bcond ((((at_ (e := YStep) x8 x10).2.1 : Int) == 0) == true)
          (bcond (((res_delta_step_0 r1) : Int) == 2)
           ((C_attr_CheckChange F_attr_CheckChange (at_ (e := YStep) x8 x10).2.2.1).bind fun r2 =>
            (J_delta_Tidy_0 n m1 x4_0 x4_1 x4_2 (at_ (e := YStep) x8 x10) (res_attr_CheckChange_0 r2) x8 x9 x10))
           (J_delta_Tidy_0 n m1 x4_0 x4_1 x4_2 (at_ (e := YStep) x8 x10) (res_delta_step_0 r1) x8 x9 x10))
          (J_delta_Tidy_0 n m1 x4_0 x4_1 x4_2 (at_ (e := YStep) x8 x10) (res_delta_step_0 r1) x8 x9 x10))
         (J_delta_Tidy_0 n m1 x4_0 x4_1 x4_2 (at_ (e := YStep) x8 x10) (res_delta_step_0 r1) x8 x9 x10))
        ((C_attr_CheckChange F_attr_CheckChange (at_ (e := YStep) x8 x10).2.2.1).bind fun r2 =>
         (J_delta_Tidy_0 n m1 x4_0 x4_1 x4_2 (at_ (e := YStep) x8 x10) (res_attr_CheckChange_0 r2) x8 x9 x10)))
       (bcond ((((at_ (e := YStep) x8 x10).1 : Int) != 1) == true)
        (bcond ((((at_ (e := YStep) x8 x10).2.1 : Int) == 0) == true)
         (bcond (((res_delta_step_0 r1) : Int) == 2)
          ((C_attr_CheckChange F_attr_CheckChange (at_ (e := YStep) x8 x10).2.2.1).bind fun r2 =>
           (J_delta_Tidy_0 n m1 x4_0 x4_1 x4_2 (at_ (e := YStep) x8 x10) (res_attr_CheckChange_0 r2) x8 x9 x10))
          (J_delta_Tidy_0 n m1 x4_0 x4_1 x4_2 (at_ (e := YStep) x8 x10) (res_delta_step_0 r1) x8 x9 x10))
         (J_delta_Tidy_0 n m1 x4_0 x4_1 x4_2 (at_ (e := YStep) x8 x10) (res_delta_step_0 r1) x8 x9 x10))
        (J_delta_Tidy_0 n m1 x4_0 x4_1 x4_2 (at_ (e := YStep) x8 x10) (res_delta_step_0 r1) x8 x9 x10)))
      (bcond ((((at_ (e := YStep) x8 x10).1 : Int) != 1) == true)
       (bcond ((((at_ (e := YStep) x8 x10).2.1 : Int) == 0) == true)
        (bcond (((res_delta_step_0 r1) : Int) == 2)
         ((C_attr_CheckChange F_attr_CheckChange (at_ (e := YStep) x8 x10).2.2.1).bind fun r2 =>
          (J_delta_Tidy_0 n m1 x4_0 x4_1 x4_2 (at_ (e := YStep) x8 x10) (res_attr_CheckChange_0 r2) x8 x9 x10))
         (J_delta_Tidy_0 n m1 x4_0 x4_1 x4_2 (at_ (e := YStep) x8 x10) (res_delta_step_0 r1) x8 x9 x10))
        (J_delta_Tidy_0 n m1 x4_0 x4_1 x4_2 (at_ (e := YStep) x8 x10) (res_delta_step_0 r1) x8 x9 x10))
       (J_delta_Tidy_0 n m1 x4_0 x4_1 x4_2 (at_ (e := YStep) x8 x10) (res_delta_step_0 r1) x8 x9 x10))))
   else none)
   ((C_delta_writer_done F_delta_writer_done x4_0 x4_1 x4_2).bind fun r1 =>
    (some (ret_delta_Tidy (res_delta_writer_done_0 r1) (res_delta_writer_done_1 r1))))) := by kernel_rfl
theorem ok_delta_Tidy : fnOk os_delta_Tidy sig_delta_Tidy Try.f16 = true := by kernel_rfl
theorem fn_delta_Tidy : P.funcs[16]? = some Try.f16 := by kernel_rfl
noncomputable def F_delta_Tidy : sig_delta_Tidy.Fn := fun x y => run T (env_delta_Tidy) os_delta_Tidy sig_delta_Tidy Try.f16 hs_delta_Tidy big x y
theorem S_delta_Tidy : Sound P 16 ⟨sig_delta_Tidy, F_delta_Tidy⟩ := sound_of (os := os_delta_Tidy) (hs := hs_delta_Tidy) (env_cons S_delta_step (env_cons S_attr_CheckChange (env_cons S_delta_writer_keep (env_cons S_delta_writer_elems (env_cons S_delta_writer_done (env_nil)))))) fn_delta_Tidy ok_delta_Tidy (fun x y out h => ⟨big, h⟩)
theorem e_delta_Tidy (a0 : List YStep.den) : C_delta_Tidy F_delta_Tidy a0 =
  (L_delta_Tidy_0 big big [] [] 0 a0 (List.length a0 : Int) 0) := by kernel_rfl

/-! ### chancery/chancerylaw1.DeltaTidyMatches -/
def sig_law_DeltaTidyMatches : Sig := ⟨[.v false (.list YStep)], [], [(false, [.fr .bool])]⟩
def C_law_DeltaTidyMatches (F : sig_law_DeltaTidyMatches.Fn) (a0 : List YStep.den) : Option sig_law_DeltaTidyMatches.Out := F (a0, ()) ()
def ret_law_DeltaTidyMatches (v0 : Bool) : sig_law_DeltaTidyMatches.Out := (((v0, ()), ()), ())
def res_law_DeltaTidyMatches_0 (r : sig_law_DeltaTidyMatches.Out) : Bool := r.1.1.1
@[simp] theorem res_law_DeltaTidyMatches_0_ret (v0 : Bool) : res_law_DeltaTidyMatches_0 (ret_law_DeltaTidyMatches v0) = v0 := rfl
def os_law_DeltaTidyMatches : RegT := ⟨[], []⟩
def hs_law_DeltaTidyMatches : List Keep := [[(0, []), (3, []), (4, []), (5, [(0, 30, YStep)]), (6, []), (18, []), (19, [])]]
@[reducible] noncomputable def env_law_DeltaTidyMatches : Env := [(15, ⟨sig_law_deltas, F_law_deltas⟩), (16, ⟨sig_delta_Tidy, F_delta_Tidy⟩), (17, ⟨sig_R_StepError, F_R_StepError⟩), (18, ⟨sig_R_AttrsError, F_R_AttrsError⟩), (21, ⟨sig_R_ActOf, F_R_ActOf⟩), (20, ⟨sig_R_DeltaOf, F_R_DeltaOf⟩), (19, ⟨sig_R_SameDelta, F_R_SameDelta⟩)]
noncomputable def L_law_DeltaTidyMatches_0 (n m1 : Nat) (x0 : List YStep.den) (x3 : List YStep.den) (x4 : Int) (x5 : List YStep.den) (x6 : Int) (x18 : Int) (x19 : Int) : Option sig_law_DeltaTidyMatches.Out :=
  loopAt T (env_law_DeltaTidyMatches) os_law_DeltaTidyMatches sig_law_DeltaTidyMatches Try.f3 hs_law_DeltaTidyMatches n [.sr, .sr, .sr, .sr, .sr, .sl, .sr, .bl] m1 (mk 93 [(0, .cs false [.val (.list YStep) x0]), (3, .cs false [.val (.list YStep) x3]), (4, .cs false [.val (.int .i64) x4]), (5, .cs false [.own 30 YStep x5]), (6, .cs false [.val (.int .i64) x6]), (18, .cs false [.val (.int .i64) x18]), (19, .cs false [.val (.int .i64) x19])])
noncomputable def J_law_DeltaTidyMatches_0 (n m1 : Nat) (y0 : List YStep.den) (y3 : List YStep.den) (y4 : Int) (y5 : List YStep.den) (y6 : Int) (y8 : YStep.den) (y9 : Int) (y18 : Int) (y19 : Int) : Option sig_law_DeltaTidyMatches.Out :=
  (bcond ((y9 : Int) != 0)
   (bcond (((y4 : Int) == y9) == true)
    (some (ret_law_DeltaTidyMatches (((List.length y3 : Int) : Int) == 0)))
    (some (ret_law_DeltaTidyMatches false)))
   (bcond (decide (((IntKind.i64.wrap (y6 + y8.2.1)) : Int) > 300))
    (bcond (((y4 : Int) == 0) == false)
     (some (ret_law_DeltaTidyMatches (((List.length y3 : Int) : Int) == 0)))
     (some (ret_law_DeltaTidyMatches true)))
    (if (List.length (y5 : List YStep.den) + List.length ([y8] : List YStep.den)) * 64 ≤ 140737488355328 then
     (L_law_DeltaTidyMatches_0 n m1 y0 y3 y4 (y5 ++ [y8]) (IntKind.i64.wrap (y6 + y8.2.1)) y18 (IntKind.i64.wrap (y19 + 1)))
    else none)))
noncomputable def J_law_DeltaTidyMatches_1 (n m1 : Nat) (y0 : List YStep.den) (y3 : List YStep.den) (y4 : Int) (y5 : List YStep.den) (y6 : Int) (y8 : YStep.den) (y9 : Int) (y18 : Int) (y19 : Int) : Option sig_law_DeltaTidyMatches.Out :=
  (bcond (((y8.1 : Int) != 1) == true)
   (bcond (((y8.2.1 : Int) == 0) == true)
    (bcond ((y9 : Int) == 2)
     ((C_R_AttrsError F_R_AttrsError y8.2.2.1 true).bind fun r2 =>
      (J_law_DeltaTidyMatches_0 n m1 y0 y3 y4 y5 y6 y8 (res_R_AttrsError_0 r2) y18 y19))
     (J_law_DeltaTidyMatches_0 n m1 y0 y3 y4 y5 y6 y8 y9 y18 y19))
    (J_law_DeltaTidyMatches_0 n m1 y0 y3 y4 y5 y6 y8 y9 y18 y19))
   (J_law_DeltaTidyMatches_0 n m1 y0 y3 y4 y5 y6 y8 y9 y18 y19))
theorem L_law_DeltaTidyMatches_0_step (n m1 : Nat) (x0 : List YStep.den) (x3 : List YStep.den) (x4 : Int) (x5 : List YStep.den) (x6 : Int) (x18 : Int) (x19 : Int) : L_law_DeltaTidyMatches_0 n (m1 + 1) x0 x3 x4 x5 x6 x18 x19 =
  (bcond (decide ((x19 : Int) < x18))
   (if 0 ≤ (x19 : Int) ∧ (x19 : Int) < (List.length x0 : Int) then
    ((C_R_StepError F_R_StepError (at_ (e := YStep) x0 x19)).bind fun r1 =>
     (bcond ((((at_ (e := YStep) x0 x19).1 : Int) == 1) == true)
      (bcond ((((List.length (at_ (e := YStep) x0 x19).2.2.2 : Int) : Int) == 0) == true)
       (bcond (((res_R_StepError_0 r1) : Int) == 11)
        (J_law_DeltaTidyMatches_1 n m1 x0 x3 x4 x5 x6 (at_ (e := YStep) x0 x19) 0 x18 x19)
        (J_law_DeltaTidyMatches_1 n m1 x0 x3 x4 x5 x6 (at_ (e := YStep) x0 x19) (res_R_StepError_0 r1) x18 x19))
       (J_law_DeltaTidyMatches_1 n m1 x0 x3 x4 x5 x6 (at_ (e := YStep) x0 x19) (res_R_StepError_0 r1) x18 x19))
      (J_law_DeltaTidyMatches_1 n m1 x0 x3 x4 x5 x6 (at_ (e := YStep) x0 x19) (res_R_StepError_0 r1) x18 x19)))
   else none)
   (bcond (((x4 : Int) == 0) == true)
    ((C_R_ActOf F_R_ActOf x5).bind fun r1 =>
     ((C_R_DeltaOf F_R_DeltaOf (res_R_ActOf_0 r1)).bind fun r2 =>
      ((C_R_SameDelta F_R_SameDelta x3 (res_R_DeltaOf_0 r2)).bind fun r3 =>
       (some (ret_law_DeltaTidyMatches (res_R_SameDelta_0 r3))))))
    (some (ret_law_DeltaTidyMatches false)))) := by kernel_rfl
theorem ok_law_DeltaTidyMatches : fnOk os_law_DeltaTidyMatches sig_law_DeltaTidyMatches Try.f3 = true := by kernel_rfl
theorem fn_law_DeltaTidyMatches : P.funcs[3]? = some Try.f3 := by kernel_rfl
noncomputable def F_law_DeltaTidyMatches : sig_law_DeltaTidyMatches.Fn := fun x y => run T (env_law_DeltaTidyMatches) os_law_DeltaTidyMatches sig_law_DeltaTidyMatches Try.f3 hs_law_DeltaTidyMatches big x y
theorem S_law_DeltaTidyMatches : Sound P 3 ⟨sig_law_DeltaTidyMatches, F_law_DeltaTidyMatches⟩ := sound_of (os := os_law_DeltaTidyMatches) (hs := hs_law_DeltaTidyMatches) (env_cons S_law_deltas (env_cons S_delta_Tidy (env_cons S_R_StepError (env_cons S_R_AttrsError (env_cons S_R_ActOf (env_cons S_R_DeltaOf (env_cons S_R_SameDelta (env_nil)))))))) fn_law_DeltaTidyMatches ok_law_DeltaTidyMatches (fun x y out h => ⟨big, h⟩)
theorem e_law_DeltaTidyMatches (a0 : List YStep.den) : C_law_DeltaTidyMatches F_law_DeltaTidyMatches a0 =
  ((C_law_deltas F_law_deltas ).bind fun r1 =>
   (bcond (!(res_law_deltas_0 r1))
    (some (ret_law_DeltaTidyMatches false))
    ((C_delta_Tidy F_delta_Tidy a0).bind fun r2 =>
     (L_law_DeltaTidyMatches_0 big big a0 (res_delta_Tidy_0 r2) (res_delta_Tidy_1 r2) [] 0 (List.length a0 : Int) 0)))) := by kernel_rfl
end Go.Ev
