/- Functions, step by step. -/
import Derived.Test.YtlgjdgebmiegeaaGAct
namespace Go.Ev
set_option linter.unusedVariables false
set_option maxRecDepth 100000
open Go.Proofs
def sig_delta_Tidy : Sig := ⟨[.v false (.list YStep)], [], [(false, [.fr (.list YStep)]), (false, [.fr (.int .i64)])]⟩
def C_delta_Tidy (F : sig_delta_Tidy.Fn) (a0 : List YStep.den) : Option sig_delta_Tidy.Out := F (a0, ()) ()
def ret_delta_Tidy (v0 : List YStep.den) (v1 : Int) : sig_delta_Tidy.Out := (((v0, ()), (v1, ()), ()), ())
def res_delta_Tidy_0 (r : sig_delta_Tidy.Out) : List YStep.den := r.1.1.1
@[simp] theorem res_delta_Tidy_0_ret (v0 : List YStep.den) (v1 : Int) : res_delta_Tidy_0 (ret_delta_Tidy v0 v1) = v0 := rfl
def os_delta_Tidy : RegT := ⟨[], [], false⟩
def hs_delta_Tidy : List Keep := [[(4, [(0, 30, YStep), (1, 113, YElem)]), (8, []), (9, []), (10, [])]]
@[reducible] noncomputable def env_delta_Tidy : Env := [(78, ⟨sig_delta_step, F_delta_step⟩), (79, ⟨sig_attr_CheckChange, F_attr_CheckChange⟩), (80, ⟨sig_delta_writer_keep, F_delta_writer_keep⟩), (81, ⟨sig_delta_writer_elems, F_delta_writer_elems⟩), (82, ⟨sig_delta_writer_done, F_delta_writer_done⟩)]
noncomputable def L_delta_Tidy_0 (n m1 : Nat) (x4_0 : List YStep.den) (x4_1 : List YElem.den) (x4_2 : Int) (x8 : List YStep.den) (x9 : Int) (x10 : Int) : Option sig_delta_Tidy.Out :=
  loopAt T (env_delta_Tidy) os_delta_Tidy sig_delta_Tidy Try.f16 hs_delta_Tidy n [.sr, .sr, .sl, .sr, .bl] m1 (mk 76 [(4, .box [.own 30 YStep x4_0, .own 113 YElem x4_1, .val (.int .i64) x4_2]), (8, .cs false [.val (.list YStep) x8]), (9, .cs false [.val (.int .i64) x9]), (10, .cs false [.val (.int .i64) x10])])
noncomputable def J_delta_Tidy_0 (n m1 : Nat) (y4_0 : List YStep.den) (y4_1 : List YElem.den) (y4_2 : Int) (y6 : YStep.den) (y7 : Int) (y8 : List YStep.den) (y9 : Int) (y10 : Int) : Option sig_delta_Tidy.Out :=
  (bcond ((y7 : Int) != 0)
   (some (ret_delta_Tidy [] y7))
   (bcond ((y6.1 : Int) == 0)
    ((C_delta_writer_keep F_delta_writer_keep y6.2.1 y6.2.2.1 y4_0 y4_1 y4_2).bind fun r3 =>
     (L_delta_Tidy_0 n m1 (res_delta_writer_keep_0 r3) (res_delta_writer_keep_1 r3) (res_delta_writer_keep_2 r3) y8 y9 (IntKind.i64.wrap (y10 + 1))))
    (bcond ((y6.1 : Int) == 1)
     ((C_delta_writer_elems F_delta_writer_elems y6.2.2.2 y4_0 y4_1 y4_2).bind fun r3 =>
      (L_delta_Tidy_0 n m1 (res_delta_writer_elems_0 r3) (res_delta_writer_elems_1 r3) (res_delta_writer_elems_2 r3) y8 y9 (IntKind.i64.wrap (y10 + 1))))
     (bcond (decide (((IntKind.i64.wrap (y4_2 + y6.2.1)) : Int) > 2147483647))
      (some (ret_delta_Tidy [] 3))
      (L_delta_Tidy_0 n m1 y4_0 y4_1 (IntKind.i64.wrap (y4_2 + y6.2.1)) y8 y9 (IntKind.i64.wrap (y10 + 1)))))))
theorem L_delta_Tidy_0_step (n m1 : Nat) (x4_0 : List YStep.den) (x4_1 : List YElem.den) (x4_2 : Int) (x8 : List YStep.den) (x9 : Int) (x10 : Int) : L_delta_Tidy_0 n (m1 + 1) x4_0 x4_1 x4_2 x8 x9 x10 =
  (bcond (decide ((x10 : Int) < x9))
   (if 0 ≤ (x10 : Int) ∧ (x10 : Int) < (List.length x8 : Int) then
    ((C_delta_step F_delta_step (at_ (e := YStep) x8 x10)).bind fun r1 =>
     (bcond ((((at_ (e := YStep) x8 x10).1 : Int) == 1) == true)
      (bcond ((((List.length (at_ (e := YStep) x8 x10).2.2.2 : Int) : Int) == 0) == true)
       (bcond ((((res_delta_step_0 r1) : Int) == 11) == false)
        (bcond ((((at_ (e := YStep) x8 x10).1 : Int) != 1) == true)
         (bcond ((((at_ (e := YStep) x8 x10).2.1 : Int) == 0) == true)
          (bcond (((res_delta_step_0 r1) : Int) == 2)
           ((C_attr_CheckChange F_attr_CheckChange (at_ (e := YStep) x8 x10).2.2.1).bind fun r2 =>
            (J_delta_Tidy_0 n m1 x4_0 x4_1 x4_2 (at_ (e := YStep) x8 x10) (res_attr_CheckChange_0 r2) x8 x9 x10))
           (J_delta_Tidy_0 n m1 x4_0 x4_1 x4_2 (at_ (e := YStep) x8 x10) (res_delta_step_0 r1) x8 x9 x10))
          (J_delta_Tidy_0 n m1 x4_0 x4_1 x4_2 (at_ (e := YStep) x8 x10) (res_delta_step_0 r1) x8 x9 x10))
         (J_delta_Tidy_0 n m1 x4_0 x4_1 x4_2 (at_ (e := YStep) x8 x10) (res_delta_step_0 r1) x8 x9 x10))
        ((C_attr_CheckChange F_attr_CheckChange (at_ (e := YStep) x8 x10).2.2.1).bind fun r2 =>
         (J_delta_Tidy_0 n m1 x4_0 x4_1 x4_2 (at_ (e := YStep) x8 x10) (res_attr_CheckChange_0 r2) x8 x9 x10)))
       (bcond ((((at_ (e := YStep) x8 x10).1 : Int) != 1) == true)
        (bcond ((((at_ (e := YStep) x8 x10).2.1 : Int) == 0) == true)
         (bcond (((res_delta_step_0 r1) : Int) == 2)
          ((C_attr_CheckChange F_attr_CheckChange (at_ (e := YStep) x8 x10).2.2.1).bind fun r2 =>
           (J_delta_Tidy_0 n m1 x4_0 x4_1 x4_2 (at_ (e := YStep) x8 x10) (res_attr_CheckChange_0 r2) x8 x9 x10))
          (J_delta_Tidy_0 n m1 x4_0 x4_1 x4_2 (at_ (e := YStep) x8 x10) (res_delta_step_0 r1) x8 x9 x10))
         (J_delta_Tidy_0 n m1 x4_0 x4_1 x4_2 (at_ (e := YStep) x8 x10) (res_delta_step_0 r1) x8 x9 x10))
        (J_delta_Tidy_0 n m1 x4_0 x4_1 x4_2 (at_ (e := YStep) x8 x10) (res_delta_step_0 r1) x8 x9 x10)))
      (bcond ((((at_ (e := YStep) x8 x10).1 : Int) != 1) == true)
       (bcond ((((at_ (e := YStep) x8 x10).2.1 : Int) == 0) == true)
        (bcond (((res_delta_step_0 r1) : Int) == 2)
         ((C_attr_CheckChange F_attr_CheckChange (at_ (e := YStep) x8 x10).2.2.1).bind fun r2 =>
          (J_delta_Tidy_0 n m1 x4_0 x4_1 x4_2 (at_ (e := YStep) x8 x10) (res_attr_CheckChange_0 r2) x8 x9 x10))
         (J_delta_Tidy_0 n m1 x4_0 x4_1 x4_2 (at_ (e := YStep) x8 x10) (res_delta_step_0 r1) x8 x9 x10))
        (J_delta_Tidy_0 n m1 x4_0 x4_1 x4_2 (at_ (e := YStep) x8 x10) (res_delta_step_0 r1) x8 x9 x10))
       (J_delta_Tidy_0 n m1 x4_0 x4_1 x4_2 (at_ (e := YStep) x8 x10) (res_delta_step_0 r1) x8 x9 x10))))
   else none)
   ((C_delta_writer_done F_delta_writer_done x4_0 x4_1 x4_2).bind fun r1 =>
    (some (ret_delta_Tidy (res_delta_writer_done_0 r1) (res_delta_writer_done_1 r1))))) := by kernel_rfl
theorem ok_delta_Tidy : fnOk os_delta_Tidy sig_delta_Tidy Try.f16 = true := by kernel_rfl
theorem fn_delta_Tidy : P.funcs[16]? = some Try.f16 := by kernel_rfl
noncomputable def F_delta_Tidy : sig_delta_Tidy.Fn := fun x y => run T (env_delta_Tidy) os_delta_Tidy sig_delta_Tidy Try.f16 hs_delta_Tidy big x y
theorem S_delta_Tidy : Sound P 16 ⟨sig_delta_Tidy, F_delta_Tidy⟩ := sound_of (os := os_delta_Tidy) (hs := hs_delta_Tidy) (env_cons S_delta_step (env_cons S_attr_CheckChange (env_cons S_delta_writer_keep (env_cons S_delta_writer_elems (env_cons S_delta_writer_done (env_nil)))))) fn_delta_Tidy ok_delta_Tidy (fun x y out h => ⟨big, h⟩)
theorem e_delta_Tidy (a0 : List YStep.den) : C_delta_Tidy F_delta_Tidy a0 =
  (L_delta_Tidy_0 big big [] [] 0 a0 (List.length a0 : Int) 0) := by kernel_rfl
end Go.Ev
