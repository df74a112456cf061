/- Functions, step by step. -/
import Derived.Test.YtlgjdgebmiegeaaGAct
namespace Go.Ev
set_option linter.unusedVariables false
set_option maxRecDepth 100000
open Go.Proofs
def sig_delta_Axis : Sig := ⟨[.v false (.list YStep)], [], [(false, [.fr (.list YSpan)]), (false, [.fr (.int .i64)])]⟩
def C_delta_Axis (F : sig_delta_Axis.Fn) (a0 : List YStep.den) : Option sig_delta_Axis.Out := F (a0, ()) ()
def ret_delta_Axis (v0 : List YSpan.den) (v1 : Int) : sig_delta_Axis.Out := (((v0, ()), (v1, ()), ()), ())
def res_delta_Axis_0 (r : sig_delta_Axis.Out) : List YSpan.den := r.1.1.1
@[simp] theorem res_delta_Axis_0_ret (v0 : List YSpan.den) (v1 : Int) : res_delta_Axis_0 (ret_delta_Axis v0 v1) = v0 := rfl
def res_delta_Axis_1 (r : sig_delta_Axis.Out) : Int := r.1.2.1.1
@[simp] theorem res_delta_Axis_1_ret (v0 : List YSpan.den) (v1 : Int) : res_delta_Axis_1 (ret_delta_Axis v0 v1) = v1 := rfl
def os_delta_Axis : RegT := ⟨[(10, .st 0 (.st 1 (.st 2 (.st 3 (.st 5 (.st 4 (.st 6 (.st 7 (.st 8 (.st 9 (.st 10 (.nil)))))))))))), (11, .st 0 (.st 1 (.st 3 (.grp [2, 4] (.st 5 (.st 6 (.st 7 (.st 8 (.nil)))))))))], []⟩
def hs_delta_Axis : List Keep := [[(5, [(0, 128, YSpan)]), (14, []), (15, []), (16, [])]]
@[reducible] noncomputable def env_delta_Axis : Env := [(94, ⟨sig_delta_Check, F_delta_Check⟩), (95, ⟨sig_delta_size, F_delta_size⟩)]
noncomputable def L_delta_Axis_0 (n m1 : Nat) (x5 : List YSpan.den) (x14 : List YStep.den) (x15 : Int) (x16 : Int) : Option sig_delta_Axis.Out :=
  loopAt T (env_delta_Axis) os_delta_Axis sig_delta_Axis Try.f30 hs_delta_Axis n [.sr, .sr, .sr, .sl, .sr, .bl] m1 (mk 58 [(5, .cs false [.own 128 YSpan x5]), (14, .cs false [.val (.list YStep) x14]), (15, .cs false [.val (.int .i64) x15]), (16, .cs false [.val (.int .i64) x16])])
theorem L_delta_Axis_0_step (n m1 : Nat) (x5 : List YSpan.den) (x14 : List YStep.den) (x15 : Int) (x16 : Int) : L_delta_Axis_0 n (m1 + 1) x5 x14 x15 x16 =
  (bcond (decide ((x16 : Int) < x15))
   (if 0 ≤ (x16 : Int) ∧ (x16 : Int) < (List.length x14 : Int) then
    (bcond ((((at_ (e := YStep) x14 x16).1 : Int) == 0) == true)
     (bcond ((decide (((IntKind.i64.wrap ((List.length x5 : Int) - 1)) : Int) ≥ 0)) == true)
      (if 0 ≤ ((IntKind.i64.wrap ((List.length x5 : Int) - 1)) : Int) ∧ ((IntKind.i64.wrap ((List.length x5 : Int) - 1)) : Int) < (List.length x5 : Int) then
       (bcond (((at_ (e := YSpan) x5 (IntKind.i64.wrap ((List.length x5 : Int) - 1))).1 : Int) == 0)
        (if 0 ≤ ((IntKind.i64.wrap ((List.length x5 : Int) - 1)) : Int) ∧ ((IntKind.i64.wrap ((List.length x5 : Int) - 1)) : Int) < (List.length x5 : Int) then
         (if 0 ≤ ((IntKind.i64.wrap ((List.length x5 : Int) - 1)) : Int) ∧ ((IntKind.i64.wrap ((List.length x5 : Int) - 1)) : Int) < (List.length x5 : Int) then
          (L_delta_Axis_0 n m1 (List.set x5 (Int.toNat (IntKind.i64.wrap ((List.length x5 : Int) - 1))) ((at_ (e := YSpan) x5 (IntKind.i64.wrap ((List.length x5 : Int) - 1))).1, (IntKind.i64.wrap ((at_ (e := YSpan) x5 (IntKind.i64.wrap ((List.length x5 : Int) - 1))).2 + (at_ (e := YStep) x14 x16).2.1)))) x14 x15 (IntKind.i64.wrap (x16 + 1)))
         else none)
        else none)
        ((C_delta_size F_delta_size (at_ (e := YStep) x14 x16)).bind fun r1 =>
         (if (List.length (x5 : List YSpan.den) + List.length ([((at_ (e := YStep) x14 x16).1, (res_delta_size_0 r1))] : List YSpan.den)) * 16 ≤ 140737488355328 then
          (L_delta_Axis_0 n m1 (x5 ++ [((at_ (e := YStep) x14 x16).1, (res_delta_size_0 r1))]) x14 x15 (IntKind.i64.wrap (x16 + 1)))
         else none)))
      else none)
      ((C_delta_size F_delta_size (at_ (e := YStep) x14 x16)).bind fun r1 =>
       (if (List.length (x5 : List YSpan.den) + List.length ([((at_ (e := YStep) x14 x16).1, (res_delta_size_0 r1))] : List YSpan.den)) * 16 ≤ 140737488355328 then
        (L_delta_Axis_0 n m1 (x5 ++ [((at_ (e := YStep) x14 x16).1, (res_delta_size_0 r1))]) x14 x15 (IntKind.i64.wrap (x16 + 1)))
       else none)))
     ((C_delta_size F_delta_size (at_ (e := YStep) x14 x16)).bind fun r1 =>
      (if (List.length (x5 : List YSpan.den) + List.length ([((at_ (e := YStep) x14 x16).1, (res_delta_size_0 r1))] : List YSpan.den)) * 16 ≤ 140737488355328 then
       (L_delta_Axis_0 n m1 (x5 ++ [((at_ (e := YStep) x14 x16).1, (res_delta_size_0 r1))]) x14 x15 (IntKind.i64.wrap (x16 + 1)))
      else none)))
   else none)
   (some (ret_delta_Axis x5 0))) := by kernel_rfl
theorem ok_delta_Axis : fnOk os_delta_Axis sig_delta_Axis Try.f30 = true := by kernel_rfl
theorem fn_delta_Axis : P.funcs[30]? = some Try.f30 := by kernel_rfl
noncomputable def F_delta_Axis : sig_delta_Axis.Fn := fun x y => run T (env_delta_Axis) os_delta_Axis sig_delta_Axis Try.f30 hs_delta_Axis big x y
theorem S_delta_Axis : Sound P 30 ⟨sig_delta_Axis, F_delta_Axis⟩ := sound_of (os := os_delta_Axis) (hs := hs_delta_Axis) (env_cons S_delta_Check (env_cons S_delta_size (env_nil))) fn_delta_Axis ok_delta_Axis (fun x y out h => ⟨big, h⟩)
theorem e_delta_Axis (a0 : List YStep.den) : C_delta_Axis F_delta_Axis a0 =
  ((C_delta_Check F_delta_Check a0).bind fun r1 =>
   (bcond (((res_delta_Check_0 r1) : Int) != 0)
    (some (ret_delta_Axis [] (res_delta_Check_0 r1)))
    (L_delta_Axis_0 big big [] a0 (List.length a0 : Int) 0))) := by kernel_rfl
def sig_law_plain : Sig := ⟨[.v true YAct], [], [(true, [.fr YAct])]⟩
def C_law_plain (F : sig_law_plain.Fn) (a0 : YAct.den) : Option sig_law_plain.Out := F (a0, ()) ()
def ret_law_plain (v0 : YAct.den) : sig_law_plain.Out := (((v0, ()), ()), ())
def res_law_plain_0 (r : sig_law_plain.Out) : YAct.den := r.1.1.1
@[simp] theorem res_law_plain_0_ret (v0 : YAct.den) : res_law_plain_0 (ret_law_plain v0) = v0 := rfl
def os_law_plain : RegT := ⟨[], []⟩
def hs_law_plain : List Keep := []
@[reducible] noncomputable def env_law_plain : Env := []
theorem ok_law_plain : fnOk os_law_plain sig_law_plain Try.f35 = true := by kernel_rfl
theorem fn_law_plain : P.funcs[35]? = some Try.f35 := by kernel_rfl
noncomputable def F_law_plain : sig_law_plain.Fn := fun x y => run T (env_law_plain) os_law_plain sig_law_plain Try.f35 hs_law_plain big x y
theorem S_law_plain : Sound P 35 ⟨sig_law_plain, F_law_plain⟩ := sound_of (os := os_law_plain) (hs := hs_law_plain) (env_nil) fn_law_plain ok_law_plain (fun x y out h => ⟨big, h⟩)
theorem e_law_plain (a0 : YAct.den) : C_law_plain F_law_plain a0 =
  (if 0 ≤ ((List.length a0.2.1 : Int) : Int) ∧ ((List.length a0.2.1 : Int) : Int) = (List.length a0.2.1 : Int) ∧ ((List.length a0.2.1 : Int) : Int) * 24 ≤ 140737488355328 ∧ ((List.length a0.2.1 : Int) : Int) ≤ 140737488355328 then
   (some (ret_law_plain (a0.1, (a0.2.1, (List.replicate (Int.toNat (List.length a0.2.1 : Int)) ([] : List YAttr.den))))))
  else none) := by kernel_rfl
end Go.Ev
