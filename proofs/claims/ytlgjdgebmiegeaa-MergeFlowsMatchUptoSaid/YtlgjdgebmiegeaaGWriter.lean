/- Functions, step by step. -/
import Derived.Test.YtlgjdgebmiegeaaGDelta
namespace Go.Ev
set_option linter.unusedVariables false
set_option maxRecDepth 100000
open Go.Proofs
def sig_delta_writer_flush : Sig := ⟨[.p 0], [[.ow 30 YStep, .ow 113 YElem, .fr (.int .i64)]], []⟩
def C_delta_writer_flush (F : sig_delta_writer_flush.Fn) (b0_0 : List YStep.den) (b0_1 : List YElem.den) (b0_2 : Int) : Option sig_delta_writer_flush.Out := F () ((b0_0, b0_1, b0_2, ()), ())
def ret_delta_writer_flush (v0 : List YStep.den) (v1 : List YElem.den) (v2 : Int) : sig_delta_writer_flush.Out := ((), ((v0, v1, v2, ()), ()))
def res_delta_writer_flush_0 (r : sig_delta_writer_flush.Out) : List YStep.den := r.2.1.1
@[simp] theorem res_delta_writer_flush_0_ret (v0 : List YStep.den) (v1 : List YElem.den) (v2 : Int) : res_delta_writer_flush_0 (ret_delta_writer_flush v0 v1 v2) = v0 := rfl
def res_delta_writer_flush_1 (r : sig_delta_writer_flush.Out) : List YElem.den := r.2.1.2.1
@[simp] theorem res_delta_writer_flush_1_ret (v0 : List YStep.den) (v1 : List YElem.den) (v2 : Int) : res_delta_writer_flush_1 (ret_delta_writer_flush v0 v1 v2) = v1 := rfl
def res_delta_writer_flush_2 (r : sig_delta_writer_flush.Out) : Int := r.2.1.2.2.1
@[simp] theorem res_delta_writer_flush_2_ret (v0 : List YStep.den) (v1 : List YElem.den) (v2 : Int) : res_delta_writer_flush_2 (ret_delta_writer_flush v0 v1 v2) = v2 := rfl
def os_delta_writer_flush : RegT := ⟨[(1, .st 0 (.st 1 (.st 2 (.st 3 (.st 5 (.st 6 (.st 7 (.st 8 (.st 9 (.st 4 (.st 10 (.st 11 (.st 12 (.st 13 (.st 14 (.nil)))))))))))))))), (3, .st 0 (.st 1 (.st 2 (.st 3 (.st 5 (.st 6 (.st 7 (.st 8 (.st 9 (.st 4 (.st 10 (.st 11 (.st 12 (.st 13 (.st 14 (.nil))))))))))))))))], [], false⟩
def hs_delta_writer_flush : List Keep := []
@[reducible] noncomputable def env_delta_writer_flush : Env := []
theorem ok_delta_writer_flush : fnOk os_delta_writer_flush sig_delta_writer_flush Try.f133 = true := by kernel_rfl
theorem fn_delta_writer_flush : P.funcs[133]? = some Try.f133 := by kernel_rfl
noncomputable def F_delta_writer_flush : sig_delta_writer_flush.Fn := fun x y => run T (env_delta_writer_flush) os_delta_writer_flush sig_delta_writer_flush Try.f133 hs_delta_writer_flush big x y
theorem S_delta_writer_flush : Sound P 133 ⟨sig_delta_writer_flush, F_delta_writer_flush⟩ := sound_of (os := os_delta_writer_flush) (hs := hs_delta_writer_flush) (env_nil) fn_delta_writer_flush ok_delta_writer_flush (fun x y out h => ⟨big, h⟩)
theorem e_delta_writer_flush (b0_0 : List YStep.den) (b0_1 : List YElem.den) (b0_2 : Int) : C_delta_writer_flush F_delta_writer_flush b0_0 b0_1 b0_2 =
  (bcond (decide (((List.length b0_1 : Int) : Int) > 0))
   (if (List.length (b0_0 : List YStep.den) + List.length ([(1, (0, ([], b0_1)))] : List YStep.den)) * 64 ≤ 140737488355328 then
    (bcond (decide ((b0_2 : Int) > 0))
     (if (List.length ((b0_0 ++ [(1, (0, ([], b0_1)))]) : List YStep.den) + List.length ([(2, (b0_2, ([], [])))] : List YStep.den)) * 64 ≤ 140737488355328 then
      (some (ret_delta_writer_flush ((b0_0 ++ [(1, (0, ([], b0_1)))]) ++ [(2, (b0_2, ([], [])))]) [] 0))
     else none)
     (some (ret_delta_writer_flush (b0_0 ++ [(1, (0, ([], b0_1)))]) [] 0)))
   else none)
   (bcond (decide ((b0_2 : Int) > 0))
    (if (List.length (b0_0 : List YStep.den) + List.length ([(2, (b0_2, ([], [])))] : List YStep.den)) * 64 ≤ 140737488355328 then
     (some (ret_delta_writer_flush (b0_0 ++ [(2, (b0_2, ([], [])))]) [] 0))
    else none)
    (some (ret_delta_writer_flush b0_0 [] 0)))) := by kernel_rfl
def sig_delta_writer_keep : Sig := ⟨[.p 0, .v false (.int .i64), .v false (.list YAttr)], [[.ow 30 YStep, .ow 113 YElem, .fr (.int .i64)]], []⟩
def C_delta_writer_keep (F : sig_delta_writer_keep.Fn) (a1 : Int) (a2 : List YAttr.den) (b0_0 : List YStep.den) (b0_1 : List YElem.den) (b0_2 : Int) : Option sig_delta_writer_keep.Out := F (a1, a2, ()) ((b0_0, b0_1, b0_2, ()), ())
def ret_delta_writer_keep (v0 : List YStep.den) (v1 : List YElem.den) (v2 : Int) : sig_delta_writer_keep.Out := ((), ((v0, v1, v2, ()), ()))
def res_delta_writer_keep_0 (r : sig_delta_writer_keep.Out) : List YStep.den := r.2.1.1
@[simp] theorem res_delta_writer_keep_0_ret (v0 : List YStep.den) (v1 : List YElem.den) (v2 : Int) : res_delta_writer_keep_0 (ret_delta_writer_keep v0 v1 v2) = v0 := rfl
def res_delta_writer_keep_1 (r : sig_delta_writer_keep.Out) : List YElem.den := r.2.1.2.1
@[simp] theorem res_delta_writer_keep_1_ret (v0 : List YStep.den) (v1 : List YElem.den) (v2 : Int) : res_delta_writer_keep_1 (ret_delta_writer_keep v0 v1 v2) = v1 := rfl
def res_delta_writer_keep_2 (r : sig_delta_writer_keep.Out) : Int := r.2.1.2.2.1
@[simp] theorem res_delta_writer_keep_2_ret (v0 : List YStep.den) (v1 : List YElem.den) (v2 : Int) : res_delta_writer_keep_2 (ret_delta_writer_keep v0 v1 v2) = v2 := rfl
def os_delta_writer_keep : RegT := ⟨[(5, .st 0 (.st 1 (.st 2 (.st 3 (.st 5 (.st 6 (.alt 4 (.st 7 (.st 8 (.st 9 (.st 10 (.st 11 (.st 12 (.st 13 (.nil)))))))) (.st 7 (.st 8 (.st 4 (.st 9 (.st 10 (.st 11 (.st 12 (.st 13 (.nil))))))))))))))))], [], false⟩
def hs_delta_writer_keep : List Keep := []
@[reducible] noncomputable def env_delta_writer_keep : Env := [(133, ⟨sig_delta_writer_flush, F_delta_writer_flush⟩), (134, ⟨sig_attr_Same, F_attr_Same⟩)]
theorem raw_delta_writer_keep (n : Nat) (a1 : Int) (a2 : List YAttr.den) (b0_0 : List YStep.den) (b0_1 : List YElem.den) (b0_2 : Int) : C_delta_writer_keep (fun x y => run T (env_delta_writer_keep) os_delta_writer_keep sig_delta_writer_keep Try.f80 hs_delta_writer_keep n x y) a1 a2 b0_0 b0_1 b0_2 =
  (bcond ((a1 : Int) == 0)
   (some (ret_delta_writer_keep b0_0 b0_1 b0_2))
   ((C_delta_writer_flush F_delta_writer_flush b0_0 b0_1 b0_2).bind fun r1 =>
    (bcond ((decide (((IntKind.i64.wrap ((List.length (res_delta_writer_flush_0 r1) : Int) - 1)) : Int) ≥ 0)) == true)
     (if 0 ≤ ((IntKind.i64.wrap ((List.length (res_delta_writer_flush_0 r1) : Int) - 1)) : Int) ∧ ((IntKind.i64.wrap ((List.length (res_delta_writer_flush_0 r1) : Int) - 1)) : Int) < (List.length (res_delta_writer_flush_0 r1) : Int) then
      (bcond ((((at_ (e := YStep) (res_delta_writer_flush_0 r1) (IntKind.i64.wrap ((List.length (res_delta_writer_flush_0 r1) : Int) - 1))).1 : Int) == 0) == true)
       (if 0 ≤ ((IntKind.i64.wrap ((List.length (res_delta_writer_flush_0 r1) : Int) - 1)) : Int) ∧ ((IntKind.i64.wrap ((List.length (res_delta_writer_flush_0 r1) : Int) - 1)) : Int) < (List.length (res_delta_writer_flush_0 r1) : Int) then
        ((C_attr_Same F_attr_Same (at_ (e := YStep) (res_delta_writer_flush_0 r1) (IntKind.i64.wrap ((List.length (res_delta_writer_flush_0 r1) : Int) - 1))).2.2.1 a2).bind fun r2 =>
         (bcond (res_attr_Same_0 r2)
          (if 0 ≤ ((IntKind.i64.wrap ((List.length (res_delta_writer_flush_0 r1) : Int) - 1)) : Int) ∧ ((IntKind.i64.wrap ((List.length (res_delta_writer_flush_0 r1) : Int) - 1)) : Int) < (List.length (res_delta_writer_flush_0 r1) : Int) then
           (if 0 ≤ ((IntKind.i64.wrap ((List.length (res_delta_writer_flush_0 r1) : Int) - 1)) : Int) ∧ ((IntKind.i64.wrap ((List.length (res_delta_writer_flush_0 r1) : Int) - 1)) : Int) < (List.length (res_delta_writer_flush_0 r1) : Int) then
            (some (ret_delta_writer_keep (List.set (res_delta_writer_flush_0 r1) (Int.toNat (IntKind.i64.wrap ((List.length (res_delta_writer_flush_0 r1) : Int) - 1))) ((at_ (e := YStep) (res_delta_writer_flush_0 r1) (IntKind.i64.wrap ((List.length (res_delta_writer_flush_0 r1) : Int) - 1))).1, ((IntKind.i64.wrap ((at_ (e := YStep) (res_delta_writer_flush_0 r1) (IntKind.i64.wrap ((List.length (res_delta_writer_flush_0 r1) : Int) - 1))).2.1 + a1)), (at_ (e := YStep) (res_delta_writer_flush_0 r1) (IntKind.i64.wrap ((List.length (res_delta_writer_flush_0 r1) : Int) - 1))).2.2))) (res_delta_writer_flush_1 r1) (res_delta_writer_flush_2 r1)))
           else none)
          else none)
          (agree
           (if List.length (a2 : List YAttr.den) * 32 ≤ 140737488355328 then
            (if (List.length ((res_delta_writer_flush_0 r1) : List YStep.den) + List.length ([(0, (a1, (a2, [])))] : List YStep.den)) * 64 ≤ 140737488355328 then
             (some (ret_delta_writer_keep ((res_delta_writer_flush_0 r1) ++ [(0, (a1, (a2, [])))]) (res_delta_writer_flush_1 r1) (res_delta_writer_flush_2 r1)))
            else none)
           else none)
           (if List.length (a2 : List YAttr.den) * 32 ≤ 140737488355328 then
            (if (List.length ((res_delta_writer_flush_0 r1) : List YStep.den) + List.length ([(0, (a1, (a2, [])))] : List YStep.den)) * 64 ≤ 140737488355328 then
             (some (ret_delta_writer_keep ((res_delta_writer_flush_0 r1) ++ [(0, (a1, (a2, [])))]) (res_delta_writer_flush_1 r1) (res_delta_writer_flush_2 r1)))
            else none)
           else none))))
       else none)
       (agree
        (if List.length (a2 : List YAttr.den) * 32 ≤ 140737488355328 then
         (if (List.length ((res_delta_writer_flush_0 r1) : List YStep.den) + List.length ([(0, (a1, (a2, [])))] : List YStep.den)) * 64 ≤ 140737488355328 then
          (some (ret_delta_writer_keep ((res_delta_writer_flush_0 r1) ++ [(0, (a1, (a2, [])))]) (res_delta_writer_flush_1 r1) (res_delta_writer_flush_2 r1)))
         else none)
        else none)
        (if List.length (a2 : List YAttr.den) * 32 ≤ 140737488355328 then
         (if (List.length ((res_delta_writer_flush_0 r1) : List YStep.den) + List.length ([(0, (a1, (a2, [])))] : List YStep.den)) * 64 ≤ 140737488355328 then
          (some (ret_delta_writer_keep ((res_delta_writer_flush_0 r1) ++ [(0, (a1, (a2, [])))]) (res_delta_writer_flush_1 r1) (res_delta_writer_flush_2 r1)))
         else none)
        else none)))
     else none)
     (agree
      (if List.length (a2 : List YAttr.den) * 32 ≤ 140737488355328 then
       (if (List.length ((res_delta_writer_flush_0 r1) : List YStep.den) + List.length ([(0, (a1, (a2, [])))] : List YStep.den)) * 64 ≤ 140737488355328 then
        (some (ret_delta_writer_keep ((res_delta_writer_flush_0 r1) ++ [(0, (a1, (a2, [])))]) (res_delta_writer_flush_1 r1) (res_delta_writer_flush_2 r1)))
       else none)
      else none)
      (if List.length (a2 : List YAttr.den) * 32 ≤ 140737488355328 then
       (if (List.length ((res_delta_writer_flush_0 r1) : List YStep.den) + List.length ([(0, (a1, (a2, [])))] : List YStep.den)) * 64 ≤ 140737488355328 then
        (some (ret_delta_writer_keep ((res_delta_writer_flush_0 r1) ++ [(0, (a1, (a2, [])))]) (res_delta_writer_flush_1 r1) (res_delta_writer_flush_2 r1)))
       else none)
      else none))))) := by kernel_rfl
theorem run_delta_writer_keep (n : Nat) (a1 : Int) (a2 : List YAttr.den) (b0_0 : List YStep.den) (b0_1 : List YElem.den) (b0_2 : Int) : C_delta_writer_keep (fun x y => run T (env_delta_writer_keep) os_delta_writer_keep sig_delta_writer_keep Try.f80 hs_delta_writer_keep n x y) a1 a2 b0_0 b0_1 b0_2 =
  (bcond ((a1 : Int) == 0)
   (some (ret_delta_writer_keep b0_0 b0_1 b0_2))
   ((C_delta_writer_flush F_delta_writer_flush b0_0 b0_1 b0_2).bind fun r1 =>
    (bcond ((decide (((IntKind.i64.wrap ((List.length (res_delta_writer_flush_0 r1) : Int) - 1)) : Int) ≥ 0)) == true)
     (if 0 ≤ ((IntKind.i64.wrap ((List.length (res_delta_writer_flush_0 r1) : Int) - 1)) : Int) ∧ ((IntKind.i64.wrap ((List.length (res_delta_writer_flush_0 r1) : Int) - 1)) : Int) < (List.length (res_delta_writer_flush_0 r1) : Int) then
      (bcond ((((at_ (e := YStep) (res_delta_writer_flush_0 r1) (IntKind.i64.wrap ((List.length (res_delta_writer_flush_0 r1) : Int) - 1))).1 : Int) == 0) == true)
       (if 0 ≤ ((IntKind.i64.wrap ((List.length (res_delta_writer_flush_0 r1) : Int) - 1)) : Int) ∧ ((IntKind.i64.wrap ((List.length (res_delta_writer_flush_0 r1) : Int) - 1)) : Int) < (List.length (res_delta_writer_flush_0 r1) : Int) then
        ((C_attr_Same F_attr_Same (at_ (e := YStep) (res_delta_writer_flush_0 r1) (IntKind.i64.wrap ((List.length (res_delta_writer_flush_0 r1) : Int) - 1))).2.2.1 a2).bind fun r2 =>
         (bcond (res_attr_Same_0 r2)
          (if 0 ≤ ((IntKind.i64.wrap ((List.length (res_delta_writer_flush_0 r1) : Int) - 1)) : Int) ∧ ((IntKind.i64.wrap ((List.length (res_delta_writer_flush_0 r1) : Int) - 1)) : Int) < (List.length (res_delta_writer_flush_0 r1) : Int) then
           (if 0 ≤ ((IntKind.i64.wrap ((List.length (res_delta_writer_flush_0 r1) : Int) - 1)) : Int) ∧ ((IntKind.i64.wrap ((List.length (res_delta_writer_flush_0 r1) : Int) - 1)) : Int) < (List.length (res_delta_writer_flush_0 r1) : Int) then
            (some (ret_delta_writer_keep (List.set (res_delta_writer_flush_0 r1) (Int.toNat (IntKind.i64.wrap ((List.length (res_delta_writer_flush_0 r1) : Int) - 1))) ((at_ (e := YStep) (res_delta_writer_flush_0 r1) (IntKind.i64.wrap ((List.length (res_delta_writer_flush_0 r1) : Int) - 1))).1, ((IntKind.i64.wrap ((at_ (e := YStep) (res_delta_writer_flush_0 r1) (IntKind.i64.wrap ((List.length (res_delta_writer_flush_0 r1) : Int) - 1))).2.1 + a1)), (at_ (e := YStep) (res_delta_writer_flush_0 r1) (IntKind.i64.wrap ((List.length (res_delta_writer_flush_0 r1) : Int) - 1))).2.2))) (res_delta_writer_flush_1 r1) (res_delta_writer_flush_2 r1)))
           else none)
          else none)
          (if List.length (a2 : List YAttr.den) * 32 ≤ 140737488355328 then
           (if (List.length ((res_delta_writer_flush_0 r1) : List YStep.den) + List.length ([(0, (a1, (a2, [])))] : List YStep.den)) * 64 ≤ 140737488355328 then
            (some (ret_delta_writer_keep ((res_delta_writer_flush_0 r1) ++ [(0, (a1, (a2, [])))]) (res_delta_writer_flush_1 r1) (res_delta_writer_flush_2 r1)))
           else none)
          else none)))
       else none)
       (if List.length (a2 : List YAttr.den) * 32 ≤ 140737488355328 then
        (if (List.length ((res_delta_writer_flush_0 r1) : List YStep.den) + List.length ([(0, (a1, (a2, [])))] : List YStep.den)) * 64 ≤ 140737488355328 then
         (some (ret_delta_writer_keep ((res_delta_writer_flush_0 r1) ++ [(0, (a1, (a2, [])))]) (res_delta_writer_flush_1 r1) (res_delta_writer_flush_2 r1)))
        else none)
       else none))
     else none)
     (if List.length (a2 : List YAttr.den) * 32 ≤ 140737488355328 then
      (if (List.length ((res_delta_writer_flush_0 r1) : List YStep.den) + List.length ([(0, (a1, (a2, [])))] : List YStep.den)) * 64 ≤ 140737488355328 then
       (some (ret_delta_writer_keep ((res_delta_writer_flush_0 r1) ++ [(0, (a1, (a2, [])))]) (res_delta_writer_flush_1 r1) (res_delta_writer_flush_2 r1)))
      else none)
     else none)))) := by rw [raw_delta_writer_keep]; simp only [agree_self]
theorem ok_delta_writer_keep : fnOk os_delta_writer_keep sig_delta_writer_keep Try.f80 = true := by kernel_rfl
theorem fn_delta_writer_keep : P.funcs[80]? = some Try.f80 := by kernel_rfl
noncomputable def F_delta_writer_keep : sig_delta_writer_keep.Fn := fun x y => run T (env_delta_writer_keep) os_delta_writer_keep sig_delta_writer_keep Try.f80 hs_delta_writer_keep big x y
theorem S_delta_writer_keep : Sound P 80 ⟨sig_delta_writer_keep, F_delta_writer_keep⟩ := sound_of (os := os_delta_writer_keep) (hs := hs_delta_writer_keep) (env_cons S_delta_writer_flush (env_cons S_attr_Same (env_nil))) fn_delta_writer_keep ok_delta_writer_keep (fun x y out h => ⟨big, h⟩)
theorem e_delta_writer_keep (a1 : Int) (a2 : List YAttr.den) (b0_0 : List YStep.den) (b0_1 : List YElem.den) (b0_2 : Int) : C_delta_writer_keep F_delta_writer_keep a1 a2 b0_0 b0_1 b0_2 =
  (bcond ((a1 : Int) == 0)
   (some (ret_delta_writer_keep b0_0 b0_1 b0_2))
   ((C_delta_writer_flush F_delta_writer_flush b0_0 b0_1 b0_2).bind fun r1 =>
    (bcond ((decide (((IntKind.i64.wrap ((List.length (res_delta_writer_flush_0 r1) : Int) - 1)) : Int) ≥ 0)) == true)
     (if 0 ≤ ((IntKind.i64.wrap ((List.length (res_delta_writer_flush_0 r1) : Int) - 1)) : Int) ∧ ((IntKind.i64.wrap ((List.length (res_delta_writer_flush_0 r1) : Int) - 1)) : Int) < (List.length (res_delta_writer_flush_0 r1) : Int) then
      (bcond ((((at_ (e := YStep) (res_delta_writer_flush_0 r1) (IntKind.i64.wrap ((List.length (res_delta_writer_flush_0 r1) : Int) - 1))).1 : Int) == 0) == true)
       (if 0 ≤ ((IntKind.i64.wrap ((List.length (res_delta_writer_flush_0 r1) : Int) - 1)) : Int) ∧ ((IntKind.i64.wrap ((List.length (res_delta_writer_flush_0 r1) : Int) - 1)) : Int) < (List.length (res_delta_writer_flush_0 r1) : Int) then
        ((C_attr_Same F_attr_Same (at_ (e := YStep) (res_delta_writer_flush_0 r1) (IntKind.i64.wrap ((List.length (res_delta_writer_flush_0 r1) : Int) - 1))).2.2.1 a2).bind fun r2 =>
         (bcond (res_attr_Same_0 r2)
          (if 0 ≤ ((IntKind.i64.wrap ((List.length (res_delta_writer_flush_0 r1) : Int) - 1)) : Int) ∧ ((IntKind.i64.wrap ((List.length (res_delta_writer_flush_0 r1) : Int) - 1)) : Int) < (List.length (res_delta_writer_flush_0 r1) : Int) then
           (if 0 ≤ ((IntKind.i64.wrap ((List.length (res_delta_writer_flush_0 r1) : Int) - 1)) : Int) ∧ ((IntKind.i64.wrap ((List.length (res_delta_writer_flush_0 r1) : Int) - 1)) : Int) < (List.length (res_delta_writer_flush_0 r1) : Int) then
            (some (ret_delta_writer_keep (List.set (res_delta_writer_flush_0 r1) (Int.toNat (IntKind.i64.wrap ((List.length (res_delta_writer_flush_0 r1) : Int) - 1))) ((at_ (e := YStep) (res_delta_writer_flush_0 r1) (IntKind.i64.wrap ((List.length (res_delta_writer_flush_0 r1) : Int) - 1))).1, ((IntKind.i64.wrap ((at_ (e := YStep) (res_delta_writer_flush_0 r1) (IntKind.i64.wrap ((List.length (res_delta_writer_flush_0 r1) : Int) - 1))).2.1 + a1)), (at_ (e := YStep) (res_delta_writer_flush_0 r1) (IntKind.i64.wrap ((List.length (res_delta_writer_flush_0 r1) : Int) - 1))).2.2))) (res_delta_writer_flush_1 r1) (res_delta_writer_flush_2 r1)))
           else none)
          else none)
          (if List.length (a2 : List YAttr.den) * 32 ≤ 140737488355328 then
           (if (List.length ((res_delta_writer_flush_0 r1) : List YStep.den) + List.length ([(0, (a1, (a2, [])))] : List YStep.den)) * 64 ≤ 140737488355328 then
            (some (ret_delta_writer_keep ((res_delta_writer_flush_0 r1) ++ [(0, (a1, (a2, [])))]) (res_delta_writer_flush_1 r1) (res_delta_writer_flush_2 r1)))
           else none)
          else none)))
       else none)
       (if List.length (a2 : List YAttr.den) * 32 ≤ 140737488355328 then
        (if (List.length ((res_delta_writer_flush_0 r1) : List YStep.den) + List.length ([(0, (a1, (a2, [])))] : List YStep.den)) * 64 ≤ 140737488355328 then
         (some (ret_delta_writer_keep ((res_delta_writer_flush_0 r1) ++ [(0, (a1, (a2, [])))]) (res_delta_writer_flush_1 r1) (res_delta_writer_flush_2 r1)))
        else none)
       else none))
     else none)
     (if List.length (a2 : List YAttr.den) * 32 ≤ 140737488355328 then
      (if (List.length ((res_delta_writer_flush_0 r1) : List YStep.den) + List.length ([(0, (a1, (a2, [])))] : List YStep.den)) * 64 ≤ 140737488355328 then
       (some (ret_delta_writer_keep ((res_delta_writer_flush_0 r1) ++ [(0, (a1, (a2, [])))]) (res_delta_writer_flush_1 r1) (res_delta_writer_flush_2 r1)))
      else none)
     else none)))) := run_delta_writer_keep big a1 a2 b0_0 b0_1 b0_2
def sig_delta_writer_elems : Sig := ⟨[.p 0, .v false (.list YElem)], [[.ow 30 YStep, .ow 113 YElem, .fr (.int .i64)]], []⟩
def C_delta_writer_elems (F : sig_delta_writer_elems.Fn) (a1 : List YElem.den) (b0_0 : List YStep.den) (b0_1 : List YElem.den) (b0_2 : Int) : Option sig_delta_writer_elems.Out := F (a1, ()) ((b0_0, b0_1, b0_2, ()), ())
def ret_delta_writer_elems (v0 : List YStep.den) (v1 : List YElem.den) (v2 : Int) : sig_delta_writer_elems.Out := ((), ((v0, v1, v2, ()), ()))
def res_delta_writer_elems_0 (r : sig_delta_writer_elems.Out) : List YStep.den := r.2.1.1
@[simp] theorem res_delta_writer_elems_0_ret (v0 : List YStep.den) (v1 : List YElem.den) (v2 : Int) : res_delta_writer_elems_0 (ret_delta_writer_elems v0 v1 v2) = v0 := rfl
def res_delta_writer_elems_1 (r : sig_delta_writer_elems.Out) : List YElem.den := r.2.1.2.1
@[simp] theorem res_delta_writer_elems_1_ret (v0 : List YStep.den) (v1 : List YElem.den) (v2 : Int) : res_delta_writer_elems_1 (ret_delta_writer_elems v0 v1 v2) = v1 := rfl
def res_delta_writer_elems_2 (r : sig_delta_writer_elems.Out) : Int := r.2.1.2.2.1
@[simp] theorem res_delta_writer_elems_2_ret (v0 : List YStep.den) (v1 : List YElem.den) (v2 : Int) : res_delta_writer_elems_2 (ret_delta_writer_elems v0 v1 v2) = v2 := rfl
def os_delta_writer_elems : RegT := ⟨[(0, .st 0 (.st 1 (.st 2 (.st 3 (.st 5 (.grp [4, 6] (.st 7 (.st 8 (.st 9 (.st 10 (.nil)))))))))))], [], false⟩
def hs_delta_writer_elems : List Keep := []
@[reducible] noncomputable def env_delta_writer_elems : Env := [(135, ⟨sig_flow_Copy, F_flow_Copy⟩)]
theorem ok_delta_writer_elems : fnOk os_delta_writer_elems sig_delta_writer_elems Try.f81 = true := by kernel_rfl
theorem fn_delta_writer_elems : P.funcs[81]? = some Try.f81 := by kernel_rfl
noncomputable def F_delta_writer_elems : sig_delta_writer_elems.Fn := fun x y => run T (env_delta_writer_elems) os_delta_writer_elems sig_delta_writer_elems Try.f81 hs_delta_writer_elems big x y
theorem S_delta_writer_elems : Sound P 81 ⟨sig_delta_writer_elems, F_delta_writer_elems⟩ := sound_of (os := os_delta_writer_elems) (hs := hs_delta_writer_elems) (env_cons S_flow_Copy (env_nil)) fn_delta_writer_elems ok_delta_writer_elems (fun x y out h => ⟨big, h⟩)
theorem e_delta_writer_elems (a1 : List YElem.den) (b0_0 : List YStep.den) (b0_1 : List YElem.den) (b0_2 : Int) : C_delta_writer_elems F_delta_writer_elems a1 b0_0 b0_1 b0_2 =
  ((C_flow_Copy F_flow_Copy a1).bind fun r1 =>
   (if (List.length (b0_1 : List YElem.den) + List.length ((res_flow_Copy_0 r1) : List YElem.den)) * 40 ≤ 140737488355328 then
    (some (ret_delta_writer_elems b0_0 (b0_1 ++ (res_flow_Copy_0 r1)) b0_2))
   else none)) := by kernel_rfl
def sig_delta_writer_done : Sig := ⟨[.p 0], [[.oo 30 YStep, .ow 113 YElem, .fr (.int .i64)]], [(false, [.fr (.list YStep)]), (false, [.fr (.int .i64)])]⟩
def C_delta_writer_done (F : sig_delta_writer_done.Fn) (b0_0 : List YStep.den) (b0_1 : List YElem.den) (b0_2 : Int) : Option sig_delta_writer_done.Out := F () (((some b0_0), b0_1, b0_2, ()), ())
def ret_delta_writer_done (v0 : List YStep.den) (v1 : Int) (v2 : Option (List YStep.den)) (v3 : List YElem.den) (v4 : Int) : sig_delta_writer_done.Out := (((v0, ()), (v1, ()), ()), ((v2, v3, v4, ()), ()))
def res_delta_writer_done_0 (r : sig_delta_writer_done.Out) : List YStep.den := r.1.1.1
@[simp] theorem res_delta_writer_done_0_ret (v0 : List YStep.den) (v1 : Int) (v2 : Option (List YStep.den)) (v3 : List YElem.den) (v4 : Int) : res_delta_writer_done_0 (ret_delta_writer_done v0 v1 v2 v3 v4) = v0 := rfl
def res_delta_writer_done_1 (r : sig_delta_writer_done.Out) : Int := r.1.2.1.1
@[simp] theorem res_delta_writer_done_1_ret (v0 : List YStep.den) (v1 : Int) (v2 : Option (List YStep.den)) (v3 : List YElem.den) (v4 : Int) : res_delta_writer_done_1 (ret_delta_writer_done v0 v1 v2 v3 v4) = v1 := rfl
def os_delta_writer_done : RegT := ⟨[], [], false⟩
def hs_delta_writer_done : List Keep := []
@[reducible] noncomputable def env_delta_writer_done : Env := [(133, ⟨sig_delta_writer_flush, F_delta_writer_flush⟩), (94, ⟨sig_delta_Check, F_delta_Check⟩)]
theorem ok_delta_writer_done : fnOk os_delta_writer_done sig_delta_writer_done Try.f82 = true := by kernel_rfl
theorem fn_delta_writer_done : P.funcs[82]? = some Try.f82 := by kernel_rfl
noncomputable def F_delta_writer_done : sig_delta_writer_done.Fn := fun x y => run T (env_delta_writer_done) os_delta_writer_done sig_delta_writer_done Try.f82 hs_delta_writer_done big x y
theorem S_delta_writer_done : Sound P 82 ⟨sig_delta_writer_done, F_delta_writer_done⟩ := sound_of (os := os_delta_writer_done) (hs := hs_delta_writer_done) (env_cons S_delta_writer_flush (env_cons S_delta_Check (env_nil))) fn_delta_writer_done ok_delta_writer_done (fun x y out h => ⟨big, h⟩)
theorem e_delta_writer_done (b0_0 : List YStep.den) (b0_1 : List YElem.den) (b0_2 : Int) : C_delta_writer_done F_delta_writer_done b0_0 b0_1 b0_2 =
  ((C_delta_writer_flush F_delta_writer_flush b0_0 b0_1 b0_2).bind fun r1 =>
   ((C_delta_Check F_delta_Check (res_delta_writer_flush_0 r1)).bind fun r2 =>
    (bcond (((res_delta_Check_0 r2) : Int) != 0)
     (some (ret_delta_writer_done [] 3 (some (res_delta_writer_flush_0 r1)) (res_delta_writer_flush_1 r1) (res_delta_writer_flush_2 r1)))
     (some (ret_delta_writer_done (res_delta_writer_flush_0 r1) 0 none (res_delta_writer_flush_1 r1) (res_delta_writer_flush_2 r1)))))) := by kernel_rfl
end Go.Ev
