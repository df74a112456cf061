/- Functions, step by step. -/
import Derived.Test.YtlgjdgebmiegeaaGDiff
import Derived.Test.YtlgjdgebmiegeaaGUndo
namespace Go.Ev
set_option linter.unusedVariables false
set_option maxRecDepth 100000
open Go.Proofs
def sig_R_After : Sig := ⟨[.v false (.list YElem), .v false (.list YStep)], [], [(false, [.fr (.list YElem)])]⟩
def C_R_After (F : sig_R_After.Fn) (a0 : List YElem.den) (a1 : List YStep.den) : Option sig_R_After.Out := F (a0, a1, ()) ()
def ret_R_After (v0 : List YElem.den) : sig_R_After.Out := (((v0, ()), ()), ())
def res_R_After_0 (r : sig_R_After.Out) : List YElem.den := r.1.1.1
@[simp] theorem res_R_After_0_ret (v0 : List YElem.den) : res_R_After_0 (ret_R_After v0) = v0 := rfl
def os_R_After : RegT := ⟨[], [], false⟩
def hs_R_After : List Keep := []
@[reducible] noncomputable def env_R_After : Env := [(21, ⟨sig_R_ActOf, F_R_ActOf⟩), (26, ⟨sig_R_Done, F_R_Done⟩)]
theorem ok_R_After : fnOk os_R_After sig_R_After Try.f68 = true := by kernel_rfl
theorem fn_R_After : P.funcs[68]? = some Try.f68 := by kernel_rfl
noncomputable def F_R_After : sig_R_After.Fn := fun x y => run T (env_R_After) os_R_After sig_R_After Try.f68 hs_R_After big x y
theorem S_R_After : Sound P 68 ⟨sig_R_After, F_R_After⟩ := sound_of (os := os_R_After) (hs := hs_R_After) (env_cons S_R_ActOf (env_cons S_R_Done (env_nil))) fn_R_After ok_R_After (fun x y out h => ⟨big, h⟩)
theorem e_R_After (a0 : List YElem.den) (a1 : List YStep.den) : C_R_After F_R_After a0 a1 =
  ((C_R_ActOf F_R_ActOf a1).bind fun r1 =>
   ((C_R_Done F_R_Done a0 (res_R_ActOf_0 r1)).bind fun r2 =>
    (some (ret_R_After (res_R_Done_0 r2))))) := by kernel_rfl
def sig_law_DiffCostLeast : Sig := ⟨[.v false (.list YElem), .v false (.list YElem)], [], [(false, [.fr .bool])]⟩
def C_law_DiffCostLeast (F : sig_law_DiffCostLeast.Fn) (a0 : List YElem.den) (a1 : List YElem.den) : Option sig_law_DiffCostLeast.Out := F (a0, a1, ()) ()
def ret_law_DiffCostLeast (v0 : Bool) : sig_law_DiffCostLeast.Out := (((v0, ()), ()), ())
def os_law_DiffCostLeast : RegT := ⟨[], [], false⟩
def hs_law_DiffCostLeast : List Keep := []
@[reducible] noncomputable def env_law_DiffCostLeast : Env := [(64, ⟨sig_law_diffs, F_law_diffs⟩), (66, ⟨sig_diff_Flows, F_diff_Flows⟩), (37, ⟨sig_R_PartError, F_R_PartError⟩), (65, ⟨sig_diff_Cost, F_diff_Cost⟩), (31, ⟨sig_R_DeltaError, F_R_DeltaError⟩), (59, ⟨sig_R_DeltaSize, F_R_DeltaSize⟩), (68, ⟨sig_R_After, F_R_After⟩), (25, ⟨sig_R_SameFlow, F_R_SameFlow⟩), (70, ⟨sig_R_Tied, F_R_Tied⟩), (69, ⟨sig_R_DiffCost, F_R_DiffCost⟩)]
noncomputable def J_law_DiffCostLeast_0 (n : Nat) (y0 : List YElem.den) (y1 : List YElem.den) (y5 : List YStep.den) (y6 : Int) (y7 : Int) : Option sig_law_DiffCostLeast.Out :=
  (bcond ((y7 : Int) != 0)
   (bcond (((y6 : Int) == y7) == true)
    (some (ret_law_DiffCostLeast (((List.length y5 : Int) : Int) == 0)))
    (some (ret_law_DiffCostLeast false)))
   (bcond (decide (((if ((List.length y1 : Int) : Int) > (List.length y0 : Int) then (List.length y1 : Int) else (List.length y0 : Int)) : Int) > 120))
    (some (ret_law_DiffCostLeast ((y6 : Int) == 0)))
    ((C_diff_Cost F_diff_Cost y5).bind fun r5 =>
     (bcond (((y6 : Int) == 0) == true)
      ((C_R_DeltaError F_R_DeltaError y5).bind fun r6 =>
       (bcond ((((res_R_DeltaError_0 r6) : Int) == 0) == true)
        ((C_R_DeltaSize F_R_DeltaSize y5).bind fun r7 =>
         (bcond ((((res_R_DeltaSize_0 r7) : Int) == (List.length y0 : Int)) == true)
          ((C_R_After F_R_After y0 y5).bind fun r8 =>
           ((C_R_SameFlow F_R_SameFlow (res_R_After_0 r8) y1).bind fun r9 =>
            (bcond ((res_R_SameFlow_0 r9) == true)
             (bcond ((((res_diff_Cost_1 r5) : Int) == 0) == true)
              ((C_R_Tied F_R_Tied y0 y1).bind fun r10 =>
               ((C_R_DiffCost F_R_DiffCost y0 y1 (res_R_Tied_0 r10)).bind fun r11 =>
                (some (ret_law_DiffCostLeast (((res_diff_Cost_0 r5) : Int) == (res_R_DiffCost_0 r11))))))
              (some (ret_law_DiffCostLeast false)))
             (some (ret_law_DiffCostLeast false)))))
          (some (ret_law_DiffCostLeast false))))
        (some (ret_law_DiffCostLeast false))))
      (some (ret_law_DiffCostLeast false))))))
theorem ok_law_DiffCostLeast : fnOk os_law_DiffCostLeast sig_law_DiffCostLeast Try.f13 = true := by kernel_rfl
theorem fn_law_DiffCostLeast : P.funcs[13]? = some Try.f13 := by kernel_rfl
noncomputable def F_law_DiffCostLeast : sig_law_DiffCostLeast.Fn := fun x y => run T (env_law_DiffCostLeast) os_law_DiffCostLeast sig_law_DiffCostLeast Try.f13 hs_law_DiffCostLeast big x y
theorem S_law_DiffCostLeast : Sound P 13 ⟨sig_law_DiffCostLeast, F_law_DiffCostLeast⟩ := sound_of (os := os_law_DiffCostLeast) (hs := hs_law_DiffCostLeast) (env_cons S_law_diffs (env_cons S_diff_Flows (env_cons S_R_PartError (env_cons S_diff_Cost (env_cons S_R_DeltaError (env_cons S_R_DeltaSize (env_cons S_R_After (env_cons S_R_SameFlow (env_cons S_R_Tied (env_cons S_R_DiffCost (env_nil))))))))))) fn_law_DiffCostLeast ok_law_DiffCostLeast (fun x y out h => ⟨big, h⟩)
theorem e_law_DiffCostLeast (a0 : List YElem.den) (a1 : List YElem.den) : C_law_DiffCostLeast F_law_DiffCostLeast a0 a1 =
  ((C_law_diffs F_law_diffs ).bind fun r1 =>
   (bcond (!(res_law_diffs_0 r1))
    (some (ret_law_DiffCostLeast false))
    ((C_diff_Flows F_diff_Flows a0 a1).bind fun r2 =>
     ((C_R_PartError F_R_PartError a0).bind fun r3 =>
      (bcond (((res_R_PartError_0 r3) : Int) == 0)
       ((C_R_PartError F_R_PartError a1).bind fun r4 =>
        (bcond ((((res_R_PartError_0 r4) : Int) == 0) == true)
         (bcond (decide (((if ((List.length a1 : Int) : Int) > (List.length a0 : Int) then (List.length a1 : Int) else (List.length a0 : Int)) : Int) > 2000))
          (J_law_DiffCostLeast_0 big a0 a1 (res_diff_Flows_0 r2) (res_diff_Flows_1 r2) 3)
          (J_law_DiffCostLeast_0 big a0 a1 (res_diff_Flows_0 r2) (res_diff_Flows_1 r2) (res_R_PartError_0 r4)))
         (J_law_DiffCostLeast_0 big a0 a1 (res_diff_Flows_0 r2) (res_diff_Flows_1 r2) (res_R_PartError_0 r4))))
       (bcond ((((res_R_PartError_0 r3) : Int) == 0) == true)
        (bcond (decide (((if ((List.length a1 : Int) : Int) > (List.length a0 : Int) then (List.length a1 : Int) else (List.length a0 : Int)) : Int) > 2000))
         (J_law_DiffCostLeast_0 big a0 a1 (res_diff_Flows_0 r2) (res_diff_Flows_1 r2) 3)
         (J_law_DiffCostLeast_0 big a0 a1 (res_diff_Flows_0 r2) (res_diff_Flows_1 r2) (res_R_PartError_0 r3)))
        (J_law_DiffCostLeast_0 big a0 a1 (res_diff_Flows_0 r2) (res_diff_Flows_1 r2) (res_R_PartError_0 r3)))))))) := by kernel_rfl
end Go.Ev
