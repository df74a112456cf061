/- Functions, step by step. -/
import Derived.Test.YtpmeeopafdgbpaaDoorGGridF
namespace Go.Ev
set_option linter.unusedVariables false
set_option maxRecDepth 100000
open Go.Proofs
def sig_law_GridApplyMatches : Sig := ⟨[.v true YGrid, .v true YGridEdit], [], [(false, [.fr .bool])]⟩
def C_law_GridApplyMatches (F : sig_law_GridApplyMatches.Fn) (a0 : YGrid.den) (a1 : YGridEdit.den) : Option sig_law_GridApplyMatches.Out := F (a0, a1, ()) ()
def ret_law_GridApplyMatches (v0 : Bool) : sig_law_GridApplyMatches.Out := (((v0, ()), ()), ())
def os_law_GridApplyMatches : RegT := ⟨[(11, .st 0 (.st 1 (.st 2 (.st 3 (.st 4 (.st 5 (.st 6 (.st 7 (.st 9 (.st 10 (.grp [8, 11] (.st 12 (.st 13 (.st 14 (.st 15 (.nil))))))))))))))))], [], false⟩
def hs_law_GridApplyMatches : List Keep := []
@[reducible] noncomputable def env_law_GridApplyMatches : Env := [(6, ⟨sig_law_grids, F_law_grids⟩), (7, ⟨sig_grid_Apply, F_grid_Apply⟩), (8, ⟨sig_R_GridError, F_R_GridError⟩), (9, ⟨sig_R_EditError, F_R_EditError⟩), (10, ⟨sig_R_FitError, F_R_FitError⟩), (11, ⟨sig_R_SameGrid, F_R_SameGrid⟩), (12, ⟨sig_R_SmallGrid, F_R_SmallGrid⟩), (13, ⟨sig_R_Edited, F_R_Edited⟩)]
noncomputable def J_law_GridApplyMatches_0 (n : Nat) (y2 : YGrid.den) (y3 : YGridEdit.den) (y5 : YGrid.den) (y6 : Int) (y7 : Int) : Option sig_law_GridApplyMatches.Out :=
  (bcond ((y7 : Int) != 0)
   (bcond (((y6 : Int) == y7) == true)
    ((C_R_SameGrid F_R_SameGrid y5 (0, (0, ([], [])))).bind fun r6 =>
     (some (ret_law_GridApplyMatches (res_R_SameGrid_0 r6))))
    (some (ret_law_GridApplyMatches false)))
   (bcond (((y6 : Int) == 0) == true)
    ((C_R_SmallGrid F_R_SmallGrid y2 y3).bind fun r6 =>
     (bcond ((!(res_R_SmallGrid_0 r6)) == false)
      ((C_R_Edited F_R_Edited y2 y3).bind fun r7 =>
       ((C_R_SameGrid F_R_SameGrid y5 (res_R_Edited_0 r7)).bind fun r8 =>
        (some (ret_law_GridApplyMatches (res_R_SameGrid_0 r8)))))
      (some (ret_law_GridApplyMatches true))))
    (some (ret_law_GridApplyMatches false))))
theorem ok_law_GridApplyMatches : fnOk os_law_GridApplyMatches sig_law_GridApplyMatches Tryd.f3 = true := by kernel_rfl
theorem fn_law_GridApplyMatches : P.funcs[3]? = some Tryd.f3 := by kernel_rfl
noncomputable def F_law_GridApplyMatches : sig_law_GridApplyMatches.Fn := fun x y => run T (env_law_GridApplyMatches) os_law_GridApplyMatches sig_law_GridApplyMatches Tryd.f3 hs_law_GridApplyMatches big x y
theorem S_law_GridApplyMatches : Sound P 3 ⟨sig_law_GridApplyMatches, F_law_GridApplyMatches⟩ := sound_of (os := os_law_GridApplyMatches) (hs := hs_law_GridApplyMatches) (env_cons S_law_grids (env_cons S_grid_Apply (env_cons S_R_GridError (env_cons S_R_EditError (env_cons S_R_FitError (env_cons S_R_SameGrid (env_cons S_R_SmallGrid (env_cons S_R_Edited (env_nil))))))))) fn_law_GridApplyMatches ok_law_GridApplyMatches (fun x y out h => ⟨big, h⟩)
theorem e_law_GridApplyMatches (a0 : YGrid.den) (a1 : YGridEdit.den) : C_law_GridApplyMatches F_law_GridApplyMatches a0 a1 =
  ((C_law_grids F_law_grids ).bind fun r1 =>
   (bcond (!(res_law_grids_0 r1))
    (some (ret_law_GridApplyMatches false))
    ((C_grid_Apply F_grid_Apply a0 a1).bind fun r2 =>
     ((C_R_GridError F_R_GridError a0).bind fun r3 =>
      (bcond (((res_R_GridError_0 r3) : Int) == 0)
       ((C_R_EditError F_R_EditError a1).bind fun r4 =>
        (bcond (((res_R_EditError_0 r4) : Int) == 0)
         ((C_R_FitError F_R_FitError a0 a1).bind fun r5 =>
          (J_law_GridApplyMatches_0 big a0 a1 (res_grid_Apply_0 r2) (res_grid_Apply_1 r2) (res_R_FitError_0 r5)))
         (J_law_GridApplyMatches_0 big a0 a1 (res_grid_Apply_0 r2) (res_grid_Apply_1 r2) (res_R_EditError_0 r4))))
       (bcond (((res_R_GridError_0 r3) : Int) == 0)
        ((C_R_FitError F_R_FitError a0 a1).bind fun r4 =>
         (J_law_GridApplyMatches_0 big a0 a1 (res_grid_Apply_0 r2) (res_grid_Apply_1 r2) (res_R_FitError_0 r4)))
        (J_law_GridApplyMatches_0 big a0 a1 (res_grid_Apply_0 r2) (res_grid_Apply_1 r2) (res_R_GridError_0 r3)))))))) := by kernel_rfl
end Go.Ev
