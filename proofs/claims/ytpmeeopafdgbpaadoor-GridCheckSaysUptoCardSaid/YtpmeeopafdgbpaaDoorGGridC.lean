/- Functions, step by step. -/
import Derived.Test.YtpmeeopafdgbpaaDoorGGridE
namespace Go.Ev
set_option linter.unusedVariables false
set_option maxRecDepth 100000
open Go.Proofs
def sig_law_GridCheckSays : Sig := ⟨[.v true YGrid, .v true YGridEdit, .v false (.int .i64), .v false (.int .i64)], [], [(false, [.fr .bool])]⟩
def C_law_GridCheckSays (F : sig_law_GridCheckSays.Fn) (a0 : YGrid.den) (a1 : YGridEdit.den) (a2 : Int) (a3 : Int) : Option sig_law_GridCheckSays.Out := F (a0, a1, a2, a3, ()) ()
def ret_law_GridCheckSays (v0 : Bool) : sig_law_GridCheckSays.Out := (((v0, ()), ()), ())
def os_law_GridCheckSays : RegT := ⟨[(1, .st 0 (.st 1 (.st 2 (.st 3 (.grp [5, 4] (.st 6 (.st 7 (.st 8 (.st 9 (.st 10 (.grp [12, 11] (.st 13 (.st 14 (.st 15 (.nil))))))))))))))), (12, .st 1 (.st 2 (.st 0 (.grp [4, 3] (.st 5 (.st 6 (.st 8 (.st 9 (.st 12 (.st 13 (.st 7 (.grp [11, 10] (.st 14 (.st 15 (.st 16 (.st 17 (.nil)))))))))))))))))], [], false⟩
def hs_law_GridCheckSays : List Keep := [[(2, []), (3, []), (4, []), (9, []), (35, []), (36, [])]]
@[reducible] noncomputable def env_law_GridCheckSays : Env := [(6, ⟨sig_law_grids, F_law_grids⟩), (16, ⟨sig_grid_Check, F_grid_Check⟩), (8, ⟨sig_R_GridError, F_R_GridError⟩), (17, ⟨sig_grid_CheckEdit, F_grid_CheckEdit⟩), (9, ⟨sig_R_EditError, F_R_EditError⟩), (19, ⟨sig_grid_At, F_grid_At⟩), (18, ⟨sig_R_SameCell, F_R_SameCell⟩), (20, ⟨sig_grid_Cover, F_grid_Cover⟩), (21, ⟨sig_R_Cover, F_R_Cover⟩)]
noncomputable def L_law_GridCheckSays_0 (n m1 : Nat) (x2 : Int) (x3 : Int) (x4_0 : Int) (x4_1 : Int) (x4_2 : List YCell.den) (x4_3 : List YRect.den) (x9_0 : Int) (x9_1 : Int) (x9_2 : List UInt8) (x9_3 : Int) (x35 : Int) (x36 : Int) : Option sig_law_GridCheckSays.Out :=
  loopAt T (env_law_GridCheckSays) os_law_GridCheckSays sig_law_GridCheckSays Tryd.f5 hs_law_GridCheckSays n [.sr, .sr, .sr, .sr, .sl, .sr, .bl] m1 (mk 80 [(2, .cs false [.val (.int .i64) x2]), (3, .cs false [.val (.int .i64) x3]), (4, .box [.val (.int .i64) x4_0, .val (.int .i64) x4_1, .val (.list YCell) x4_2, .val (.list YRect) x4_3]), (9, .box [.val (.int .i64) x9_0, .val (.int .i64) x9_1, .val .str x9_2, .val (.int .i64) x9_3, .nils]), (35, .cs false [.val (.int .i64) x35]), (36, .cs false [.val (.int .i64) x36])])
noncomputable def L_law_GridCheckSays_0a (n m1 : Nat) (x2 : Int) (x3 : Int) (x4_0 : Int) (x4_1 : Int) (x4_2 : List YCell.den) (x4_3 : List YRect.den) (x9_0 : Int) (x9_1 : Int) (x9_2 : List UInt8) (x9_3 : Int) (x9_4 : List YAttr.den) (x35 : Int) (x36 : Int) : Option sig_law_GridCheckSays.Out :=
  loopAt T (env_law_GridCheckSays) os_law_GridCheckSays sig_law_GridCheckSays Tryd.f5 hs_law_GridCheckSays n [.sr, .sr, .sr, .sr, .sl, .sr, .bl] m1 (mk 80 [(2, .cs false [.val (.int .i64) x2]), (3, .cs false [.val (.int .i64) x3]), (4, .box [.val (.int .i64) x4_0, .val (.int .i64) x4_1, .val (.list YCell) x4_2, .val (.list YRect) x4_3]), (9, .box [.val (.int .i64) x9_0, .val (.int .i64) x9_1, .val .str x9_2, .val (.int .i64) x9_3, .val (.list YAttr) x9_4]), (35, .cs false [.val (.int .i64) x35]), (36, .cs false [.val (.int .i64) x36])])
theorem L_law_GridCheckSays_0_step (n m1 : Nat) (x2 : Int) (x3 : Int) (x4_0 : Int) (x4_1 : Int) (x4_2 : List YCell.den) (x4_3 : List YRect.den) (x9_0 : Int) (x9_1 : Int) (x9_2 : List UInt8) (x9_3 : Int) (x35 : Int) (x36 : Int) : L_law_GridCheckSays_0 n (m1 + 1) x2 x3 x4_0 x4_1 x4_2 x4_3 x9_0 x9_1 x9_2 x9_3 x35 x36 =
  (bcond (decide ((x36 : Int) < x35))
   (if 0 ≤ (x36 : Int) ∧ (x36 : Int) < (List.length x4_2 : Int) then
    (bcond ((((at_ (e := YCell) x4_2 x36).1 : Int) == x2) == true)
     (if 0 ≤ (x36 : Int) ∧ (x36 : Int) < (List.length x4_2 : Int) then
      (bcond (((at_ (e := YCell) x4_2 x36).2.1 : Int) == x3)
       (if 0 ≤ (x36 : Int) ∧ (x36 : Int) < (List.length x4_2 : Int) then
        (L_law_GridCheckSays_0a n m1 x2 x3 x4_0 x4_1 x4_2 x4_3 (at_ (e := YCell) x4_2 x36).1 (at_ (e := YCell) x4_2 x36).2.1 (at_ (e := YCell) x4_2 x36).2.2.1 (at_ (e := YCell) x4_2 x36).2.2.2.1 (at_ (e := YCell) x4_2 x36).2.2.2.2 x35 (IntKind.i64.wrap (x36 + 1)))
       else none)
       (L_law_GridCheckSays_0 n m1 x2 x3 x4_0 x4_1 x4_2 x4_3 x9_0 x9_1 x9_2 x9_3 x35 (IntKind.i64.wrap (x36 + 1))))
     else none)
     (L_law_GridCheckSays_0 n m1 x2 x3 x4_0 x4_1 x4_2 x4_3 x9_0 x9_1 x9_2 x9_3 x35 (IntKind.i64.wrap (x36 + 1))))
   else none)
   ((C_grid_At F_grid_At (x4_0, (x4_1, (x4_2, x4_3))) x2 x3).bind fun r1 =>
    ((C_R_SameCell F_R_SameCell (res_grid_At_0 r1) (x9_0, (x9_1, (x9_2, (x9_3, []))))).bind fun r2 =>
     (bcond ((res_R_SameCell_0 r2) == true)
      ((C_grid_Cover F_grid_Cover (x4_0, (x4_1, (x4_2, x4_3))) x2 x3).bind fun r3 =>
       ((C_R_Cover F_R_Cover (x4_0, (x4_1, (x4_2, x4_3))) x2 x3).bind fun r4 =>
        (some (ret_law_GridCheckSays ((((res_grid_Cover_0 r3).1 : Int) == (res_R_Cover_0 r4).1) && ((((res_grid_Cover_0 r3).2.1 : Int) == (res_R_Cover_0 r4).2.1) && ((((res_grid_Cover_0 r3).2.2.1 : Int) == (res_R_Cover_0 r4).2.2.1) && ((((res_grid_Cover_0 r3).2.2.2 : Int) == (res_R_Cover_0 r4).2.2.2) && true))))))))
      (some (ret_law_GridCheckSays false)))))) := by kernel_rfl
theorem L_law_GridCheckSays_0a_step (n m1 : Nat) (x2 : Int) (x3 : Int) (x4_0 : Int) (x4_1 : Int) (x4_2 : List YCell.den) (x4_3 : List YRect.den) (x9_0 : Int) (x9_1 : Int) (x9_2 : List UInt8) (x9_3 : Int) (x9_4 : List YAttr.den) (x35 : Int) (x36 : Int) : L_law_GridCheckSays_0a n (m1 + 1) x2 x3 x4_0 x4_1 x4_2 x4_3 x9_0 x9_1 x9_2 x9_3 x9_4 x35 x36 =
  (bcond (decide ((x36 : Int) < x35))
   (if 0 ≤ (x36 : Int) ∧ (x36 : Int) < (List.length x4_2 : Int) then
    (bcond ((((at_ (e := YCell) x4_2 x36).1 : Int) == x2) == true)
     (if 0 ≤ (x36 : Int) ∧ (x36 : Int) < (List.length x4_2 : Int) then
      (bcond (((at_ (e := YCell) x4_2 x36).2.1 : Int) == x3)
       (if 0 ≤ (x36 : Int) ∧ (x36 : Int) < (List.length x4_2 : Int) then
        (L_law_GridCheckSays_0a n m1 x2 x3 x4_0 x4_1 x4_2 x4_3 (at_ (e := YCell) x4_2 x36).1 (at_ (e := YCell) x4_2 x36).2.1 (at_ (e := YCell) x4_2 x36).2.2.1 (at_ (e := YCell) x4_2 x36).2.2.2.1 (at_ (e := YCell) x4_2 x36).2.2.2.2 x35 (IntKind.i64.wrap (x36 + 1)))
       else none)
       (L_law_GridCheckSays_0a n m1 x2 x3 x4_0 x4_1 x4_2 x4_3 x9_0 x9_1 x9_2 x9_3 x9_4 x35 (IntKind.i64.wrap (x36 + 1))))
     else none)
     (L_law_GridCheckSays_0a n m1 x2 x3 x4_0 x4_1 x4_2 x4_3 x9_0 x9_1 x9_2 x9_3 x9_4 x35 (IntKind.i64.wrap (x36 + 1))))
   else none)
   ((C_grid_At F_grid_At (x4_0, (x4_1, (x4_2, x4_3))) x2 x3).bind fun r1 =>
    ((C_R_SameCell F_R_SameCell (res_grid_At_0 r1) (x9_0, (x9_1, (x9_2, (x9_3, x9_4))))).bind fun r2 =>
     (bcond ((res_R_SameCell_0 r2) == true)
      ((C_grid_Cover F_grid_Cover (x4_0, (x4_1, (x4_2, x4_3))) x2 x3).bind fun r3 =>
       ((C_R_Cover F_R_Cover (x4_0, (x4_1, (x4_2, x4_3))) x2 x3).bind fun r4 =>
        (some (ret_law_GridCheckSays ((((res_grid_Cover_0 r3).1 : Int) == (res_R_Cover_0 r4).1) && ((((res_grid_Cover_0 r3).2.1 : Int) == (res_R_Cover_0 r4).2.1) && ((((res_grid_Cover_0 r3).2.2.1 : Int) == (res_R_Cover_0 r4).2.2.1) && ((((res_grid_Cover_0 r3).2.2.2 : Int) == (res_R_Cover_0 r4).2.2.2) && true))))))))
      (some (ret_law_GridCheckSays false)))))) := by kernel_rfl
theorem ok_law_GridCheckSays : fnOk os_law_GridCheckSays sig_law_GridCheckSays Tryd.f5 = true := by kernel_rfl
theorem fn_law_GridCheckSays : P.funcs[5]? = some Tryd.f5 := by kernel_rfl
noncomputable def F_law_GridCheckSays : sig_law_GridCheckSays.Fn := fun x y => run T (env_law_GridCheckSays) os_law_GridCheckSays sig_law_GridCheckSays Tryd.f5 hs_law_GridCheckSays big x y
theorem S_law_GridCheckSays : Sound P 5 ⟨sig_law_GridCheckSays, F_law_GridCheckSays⟩ := sound_of (os := os_law_GridCheckSays) (hs := hs_law_GridCheckSays) (env_cons S_law_grids (env_cons S_grid_Check (env_cons S_R_GridError (env_cons S_grid_CheckEdit (env_cons S_R_EditError (env_cons S_grid_At (env_cons S_R_SameCell (env_cons S_grid_Cover (env_cons S_R_Cover (env_nil)))))))))) fn_law_GridCheckSays ok_law_GridCheckSays (fun x y out h => ⟨big, h⟩)
theorem e_law_GridCheckSays (a0 : YGrid.den) (a1 : YGridEdit.den) (a2 : Int) (a3 : Int) : C_law_GridCheckSays F_law_GridCheckSays a0 a1 a2 a3 =
  ((C_law_grids F_law_grids ).bind fun r1 =>
   (bcond ((!(res_law_grids_0 r1)) == false)
    ((C_grid_Check F_grid_Check a0).bind fun r2 =>
     ((C_R_GridError F_R_GridError a0).bind fun r3 =>
      (bcond ((((res_grid_Check_0 r2) : Int) != (res_R_GridError_0 r3)) == false)
       ((C_grid_CheckEdit F_grid_CheckEdit a1).bind fun r4 =>
        ((C_R_EditError F_R_EditError a1).bind fun r5 =>
         (bcond (((res_grid_CheckEdit_0 r4) : Int) != (res_R_EditError_0 r5))
          (some (ret_law_GridCheckSays false))
          ((C_R_GridError F_R_GridError a0).bind fun r6 =>
           (bcond (((res_R_GridError_0 r6) : Int) != 0)
            (some (ret_law_GridCheckSays true))
            (L_law_GridCheckSays_0 big big a2 a3 a0.1 a0.2.1 a0.2.2.1 a0.2.2.2 a2 a3 [] 0 (List.length a0.2.2.1 : Int) 0))))))
       (some (ret_law_GridCheckSays false)))))
    (some (ret_law_GridCheckSays false)))) := by kernel_rfl
end Go.Ev
