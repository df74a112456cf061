/- Functions, step by step. -/
import Derived.Test.YteojfhgljknmiaaDoorGDocN
import Derived.Test.YteojfhgljknmiaaDoorGGridR
import Derived.Test.YteojfhgljknmiaaDoorGRepR
namespace Go.Ev
set_option linter.unusedVariables false
set_option maxRecDepth 100000
open Go.Proofs
def sig_R_HasText : Sig := ⟨[.v false (.int .i64)], [], [(false, [.fr .bool])]⟩
def C_R_HasText (F : sig_R_HasText.Fn) (a0 : Int) : Option sig_R_HasText.Out := F (a0, ()) ()
def ret_R_HasText (v0 : Bool) : sig_R_HasText.Out := (((v0, ()), ()), ())
def res_R_HasText_0 (r : sig_R_HasText.Out) : Bool := r.1.1.1
@[simp] theorem res_R_HasText_0_ret (v0 : Bool) : res_R_HasText_0 (ret_R_HasText v0) = v0 := rfl
def os_R_HasText : RegT := ⟨[], [], false⟩
def hs_R_HasText : List Keep := []
@[reducible] noncomputable def env_R_HasText : Env := []
theorem ok_R_HasText : fnOk os_R_HasText sig_R_HasText Tryd.f67 = true := by kernel_rfl
theorem fn_R_HasText : P.funcs[67]? = some Tryd.f67 := by kernel_rfl
noncomputable def F_R_HasText : sig_R_HasText.Fn := fun x y => run T (env_R_HasText) os_R_HasText sig_R_HasText Tryd.f67 hs_R_HasText big x y
theorem S_R_HasText : Sound P 67 ⟨sig_R_HasText, F_R_HasText⟩ := sound_of (os := os_R_HasText) (hs := hs_R_HasText) (env_nil) fn_R_HasText ok_R_HasText (fun x y out h => ⟨big, h⟩)
theorem e_R_HasText (a0 : Int) : C_R_HasText F_R_HasText a0 =
  (bcond (((a0 : Int) == 1) == false)
   (bcond (((a0 : Int) == 3) == false)
    (bcond (((a0 : Int) == 4) == false)
     (some (ret_R_HasText ((a0 : Int) == 12)))
     (some (ret_R_HasText true)))
    (some (ret_R_HasText true)))
   (some (ret_R_HasText true))) := by kernel_rfl
def sig_R_HasList : Sig := ⟨[.v false (.int .i64)], [], [(false, [.fr .bool])]⟩
def C_R_HasList (F : sig_R_HasList.Fn) (a0 : Int) : Option sig_R_HasList.Out := F (a0, ()) ()
def ret_R_HasList (v0 : Bool) : sig_R_HasList.Out := (((v0, ()), ()), ())
def res_R_HasList_0 (r : sig_R_HasList.Out) : Bool := r.1.1.1
@[simp] theorem res_R_HasList_0_ret (v0 : Bool) : res_R_HasList_0 (ret_R_HasList v0) = v0 := rfl
def os_R_HasList : RegT := ⟨[], [], false⟩
def hs_R_HasList : List Keep := []
@[reducible] noncomputable def env_R_HasList : Env := []
theorem ok_R_HasList : fnOk os_R_HasList sig_R_HasList Tryd.f80 = true := by kernel_rfl
theorem fn_R_HasList : P.funcs[80]? = some Tryd.f80 := by kernel_rfl
noncomputable def F_R_HasList : sig_R_HasList.Fn := fun x y => run T (env_R_HasList) os_R_HasList sig_R_HasList Tryd.f80 hs_R_HasList big x y
theorem S_R_HasList : Sound P 80 ⟨sig_R_HasList, F_R_HasList⟩ := sound_of (os := os_R_HasList) (hs := hs_R_HasList) (env_nil) fn_R_HasList ok_R_HasList (fun x y out h => ⟨big, h⟩)
theorem e_R_HasList (a0 : Int) : C_R_HasList F_R_HasList a0 =
  (bcond (((a0 : Int) == 0) == false)
   (some (ret_R_HasList ((a0 : Int) == 7)))
   (some (ret_R_HasList true))) := by kernel_rfl
def sig_R_HasGrid : Sig := ⟨[.v false (.int .i64)], [], [(false, [.fr .bool])]⟩
def C_R_HasGrid (F : sig_R_HasGrid.Fn) (a0 : Int) : Option sig_R_HasGrid.Out := F (a0, ()) ()
def ret_R_HasGrid (v0 : Bool) : sig_R_HasGrid.Out := (((v0, ()), ()), ())
def res_R_HasGrid_0 (r : sig_R_HasGrid.Out) : Bool := r.1.1.1
@[simp] theorem res_R_HasGrid_0_ret (v0 : Bool) : res_R_HasGrid_0 (ret_R_HasGrid v0) = v0 := rfl
def os_R_HasGrid : RegT := ⟨[], [], false⟩
def hs_R_HasGrid : List Keep := []
@[reducible] noncomputable def env_R_HasGrid : Env := []
theorem ok_R_HasGrid : fnOk os_R_HasGrid sig_R_HasGrid Tryd.f82 = true := by kernel_rfl
theorem fn_R_HasGrid : P.funcs[82]? = some Tryd.f82 := by kernel_rfl
noncomputable def F_R_HasGrid : sig_R_HasGrid.Fn := fun x y => run T (env_R_HasGrid) os_R_HasGrid sig_R_HasGrid Tryd.f82 hs_R_HasGrid big x y
theorem S_R_HasGrid : Sound P 82 ⟨sig_R_HasGrid, F_R_HasGrid⟩ := sound_of (os := os_R_HasGrid) (hs := hs_R_HasGrid) (env_nil) fn_R_HasGrid ok_R_HasGrid (fun x y out h => ⟨big, h⟩)
theorem e_R_HasGrid (a0 : Int) : C_R_HasGrid F_R_HasGrid a0 =
  (bcond (((a0 : Int) == 2) == false)
   (some (ret_R_HasGrid ((a0 : Int) == 6)))
   (some (ret_R_HasGrid true))) := by kernel_rfl
def sig_R_HasDraw : Sig := ⟨[.v false (.int .i64)], [], [(false, [.fr .bool])]⟩
def C_R_HasDraw (F : sig_R_HasDraw.Fn) (a0 : Int) : Option sig_R_HasDraw.Out := F (a0, ()) ()
def ret_R_HasDraw (v0 : Bool) : sig_R_HasDraw.Out := (((v0, ()), ()), ())
def res_R_HasDraw_0 (r : sig_R_HasDraw.Out) : Bool := r.1.1.1
@[simp] theorem res_R_HasDraw_0_ret (v0 : Bool) : res_R_HasDraw_0 (ret_R_HasDraw v0) = v0 := rfl
def os_R_HasDraw : RegT := ⟨[], [], false⟩
def hs_R_HasDraw : List Keep := []
@[reducible] noncomputable def env_R_HasDraw : Env := []
theorem ok_R_HasDraw : fnOk os_R_HasDraw sig_R_HasDraw Tryd.f83 = true := by kernel_rfl
theorem fn_R_HasDraw : P.funcs[83]? = some Tryd.f83 := by kernel_rfl
noncomputable def F_R_HasDraw : sig_R_HasDraw.Fn := fun x y => run T (env_R_HasDraw) os_R_HasDraw sig_R_HasDraw Tryd.f83 hs_R_HasDraw big x y
theorem S_R_HasDraw : Sound P 83 ⟨sig_R_HasDraw, F_R_HasDraw⟩ := sound_of (os := os_R_HasDraw) (hs := hs_R_HasDraw) (env_nil) fn_R_HasDraw ok_R_HasDraw (fun x y out h => ⟨big, h⟩)
theorem e_R_HasDraw (a0 : Int) : C_R_HasDraw F_R_HasDraw a0 =
  (bcond (((a0 : Int) == 8) == false)
   (bcond (((a0 : Int) == 9) == false)
    (some (ret_R_HasDraw ((a0 : Int) == 10)))
    (some (ret_R_HasDraw true)))
   (some (ret_R_HasDraw true))) := by kernel_rfl
def sig_R_Permitted : Sig := ⟨[.v false (.int .i64), .v false (.int .i64)], [], [(false, [.fr .bool])]⟩
def C_R_Permitted (F : sig_R_Permitted.Fn) (a0 : Int) (a1 : Int) : Option sig_R_Permitted.Out := F (a0, a1, ()) ()
def ret_R_Permitted (v0 : Bool) : sig_R_Permitted.Out := (((v0, ()), ()), ())
def res_R_Permitted_0 (r : sig_R_Permitted.Out) : Bool := r.1.1.1
@[simp] theorem res_R_Permitted_0_ret (v0 : Bool) : res_R_Permitted_0 (ret_R_Permitted v0) = v0 := rfl
def os_R_Permitted : RegT := ⟨[], [], false⟩
def hs_R_Permitted : List Keep := []
@[reducible] noncomputable def env_R_Permitted : Env := [(67, ⟨sig_R_HasText, F_R_HasText⟩)]
theorem ok_R_Permitted : fnOk os_R_Permitted sig_R_Permitted Tryd.f36 = true := by kernel_rfl
theorem fn_R_Permitted : P.funcs[36]? = some Tryd.f36 := by kernel_rfl
noncomputable def F_R_Permitted : sig_R_Permitted.Fn := fun x y => run T (env_R_Permitted) os_R_Permitted sig_R_Permitted Tryd.f36 hs_R_Permitted big x y
theorem S_R_Permitted : Sound P 36 ⟨sig_R_Permitted, F_R_Permitted⟩ := sound_of (os := os_R_Permitted) (hs := hs_R_Permitted) (env_cons S_R_HasText (env_nil)) fn_R_Permitted ok_R_Permitted (fun x y out h => ⟨big, h⟩)
theorem e_R_Permitted (a0 : Int) (a1 : Int) : C_R_Permitted F_R_Permitted a0 a1 =
  (bcond ((a1 : Int) == 1)
   (some (ret_R_Permitted ((a0 : Int) == 0)))
   (bcond ((a1 : Int) == 6)
    (some (ret_R_Permitted ((a0 : Int) == 0)))
    (bcond ((a1 : Int) == 7)
     (some (ret_R_Permitted ((a0 : Int) == 0)))
     (bcond ((a1 : Int) == 11)
      (some (ret_R_Permitted ((a0 : Int) == 0)))
      (bcond ((a1 : Int) == 12)
       (some (ret_R_Permitted ((a0 : Int) == 0)))
       (bcond ((a1 : Int) == 10)
        (bcond (((a0 : Int) == 0) == false)
         (bcond (((a0 : Int) == 1) == false)
          (some (ret_R_Permitted ((a0 : Int) == 3)))
          (some (ret_R_Permitted true)))
         (some (ret_R_Permitted true)))
        (bcond ((a1 : Int) == 2)
         (some (ret_R_Permitted ((a0 : Int) == 1)))
         (bcond ((a1 : Int) == 4)
          (bcond (((a0 : Int) == 1) == false)
           (some (ret_R_Permitted ((a0 : Int) == 3)))
           (some (ret_R_Permitted true)))
          (bcond ((a1 : Int) == 5)
           ((C_R_HasText F_R_HasText a0).bind fun r1 =>
            (some (ret_R_Permitted (res_R_HasText_0 r1))))
           (bcond ((a1 : Int) == 3)
            (some (ret_R_Permitted ((a0 : Int) == 2)))
            (bcond ((a1 : Int) == 8)
             (some (ret_R_Permitted ((a0 : Int) == 7)))
             (bcond ((a1 : Int) == 9)
              (some (ret_R_Permitted ((a0 : Int) == 7)))
              (some (ret_R_Permitted false)))))))))))))) := by kernel_rfl
def sig_R_zeroGrid : Sig := ⟨[.v true YGrid], [], [(false, [.fr .bool])]⟩
def C_R_zeroGrid (F : sig_R_zeroGrid.Fn) (a0 : YGrid.den) : Option sig_R_zeroGrid.Out := F (a0, ()) ()
def ret_R_zeroGrid (v0 : Bool) : sig_R_zeroGrid.Out := (((v0, ()), ()), ())
def res_R_zeroGrid_0 (r : sig_R_zeroGrid.Out) : Bool := r.1.1.1
@[simp] theorem res_R_zeroGrid_0_ret (v0 : Bool) : res_R_zeroGrid_0 (ret_R_zeroGrid v0) = v0 := rfl
def os_R_zeroGrid : RegT := ⟨[], [], false⟩
def hs_R_zeroGrid : List Keep := []
@[reducible] noncomputable def env_R_zeroGrid : Env := []
theorem ok_R_zeroGrid : fnOk os_R_zeroGrid sig_R_zeroGrid Tryd.f81 = true := by kernel_rfl
theorem fn_R_zeroGrid : P.funcs[81]? = some Tryd.f81 := by kernel_rfl
noncomputable def F_R_zeroGrid : sig_R_zeroGrid.Fn := fun x y => run T (env_R_zeroGrid) os_R_zeroGrid sig_R_zeroGrid Tryd.f81 hs_R_zeroGrid big x y
theorem S_R_zeroGrid : Sound P 81 ⟨sig_R_zeroGrid, F_R_zeroGrid⟩ := sound_of (os := os_R_zeroGrid) (hs := hs_R_zeroGrid) (env_nil) fn_R_zeroGrid ok_R_zeroGrid (fun x y out h => ⟨big, h⟩)
theorem e_R_zeroGrid (a0 : YGrid.den) : C_R_zeroGrid F_R_zeroGrid a0 =
  (bcond (((a0.1 : Int) == 0) == true)
   (bcond (((a0.2.1 : Int) == 0) == true)
    (bcond ((((List.length a0.2.2.1 : Int) : Int) == 0) == true)
     (some (ret_R_zeroGrid (((List.length a0.2.2.2 : Int) : Int) == 0)))
     (some (ret_R_zeroGrid false)))
    (some (ret_R_zeroGrid false)))
   (some (ret_R_zeroGrid false))) := by kernel_rfl
def sig_R_CellKinds : Sig := ⟨[.v false (.int .i64), .v false (.list YCell)], [], [(false, [.fr (.int .i64)])]⟩
def C_R_CellKinds (F : sig_R_CellKinds.Fn) (a0 : Int) (a1 : List YCell.den) : Option sig_R_CellKinds.Out := F (a0, a1, ()) ()
def ret_R_CellKinds (v0 : Int) : sig_R_CellKinds.Out := (((v0, ()), ()), ())
def res_R_CellKinds_0 (r : sig_R_CellKinds.Out) : Int := r.1.1.1
@[simp] theorem res_R_CellKinds_0_ret (v0 : Int) : res_R_CellKinds_0 (ret_R_CellKinds v0) = v0 := rfl
def os_R_CellKinds : RegT := ⟨[], [], false⟩
def hs_R_CellKinds : List Keep := [[(0, []), (1, []), (7, []), (8, [])]]
@[reducible] noncomputable def env_R_CellKinds : Env := []
noncomputable def L_R_CellKinds_0 (n m1 : Nat) (x0 : Int) (x1 : List YCell.den) (x7 : Int) (x8 : Int) : Option sig_R_CellKinds.Out :=
  loopAt T (env_R_CellKinds) os_R_CellKinds sig_R_CellKinds Tryd.f85 hs_R_CellKinds n [.sr, .sl, .sr, .bl] m1 (mk 43 [(0, .cs false [.val (.int .i64) x0]), (1, .cs false [.val (.list YCell) x1]), (7, .cs false [.val (.int .i64) x7]), (8, .cs false [.val (.int .i64) x8])])
theorem L_R_CellKinds_0_step (n m1 : Nat) (x0 : Int) (x1 : List YCell.den) (x7 : Int) (x8 : Int) : L_R_CellKinds_0 n (m1 + 1) x0 x1 x7 x8 =
  (bcond (decide ((x8 : Int) < x7))
   (bcond (((x0 : Int) == 2) == true)
    (if 0 ≤ (x8 : Int) ∧ (x8 : Int) < (List.length x1 : Int) then
     (bcond ((!(((at_ (e := YCell) x1 x8).2.2.1 : List UInt8) == [])) == false)
      (if 0 ≤ (x8 : Int) ∧ (x8 : Int) < (List.length x1 : Int) then
       (bcond ((decide (((List.length (at_ (e := YCell) x1 x8).2.2.2.2 : Int) : Int) > 0)) == false)
        (bcond (((x0 : Int) == 6) == true)
         (if 0 ≤ (x8 : Int) ∧ (x8 : Int) < (List.length x1 : Int) then
          (bcond (((at_ (e := YCell) x1 x8).2.2.2.1 : Int) != 0)
           (some (ret_R_CellKinds 4))
           (L_R_CellKinds_0 n m1 x0 x1 x7 (IntKind.i64.wrap (x8 + 1))))
         else none)
         (L_R_CellKinds_0 n m1 x0 x1 x7 (IntKind.i64.wrap (x8 + 1))))
        (some (ret_R_CellKinds 4)))
      else none)
      (some (ret_R_CellKinds 4)))
    else none)
    (bcond (((x0 : Int) == 6) == true)
     (if 0 ≤ (x8 : Int) ∧ (x8 : Int) < (List.length x1 : Int) then
      (bcond (((at_ (e := YCell) x1 x8).2.2.2.1 : Int) != 0)
       (some (ret_R_CellKinds 4))
       (L_R_CellKinds_0 n m1 x0 x1 x7 (IntKind.i64.wrap (x8 + 1))))
     else none)
     (L_R_CellKinds_0 n m1 x0 x1 x7 (IntKind.i64.wrap (x8 + 1)))))
   (some (ret_R_CellKinds 0))) := by kernel_rfl
theorem ok_R_CellKinds : fnOk os_R_CellKinds sig_R_CellKinds Tryd.f85 = true := by kernel_rfl
theorem fn_R_CellKinds : P.funcs[85]? = some Tryd.f85 := by kernel_rfl
noncomputable def F_R_CellKinds : sig_R_CellKinds.Fn := fun x y => run T (env_R_CellKinds) os_R_CellKinds sig_R_CellKinds Tryd.f85 hs_R_CellKinds big x y
theorem S_R_CellKinds : Sound P 85 ⟨sig_R_CellKinds, F_R_CellKinds⟩ := sound_of (os := os_R_CellKinds) (hs := hs_R_CellKinds) (env_nil) fn_R_CellKinds ok_R_CellKinds (fun x y out h => ⟨big, h⟩)
theorem e_R_CellKinds (a0 : Int) (a1 : List YCell.den) : C_R_CellKinds F_R_CellKinds a0 a1 =
  (L_R_CellKinds_0 big big a0 a1 (List.length a1 : Int) 0) := by kernel_rfl
def sig_R_NodeError : Sig := ⟨[.v true YNode], [], [(false, [.fr (.int .i64)])]⟩
def C_R_NodeError (F : sig_R_NodeError.Fn) (a0 : YNode.den) : Option sig_R_NodeError.Out := F (a0, ()) ()
def ret_R_NodeError (v0 : Int) : sig_R_NodeError.Out := (((v0, ()), ()), ())
def res_R_NodeError_0 (r : sig_R_NodeError.Out) : Int := r.1.1.1
@[simp] theorem res_R_NodeError_0_ret (v0 : Int) : res_R_NodeError_0 (ret_R_NodeError v0) = v0 := rfl
def os_R_NodeError : RegT := ⟨[(12, .st 0 (.st 2 (.st 3 (.grp [1, 4] (.st 5 (.st 6 (.nil)))))))], [], false⟩
def hs_R_NodeError : List Keep := []
@[reducible] noncomputable def env_R_NodeError : Env := [(47, ⟨sig_R_In, F_R_In⟩), (45, ⟨sig_R_AttrsError, F_R_AttrsError⟩), (67, ⟨sig_R_HasText, F_R_HasText⟩), (80, ⟨sig_R_HasList, F_R_HasList⟩), (81, ⟨sig_R_zeroGrid, F_R_zeroGrid⟩), (82, ⟨sig_R_HasGrid, F_R_HasGrid⟩), (83, ⟨sig_R_HasDraw, F_R_HasDraw⟩), (18, ⟨sig_R_FlowError, F_R_FlowError⟩), (84, ⟨sig_R_GridError, F_R_GridError⟩), (85, ⟨sig_R_CellKinds, F_R_CellKinds⟩), (86, ⟨sig_R_DrawError, F_R_DrawError⟩)]
theorem ok_R_NodeError : fnOk os_R_NodeError sig_R_NodeError Tryd.f40 = true := by kernel_rfl
theorem fn_R_NodeError : P.funcs[40]? = some Tryd.f40 := by kernel_rfl
noncomputable def F_R_NodeError : sig_R_NodeError.Fn := fun x y => run T (env_R_NodeError) os_R_NodeError sig_R_NodeError Tryd.f40 hs_R_NodeError big x y
theorem S_R_NodeError : Sound P 40 ⟨sig_R_NodeError, F_R_NodeError⟩ := sound_of (os := os_R_NodeError) (hs := hs_R_NodeError) (env_cons S_R_In (env_cons S_R_AttrsError (env_cons S_R_HasText (env_cons S_R_HasList (env_cons S_R_zeroGrid (env_cons S_R_HasGrid (env_cons S_R_HasDraw (env_cons S_R_FlowError (env_cons S_R_GridError (env_cons S_R_CellKinds (env_cons S_R_DrawError (env_nil)))))))))))) fn_R_NodeError ok_R_NodeError (fun x y out h => ⟨big, h⟩)
theorem e_R_NodeError (a0 : YNode.den) : C_R_NodeError F_R_NodeError a0 =
  ((C_R_In F_R_In a0.1 1 1073741824).bind fun r1 =>
   (bcond (!(res_R_In_0 r1))
    (some (ret_R_NodeError 2))
    ((C_R_In F_R_In a0.2.1 0 12).bind fun r2 =>
     (bcond ((!(res_R_In_0 r2)) == false)
      (bcond (((a0.1 : Int) == 1) == true)
       (bcond (((a0.2.1 : Int) != 0) == false)
        (bcond (((a0.1 : Int) != 1) == true)
         (bcond ((a0.2.1 : Int) == 0)
          (some (ret_R_NodeError 8))
          ((C_R_AttrsError F_R_AttrsError a0.2.2.1 false).bind fun r3 =>
           (bcond (((res_R_AttrsError_0 r3) : Int) != 0)
            (some (ret_R_NodeError (res_R_AttrsError_0 r3)))
            ((C_R_HasText F_R_HasText a0.2.1).bind fun r4 =>
             (bcond ((res_R_HasText_0 r4) == false)
              ((C_R_HasList F_R_HasList a0.2.1).bind fun r5 =>
               (bcond ((decide (((List.length a0.2.2.2.1 : Int) : Int) > 0)) == true)
                (bcond ((!(res_R_HasList_0 r5)) == false)
                 ((C_R_zeroGrid F_R_zeroGrid a0.2.2.2.2.1).bind fun r6 =>
                  (bcond ((!(res_R_zeroGrid_0 r6)) == true)
                   ((C_R_HasGrid F_R_HasGrid a0.2.1).bind fun r7 =>
                    (bcond ((!(res_R_HasGrid_0 r7)) == false)
                     (bcond ((decide (((List.length a0.2.2.2.2.2 : Int) : Int) > 0)) == true)
                      ((C_R_HasDraw F_R_HasDraw a0.2.1).bind fun r8 =>
                       (bcond (!(res_R_HasDraw_0 r8))
                        (some (ret_R_NodeError 4))
                        (bcond (res_R_HasList_0 r5)
                         ((C_R_HasText F_R_HasText a0.2.1).bind fun r9 =>
                          ((C_R_FlowError F_R_FlowError a0.2.2.2.1 (res_R_HasText_0 r9)).bind fun r10 =>
                           (some (ret_R_NodeError (res_R_FlowError_0 r10)))))
                         ((C_R_HasGrid F_R_HasGrid a0.2.1).bind fun r9 =>
                          (bcond (res_R_HasGrid_0 r9)
                           ((C_R_GridError F_R_GridError a0.2.2.2.2.1).bind fun r10 =>
                            (bcond (((res_R_GridError_0 r10) : Int) != 0)
                             (some (ret_R_NodeError (res_R_GridError_0 r10)))
                             ((C_R_CellKinds F_R_CellKinds a0.2.1 a0.2.2.2.2.1.2.2.1).bind fun r11 =>
                              (some (ret_R_NodeError (res_R_CellKinds_0 r11))))))
                           ((C_R_DrawError F_R_DrawError a0.2.2.2.2.2).bind fun r10 =>
                            (some (ret_R_NodeError (res_R_DrawError_0 r10)))))))))
                      (bcond (res_R_HasList_0 r5)
                       ((C_R_HasText F_R_HasText a0.2.1).bind fun r8 =>
                        ((C_R_FlowError F_R_FlowError a0.2.2.2.1 (res_R_HasText_0 r8)).bind fun r9 =>
                         (some (ret_R_NodeError (res_R_FlowError_0 r9)))))
                       ((C_R_HasGrid F_R_HasGrid a0.2.1).bind fun r8 =>
                        (bcond (res_R_HasGrid_0 r8)
                         ((C_R_GridError F_R_GridError a0.2.2.2.2.1).bind fun r9 =>
                          (bcond (((res_R_GridError_0 r9) : Int) != 0)
                           (some (ret_R_NodeError (res_R_GridError_0 r9)))
                           ((C_R_CellKinds F_R_CellKinds a0.2.1 a0.2.2.2.2.1.2.2.1).bind fun r10 =>
                            (some (ret_R_NodeError (res_R_CellKinds_0 r10))))))
                         ((C_R_DrawError F_R_DrawError a0.2.2.2.2.2).bind fun r9 =>
                          (some (ret_R_NodeError (res_R_DrawError_0 r9))))))))
                     (some (ret_R_NodeError 4))))
                   (bcond ((decide (((List.length a0.2.2.2.2.2 : Int) : Int) > 0)) == true)
                    ((C_R_HasDraw F_R_HasDraw a0.2.1).bind fun r7 =>
                     (bcond (!(res_R_HasDraw_0 r7))
                      (some (ret_R_NodeError 4))
                      (bcond (res_R_HasList_0 r5)
                       ((C_R_HasText F_R_HasText a0.2.1).bind fun r8 =>
                        ((C_R_FlowError F_R_FlowError a0.2.2.2.1 (res_R_HasText_0 r8)).bind fun r9 =>
                         (some (ret_R_NodeError (res_R_FlowError_0 r9)))))
                       ((C_R_HasGrid F_R_HasGrid a0.2.1).bind fun r8 =>
                        (bcond (res_R_HasGrid_0 r8)
                         ((C_R_GridError F_R_GridError a0.2.2.2.2.1).bind fun r9 =>
                          (bcond (((res_R_GridError_0 r9) : Int) != 0)
                           (some (ret_R_NodeError (res_R_GridError_0 r9)))
                           ((C_R_CellKinds F_R_CellKinds a0.2.1 a0.2.2.2.2.1.2.2.1).bind fun r10 =>
                            (some (ret_R_NodeError (res_R_CellKinds_0 r10))))))
                         ((C_R_DrawError F_R_DrawError a0.2.2.2.2.2).bind fun r9 =>
                          (some (ret_R_NodeError (res_R_DrawError_0 r9)))))))))
                    (bcond (res_R_HasList_0 r5)
                     ((C_R_HasText F_R_HasText a0.2.1).bind fun r7 =>
                      ((C_R_FlowError F_R_FlowError a0.2.2.2.1 (res_R_HasText_0 r7)).bind fun r8 =>
                       (some (ret_R_NodeError (res_R_FlowError_0 r8)))))
                     ((C_R_HasGrid F_R_HasGrid a0.2.1).bind fun r7 =>
                      (bcond (res_R_HasGrid_0 r7)
                       ((C_R_GridError F_R_GridError a0.2.2.2.2.1).bind fun r8 =>
                        (bcond (((res_R_GridError_0 r8) : Int) != 0)
                         (some (ret_R_NodeError (res_R_GridError_0 r8)))
                         ((C_R_CellKinds F_R_CellKinds a0.2.1 a0.2.2.2.2.1.2.2.1).bind fun r9 =>
                          (some (ret_R_NodeError (res_R_CellKinds_0 r9))))))
                       ((C_R_DrawError F_R_DrawError a0.2.2.2.2.2).bind fun r8 =>
                        (some (ret_R_NodeError (res_R_DrawError_0 r8))))))))))
                 (some (ret_R_NodeError 4)))
                ((C_R_zeroGrid F_R_zeroGrid a0.2.2.2.2.1).bind fun r6 =>
                 (bcond ((!(res_R_zeroGrid_0 r6)) == true)
                  ((C_R_HasGrid F_R_HasGrid a0.2.1).bind fun r7 =>
                   (bcond ((!(res_R_HasGrid_0 r7)) == false)
                    (bcond ((decide (((List.length a0.2.2.2.2.2 : Int) : Int) > 0)) == true)
                     ((C_R_HasDraw F_R_HasDraw a0.2.1).bind fun r8 =>
                      (bcond (!(res_R_HasDraw_0 r8))
                       (some (ret_R_NodeError 4))
                       (bcond (res_R_HasList_0 r5)
                        ((C_R_HasText F_R_HasText a0.2.1).bind fun r9 =>
                         ((C_R_FlowError F_R_FlowError a0.2.2.2.1 (res_R_HasText_0 r9)).bind fun r10 =>
                          (some (ret_R_NodeError (res_R_FlowError_0 r10)))))
                        ((C_R_HasGrid F_R_HasGrid a0.2.1).bind fun r9 =>
                         (bcond (res_R_HasGrid_0 r9)
                          ((C_R_GridError F_R_GridError a0.2.2.2.2.1).bind fun r10 =>
                           (bcond (((res_R_GridError_0 r10) : Int) != 0)
                            (some (ret_R_NodeError (res_R_GridError_0 r10)))
                            ((C_R_CellKinds F_R_CellKinds a0.2.1 a0.2.2.2.2.1.2.2.1).bind fun r11 =>
                             (some (ret_R_NodeError (res_R_CellKinds_0 r11))))))
                          ((C_R_DrawError F_R_DrawError a0.2.2.2.2.2).bind fun r10 =>
                           (some (ret_R_NodeError (res_R_DrawError_0 r10)))))))))
                     (bcond (res_R_HasList_0 r5)
                      ((C_R_HasText F_R_HasText a0.2.1).bind fun r8 =>
                       ((C_R_FlowError F_R_FlowError a0.2.2.2.1 (res_R_HasText_0 r8)).bind fun r9 =>
                        (some (ret_R_NodeError (res_R_FlowError_0 r9)))))
                      ((C_R_HasGrid F_R_HasGrid a0.2.1).bind fun r8 =>
                       (bcond (res_R_HasGrid_0 r8)
                        ((C_R_GridError F_R_GridError a0.2.2.2.2.1).bind fun r9 =>
                         (bcond (((res_R_GridError_0 r9) : Int) != 0)
                          (some (ret_R_NodeError (res_R_GridError_0 r9)))
                          ((C_R_CellKinds F_R_CellKinds a0.2.1 a0.2.2.2.2.1.2.2.1).bind fun r10 =>
                           (some (ret_R_NodeError (res_R_CellKinds_0 r10))))))
                        ((C_R_DrawError F_R_DrawError a0.2.2.2.2.2).bind fun r9 =>
                         (some (ret_R_NodeError (res_R_DrawError_0 r9))))))))
                    (some (ret_R_NodeError 4))))
                  (bcond ((decide (((List.length a0.2.2.2.2.2 : Int) : Int) > 0)) == true)
                   ((C_R_HasDraw F_R_HasDraw a0.2.1).bind fun r7 =>
                    (bcond (!(res_R_HasDraw_0 r7))
                     (some (ret_R_NodeError 4))
                     (bcond (res_R_HasList_0 r5)
                      ((C_R_HasText F_R_HasText a0.2.1).bind fun r8 =>
                       ((C_R_FlowError F_R_FlowError a0.2.2.2.1 (res_R_HasText_0 r8)).bind fun r9 =>
                        (some (ret_R_NodeError (res_R_FlowError_0 r9)))))
                      ((C_R_HasGrid F_R_HasGrid a0.2.1).bind fun r8 =>
                       (bcond (res_R_HasGrid_0 r8)
                        ((C_R_GridError F_R_GridError a0.2.2.2.2.1).bind fun r9 =>
                         (bcond (((res_R_GridError_0 r9) : Int) != 0)
                          (some (ret_R_NodeError (res_R_GridError_0 r9)))
                          ((C_R_CellKinds F_R_CellKinds a0.2.1 a0.2.2.2.2.1.2.2.1).bind fun r10 =>
                           (some (ret_R_NodeError (res_R_CellKinds_0 r10))))))
                        ((C_R_DrawError F_R_DrawError a0.2.2.2.2.2).bind fun r9 =>
                         (some (ret_R_NodeError (res_R_DrawError_0 r9)))))))))
                   (bcond (res_R_HasList_0 r5)
                    ((C_R_HasText F_R_HasText a0.2.1).bind fun r7 =>
                     ((C_R_FlowError F_R_FlowError a0.2.2.2.1 (res_R_HasText_0 r7)).bind fun r8 =>
                      (some (ret_R_NodeError (res_R_FlowError_0 r8)))))
                    ((C_R_HasGrid F_R_HasGrid a0.2.1).bind fun r7 =>
                     (bcond (res_R_HasGrid_0 r7)
                      ((C_R_GridError F_R_GridError a0.2.2.2.2.1).bind fun r8 =>
                       (bcond (((res_R_GridError_0 r8) : Int) != 0)
                        (some (ret_R_NodeError (res_R_GridError_0 r8)))
                        ((C_R_CellKinds F_R_CellKinds a0.2.1 a0.2.2.2.2.1.2.2.1).bind fun r9 =>
                         (some (ret_R_NodeError (res_R_CellKinds_0 r9))))))
                      ((C_R_DrawError F_R_DrawError a0.2.2.2.2.2).bind fun r8 =>
                       (some (ret_R_NodeError (res_R_DrawError_0 r8))))))))))))
              (bcond ((decide (((List.length a0.2.2.2.1 : Int) : Int) > 0)) == true)
               ((C_R_zeroGrid F_R_zeroGrid a0.2.2.2.2.1).bind fun r5 =>
                (bcond ((!(res_R_zeroGrid_0 r5)) == true)
                 ((C_R_HasGrid F_R_HasGrid a0.2.1).bind fun r6 =>
                  (bcond ((!(res_R_HasGrid_0 r6)) == false)
                   (bcond ((decide (((List.length a0.2.2.2.2.2 : Int) : Int) > 0)) == true)
                    ((C_R_HasDraw F_R_HasDraw a0.2.1).bind fun r7 =>
                     (bcond (!(res_R_HasDraw_0 r7))
                      (some (ret_R_NodeError 4))
                      ((C_R_HasText F_R_HasText a0.2.1).bind fun r8 =>
                       ((C_R_FlowError F_R_FlowError a0.2.2.2.1 (res_R_HasText_0 r8)).bind fun r9 =>
                        (some (ret_R_NodeError (res_R_FlowError_0 r9)))))))
                    ((C_R_HasText F_R_HasText a0.2.1).bind fun r7 =>
                     ((C_R_FlowError F_R_FlowError a0.2.2.2.1 (res_R_HasText_0 r7)).bind fun r8 =>
                      (some (ret_R_NodeError (res_R_FlowError_0 r8))))))
                   (some (ret_R_NodeError 4))))
                 (bcond ((decide (((List.length a0.2.2.2.2.2 : Int) : Int) > 0)) == true)
                  ((C_R_HasDraw F_R_HasDraw a0.2.1).bind fun r6 =>
                   (bcond (!(res_R_HasDraw_0 r6))
                    (some (ret_R_NodeError 4))
                    ((C_R_HasText F_R_HasText a0.2.1).bind fun r7 =>
                     ((C_R_FlowError F_R_FlowError a0.2.2.2.1 (res_R_HasText_0 r7)).bind fun r8 =>
                      (some (ret_R_NodeError (res_R_FlowError_0 r8)))))))
                  ((C_R_HasText F_R_HasText a0.2.1).bind fun r6 =>
                   ((C_R_FlowError F_R_FlowError a0.2.2.2.1 (res_R_HasText_0 r6)).bind fun r7 =>
                    (some (ret_R_NodeError (res_R_FlowError_0 r7))))))))
               ((C_R_zeroGrid F_R_zeroGrid a0.2.2.2.2.1).bind fun r5 =>
                (bcond ((!(res_R_zeroGrid_0 r5)) == true)
                 ((C_R_HasGrid F_R_HasGrid a0.2.1).bind fun r6 =>
                  (bcond ((!(res_R_HasGrid_0 r6)) == false)
                   (bcond ((decide (((List.length a0.2.2.2.2.2 : Int) : Int) > 0)) == true)
                    ((C_R_HasDraw F_R_HasDraw a0.2.1).bind fun r7 =>
                     (bcond (!(res_R_HasDraw_0 r7))
                      (some (ret_R_NodeError 4))
                      ((C_R_HasText F_R_HasText a0.2.1).bind fun r8 =>
                       ((C_R_FlowError F_R_FlowError a0.2.2.2.1 (res_R_HasText_0 r8)).bind fun r9 =>
                        (some (ret_R_NodeError (res_R_FlowError_0 r9)))))))
                    ((C_R_HasText F_R_HasText a0.2.1).bind fun r7 =>
                     ((C_R_FlowError F_R_FlowError a0.2.2.2.1 (res_R_HasText_0 r7)).bind fun r8 =>
                      (some (ret_R_NodeError (res_R_FlowError_0 r8))))))
                   (some (ret_R_NodeError 4))))
                 (bcond ((decide (((List.length a0.2.2.2.2.2 : Int) : Int) > 0)) == true)
                  ((C_R_HasDraw F_R_HasDraw a0.2.1).bind fun r6 =>
                   (bcond (!(res_R_HasDraw_0 r6))
                    (some (ret_R_NodeError 4))
                    ((C_R_HasText F_R_HasText a0.2.1).bind fun r7 =>
                     ((C_R_FlowError F_R_FlowError a0.2.2.2.1 (res_R_HasText_0 r7)).bind fun r8 =>
                      (some (ret_R_NodeError (res_R_FlowError_0 r8)))))))
                  ((C_R_HasText F_R_HasText a0.2.1).bind fun r6 =>
                   ((C_R_FlowError F_R_FlowError a0.2.2.2.1 (res_R_HasText_0 r6)).bind fun r7 =>
                    (some (ret_R_NodeError (res_R_FlowError_0 r7))))))))))))))
         ((C_R_AttrsError F_R_AttrsError a0.2.2.1 false).bind fun r3 =>
          (bcond (((res_R_AttrsError_0 r3) : Int) != 0)
           (some (ret_R_NodeError (res_R_AttrsError_0 r3)))
           ((C_R_HasText F_R_HasText a0.2.1).bind fun r4 =>
            (bcond ((res_R_HasText_0 r4) == false)
             ((C_R_HasList F_R_HasList a0.2.1).bind fun r5 =>
              (bcond ((decide (((List.length a0.2.2.2.1 : Int) : Int) > 0)) == true)
               (bcond ((!(res_R_HasList_0 r5)) == false)
                ((C_R_zeroGrid F_R_zeroGrid a0.2.2.2.2.1).bind fun r6 =>
                 (bcond ((!(res_R_zeroGrid_0 r6)) == true)
                  ((C_R_HasGrid F_R_HasGrid a0.2.1).bind fun r7 =>
                   (bcond ((!(res_R_HasGrid_0 r7)) == false)
                    (bcond ((decide (((List.length a0.2.2.2.2.2 : Int) : Int) > 0)) == true)
                     ((C_R_HasDraw F_R_HasDraw a0.2.1).bind fun r8 =>
                      (bcond (!(res_R_HasDraw_0 r8))
                       (some (ret_R_NodeError 4))
                       (bcond (res_R_HasList_0 r5)
                        ((C_R_HasText F_R_HasText a0.2.1).bind fun r9 =>
                         ((C_R_FlowError F_R_FlowError a0.2.2.2.1 (res_R_HasText_0 r9)).bind fun r10 =>
                          (some (ret_R_NodeError (res_R_FlowError_0 r10)))))
                        ((C_R_HasGrid F_R_HasGrid a0.2.1).bind fun r9 =>
                         (bcond (res_R_HasGrid_0 r9)
                          ((C_R_GridError F_R_GridError a0.2.2.2.2.1).bind fun r10 =>
                           (bcond (((res_R_GridError_0 r10) : Int) != 0)
                            (some (ret_R_NodeError (res_R_GridError_0 r10)))
                            ((C_R_CellKinds F_R_CellKinds a0.2.1 a0.2.2.2.2.1.2.2.1).bind fun r11 =>
                             (some (ret_R_NodeError (res_R_CellKinds_0 r11))))))
                          ((C_R_DrawError F_R_DrawError a0.2.2.2.2.2).bind fun r10 =>
                           (some (ret_R_NodeError (res_R_DrawError_0 r10)))))))))
                     (bcond (res_R_HasList_0 r5)
                      ((C_R_HasText F_R_HasText a0.2.1).bind fun r8 =>
                       ((C_R_FlowError F_R_FlowError a0.2.2.2.1 (res_R_HasText_0 r8)).bind fun r9 =>
                        (some (ret_R_NodeError (res_R_FlowError_0 r9)))))
                      ((C_R_HasGrid F_R_HasGrid a0.2.1).bind fun r8 =>
                       (bcond (res_R_HasGrid_0 r8)
                        ((C_R_GridError F_R_GridError a0.2.2.2.2.1).bind fun r9 =>
                         (bcond (((res_R_GridError_0 r9) : Int) != 0)
                          (some (ret_R_NodeError (res_R_GridError_0 r9)))
                          ((C_R_CellKinds F_R_CellKinds a0.2.1 a0.2.2.2.2.1.2.2.1).bind fun r10 =>
                           (some (ret_R_NodeError (res_R_CellKinds_0 r10))))))
                        ((C_R_DrawError F_R_DrawError a0.2.2.2.2.2).bind fun r9 =>
                         (some (ret_R_NodeError (res_R_DrawError_0 r9))))))))
                    (some (ret_R_NodeError 4))))
                  (bcond ((decide (((List.length a0.2.2.2.2.2 : Int) : Int) > 0)) == true)
                   ((C_R_HasDraw F_R_HasDraw a0.2.1).bind fun r7 =>
                    (bcond (!(res_R_HasDraw_0 r7))
                     (some (ret_R_NodeError 4))
                     (bcond (res_R_HasList_0 r5)
                      ((C_R_HasText F_R_HasText a0.2.1).bind fun r8 =>
                       ((C_R_FlowError F_R_FlowError a0.2.2.2.1 (res_R_HasText_0 r8)).bind fun r9 =>
                        (some (ret_R_NodeError (res_R_FlowError_0 r9)))))
                      ((C_R_HasGrid F_R_HasGrid a0.2.1).bind fun r8 =>
                       (bcond (res_R_HasGrid_0 r8)
                        ((C_R_GridError F_R_GridError a0.2.2.2.2.1).bind fun r9 =>
                         (bcond (((res_R_GridError_0 r9) : Int) != 0)
                          (some (ret_R_NodeError (res_R_GridError_0 r9)))
                          ((C_R_CellKinds F_R_CellKinds a0.2.1 a0.2.2.2.2.1.2.2.1).bind fun r10 =>
                           (some (ret_R_NodeError (res_R_CellKinds_0 r10))))))
                        ((C_R_DrawError F_R_DrawError a0.2.2.2.2.2).bind fun r9 =>
                         (some (ret_R_NodeError (res_R_DrawError_0 r9)))))))))
                   (bcond (res_R_HasList_0 r5)
                    ((C_R_HasText F_R_HasText a0.2.1).bind fun r7 =>
                     ((C_R_FlowError F_R_FlowError a0.2.2.2.1 (res_R_HasText_0 r7)).bind fun r8 =>
                      (some (ret_R_NodeError (res_R_FlowError_0 r8)))))
                    ((C_R_HasGrid F_R_HasGrid a0.2.1).bind fun r7 =>
                     (bcond (res_R_HasGrid_0 r7)
                      ((C_R_GridError F_R_GridError a0.2.2.2.2.1).bind fun r8 =>
                       (bcond (((res_R_GridError_0 r8) : Int) != 0)
                        (some (ret_R_NodeError (res_R_GridError_0 r8)))
                        ((C_R_CellKinds F_R_CellKinds a0.2.1 a0.2.2.2.2.1.2.2.1).bind fun r9 =>
                         (some (ret_R_NodeError (res_R_CellKinds_0 r9))))))
                      ((C_R_DrawError F_R_DrawError a0.2.2.2.2.2).bind fun r8 =>
                       (some (ret_R_NodeError (res_R_DrawError_0 r8))))))))))
                (some (ret_R_NodeError 4)))
               ((C_R_zeroGrid F_R_zeroGrid a0.2.2.2.2.1).bind fun r6 =>
                (bcond ((!(res_R_zeroGrid_0 r6)) == true)
                 ((C_R_HasGrid F_R_HasGrid a0.2.1).bind fun r7 =>
                  (bcond ((!(res_R_HasGrid_0 r7)) == false)
                   (bcond ((decide (((List.length a0.2.2.2.2.2 : Int) : Int) > 0)) == true)
                    ((C_R_HasDraw F_R_HasDraw a0.2.1).bind fun r8 =>
                     (bcond (!(res_R_HasDraw_0 r8))
                      (some (ret_R_NodeError 4))
                      (bcond (res_R_HasList_0 r5)
                       ((C_R_HasText F_R_HasText a0.2.1).bind fun r9 =>
                        ((C_R_FlowError F_R_FlowError a0.2.2.2.1 (res_R_HasText_0 r9)).bind fun r10 =>
                         (some (ret_R_NodeError (res_R_FlowError_0 r10)))))
                       ((C_R_HasGrid F_R_HasGrid a0.2.1).bind fun r9 =>
                        (bcond (res_R_HasGrid_0 r9)
                         ((C_R_GridError F_R_GridError a0.2.2.2.2.1).bind fun r10 =>
                          (bcond (((res_R_GridError_0 r10) : Int) != 0)
                           (some (ret_R_NodeError (res_R_GridError_0 r10)))
                           ((C_R_CellKinds F_R_CellKinds a0.2.1 a0.2.2.2.2.1.2.2.1).bind fun r11 =>
                            (some (ret_R_NodeError (res_R_CellKinds_0 r11))))))
                         ((C_R_DrawError F_R_DrawError a0.2.2.2.2.2).bind fun r10 =>
                          (some (ret_R_NodeError (res_R_DrawError_0 r10)))))))))
                    (bcond (res_R_HasList_0 r5)
                     ((C_R_HasText F_R_HasText a0.2.1).bind fun r8 =>
                      ((C_R_FlowError F_R_FlowError a0.2.2.2.1 (res_R_HasText_0 r8)).bind fun r9 =>
                       (some (ret_R_NodeError (res_R_FlowError_0 r9)))))
                     ((C_R_HasGrid F_R_HasGrid a0.2.1).bind fun r8 =>
                      (bcond (res_R_HasGrid_0 r8)
                       ((C_R_GridError F_R_GridError a0.2.2.2.2.1).bind fun r9 =>
                        (bcond (((res_R_GridError_0 r9) : Int) != 0)
                         (some (ret_R_NodeError (res_R_GridError_0 r9)))
                         ((C_R_CellKinds F_R_CellKinds a0.2.1 a0.2.2.2.2.1.2.2.1).bind fun r10 =>
                          (some (ret_R_NodeError (res_R_CellKinds_0 r10))))))
                       ((C_R_DrawError F_R_DrawError a0.2.2.2.2.2).bind fun r9 =>
                        (some (ret_R_NodeError (res_R_DrawError_0 r9))))))))
                   (some (ret_R_NodeError 4))))
                 (bcond ((decide (((List.length a0.2.2.2.2.2 : Int) : Int) > 0)) == true)
                  ((C_R_HasDraw F_R_HasDraw a0.2.1).bind fun r7 =>
                   (bcond (!(res_R_HasDraw_0 r7))
                    (some (ret_R_NodeError 4))
                    (bcond (res_R_HasList_0 r5)
                     ((C_R_HasText F_R_HasText a0.2.1).bind fun r8 =>
                      ((C_R_FlowError F_R_FlowError a0.2.2.2.1 (res_R_HasText_0 r8)).bind fun r9 =>
                       (some (ret_R_NodeError (res_R_FlowError_0 r9)))))
                     ((C_R_HasGrid F_R_HasGrid a0.2.1).bind fun r8 =>
                      (bcond (res_R_HasGrid_0 r8)
                       ((C_R_GridError F_R_GridError a0.2.2.2.2.1).bind fun r9 =>
                        (bcond (((res_R_GridError_0 r9) : Int) != 0)
                         (some (ret_R_NodeError (res_R_GridError_0 r9)))
                         ((C_R_CellKinds F_R_CellKinds a0.2.1 a0.2.2.2.2.1.2.2.1).bind fun r10 =>
                          (some (ret_R_NodeError (res_R_CellKinds_0 r10))))))
                       ((C_R_DrawError F_R_DrawError a0.2.2.2.2.2).bind fun r9 =>
                        (some (ret_R_NodeError (res_R_DrawError_0 r9)))))))))
                  (bcond (res_R_HasList_0 r5)
                   ((C_R_HasText F_R_HasText a0.2.1).bind fun r7 =>
                    ((C_R_FlowError F_R_FlowError a0.2.2.2.1 (res_R_HasText_0 r7)).bind fun r8 =>
                     (some (ret_R_NodeError (res_R_FlowError_0 r8)))))
                   ((C_R_HasGrid F_R_HasGrid a0.2.1).bind fun r7 =>
                    (bcond (res_R_HasGrid_0 r7)
                     ((C_R_GridError F_R_GridError a0.2.2.2.2.1).bind fun r8 =>
                      (bcond (((res_R_GridError_0 r8) : Int) != 0)
                       (some (ret_R_NodeError (res_R_GridError_0 r8)))
                       ((C_R_CellKinds F_R_CellKinds a0.2.1 a0.2.2.2.2.1.2.2.1).bind fun r9 =>
                        (some (ret_R_NodeError (res_R_CellKinds_0 r9))))))
                     ((C_R_DrawError F_R_DrawError a0.2.2.2.2.2).bind fun r8 =>
                      (some (ret_R_NodeError (res_R_DrawError_0 r8))))))))))))
             (bcond ((decide (((List.length a0.2.2.2.1 : Int) : Int) > 0)) == true)
              ((C_R_zeroGrid F_R_zeroGrid a0.2.2.2.2.1).bind fun r5 =>
               (bcond ((!(res_R_zeroGrid_0 r5)) == true)
                ((C_R_HasGrid F_R_HasGrid a0.2.1).bind fun r6 =>
                 (bcond ((!(res_R_HasGrid_0 r6)) == false)
                  (bcond ((decide (((List.length a0.2.2.2.2.2 : Int) : Int) > 0)) == true)
                   ((C_R_HasDraw F_R_HasDraw a0.2.1).bind fun r7 =>
                    (bcond (!(res_R_HasDraw_0 r7))
                     (some (ret_R_NodeError 4))
                     ((C_R_HasText F_R_HasText a0.2.1).bind fun r8 =>
                      ((C_R_FlowError F_R_FlowError a0.2.2.2.1 (res_R_HasText_0 r8)).bind fun r9 =>
                       (some (ret_R_NodeError (res_R_FlowError_0 r9)))))))
                   ((C_R_HasText F_R_HasText a0.2.1).bind fun r7 =>
                    ((C_R_FlowError F_R_FlowError a0.2.2.2.1 (res_R_HasText_0 r7)).bind fun r8 =>
                     (some (ret_R_NodeError (res_R_FlowError_0 r8))))))
                  (some (ret_R_NodeError 4))))
                (bcond ((decide (((List.length a0.2.2.2.2.2 : Int) : Int) > 0)) == true)
                 ((C_R_HasDraw F_R_HasDraw a0.2.1).bind fun r6 =>
                  (bcond (!(res_R_HasDraw_0 r6))
                   (some (ret_R_NodeError 4))
                   ((C_R_HasText F_R_HasText a0.2.1).bind fun r7 =>
                    ((C_R_FlowError F_R_FlowError a0.2.2.2.1 (res_R_HasText_0 r7)).bind fun r8 =>
                     (some (ret_R_NodeError (res_R_FlowError_0 r8)))))))
                 ((C_R_HasText F_R_HasText a0.2.1).bind fun r6 =>
                  ((C_R_FlowError F_R_FlowError a0.2.2.2.1 (res_R_HasText_0 r6)).bind fun r7 =>
                   (some (ret_R_NodeError (res_R_FlowError_0 r7))))))))
              ((C_R_zeroGrid F_R_zeroGrid a0.2.2.2.2.1).bind fun r5 =>
               (bcond ((!(res_R_zeroGrid_0 r5)) == true)
                ((C_R_HasGrid F_R_HasGrid a0.2.1).bind fun r6 =>
                 (bcond ((!(res_R_HasGrid_0 r6)) == false)
                  (bcond ((decide (((List.length a0.2.2.2.2.2 : Int) : Int) > 0)) == true)
                   ((C_R_HasDraw F_R_HasDraw a0.2.1).bind fun r7 =>
                    (bcond (!(res_R_HasDraw_0 r7))
                     (some (ret_R_NodeError 4))
                     ((C_R_HasText F_R_HasText a0.2.1).bind fun r8 =>
                      ((C_R_FlowError F_R_FlowError a0.2.2.2.1 (res_R_HasText_0 r8)).bind fun r9 =>
                       (some (ret_R_NodeError (res_R_FlowError_0 r9)))))))
                   ((C_R_HasText F_R_HasText a0.2.1).bind fun r7 =>
                    ((C_R_FlowError F_R_FlowError a0.2.2.2.1 (res_R_HasText_0 r7)).bind fun r8 =>
                     (some (ret_R_NodeError (res_R_FlowError_0 r8))))))
                  (some (ret_R_NodeError 4))))
                (bcond ((decide (((List.length a0.2.2.2.2.2 : Int) : Int) > 0)) == true)
                 ((C_R_HasDraw F_R_HasDraw a0.2.1).bind fun r6 =>
                  (bcond (!(res_R_HasDraw_0 r6))
                   (some (ret_R_NodeError 4))
                   ((C_R_HasText F_R_HasText a0.2.1).bind fun r7 =>
                    ((C_R_FlowError F_R_FlowError a0.2.2.2.1 (res_R_HasText_0 r7)).bind fun r8 =>
                     (some (ret_R_NodeError (res_R_FlowError_0 r8)))))))
                 ((C_R_HasText F_R_HasText a0.2.1).bind fun r6 =>
                  ((C_R_FlowError F_R_FlowError a0.2.2.2.1 (res_R_HasText_0 r6)).bind fun r7 =>
                   (some (ret_R_NodeError (res_R_FlowError_0 r7))))))))))))))
        (some (ret_R_NodeError 8)))
       (bcond (((a0.1 : Int) != 1) == true)
        (bcond ((a0.2.1 : Int) == 0)
         (some (ret_R_NodeError 8))
         ((C_R_AttrsError F_R_AttrsError a0.2.2.1 false).bind fun r3 =>
          (bcond (((res_R_AttrsError_0 r3) : Int) != 0)
           (some (ret_R_NodeError (res_R_AttrsError_0 r3)))
           ((C_R_HasText F_R_HasText a0.2.1).bind fun r4 =>
            (bcond ((res_R_HasText_0 r4) == false)
             ((C_R_HasList F_R_HasList a0.2.1).bind fun r5 =>
              (bcond ((decide (((List.length a0.2.2.2.1 : Int) : Int) > 0)) == true)
               (bcond ((!(res_R_HasList_0 r5)) == false)
                ((C_R_zeroGrid F_R_zeroGrid a0.2.2.2.2.1).bind fun r6 =>
                 (bcond ((!(res_R_zeroGrid_0 r6)) == true)
                  ((C_R_HasGrid F_R_HasGrid a0.2.1).bind fun r7 =>
                   (bcond ((!(res_R_HasGrid_0 r7)) == false)
                    (bcond ((decide (((List.length a0.2.2.2.2.2 : Int) : Int) > 0)) == true)
                     ((C_R_HasDraw F_R_HasDraw a0.2.1).bind fun r8 =>
                      (bcond (!(res_R_HasDraw_0 r8))
                       (some (ret_R_NodeError 4))
                       (bcond (res_R_HasList_0 r5)
                        ((C_R_HasText F_R_HasText a0.2.1).bind fun r9 =>
                         ((C_R_FlowError F_R_FlowError a0.2.2.2.1 (res_R_HasText_0 r9)).bind fun r10 =>
                          (some (ret_R_NodeError (res_R_FlowError_0 r10)))))
                        ((C_R_HasGrid F_R_HasGrid a0.2.1).bind fun r9 =>
                         (bcond (res_R_HasGrid_0 r9)
                          ((C_R_GridError F_R_GridError a0.2.2.2.2.1).bind fun r10 =>
                           (bcond (((res_R_GridError_0 r10) : Int) != 0)
                            (some (ret_R_NodeError (res_R_GridError_0 r10)))
                            ((C_R_CellKinds F_R_CellKinds a0.2.1 a0.2.2.2.2.1.2.2.1).bind fun r11 =>
                             (some (ret_R_NodeError (res_R_CellKinds_0 r11))))))
                          ((C_R_DrawError F_R_DrawError a0.2.2.2.2.2).bind fun r10 =>
                           (some (ret_R_NodeError (res_R_DrawError_0 r10)))))))))
                     (bcond (res_R_HasList_0 r5)
                      ((C_R_HasText F_R_HasText a0.2.1).bind fun r8 =>
                       ((C_R_FlowError F_R_FlowError a0.2.2.2.1 (res_R_HasText_0 r8)).bind fun r9 =>
                        (some (ret_R_NodeError (res_R_FlowError_0 r9)))))
                      ((C_R_HasGrid F_R_HasGrid a0.2.1).bind fun r8 =>
                       (bcond (res_R_HasGrid_0 r8)
                        ((C_R_GridError F_R_GridError a0.2.2.2.2.1).bind fun r9 =>
                         (bcond (((res_R_GridError_0 r9) : Int) != 0)
                          (some (ret_R_NodeError (res_R_GridError_0 r9)))
                          ((C_R_CellKinds F_R_CellKinds a0.2.1 a0.2.2.2.2.1.2.2.1).bind fun r10 =>
                           (some (ret_R_NodeError (res_R_CellKinds_0 r10))))))
                        ((C_R_DrawError F_R_DrawError a0.2.2.2.2.2).bind fun r9 =>
                         (some (ret_R_NodeError (res_R_DrawError_0 r9))))))))
                    (some (ret_R_NodeError 4))))
                  (bcond ((decide (((List.length a0.2.2.2.2.2 : Int) : Int) > 0)) == true)
                   ((C_R_HasDraw F_R_HasDraw a0.2.1).bind fun r7 =>
                    (bcond (!(res_R_HasDraw_0 r7))
                     (some (ret_R_NodeError 4))
                     (bcond (res_R_HasList_0 r5)
                      ((C_R_HasText F_R_HasText a0.2.1).bind fun r8 =>
                       ((C_R_FlowError F_R_FlowError a0.2.2.2.1 (res_R_HasText_0 r8)).bind fun r9 =>
                        (some (ret_R_NodeError (res_R_FlowError_0 r9)))))
                      ((C_R_HasGrid F_R_HasGrid a0.2.1).bind fun r8 =>
                       (bcond (res_R_HasGrid_0 r8)
                        ((C_R_GridError F_R_GridError a0.2.2.2.2.1).bind fun r9 =>
                         (bcond (((res_R_GridError_0 r9) : Int) != 0)
                          (some (ret_R_NodeError (res_R_GridError_0 r9)))
                          ((C_R_CellKinds F_R_CellKinds a0.2.1 a0.2.2.2.2.1.2.2.1).bind fun r10 =>
                           (some (ret_R_NodeError (res_R_CellKinds_0 r10))))))
                        ((C_R_DrawError F_R_DrawError a0.2.2.2.2.2).bind fun r9 =>
                         (some (ret_R_NodeError (res_R_DrawError_0 r9)))))))))
                   (bcond (res_R_HasList_0 r5)
                    ((C_R_HasText F_R_HasText a0.2.1).bind fun r7 =>
                     ((C_R_FlowError F_R_FlowError a0.2.2.2.1 (res_R_HasText_0 r7)).bind fun r8 =>
                      (some (ret_R_NodeError (res_R_FlowError_0 r8)))))
                    ((C_R_HasGrid F_R_HasGrid a0.2.1).bind fun r7 =>
                     (bcond (res_R_HasGrid_0 r7)
                      ((C_R_GridError F_R_GridError a0.2.2.2.2.1).bind fun r8 =>
                       (bcond (((res_R_GridError_0 r8) : Int) != 0)
                        (some (ret_R_NodeError (res_R_GridError_0 r8)))
                        ((C_R_CellKinds F_R_CellKinds a0.2.1 a0.2.2.2.2.1.2.2.1).bind fun r9 =>
                         (some (ret_R_NodeError (res_R_CellKinds_0 r9))))))
                      ((C_R_DrawError F_R_DrawError a0.2.2.2.2.2).bind fun r8 =>
                       (some (ret_R_NodeError (res_R_DrawError_0 r8))))))))))
                (some (ret_R_NodeError 4)))
               ((C_R_zeroGrid F_R_zeroGrid a0.2.2.2.2.1).bind fun r6 =>
                (bcond ((!(res_R_zeroGrid_0 r6)) == true)
                 ((C_R_HasGrid F_R_HasGrid a0.2.1).bind fun r7 =>
                  (bcond ((!(res_R_HasGrid_0 r7)) == false)
                   (bcond ((decide (((List.length a0.2.2.2.2.2 : Int) : Int) > 0)) == true)
                    ((C_R_HasDraw F_R_HasDraw a0.2.1).bind fun r8 =>
                     (bcond (!(res_R_HasDraw_0 r8))
                      (some (ret_R_NodeError 4))
                      (bcond (res_R_HasList_0 r5)
                       ((C_R_HasText F_R_HasText a0.2.1).bind fun r9 =>
                        ((C_R_FlowError F_R_FlowError a0.2.2.2.1 (res_R_HasText_0 r9)).bind fun r10 =>
                         (some (ret_R_NodeError (res_R_FlowError_0 r10)))))
                       ((C_R_HasGrid F_R_HasGrid a0.2.1).bind fun r9 =>
                        (bcond (res_R_HasGrid_0 r9)
                         ((C_R_GridError F_R_GridError a0.2.2.2.2.1).bind fun r10 =>
                          (bcond (((res_R_GridError_0 r10) : Int) != 0)
                           (some (ret_R_NodeError (res_R_GridError_0 r10)))
                           ((C_R_CellKinds F_R_CellKinds a0.2.1 a0.2.2.2.2.1.2.2.1).bind fun r11 =>
                            (some (ret_R_NodeError (res_R_CellKinds_0 r11))))))
                         ((C_R_DrawError F_R_DrawError a0.2.2.2.2.2).bind fun r10 =>
                          (some (ret_R_NodeError (res_R_DrawError_0 r10)))))))))
                    (bcond (res_R_HasList_0 r5)
                     ((C_R_HasText F_R_HasText a0.2.1).bind fun r8 =>
                      ((C_R_FlowError F_R_FlowError a0.2.2.2.1 (res_R_HasText_0 r8)).bind fun r9 =>
                       (some (ret_R_NodeError (res_R_FlowError_0 r9)))))
                     ((C_R_HasGrid F_R_HasGrid a0.2.1).bind fun r8 =>
                      (bcond (res_R_HasGrid_0 r8)
                       ((C_R_GridError F_R_GridError a0.2.2.2.2.1).bind fun r9 =>
                        (bcond (((res_R_GridError_0 r9) : Int) != 0)
                         (some (ret_R_NodeError (res_R_GridError_0 r9)))
                         ((C_R_CellKinds F_R_CellKinds a0.2.1 a0.2.2.2.2.1.2.2.1).bind fun r10 =>
                          (some (ret_R_NodeError (res_R_CellKinds_0 r10))))))
                       ((C_R_DrawError F_R_DrawError a0.2.2.2.2.2).bind fun r9 =>
                        (some (ret_R_NodeError (res_R_DrawError_0 r9))))))))
                   (some (ret_R_NodeError 4))))
                 (bcond ((decide (((List.length a0.2.2.2.2.2 : Int) : Int) > 0)) == true)
                  ((C_R_HasDraw F_R_HasDraw a0.2.1).bind fun r7 =>
                   (bcond (!(res_R_HasDraw_0 r7))
                    (some (ret_R_NodeError 4))
                    (bcond (res_R_HasList_0 r5)
                     ((C_R_HasText F_R_HasText a0.2.1).bind fun r8 =>
                      ((C_R_FlowError F_R_FlowError a0.2.2.2.1 (res_R_HasText_0 r8)).bind fun r9 =>
                       (some (ret_R_NodeError (res_R_FlowError_0 r9)))))
                     ((C_R_HasGrid F_R_HasGrid a0.2.1).bind fun r8 =>
                      (bcond (res_R_HasGrid_0 r8)
                       ((C_R_GridError F_R_GridError a0.2.2.2.2.1).bind fun r9 =>
                        (bcond (((res_R_GridError_0 r9) : Int) != 0)
                         (some (ret_R_NodeError (res_R_GridError_0 r9)))
                         ((C_R_CellKinds F_R_CellKinds a0.2.1 a0.2.2.2.2.1.2.2.1).bind fun r10 =>
                          (some (ret_R_NodeError (res_R_CellKinds_0 r10))))))
                       ((C_R_DrawError F_R_DrawError a0.2.2.2.2.2).bind fun r9 =>
                        (some (ret_R_NodeError (res_R_DrawError_0 r9)))))))))
                  (bcond (res_R_HasList_0 r5)
                   ((C_R_HasText F_R_HasText a0.2.1).bind fun r7 =>
                    ((C_R_FlowError F_R_FlowError a0.2.2.2.1 (res_R_HasText_0 r7)).bind fun r8 =>
                     (some (ret_R_NodeError (res_R_FlowError_0 r8)))))
                   ((C_R_HasGrid F_R_HasGrid a0.2.1).bind fun r7 =>
                    (bcond (res_R_HasGrid_0 r7)
                     ((C_R_GridError F_R_GridError a0.2.2.2.2.1).bind fun r8 =>
                      (bcond (((res_R_GridError_0 r8) : Int) != 0)
                       (some (ret_R_NodeError (res_R_GridError_0 r8)))
                       ((C_R_CellKinds F_R_CellKinds a0.2.1 a0.2.2.2.2.1.2.2.1).bind fun r9 =>
                        (some (ret_R_NodeError (res_R_CellKinds_0 r9))))))
                     ((C_R_DrawError F_R_DrawError a0.2.2.2.2.2).bind fun r8 =>
                      (some (ret_R_NodeError (res_R_DrawError_0 r8))))))))))))
             (bcond ((decide (((List.length a0.2.2.2.1 : Int) : Int) > 0)) == true)
              ((C_R_zeroGrid F_R_zeroGrid a0.2.2.2.2.1).bind fun r5 =>
               (bcond ((!(res_R_zeroGrid_0 r5)) == true)
                ((C_R_HasGrid F_R_HasGrid a0.2.1).bind fun r6 =>
                 (bcond ((!(res_R_HasGrid_0 r6)) == false)
                  (bcond ((decide (((List.length a0.2.2.2.2.2 : Int) : Int) > 0)) == true)
                   ((C_R_HasDraw F_R_HasDraw a0.2.1).bind fun r7 =>
                    (bcond (!(res_R_HasDraw_0 r7))
                     (some (ret_R_NodeError 4))
                     ((C_R_HasText F_R_HasText a0.2.1).bind fun r8 =>
                      ((C_R_FlowError F_R_FlowError a0.2.2.2.1 (res_R_HasText_0 r8)).bind fun r9 =>
                       (some (ret_R_NodeError (res_R_FlowError_0 r9)))))))
                   ((C_R_HasText F_R_HasText a0.2.1).bind fun r7 =>
                    ((C_R_FlowError F_R_FlowError a0.2.2.2.1 (res_R_HasText_0 r7)).bind fun r8 =>
                     (some (ret_R_NodeError (res_R_FlowError_0 r8))))))
                  (some (ret_R_NodeError 4))))
                (bcond ((decide (((List.length a0.2.2.2.2.2 : Int) : Int) > 0)) == true)
                 ((C_R_HasDraw F_R_HasDraw a0.2.1).bind fun r6 =>
                  (bcond (!(res_R_HasDraw_0 r6))
                   (some (ret_R_NodeError 4))
                   ((C_R_HasText F_R_HasText a0.2.1).bind fun r7 =>
                    ((C_R_FlowError F_R_FlowError a0.2.2.2.1 (res_R_HasText_0 r7)).bind fun r8 =>
                     (some (ret_R_NodeError (res_R_FlowError_0 r8)))))))
                 ((C_R_HasText F_R_HasText a0.2.1).bind fun r6 =>
                  ((C_R_FlowError F_R_FlowError a0.2.2.2.1 (res_R_HasText_0 r6)).bind fun r7 =>
                   (some (ret_R_NodeError (res_R_FlowError_0 r7))))))))
              ((C_R_zeroGrid F_R_zeroGrid a0.2.2.2.2.1).bind fun r5 =>
               (bcond ((!(res_R_zeroGrid_0 r5)) == true)
                ((C_R_HasGrid F_R_HasGrid a0.2.1).bind fun r6 =>
                 (bcond ((!(res_R_HasGrid_0 r6)) == false)
                  (bcond ((decide (((List.length a0.2.2.2.2.2 : Int) : Int) > 0)) == true)
                   ((C_R_HasDraw F_R_HasDraw a0.2.1).bind fun r7 =>
                    (bcond (!(res_R_HasDraw_0 r7))
                     (some (ret_R_NodeError 4))
                     ((C_R_HasText F_R_HasText a0.2.1).bind fun r8 =>
                      ((C_R_FlowError F_R_FlowError a0.2.2.2.1 (res_R_HasText_0 r8)).bind fun r9 =>
                       (some (ret_R_NodeError (res_R_FlowError_0 r9)))))))
                   ((C_R_HasText F_R_HasText a0.2.1).bind fun r7 =>
                    ((C_R_FlowError F_R_FlowError a0.2.2.2.1 (res_R_HasText_0 r7)).bind fun r8 =>
                     (some (ret_R_NodeError (res_R_FlowError_0 r8))))))
                  (some (ret_R_NodeError 4))))
                (bcond ((decide (((List.length a0.2.2.2.2.2 : Int) : Int) > 0)) == true)
                 ((C_R_HasDraw F_R_HasDraw a0.2.1).bind fun r6 =>
                  (bcond (!(res_R_HasDraw_0 r6))
                   (some (ret_R_NodeError 4))
                   ((C_R_HasText F_R_HasText a0.2.1).bind fun r7 =>
                    ((C_R_FlowError F_R_FlowError a0.2.2.2.1 (res_R_HasText_0 r7)).bind fun r8 =>
                     (some (ret_R_NodeError (res_R_FlowError_0 r8)))))))
                 ((C_R_HasText F_R_HasText a0.2.1).bind fun r6 =>
                  ((C_R_FlowError F_R_FlowError a0.2.2.2.1 (res_R_HasText_0 r6)).bind fun r7 =>
                   (some (ret_R_NodeError (res_R_FlowError_0 r7))))))))))))))
        ((C_R_AttrsError F_R_AttrsError a0.2.2.1 false).bind fun r3 =>
         (bcond (((res_R_AttrsError_0 r3) : Int) != 0)
          (some (ret_R_NodeError (res_R_AttrsError_0 r3)))
          ((C_R_HasText F_R_HasText a0.2.1).bind fun r4 =>
           (bcond ((res_R_HasText_0 r4) == false)
            ((C_R_HasList F_R_HasList a0.2.1).bind fun r5 =>
             (bcond ((decide (((List.length a0.2.2.2.1 : Int) : Int) > 0)) == true)
              (bcond ((!(res_R_HasList_0 r5)) == false)
               ((C_R_zeroGrid F_R_zeroGrid a0.2.2.2.2.1).bind fun r6 =>
                (bcond ((!(res_R_zeroGrid_0 r6)) == true)
                 ((C_R_HasGrid F_R_HasGrid a0.2.1).bind fun r7 =>
                  (bcond ((!(res_R_HasGrid_0 r7)) == false)
                   (bcond ((decide (((List.length a0.2.2.2.2.2 : Int) : Int) > 0)) == true)
                    ((C_R_HasDraw F_R_HasDraw a0.2.1).bind fun r8 =>
                     (bcond (!(res_R_HasDraw_0 r8))
                      (some (ret_R_NodeError 4))
                      (bcond (res_R_HasList_0 r5)
                       ((C_R_HasText F_R_HasText a0.2.1).bind fun r9 =>
                        ((C_R_FlowError F_R_FlowError a0.2.2.2.1 (res_R_HasText_0 r9)).bind fun r10 =>
                         (some (ret_R_NodeError (res_R_FlowError_0 r10)))))
                       ((C_R_HasGrid F_R_HasGrid a0.2.1).bind fun r9 =>
                        (bcond (res_R_HasGrid_0 r9)
                         ((C_R_GridError F_R_GridError a0.2.2.2.2.1).bind fun r10 =>
                          (bcond (((res_R_GridError_0 r10) : Int) != 0)
                           (some (ret_R_NodeError (res_R_GridError_0 r10)))
                           ((C_R_CellKinds F_R_CellKinds a0.2.1 a0.2.2.2.2.1.2.2.1).bind fun r11 =>
                            (some (ret_R_NodeError (res_R_CellKinds_0 r11))))))
                         ((C_R_DrawError F_R_DrawError a0.2.2.2.2.2).bind fun r10 =>
                          (some (ret_R_NodeError (res_R_DrawError_0 r10)))))))))
                    (bcond (res_R_HasList_0 r5)
                     ((C_R_HasText F_R_HasText a0.2.1).bind fun r8 =>
                      ((C_R_FlowError F_R_FlowError a0.2.2.2.1 (res_R_HasText_0 r8)).bind fun r9 =>
                       (some (ret_R_NodeError (res_R_FlowError_0 r9)))))
                     ((C_R_HasGrid F_R_HasGrid a0.2.1).bind fun r8 =>
                      (bcond (res_R_HasGrid_0 r8)
                       ((C_R_GridError F_R_GridError a0.2.2.2.2.1).bind fun r9 =>
                        (bcond (((res_R_GridError_0 r9) : Int) != 0)
                         (some (ret_R_NodeError (res_R_GridError_0 r9)))
                         ((C_R_CellKinds F_R_CellKinds a0.2.1 a0.2.2.2.2.1.2.2.1).bind fun r10 =>
                          (some (ret_R_NodeError (res_R_CellKinds_0 r10))))))
                       ((C_R_DrawError F_R_DrawError a0.2.2.2.2.2).bind fun r9 =>
                        (some (ret_R_NodeError (res_R_DrawError_0 r9))))))))
                   (some (ret_R_NodeError 4))))
                 (bcond ((decide (((List.length a0.2.2.2.2.2 : Int) : Int) > 0)) == true)
                  ((C_R_HasDraw F_R_HasDraw a0.2.1).bind fun r7 =>
                   (bcond (!(res_R_HasDraw_0 r7))
                    (some (ret_R_NodeError 4))
                    (bcond (res_R_HasList_0 r5)
                     ((C_R_HasText F_R_HasText a0.2.1).bind fun r8 =>
                      ((C_R_FlowError F_R_FlowError a0.2.2.2.1 (res_R_HasText_0 r8)).bind fun r9 =>
                       (some (ret_R_NodeError (res_R_FlowError_0 r9)))))
                     ((C_R_HasGrid F_R_HasGrid a0.2.1).bind fun r8 =>
                      (bcond (res_R_HasGrid_0 r8)
                       ((C_R_GridError F_R_GridError a0.2.2.2.2.1).bind fun r9 =>
                        (bcond (((res_R_GridError_0 r9) : Int) != 0)
                         (some (ret_R_NodeError (res_R_GridError_0 r9)))
                         ((C_R_CellKinds F_R_CellKinds a0.2.1 a0.2.2.2.2.1.2.2.1).bind fun r10 =>
                          (some (ret_R_NodeError (res_R_CellKinds_0 r10))))))
                       ((C_R_DrawError F_R_DrawError a0.2.2.2.2.2).bind fun r9 =>
                        (some (ret_R_NodeError (res_R_DrawError_0 r9)))))))))
                  (bcond (res_R_HasList_0 r5)
                   ((C_R_HasText F_R_HasText a0.2.1).bind fun r7 =>
                    ((C_R_FlowError F_R_FlowError a0.2.2.2.1 (res_R_HasText_0 r7)).bind fun r8 =>
                     (some (ret_R_NodeError (res_R_FlowError_0 r8)))))
                   ((C_R_HasGrid F_R_HasGrid a0.2.1).bind fun r7 =>
                    (bcond (res_R_HasGrid_0 r7)
                     ((C_R_GridError F_R_GridError a0.2.2.2.2.1).bind fun r8 =>
                      (bcond (((res_R_GridError_0 r8) : Int) != 0)
                       (some (ret_R_NodeError (res_R_GridError_0 r8)))
                       ((C_R_CellKinds F_R_CellKinds a0.2.1 a0.2.2.2.2.1.2.2.1).bind fun r9 =>
                        (some (ret_R_NodeError (res_R_CellKinds_0 r9))))))
                     ((C_R_DrawError F_R_DrawError a0.2.2.2.2.2).bind fun r8 =>
                      (some (ret_R_NodeError (res_R_DrawError_0 r8))))))))))
               (some (ret_R_NodeError 4)))
              ((C_R_zeroGrid F_R_zeroGrid a0.2.2.2.2.1).bind fun r6 =>
               (bcond ((!(res_R_zeroGrid_0 r6)) == true)
                ((C_R_HasGrid F_R_HasGrid a0.2.1).bind fun r7 =>
                 (bcond ((!(res_R_HasGrid_0 r7)) == false)
                  (bcond ((decide (((List.length a0.2.2.2.2.2 : Int) : Int) > 0)) == true)
                   ((C_R_HasDraw F_R_HasDraw a0.2.1).bind fun r8 =>
                    (bcond (!(res_R_HasDraw_0 r8))
                     (some (ret_R_NodeError 4))
                     (bcond (res_R_HasList_0 r5)
                      ((C_R_HasText F_R_HasText a0.2.1).bind fun r9 =>
                       ((C_R_FlowError F_R_FlowError a0.2.2.2.1 (res_R_HasText_0 r9)).bind fun r10 =>
                        (some (ret_R_NodeError (res_R_FlowError_0 r10)))))
                      ((C_R_HasGrid F_R_HasGrid a0.2.1).bind fun r9 =>
                       (bcond (res_R_HasGrid_0 r9)
                        ((C_R_GridError F_R_GridError a0.2.2.2.2.1).bind fun r10 =>
                         (bcond (((res_R_GridError_0 r10) : Int) != 0)
                          (some (ret_R_NodeError (res_R_GridError_0 r10)))
                          ((C_R_CellKinds F_R_CellKinds a0.2.1 a0.2.2.2.2.1.2.2.1).bind fun r11 =>
                           (some (ret_R_NodeError (res_R_CellKinds_0 r11))))))
                        ((C_R_DrawError F_R_DrawError a0.2.2.2.2.2).bind fun r10 =>
                         (some (ret_R_NodeError (res_R_DrawError_0 r10)))))))))
                   (bcond (res_R_HasList_0 r5)
                    ((C_R_HasText F_R_HasText a0.2.1).bind fun r8 =>
                     ((C_R_FlowError F_R_FlowError a0.2.2.2.1 (res_R_HasText_0 r8)).bind fun r9 =>
                      (some (ret_R_NodeError (res_R_FlowError_0 r9)))))
                    ((C_R_HasGrid F_R_HasGrid a0.2.1).bind fun r8 =>
                     (bcond (res_R_HasGrid_0 r8)
                      ((C_R_GridError F_R_GridError a0.2.2.2.2.1).bind fun r9 =>
                       (bcond (((res_R_GridError_0 r9) : Int) != 0)
                        (some (ret_R_NodeError (res_R_GridError_0 r9)))
                        ((C_R_CellKinds F_R_CellKinds a0.2.1 a0.2.2.2.2.1.2.2.1).bind fun r10 =>
                         (some (ret_R_NodeError (res_R_CellKinds_0 r10))))))
                      ((C_R_DrawError F_R_DrawError a0.2.2.2.2.2).bind fun r9 =>
                       (some (ret_R_NodeError (res_R_DrawError_0 r9))))))))
                  (some (ret_R_NodeError 4))))
                (bcond ((decide (((List.length a0.2.2.2.2.2 : Int) : Int) > 0)) == true)
                 ((C_R_HasDraw F_R_HasDraw a0.2.1).bind fun r7 =>
                  (bcond (!(res_R_HasDraw_0 r7))
                   (some (ret_R_NodeError 4))
                   (bcond (res_R_HasList_0 r5)
                    ((C_R_HasText F_R_HasText a0.2.1).bind fun r8 =>
                     ((C_R_FlowError F_R_FlowError a0.2.2.2.1 (res_R_HasText_0 r8)).bind fun r9 =>
                      (some (ret_R_NodeError (res_R_FlowError_0 r9)))))
                    ((C_R_HasGrid F_R_HasGrid a0.2.1).bind fun r8 =>
                     (bcond (res_R_HasGrid_0 r8)
                      ((C_R_GridError F_R_GridError a0.2.2.2.2.1).bind fun r9 =>
                       (bcond (((res_R_GridError_0 r9) : Int) != 0)
                        (some (ret_R_NodeError (res_R_GridError_0 r9)))
                        ((C_R_CellKinds F_R_CellKinds a0.2.1 a0.2.2.2.2.1.2.2.1).bind fun r10 =>
                         (some (ret_R_NodeError (res_R_CellKinds_0 r10))))))
                      ((C_R_DrawError F_R_DrawError a0.2.2.2.2.2).bind fun r9 =>
                       (some (ret_R_NodeError (res_R_DrawError_0 r9)))))))))
                 (bcond (res_R_HasList_0 r5)
                  ((C_R_HasText F_R_HasText a0.2.1).bind fun r7 =>
                   ((C_R_FlowError F_R_FlowError a0.2.2.2.1 (res_R_HasText_0 r7)).bind fun r8 =>
                    (some (ret_R_NodeError (res_R_FlowError_0 r8)))))
                  ((C_R_HasGrid F_R_HasGrid a0.2.1).bind fun r7 =>
                   (bcond (res_R_HasGrid_0 r7)
                    ((C_R_GridError F_R_GridError a0.2.2.2.2.1).bind fun r8 =>
                     (bcond (((res_R_GridError_0 r8) : Int) != 0)
                      (some (ret_R_NodeError (res_R_GridError_0 r8)))
                      ((C_R_CellKinds F_R_CellKinds a0.2.1 a0.2.2.2.2.1.2.2.1).bind fun r9 =>
                       (some (ret_R_NodeError (res_R_CellKinds_0 r9))))))
                    ((C_R_DrawError F_R_DrawError a0.2.2.2.2.2).bind fun r8 =>
                     (some (ret_R_NodeError (res_R_DrawError_0 r8))))))))))))
            (bcond ((decide (((List.length a0.2.2.2.1 : Int) : Int) > 0)) == true)
             ((C_R_zeroGrid F_R_zeroGrid a0.2.2.2.2.1).bind fun r5 =>
              (bcond ((!(res_R_zeroGrid_0 r5)) == true)
               ((C_R_HasGrid F_R_HasGrid a0.2.1).bind fun r6 =>
                (bcond ((!(res_R_HasGrid_0 r6)) == false)
                 (bcond ((decide (((List.length a0.2.2.2.2.2 : Int) : Int) > 0)) == true)
                  ((C_R_HasDraw F_R_HasDraw a0.2.1).bind fun r7 =>
                   (bcond (!(res_R_HasDraw_0 r7))
                    (some (ret_R_NodeError 4))
                    ((C_R_HasText F_R_HasText a0.2.1).bind fun r8 =>
                     ((C_R_FlowError F_R_FlowError a0.2.2.2.1 (res_R_HasText_0 r8)).bind fun r9 =>
                      (some (ret_R_NodeError (res_R_FlowError_0 r9)))))))
                  ((C_R_HasText F_R_HasText a0.2.1).bind fun r7 =>
                   ((C_R_FlowError F_R_FlowError a0.2.2.2.1 (res_R_HasText_0 r7)).bind fun r8 =>
                    (some (ret_R_NodeError (res_R_FlowError_0 r8))))))
                 (some (ret_R_NodeError 4))))
               (bcond ((decide (((List.length a0.2.2.2.2.2 : Int) : Int) > 0)) == true)
                ((C_R_HasDraw F_R_HasDraw a0.2.1).bind fun r6 =>
                 (bcond (!(res_R_HasDraw_0 r6))
                  (some (ret_R_NodeError 4))
                  ((C_R_HasText F_R_HasText a0.2.1).bind fun r7 =>
                   ((C_R_FlowError F_R_FlowError a0.2.2.2.1 (res_R_HasText_0 r7)).bind fun r8 =>
                    (some (ret_R_NodeError (res_R_FlowError_0 r8)))))))
                ((C_R_HasText F_R_HasText a0.2.1).bind fun r6 =>
                 ((C_R_FlowError F_R_FlowError a0.2.2.2.1 (res_R_HasText_0 r6)).bind fun r7 =>
                  (some (ret_R_NodeError (res_R_FlowError_0 r7))))))))
             ((C_R_zeroGrid F_R_zeroGrid a0.2.2.2.2.1).bind fun r5 =>
              (bcond ((!(res_R_zeroGrid_0 r5)) == true)
               ((C_R_HasGrid F_R_HasGrid a0.2.1).bind fun r6 =>
                (bcond ((!(res_R_HasGrid_0 r6)) == false)
                 (bcond ((decide (((List.length a0.2.2.2.2.2 : Int) : Int) > 0)) == true)
                  ((C_R_HasDraw F_R_HasDraw a0.2.1).bind fun r7 =>
                   (bcond (!(res_R_HasDraw_0 r7))
                    (some (ret_R_NodeError 4))
                    ((C_R_HasText F_R_HasText a0.2.1).bind fun r8 =>
                     ((C_R_FlowError F_R_FlowError a0.2.2.2.1 (res_R_HasText_0 r8)).bind fun r9 =>
                      (some (ret_R_NodeError (res_R_FlowError_0 r9)))))))
                  ((C_R_HasText F_R_HasText a0.2.1).bind fun r7 =>
                   ((C_R_FlowError F_R_FlowError a0.2.2.2.1 (res_R_HasText_0 r7)).bind fun r8 =>
                    (some (ret_R_NodeError (res_R_FlowError_0 r8))))))
                 (some (ret_R_NodeError 4))))
               (bcond ((decide (((List.length a0.2.2.2.2.2 : Int) : Int) > 0)) == true)
                ((C_R_HasDraw F_R_HasDraw a0.2.1).bind fun r6 =>
                 (bcond (!(res_R_HasDraw_0 r6))
                  (some (ret_R_NodeError 4))
                  ((C_R_HasText F_R_HasText a0.2.1).bind fun r7 =>
                   ((C_R_FlowError F_R_FlowError a0.2.2.2.1 (res_R_HasText_0 r7)).bind fun r8 =>
                    (some (ret_R_NodeError (res_R_FlowError_0 r8)))))))
                ((C_R_HasText F_R_HasText a0.2.1).bind fun r6 =>
                 ((C_R_FlowError F_R_FlowError a0.2.2.2.1 (res_R_HasText_0 r6)).bind fun r7 =>
                  (some (ret_R_NodeError (res_R_FlowError_0 r7)))))))))))))))
      (some (ret_R_NodeError 8)))))) := by kernel_rfl
def sig_R_RefsOf : Sig := ⟨[.v true YNode], [], [(false, [.fr (.list (.int .i64))])]⟩
def C_R_RefsOf (F : sig_R_RefsOf.Fn) (a0 : YNode.den) : Option sig_R_RefsOf.Out := F (a0, ()) ()
def ret_R_RefsOf (v0 : List (Int)) : sig_R_RefsOf.Out := (((v0, ()), ()), ())
def res_R_RefsOf_0 (r : sig_R_RefsOf.Out) : List (Int) := r.1.1.1
@[simp] theorem res_R_RefsOf_0_ret (v0 : List (Int)) : res_R_RefsOf_0 (ret_R_RefsOf v0) = v0 := rfl
def os_R_RefsOf : RegT := ⟨[], [], false⟩
def hs_R_RefsOf : List Keep := [[(1, []), (3, [(0, 3, (.int .i64))]), (8, []), (9, [])], [(1, []), (3, [(0, 3, (.int .i64))]), (32, []), (33, [])]]
@[reducible] noncomputable def env_R_RefsOf : Env := []
noncomputable def L_R_RefsOf_0 (n m1 : Nat) (x1_0 : Int) (x1_1 : Int) (x1_2 : List YAttr.den) (x1_3 : List YElem.den) (x1_4 : Int) (x1_5 : Int) (x1_6 : List YCell.den) (x1_7 : List YRect.den) (x1_8 : List YDrawOp.den) (x3 : List (Int)) (x8 : Int) (x9 : Int) : Option sig_R_RefsOf.Out :=
  loopAt T (env_R_RefsOf) os_R_RefsOf sig_R_RefsOf Tryd.f71 hs_R_RefsOf n [.sr, .sr, .sl, .sr, .bl] m1 (mk 56 [(1, .box [.val (.int .i64) x1_0, .val (.int .i64) x1_1, .val (.list YAttr) x1_2, .val (.list YElem) x1_3, .val (.int .i64) x1_4, .val (.int .i64) x1_5, .val (.list YCell) x1_6, .val (.list YRect) x1_7, .val (.list YDrawOp) x1_8]), (3, .cs false [.own 3 (.int .i64) x3]), (8, .cs false [.val (.int .i64) x8]), (9, .cs false [.val (.int .i64) x9])])
noncomputable def L_R_RefsOf_1 (n m1 : Nat) (x1_0 : Int) (x1_1 : Int) (x1_2 : List YAttr.den) (x1_3 : List YElem.den) (x1_4 : Int) (x1_5 : Int) (x1_6 : List YCell.den) (x1_7 : List YRect.den) (x1_8 : List YDrawOp.den) (x3 : List (Int)) (x32 : Int) (x33 : Int) : Option sig_R_RefsOf.Out :=
  loopAt T (env_R_RefsOf) os_R_RefsOf sig_R_RefsOf Tryd.f71 hs_R_RefsOf n [.sr, .sr, .sr, .sl, .sr, .bl] m1 (mk 56 [(1, .box [.val (.int .i64) x1_0, .val (.int .i64) x1_1, .val (.list YAttr) x1_2, .val (.list YElem) x1_3, .val (.int .i64) x1_4, .val (.int .i64) x1_5, .val (.list YCell) x1_6, .val (.list YRect) x1_7, .val (.list YDrawOp) x1_8]), (3, .cs false [.own 3 (.int .i64) x3]), (32, .cs false [.val (.int .i64) x32]), (33, .cs false [.val (.int .i64) x33])])
theorem L_R_RefsOf_0_step (n m1 : Nat) (x1_0 : Int) (x1_1 : Int) (x1_2 : List YAttr.den) (x1_3 : List YElem.den) (x1_4 : Int) (x1_5 : Int) (x1_6 : List YCell.den) (x1_7 : List YRect.den) (x1_8 : List YDrawOp.den) (x3 : List (Int)) (x8 : Int) (x9 : Int) : L_R_RefsOf_0 n (m1 + 1) x1_0 x1_1 x1_2 x1_3 x1_4 x1_5 x1_6 x1_7 x1_8 x3 x8 x9 =
  (bcond (decide ((x9 : Int) < x8))
   (if 0 ≤ (x9 : Int) ∧ (x9 : Int) < (List.length x1_3 : Int) then
    (bcond (((at_ (e := YElem) x1_3 x9).2.1 : Int) != 0)
     (if 0 ≤ (x9 : Int) ∧ (x9 : Int) < (List.length x1_3 : Int) then
      (if (List.length (x3 : List Int) + List.length ([(at_ (e := YElem) x1_3 x9).2.1] : List Int)) * 8 ≤ 140737488355328 then
       (L_R_RefsOf_0 n m1 x1_0 x1_1 x1_2 x1_3 x1_4 x1_5 x1_6 x1_7 x1_8 (x3 ++ [(at_ (e := YElem) x1_3 x9).2.1]) x8 (IntKind.i64.wrap (x9 + 1)))
      else none)
     else none)
     (L_R_RefsOf_0 n m1 x1_0 x1_1 x1_2 x1_3 x1_4 x1_5 x1_6 x1_7 x1_8 x3 x8 (IntKind.i64.wrap (x9 + 1))))
   else none)
   (L_R_RefsOf_1 n n x1_0 x1_1 x1_2 x1_3 x1_4 x1_5 x1_6 x1_7 x1_8 x3 (List.length x1_6 : Int) 0)) := by kernel_rfl
theorem L_R_RefsOf_1_step (n m1 : Nat) (x1_0 : Int) (x1_1 : Int) (x1_2 : List YAttr.den) (x1_3 : List YElem.den) (x1_4 : Int) (x1_5 : Int) (x1_6 : List YCell.den) (x1_7 : List YRect.den) (x1_8 : List YDrawOp.den) (x3 : List (Int)) (x32 : Int) (x33 : Int) : L_R_RefsOf_1 n (m1 + 1) x1_0 x1_1 x1_2 x1_3 x1_4 x1_5 x1_6 x1_7 x1_8 x3 x32 x33 =
  (bcond (decide ((x33 : Int) < x32))
   (if 0 ≤ (x33 : Int) ∧ (x33 : Int) < (List.length x1_6 : Int) then
    (bcond (((at_ (e := YCell) x1_6 x33).2.2.2.1 : Int) != 0)
     (if 0 ≤ (x33 : Int) ∧ (x33 : Int) < (List.length x1_6 : Int) then
      (if (List.length (x3 : List Int) + List.length ([(at_ (e := YCell) x1_6 x33).2.2.2.1] : List Int)) * 8 ≤ 140737488355328 then
       (L_R_RefsOf_1 n m1 x1_0 x1_1 x1_2 x1_3 x1_4 x1_5 x1_6 x1_7 x1_8 (x3 ++ [(at_ (e := YCell) x1_6 x33).2.2.2.1]) x32 (IntKind.i64.wrap (x33 + 1)))
      else none)
     else none)
     (L_R_RefsOf_1 n m1 x1_0 x1_1 x1_2 x1_3 x1_4 x1_5 x1_6 x1_7 x1_8 x3 x32 (IntKind.i64.wrap (x33 + 1))))
   else none)
   (some (ret_R_RefsOf x3))) := by kernel_rfl
theorem ok_R_RefsOf : fnOk os_R_RefsOf sig_R_RefsOf Tryd.f71 = true := by kernel_rfl
theorem fn_R_RefsOf : P.funcs[71]? = some Tryd.f71 := by kernel_rfl
noncomputable def F_R_RefsOf : sig_R_RefsOf.Fn := fun x y => run T (env_R_RefsOf) os_R_RefsOf sig_R_RefsOf Tryd.f71 hs_R_RefsOf big x y
theorem S_R_RefsOf : Sound P 71 ⟨sig_R_RefsOf, F_R_RefsOf⟩ := sound_of (os := os_R_RefsOf) (hs := hs_R_RefsOf) (env_nil) fn_R_RefsOf ok_R_RefsOf (fun x y out h => ⟨big, h⟩)
theorem e_R_RefsOf (a0 : YNode.den) : C_R_RefsOf F_R_RefsOf a0 =
  (L_R_RefsOf_0 big big a0.1 a0.2.1 a0.2.2.1 a0.2.2.2.1 a0.2.2.2.2.1.1 a0.2.2.2.2.1.2.1 a0.2.2.2.2.1.2.2.1 a0.2.2.2.2.1.2.2.2 a0.2.2.2.2.2 [] (List.length a0.2.2.2.1 : Int) 0) := by kernel_rfl
def sig_R_RefsError : Sig := ⟨[.v true YDoc, .v false (.int .i64), .v false (.list (.int .i64))], [], [(false, [.fr (.int .i64)])]⟩
def C_R_RefsError (F : sig_R_RefsError.Fn) (a0 : List YNode.den) (a1 : Int) (a2 : List (Int)) : Option sig_R_RefsError.Out := F (a0, a1, a2, ()) ()
def ret_R_RefsError (v0 : Int) : sig_R_RefsError.Out := (((v0, ()), ()), ())
def res_R_RefsError_0 (r : sig_R_RefsError.Out) : Int := r.1.1.1
@[simp] theorem res_R_RefsError_0_ret (v0 : Int) : res_R_RefsError_0 (ret_R_RefsError v0) = v0 := rfl
def os_R_RefsError : RegT := ⟨[(4, .st 1 (.st 2 (.st 3 (.st 0 (.st 4 (.st 5 (.st 6 (.nil))))))))], [], false⟩
def hs_R_RefsError : List Keep := [[(1, []), (2, []), (3, []), (10, []), (11, [])]]
@[reducible] noncomputable def env_R_RefsError : Env := [(32, ⟨sig_R_Find, F_R_Find⟩), (36, ⟨sig_R_Permitted, F_R_Permitted⟩)]
noncomputable def L_R_RefsError_0 (n m1 : Nat) (x1 : Int) (x2 : List (Int)) (x3 : List YNode.den) (x10 : Int) (x11 : Int) : Option sig_R_RefsError.Out :=
  loopAt T (env_R_RefsError) os_R_RefsError sig_R_RefsError Tryd.f70 hs_R_RefsError n [.sr, .sl, .sr, .bl] m1 (mk 32 [(1, .cs false [.val (.int .i64) x1]), (2, .cs false [.val (.list (.int .i64)) x2]), (3, .box [.val YDoc x3]), (10, .cs false [.val (.int .i64) x10]), (11, .cs false [.val (.int .i64) x11])])
theorem L_R_RefsError_0_step (n m1 : Nat) (x1 : Int) (x2 : List (Int)) (x3 : List YNode.den) (x10 : Int) (x11 : Int) : L_R_RefsError_0 n (m1 + 1) x1 x2 x3 x10 x11 =
  (bcond (decide ((x11 : Int) < x10))
   (if 0 ≤ (x11 : Int) ∧ (x11 : Int) < (List.length x2 : Int) then
    ((C_R_Find F_R_Find x3 (at_ (e := (.int .i64)) x2 x11)).bind fun r1 =>
     (bcond (decide (((res_R_Find_0 r1) : Int) < 0))
      (some (ret_R_RefsError 7))
      (if 0 ≤ ((res_R_Find_0 r1) : Int) ∧ ((res_R_Find_0 r1) : Int) < (List.length x3 : Int) then
       ((C_R_Permitted F_R_Permitted x1 (at_ (e := YNode) x3 (res_R_Find_0 r1)).2.1).bind fun r2 =>
        (bcond (!(res_R_Permitted_0 r2))
         (some (ret_R_RefsError 8))
         (L_R_RefsError_0 n m1 x1 x2 x3 x10 (IntKind.i64.wrap (x11 + 1)))))
      else none)))
   else none)
   (some (ret_R_RefsError 0))) := by kernel_rfl
theorem ok_R_RefsError : fnOk os_R_RefsError sig_R_RefsError Tryd.f70 = true := by kernel_rfl
theorem fn_R_RefsError : P.funcs[70]? = some Tryd.f70 := by kernel_rfl
noncomputable def F_R_RefsError : sig_R_RefsError.Fn := fun x y => run T (env_R_RefsError) os_R_RefsError sig_R_RefsError Tryd.f70 hs_R_RefsError big x y
theorem S_R_RefsError : Sound P 70 ⟨sig_R_RefsError, F_R_RefsError⟩ := sound_of (os := os_R_RefsError) (hs := hs_R_RefsError) (env_cons S_R_Find (env_cons S_R_Permitted (env_nil))) fn_R_RefsError ok_R_RefsError (fun x y out h => ⟨big, h⟩)
theorem e_R_RefsError (a0 : List YNode.den) (a1 : Int) (a2 : List (Int)) : C_R_RefsError F_R_RefsError a0 a1 a2 =
  (L_R_RefsError_0 big big a1 a2 a0 (List.length a2 : Int) 0) := by kernel_rfl
def sig_R_DocError : Sig := ⟨[.v true YDoc], [], [(false, [.fr (.int .i64)])]⟩
def C_R_DocError (F : sig_R_DocError.Fn) (a0 : List YNode.den) : Option sig_R_DocError.Out := F (a0, ()) ()
def ret_R_DocError (v0 : Int) : sig_R_DocError.Out := (((v0, ()), ()), ())
def res_R_DocError_0 (r : sig_R_DocError.Out) : Int := r.1.1.1
@[simp] theorem res_R_DocError_0_ret (v0 : Int) : res_R_DocError_0 (ret_R_DocError v0) = v0 := rfl
def os_R_DocError : RegT := ⟨[(9, .st 0 (.st 1 (.st 2 (.st 3 (.st 4 (.st 5 (.st 6 (.st 7 (.st 8 (.st 9 (.st 10 (.st 11 (.st 12 (.st 13 (.st 14 (.st 16 (.st 20 (.st 22 (.st 23 (.grp [15, 21, 17, 18, 19, 24, 25, 26] (.st 27 (.st 28 (.st 29 (.nil)))))))))))))))))))))))), (15, .st 1 (.st 3 (.st 7 (.st 9 (.grp [0, 2, 8, 4, 5, 6, 10, 11, 12] (.st 13 (.st 14 (.nil))))))))], [], false⟩
def hs_R_DocError : List Keep := [[(1, []), (13, []), (14, [])], [(1, []), (59, []), (60, [])]]
@[reducible] noncomputable def env_R_DocError : Env := [(40, ⟨sig_R_NodeError, F_R_NodeError⟩), (71, ⟨sig_R_RefsOf, F_R_RefsOf⟩), (70, ⟨sig_R_RefsError, F_R_RefsError⟩)]
noncomputable def L_R_DocError_0 (n m1 : Nat) (x1 : List YNode.den) (x13 : Int) (x14 : Int) : Option sig_R_DocError.Out :=
  loopAt T (env_R_DocError) os_R_DocError sig_R_DocError Tryd.f38 hs_R_DocError n [.sr, .sr, .sl, .sr, .bl] m1 (mk 81 [(1, .box [.val YDoc x1]), (13, .cs false [.val (.int .i64) x13]), (14, .cs false [.val (.int .i64) x14])])
noncomputable def L_R_DocError_1 (n m1 : Nat) (x1 : List YNode.den) (x59 : Int) (x60 : Int) : Option sig_R_DocError.Out :=
  loopAt T (env_R_DocError) os_R_DocError sig_R_DocError Tryd.f38 hs_R_DocError n [.sr, .sr, .sr, .sl, .sr, .bl] m1 (mk 81 [(1, .box [.val YDoc x1]), (59, .cs false [.val (.int .i64) x59]), (60, .cs false [.val (.int .i64) x60])])
theorem L_R_DocError_0_step (n m1 : Nat) (x1 : List YNode.den) (x13 : Int) (x14 : Int) : L_R_DocError_0 n (m1 + 1) x1 x13 x14 =
  (bcond (decide ((x14 : Int) < x13))
   (if 0 ≤ (x14 : Int) ∧ (x14 : Int) < (List.length x1 : Int) then
    ((C_R_NodeError F_R_NodeError (at_ (e := YNode) x1 x14)).bind fun r1 =>
     (bcond (((res_R_NodeError_0 r1) : Int) != 0)
      (some (ret_R_DocError (res_R_NodeError_0 r1)))
      (bcond (((x14 : Int) == 0) == true)
       (if 0 ≤ (0 : Int) ∧ (0 : Int) < (List.length x1 : Int) then
        (bcond ((((at_ (e := YNode) x1 0).1 : Int) != 1) == false)
         (bcond ((decide ((x14 : Int) > 0)) == true)
          (if 0 ≤ (x14 : Int) ∧ (x14 : Int) < (List.length x1 : Int) then
           (if 0 ≤ ((IntKind.i64.wrap (x14 - 1)) : Int) ∧ ((IntKind.i64.wrap (x14 - 1)) : Int) < (List.length x1 : Int) then
            (bcond (decide (((at_ (e := YNode) x1 x14).1 : Int) ≤ (at_ (e := YNode) x1 (IntKind.i64.wrap (x14 - 1))).1))
             (some (ret_R_DocError 5))
             (L_R_DocError_0 n m1 x1 x13 (IntKind.i64.wrap (x14 + 1))))
           else none)
          else none)
          (L_R_DocError_0 n m1 x1 x13 (IntKind.i64.wrap (x14 + 1))))
         (some (ret_R_DocError 5)))
       else none)
       (bcond ((decide ((x14 : Int) > 0)) == true)
        (if 0 ≤ (x14 : Int) ∧ (x14 : Int) < (List.length x1 : Int) then
         (if 0 ≤ ((IntKind.i64.wrap (x14 - 1)) : Int) ∧ ((IntKind.i64.wrap (x14 - 1)) : Int) < (List.length x1 : Int) then
          (bcond (decide (((at_ (e := YNode) x1 x14).1 : Int) ≤ (at_ (e := YNode) x1 (IntKind.i64.wrap (x14 - 1))).1))
           (some (ret_R_DocError 5))
           (L_R_DocError_0 n m1 x1 x13 (IntKind.i64.wrap (x14 + 1))))
         else none)
        else none)
        (L_R_DocError_0 n m1 x1 x13 (IntKind.i64.wrap (x14 + 1)))))))
   else none)
   (L_R_DocError_1 n n x1 (List.length x1 : Int) 0)) := by kernel_rfl
theorem L_R_DocError_1_step (n m1 : Nat) (x1 : List YNode.den) (x59 : Int) (x60 : Int) : L_R_DocError_1 n (m1 + 1) x1 x59 x60 =
  (bcond (decide ((x60 : Int) < x59))
   (if 0 ≤ (x60 : Int) ∧ (x60 : Int) < (List.length x1 : Int) then
    (if 0 ≤ (x60 : Int) ∧ (x60 : Int) < (List.length x1 : Int) then
     ((C_R_RefsOf F_R_RefsOf (at_ (e := YNode) x1 x60)).bind fun r1 =>
      ((C_R_RefsError F_R_RefsError x1 (at_ (e := YNode) x1 x60).2.1 (res_R_RefsOf_0 r1)).bind fun r2 =>
       (bcond (((res_R_RefsError_0 r2) : Int) != 0)
        (some (ret_R_DocError (res_R_RefsError_0 r2)))
        (L_R_DocError_1 n m1 x1 x59 (IntKind.i64.wrap (x60 + 1))))))
    else none)
   else none)
   (some (ret_R_DocError 0))) := by kernel_rfl
theorem ok_R_DocError : fnOk os_R_DocError sig_R_DocError Tryd.f38 = true := by kernel_rfl
theorem fn_R_DocError : P.funcs[38]? = some Tryd.f38 := by kernel_rfl
noncomputable def F_R_DocError : sig_R_DocError.Fn := fun x y => run T (env_R_DocError) os_R_DocError sig_R_DocError Tryd.f38 hs_R_DocError big x y
theorem S_R_DocError : Sound P 38 ⟨sig_R_DocError, F_R_DocError⟩ := sound_of (os := os_R_DocError) (hs := hs_R_DocError) (env_cons S_R_NodeError (env_cons S_R_RefsOf (env_cons S_R_RefsError (env_nil)))) fn_R_DocError ok_R_DocError (fun x y out h => ⟨big, h⟩)
theorem e_R_DocError (a0 : List YNode.den) : C_R_DocError F_R_DocError a0 =
  (bcond (((List.length a0 : Int) : Int) == 0)
   (some (ret_R_DocError 11))
   (L_R_DocError_0 big big a0 (List.length a0 : Int) 0)) := by kernel_rfl
end Go.Ev
