/- Functions, step by step. -/
import Derived.Test.YteojfhgljknmiaaDoorGDocS
import Derived.Test.YteojfhgljknmiaaDoorGGridK
import Derived.Test.YteojfhgljknmiaaDoorGRepK
import Derived.Test.YteojfhgljknmiaaDoorGFlowC
namespace Go.Ev
set_option linter.unusedVariables false
set_option maxRecDepth 100000
open Go.Proofs
def sig_doc_Texts : Sig := ⟨[.v false (.int .i64)], [], [(false, [.fr .bool])]⟩
def C_doc_Texts (F : sig_doc_Texts.Fn) (a0 : Int) : Option sig_doc_Texts.Out := F (a0, ()) ()
def ret_doc_Texts (v0 : Bool) : sig_doc_Texts.Out := (((v0, ()), ()), ())
def res_doc_Texts_0 (r : sig_doc_Texts.Out) : Bool := r.1.1.1
@[simp] theorem res_doc_Texts_0_ret (v0 : Bool) : res_doc_Texts_0 (ret_doc_Texts v0) = v0 := rfl
def os_doc_Texts : RegT := ⟨[], [], false⟩
def hs_doc_Texts : List Keep := []
@[reducible] noncomputable def env_doc_Texts : Env := []
theorem ok_doc_Texts : fnOk os_doc_Texts sig_doc_Texts Tryd.f72 = true := by kernel_rfl
theorem fn_doc_Texts : P.funcs[72]? = some Tryd.f72 := by kernel_rfl
noncomputable def F_doc_Texts : sig_doc_Texts.Fn := fun x y => run T (env_doc_Texts) os_doc_Texts sig_doc_Texts Tryd.f72 hs_doc_Texts big x y
theorem S_doc_Texts : Sound P 72 ⟨sig_doc_Texts, F_doc_Texts⟩ := sound_of (os := os_doc_Texts) (hs := hs_doc_Texts) (env_nil) fn_doc_Texts ok_doc_Texts (fun x y out h => ⟨big, h⟩)
theorem e_doc_Texts (a0 : Int) : C_doc_Texts F_doc_Texts a0 =
  (bcond (((a0 : Int) == 1) == false)
   (bcond (((a0 : Int) == 3) == false)
    (bcond (((a0 : Int) == 4) == false)
     (some (ret_doc_Texts ((a0 : Int) == 12)))
     (some (ret_doc_Texts true)))
    (some (ret_doc_Texts true)))
   (some (ret_doc_Texts true))) := by kernel_rfl
def sig_doc_Lists : Sig := ⟨[.v false (.int .i64)], [], [(false, [.fr .bool])]⟩
def C_doc_Lists (F : sig_doc_Lists.Fn) (a0 : Int) : Option sig_doc_Lists.Out := F (a0, ()) ()
def ret_doc_Lists (v0 : Bool) : sig_doc_Lists.Out := (((v0, ()), ()), ())
def res_doc_Lists_0 (r : sig_doc_Lists.Out) : Bool := r.1.1.1
@[simp] theorem res_doc_Lists_0_ret (v0 : Bool) : res_doc_Lists_0 (ret_doc_Lists v0) = v0 := rfl
def os_doc_Lists : RegT := ⟨[], [], false⟩
def hs_doc_Lists : List Keep := []
@[reducible] noncomputable def env_doc_Lists : Env := []
theorem ok_doc_Lists : fnOk os_doc_Lists sig_doc_Lists Tryd.f73 = true := by kernel_rfl
theorem fn_doc_Lists : P.funcs[73]? = some Tryd.f73 := by kernel_rfl
noncomputable def F_doc_Lists : sig_doc_Lists.Fn := fun x y => run T (env_doc_Lists) os_doc_Lists sig_doc_Lists Tryd.f73 hs_doc_Lists big x y
theorem S_doc_Lists : Sound P 73 ⟨sig_doc_Lists, F_doc_Lists⟩ := sound_of (os := os_doc_Lists) (hs := hs_doc_Lists) (env_nil) fn_doc_Lists ok_doc_Lists (fun x y out h => ⟨big, h⟩)
theorem e_doc_Lists (a0 : Int) : C_doc_Lists F_doc_Lists a0 =
  (bcond (((a0 : Int) == 0) == false)
   (some (ret_doc_Lists ((a0 : Int) == 7)))
   (some (ret_doc_Lists true))) := by kernel_rfl
def sig_doc_Grids : Sig := ⟨[.v false (.int .i64)], [], [(false, [.fr .bool])]⟩
def C_doc_Grids (F : sig_doc_Grids.Fn) (a0 : Int) : Option sig_doc_Grids.Out := F (a0, ()) ()
def ret_doc_Grids (v0 : Bool) : sig_doc_Grids.Out := (((v0, ()), ()), ())
def res_doc_Grids_0 (r : sig_doc_Grids.Out) : Bool := r.1.1.1
@[simp] theorem res_doc_Grids_0_ret (v0 : Bool) : res_doc_Grids_0 (ret_doc_Grids v0) = v0 := rfl
def os_doc_Grids : RegT := ⟨[], [], false⟩
def hs_doc_Grids : List Keep := []
@[reducible] noncomputable def env_doc_Grids : Env := []
theorem ok_doc_Grids : fnOk os_doc_Grids sig_doc_Grids Tryd.f74 = true := by kernel_rfl
theorem fn_doc_Grids : P.funcs[74]? = some Tryd.f74 := by kernel_rfl
noncomputable def F_doc_Grids : sig_doc_Grids.Fn := fun x y => run T (env_doc_Grids) os_doc_Grids sig_doc_Grids Tryd.f74 hs_doc_Grids big x y
theorem S_doc_Grids : Sound P 74 ⟨sig_doc_Grids, F_doc_Grids⟩ := sound_of (os := os_doc_Grids) (hs := hs_doc_Grids) (env_nil) fn_doc_Grids ok_doc_Grids (fun x y out h => ⟨big, h⟩)
theorem e_doc_Grids (a0 : Int) : C_doc_Grids F_doc_Grids a0 =
  (bcond (((a0 : Int) == 2) == false)
   (some (ret_doc_Grids ((a0 : Int) == 6)))
   (some (ret_doc_Grids true))) := by kernel_rfl
def sig_doc_Draws : Sig := ⟨[.v false (.int .i64)], [], [(false, [.fr .bool])]⟩
def C_doc_Draws (F : sig_doc_Draws.Fn) (a0 : Int) : Option sig_doc_Draws.Out := F (a0, ()) ()
def ret_doc_Draws (v0 : Bool) : sig_doc_Draws.Out := (((v0, ()), ()), ())
def res_doc_Draws_0 (r : sig_doc_Draws.Out) : Bool := r.1.1.1
@[simp] theorem res_doc_Draws_0_ret (v0 : Bool) : res_doc_Draws_0 (ret_doc_Draws v0) = v0 := rfl
def os_doc_Draws : RegT := ⟨[], [], false⟩
def hs_doc_Draws : List Keep := []
@[reducible] noncomputable def env_doc_Draws : Env := []
theorem ok_doc_Draws : fnOk os_doc_Draws sig_doc_Draws Tryd.f76 = true := by kernel_rfl
theorem fn_doc_Draws : P.funcs[76]? = some Tryd.f76 := by kernel_rfl
noncomputable def F_doc_Draws : sig_doc_Draws.Fn := fun x y => run T (env_doc_Draws) os_doc_Draws sig_doc_Draws Tryd.f76 hs_doc_Draws big x y
theorem S_doc_Draws : Sound P 76 ⟨sig_doc_Draws, F_doc_Draws⟩ := sound_of (os := os_doc_Draws) (hs := hs_doc_Draws) (env_nil) fn_doc_Draws ok_doc_Draws (fun x y out h => ⟨big, h⟩)
theorem e_doc_Draws (a0 : Int) : C_doc_Draws F_doc_Draws a0 =
  (bcond (((a0 : Int) == 8) == false)
   (bcond (((a0 : Int) == 9) == false)
    (some (ret_doc_Draws ((a0 : Int) == 10)))
    (some (ret_doc_Draws true)))
   (some (ret_doc_Draws true))) := by kernel_rfl
def sig_slices_Index_int : Sig := ⟨[.v false (.list (.int .i64)), .v false (.int .i64)], [], [(false, [.fr (.int .i64)])]⟩
def C_slices_Index_int (F : sig_slices_Index_int.Fn) (a0 : List (Int)) (a1 : Int) : Option sig_slices_Index_int.Out := F (a0, a1, ()) ()
def ret_slices_Index_int (v0 : Int) : sig_slices_Index_int.Out := (((v0, ()), ()), ())
def res_slices_Index_int_0 (r : sig_slices_Index_int.Out) : Int := r.1.1.1
@[simp] theorem res_slices_Index_int_0_ret (v0 : Int) : res_slices_Index_int_0 (ret_slices_Index_int v0) = v0 := rfl
def os_slices_Index_int : RegT := ⟨[], [], false⟩
def hs_slices_Index_int : List Keep := [[(0, []), (1, []), (7, []), (8, [])]]
@[reducible] noncomputable def env_slices_Index_int : Env := []
noncomputable def L_slices_Index_int_0 (n m1 : Nat) (x0 : List (Int)) (x1 : Int) (x7 : Int) (x8 : Int) : Option sig_slices_Index_int.Out :=
  loopAt T (env_slices_Index_int) os_slices_Index_int sig_slices_Index_int Tryd.f96 hs_slices_Index_int n [.sr, .sl, .sr, .bl] m1 (mk 19 [(0, .cs false [.val (.list (.int .i64)) x0]), (1, .cs false [.val (.int .i64) x1]), (7, .cs false [.val (.int .i64) x7]), (8, .cs false [.val (.int .i64) x8])])
theorem L_slices_Index_int_0_step (n m1 : Nat) (x0 : List (Int)) (x1 : Int) (x7 : Int) (x8 : Int) : L_slices_Index_int_0 n (m1 + 1) x0 x1 x7 x8 =
  (bcond (decide ((x8 : Int) < x7))
   (if 0 ≤ (x8 : Int) ∧ (x8 : Int) < (List.length x0 : Int) then
    (bcond ((x1 : Int) == (at_ (e := (.int .i64)) x0 x8))
     (some (ret_slices_Index_int x8))
     (L_slices_Index_int_0 n m1 x0 x1 x7 (IntKind.i64.wrap (x8 + 1))))
   else none)
   (some (ret_slices_Index_int (-1)))) := by kernel_rfl
theorem ok_slices_Index_int : fnOk os_slices_Index_int sig_slices_Index_int Tryd.f96 = true := by kernel_rfl
theorem fn_slices_Index_int : P.funcs[96]? = some Tryd.f96 := by kernel_rfl
noncomputable def F_slices_Index_int : sig_slices_Index_int.Fn := fun x y => run T (env_slices_Index_int) os_slices_Index_int sig_slices_Index_int Tryd.f96 hs_slices_Index_int big x y
theorem S_slices_Index_int : Sound P 96 ⟨sig_slices_Index_int, F_slices_Index_int⟩ := sound_of (os := os_slices_Index_int) (hs := hs_slices_Index_int) (env_nil) fn_slices_Index_int ok_slices_Index_int (fun x y out h => ⟨big, h⟩)
theorem e_slices_Index_int (a0 : List (Int)) (a1 : Int) : C_slices_Index_int F_slices_Index_int a0 a1 =
  (L_slices_Index_int_0 big big a0 a1 (List.length a0 : Int) 0) := by kernel_rfl
def sig_slices_Contains_int : Sig := ⟨[.v false (.list (.int .i64)), .v false (.int .i64)], [], [(false, [.fr .bool])]⟩
def C_slices_Contains_int (F : sig_slices_Contains_int.Fn) (a0 : List (Int)) (a1 : Int) : Option sig_slices_Contains_int.Out := F (a0, a1, ()) ()
def ret_slices_Contains_int (v0 : Bool) : sig_slices_Contains_int.Out := (((v0, ()), ()), ())
def res_slices_Contains_int_0 (r : sig_slices_Contains_int.Out) : Bool := r.1.1.1
@[simp] theorem res_slices_Contains_int_0_ret (v0 : Bool) : res_slices_Contains_int_0 (ret_slices_Contains_int v0) = v0 := rfl
def os_slices_Contains_int : RegT := ⟨[], [], false⟩
def hs_slices_Contains_int : List Keep := []
@[reducible] noncomputable def env_slices_Contains_int : Env := [(96, ⟨sig_slices_Index_int, F_slices_Index_int⟩)]
theorem ok_slices_Contains_int : fnOk os_slices_Contains_int sig_slices_Contains_int Tryd.f66 = true := by kernel_rfl
theorem fn_slices_Contains_int : P.funcs[66]? = some Tryd.f66 := by kernel_rfl
noncomputable def F_slices_Contains_int : sig_slices_Contains_int.Fn := fun x y => run T (env_slices_Contains_int) os_slices_Contains_int sig_slices_Contains_int Tryd.f66 hs_slices_Contains_int big x y
theorem S_slices_Contains_int : Sound P 66 ⟨sig_slices_Contains_int, F_slices_Contains_int⟩ := sound_of (os := os_slices_Contains_int) (hs := hs_slices_Contains_int) (env_cons S_slices_Index_int (env_nil)) fn_slices_Contains_int ok_slices_Contains_int (fun x y out h => ⟨big, h⟩)
theorem e_slices_Contains_int (a0 : List (Int)) (a1 : Int) : C_slices_Contains_int F_slices_Contains_int a0 a1 =
  ((C_slices_Index_int F_slices_Index_int a0 a1).bind fun r1 =>
   (some (ret_slices_Contains_int (decide (((res_slices_Index_int_0 r1) : Int) ≥ 0))))) := by kernel_rfl
def sig_doc_Permitted : Sig := ⟨[.v false (.int .i64), .v false (.int .i64)], [], [(false, [.fr .bool])]⟩
def C_doc_Permitted (F : sig_doc_Permitted.Fn) (a0 : Int) (a1 : Int) : Option sig_doc_Permitted.Out := F (a0, a1, ()) ()
def ret_doc_Permitted (v0 : Bool) : sig_doc_Permitted.Out := (((v0, ()), ()), ())
def res_doc_Permitted_0 (r : sig_doc_Permitted.Out) : Bool := r.1.1.1
@[simp] theorem res_doc_Permitted_0_ret (v0 : Bool) : res_doc_Permitted_0 (ret_doc_Permitted v0) = v0 := rfl
def os_doc_Permitted : RegT := ⟨[], [], false⟩
def hs_doc_Permitted : List Keep := []
@[reducible] noncomputable def env_doc_Permitted : Env := [(66, ⟨sig_slices_Contains_int, F_slices_Contains_int⟩)]
theorem ok_doc_Permitted : fnOk os_doc_Permitted sig_doc_Permitted Tryd.f35 = true := by kernel_rfl
theorem fn_doc_Permitted : P.funcs[35]? = some Tryd.f35 := by kernel_rfl
noncomputable def F_doc_Permitted : sig_doc_Permitted.Fn := fun x y => run T (env_doc_Permitted) os_doc_Permitted sig_doc_Permitted Tryd.f35 hs_doc_Permitted big x y
theorem S_doc_Permitted : Sound P 35 ⟨sig_doc_Permitted, F_doc_Permitted⟩ := sound_of (os := os_doc_Permitted) (hs := hs_doc_Permitted) (env_cons S_slices_Contains_int (env_nil)) fn_doc_Permitted ok_doc_Permitted (fun x y out h => ⟨big, h⟩)
theorem e_doc_Permitted (a0 : Int) (a1 : Int) : C_doc_Permitted F_doc_Permitted a0 a1 =
  (bcond ((a0 : Int) == 0)
   ((C_slices_Contains_int F_slices_Contains_int [1, 6, 7, 10, 11, 12] a1).bind fun r1 =>
    (some (ret_doc_Permitted (res_slices_Contains_int_0 r1))))
   (bcond ((a0 : Int) == 1)
    ((C_slices_Contains_int F_slices_Contains_int [2, 4, 5, 10] a1).bind fun r1 =>
     (some (ret_doc_Permitted (res_slices_Contains_int_0 r1))))
    (bcond ((a0 : Int) == 3)
     ((C_slices_Contains_int F_slices_Contains_int [4, 5, 10] a1).bind fun r1 =>
      (some (ret_doc_Permitted (res_slices_Contains_int_0 r1))))
     (bcond ((a0 : Int) == 4)
      ((C_slices_Contains_int F_slices_Contains_int [5] a1).bind fun r1 =>
       (some (ret_doc_Permitted (res_slices_Contains_int_0 r1))))
      (bcond ((a0 : Int) == 12)
       ((C_slices_Contains_int F_slices_Contains_int [5] a1).bind fun r1 =>
        (some (ret_doc_Permitted (res_slices_Contains_int_0 r1))))
       (bcond ((a0 : Int) == 2)
        ((C_slices_Contains_int F_slices_Contains_int [3] a1).bind fun r1 =>
         (some (ret_doc_Permitted (res_slices_Contains_int_0 r1))))
        (bcond ((a0 : Int) == 7)
         ((C_slices_Contains_int F_slices_Contains_int [8, 9] a1).bind fun r1 =>
          (some (ret_doc_Permitted (res_slices_Contains_int_0 r1))))
         ((C_slices_Contains_int F_slices_Contains_int [] a1).bind fun r1 =>
          (some (ret_doc_Permitted (res_slices_Contains_int_0 r1))))))))))) := by kernel_rfl
def sig_doc_CheckCells : Sig := ⟨[.v false (.int .i64), .v false (.list YCell)], [], [(false, [.fr (.int .i64)])]⟩
def C_doc_CheckCells (F : sig_doc_CheckCells.Fn) (a0 : Int) (a1 : List YCell.den) : Option sig_doc_CheckCells.Out := F (a0, a1, ()) ()
def ret_doc_CheckCells (v0 : Int) : sig_doc_CheckCells.Out := (((v0, ()), ()), ())
def res_doc_CheckCells_0 (r : sig_doc_CheckCells.Out) : Int := r.1.1.1
@[simp] theorem res_doc_CheckCells_0_ret (v0 : Int) : res_doc_CheckCells_0 (ret_doc_CheckCells v0) = v0 := rfl
def os_doc_CheckCells : RegT := ⟨[], [], false⟩
def hs_doc_CheckCells : List Keep := [[(0, []), (7, []), (8, []), (9, [])]]
@[reducible] noncomputable def env_doc_CheckCells : Env := []
noncomputable def L_doc_CheckCells_0 (n m1 : Nat) (x0 : Int) (x7 : List YCell.den) (x8 : Int) (x9 : Int) : Option sig_doc_CheckCells.Out :=
  loopAt T (env_doc_CheckCells) os_doc_CheckCells sig_doc_CheckCells Tryd.f78 hs_doc_CheckCells n [.sr, .sl, .sr, .bl] m1 (mk 36 [(0, .cs false [.val (.int .i64) x0]), (7, .cs false [.val (.list YCell) x7]), (8, .cs false [.val (.int .i64) x8]), (9, .cs false [.val (.int .i64) x9])])
theorem L_doc_CheckCells_0_step (n m1 : Nat) (x0 : Int) (x7 : List YCell.den) (x8 : Int) (x9 : Int) : L_doc_CheckCells_0 n (m1 + 1) x0 x7 x8 x9 =
  (bcond (decide ((x9 : Int) < x8))
   (if 0 ≤ (x9 : Int) ∧ (x9 : Int) < (List.length x7 : Int) then
    (bcond (((x0 : Int) == 2) == true)
     (bcond ((!(((at_ (e := YCell) x7 x9).2.2.1 : List UInt8) == [])) == false)
      (bcond ((decide (((List.length (at_ (e := YCell) x7 x9).2.2.2.2 : Int) : Int) > 0)) == false)
       (bcond (((x0 : Int) == 6) == true)
        (bcond (((at_ (e := YCell) x7 x9).2.2.2.1 : Int) != 0)
         (some (ret_doc_CheckCells 4))
         (L_doc_CheckCells_0 n m1 x0 x7 x8 (IntKind.i64.wrap (x9 + 1))))
        (L_doc_CheckCells_0 n m1 x0 x7 x8 (IntKind.i64.wrap (x9 + 1))))
       (some (ret_doc_CheckCells 4)))
      (some (ret_doc_CheckCells 4)))
     (bcond (((x0 : Int) == 6) == true)
      (bcond (((at_ (e := YCell) x7 x9).2.2.2.1 : Int) != 0)
       (some (ret_doc_CheckCells 4))
       (L_doc_CheckCells_0 n m1 x0 x7 x8 (IntKind.i64.wrap (x9 + 1))))
      (L_doc_CheckCells_0 n m1 x0 x7 x8 (IntKind.i64.wrap (x9 + 1)))))
   else none)
   (some (ret_doc_CheckCells 0))) := by kernel_rfl
theorem ok_doc_CheckCells : fnOk os_doc_CheckCells sig_doc_CheckCells Tryd.f78 = true := by kernel_rfl
theorem fn_doc_CheckCells : P.funcs[78]? = some Tryd.f78 := by kernel_rfl
noncomputable def F_doc_CheckCells : sig_doc_CheckCells.Fn := fun x y => run T (env_doc_CheckCells) os_doc_CheckCells sig_doc_CheckCells Tryd.f78 hs_doc_CheckCells big x y
theorem S_doc_CheckCells : Sound P 78 ⟨sig_doc_CheckCells, F_doc_CheckCells⟩ := sound_of (os := os_doc_CheckCells) (hs := hs_doc_CheckCells) (env_nil) fn_doc_CheckCells ok_doc_CheckCells (fun x y out h => ⟨big, h⟩)
theorem e_doc_CheckCells (a0 : Int) (a1 : List YCell.den) : C_doc_CheckCells F_doc_CheckCells a0 a1 =
  (L_doc_CheckCells_0 big big a0 a1 (List.length a1 : Int) 0) := by kernel_rfl
def sig_doc_CheckNode : Sig := ⟨[.v true YNode], [], [(false, [.fr (.int .i64)])]⟩
def C_doc_CheckNode (F : sig_doc_CheckNode.Fn) (a0 : YNode.den) : Option sig_doc_CheckNode.Out := F (a0, ()) ()
def ret_doc_CheckNode (v0 : Int) : sig_doc_CheckNode.Out := (((v0, ()), ()), ())
def res_doc_CheckNode_0 (r : sig_doc_CheckNode.Out) : Int := r.1.1.1
@[simp] theorem res_doc_CheckNode_0_ret (v0 : Int) : res_doc_CheckNode_0 (ret_doc_CheckNode v0) = v0 := rfl
def os_doc_CheckNode : RegT := ⟨[(8, .st 0 (.st 8 (.st 1 (.alt 2 (.st 3 (.st 4 (.st 5 (.alt 6 (.st 7 (.st 9 (.st 10 (.st 11 (.st 12 (.nil)))))) (.st 9 (.st 6 (.st 7 (.st 10 (.st 11 (.st 12 (.nil))))))))))) (.st 9 (.st 2 (.st 3 (.st 4 (.st 5 (.st 6 (.st 7 (.st 10 (.st 11 (.st 12 (.nil))))))))))))))), (12, .st 0 (.st 2 (.st 3 (.grp [1, 4] (.st 5 (.st 6 (.nil)))))))], [], false⟩
def hs_doc_CheckNode : List Keep := []
@[reducible] noncomputable def env_doc_CheckNode : Env := [(43, ⟨sig_attr_Check, F_attr_Check⟩), (72, ⟨sig_doc_Texts, F_doc_Texts⟩), (73, ⟨sig_doc_Lists, F_doc_Lists⟩), (74, ⟨sig_doc_Grids, F_doc_Grids⟩), (75, ⟨sig_grid_Same, F_grid_Same⟩), (76, ⟨sig_doc_Draws, F_doc_Draws⟩), (17, ⟨sig_flow_Check, F_flow_Check⟩), (77, ⟨sig_grid_Check, F_grid_Check⟩), (78, ⟨sig_doc_CheckCells, F_doc_CheckCells⟩), (79, ⟨sig_replica_Check, F_replica_Check⟩)]
noncomputable def J_doc_CheckNode_0 (n : Nat) (y1 : YNode.den) (y4 : Bool) (y5 : Bool) : Option sig_doc_CheckNode.Out :=
  (bcond ((!y4) == true)
   (bcond ((decide (((List.length y1.2.2.2.1 : Int) : Int) > 0)) == false)
    (bcond ((!y5) == true)
     ((C_grid_Same F_grid_Same y1.2.2.2.2.1 (0, (0, ([], [])))).bind fun r5 =>
      (bcond ((!(res_grid_Same_0 r5)) == false)
       ((C_doc_Draws F_doc_Draws y1.2.1).bind fun r6 =>
        (bcond ((!(res_doc_Draws_0 r6)) == true)
         (bcond (decide (((List.length y1.2.2.2.2.2 : Int) : Int) > 0))
          (some (ret_doc_CheckNode 4))
          (bcond y4
           ((C_doc_Texts F_doc_Texts y1.2.1).bind fun r7 =>
            ((C_flow_Check F_flow_Check y1.2.2.2.1 (res_doc_Texts_0 r7)).bind fun r8 =>
             (some (ret_doc_CheckNode (res_flow_Check_0 r8)))))
           (bcond y5
            ((C_grid_Check F_grid_Check y1.2.2.2.2.1).bind fun r7 =>
             (bcond (((res_grid_Check_0 r7) : Int) != 0)
              (some (ret_doc_CheckNode (res_grid_Check_0 r7)))
              ((C_doc_CheckCells F_doc_CheckCells y1.2.1 y1.2.2.2.2.1.2.2.1).bind fun r8 =>
               (some (ret_doc_CheckNode (res_doc_CheckCells_0 r8))))))
            ((C_replica_Check F_replica_Check y1.2.2.2.2.2).bind fun r7 =>
             (some (ret_doc_CheckNode (res_replica_Check_0 r7)))))))
         (bcond y4
          ((C_doc_Texts F_doc_Texts y1.2.1).bind fun r7 =>
           ((C_flow_Check F_flow_Check y1.2.2.2.1 (res_doc_Texts_0 r7)).bind fun r8 =>
            (some (ret_doc_CheckNode (res_flow_Check_0 r8)))))
          (bcond y5
           ((C_grid_Check F_grid_Check y1.2.2.2.2.1).bind fun r7 =>
            (bcond (((res_grid_Check_0 r7) : Int) != 0)
             (some (ret_doc_CheckNode (res_grid_Check_0 r7)))
             ((C_doc_CheckCells F_doc_CheckCells y1.2.1 y1.2.2.2.2.1.2.2.1).bind fun r8 =>
              (some (ret_doc_CheckNode (res_doc_CheckCells_0 r8))))))
           ((C_replica_Check F_replica_Check y1.2.2.2.2.2).bind fun r7 =>
            (some (ret_doc_CheckNode (res_replica_Check_0 r7))))))))
       (some (ret_doc_CheckNode 4))))
     ((C_doc_Draws F_doc_Draws y1.2.1).bind fun r5 =>
      (bcond ((!(res_doc_Draws_0 r5)) == true)
       (bcond (decide (((List.length y1.2.2.2.2.2 : Int) : Int) > 0))
        (some (ret_doc_CheckNode 4))
        (bcond y4
         ((C_doc_Texts F_doc_Texts y1.2.1).bind fun r6 =>
          ((C_flow_Check F_flow_Check y1.2.2.2.1 (res_doc_Texts_0 r6)).bind fun r7 =>
           (some (ret_doc_CheckNode (res_flow_Check_0 r7)))))
         (bcond y5
          ((C_grid_Check F_grid_Check y1.2.2.2.2.1).bind fun r6 =>
           (bcond (((res_grid_Check_0 r6) : Int) != 0)
            (some (ret_doc_CheckNode (res_grid_Check_0 r6)))
            ((C_doc_CheckCells F_doc_CheckCells y1.2.1 y1.2.2.2.2.1.2.2.1).bind fun r7 =>
             (some (ret_doc_CheckNode (res_doc_CheckCells_0 r7))))))
          ((C_replica_Check F_replica_Check y1.2.2.2.2.2).bind fun r6 =>
           (some (ret_doc_CheckNode (res_replica_Check_0 r6)))))))
       (bcond y4
        ((C_doc_Texts F_doc_Texts y1.2.1).bind fun r6 =>
         ((C_flow_Check F_flow_Check y1.2.2.2.1 (res_doc_Texts_0 r6)).bind fun r7 =>
          (some (ret_doc_CheckNode (res_flow_Check_0 r7)))))
        (bcond y5
         ((C_grid_Check F_grid_Check y1.2.2.2.2.1).bind fun r6 =>
          (bcond (((res_grid_Check_0 r6) : Int) != 0)
           (some (ret_doc_CheckNode (res_grid_Check_0 r6)))
           ((C_doc_CheckCells F_doc_CheckCells y1.2.1 y1.2.2.2.2.1.2.2.1).bind fun r7 =>
            (some (ret_doc_CheckNode (res_doc_CheckCells_0 r7))))))
         ((C_replica_Check F_replica_Check y1.2.2.2.2.2).bind fun r6 =>
          (some (ret_doc_CheckNode (res_replica_Check_0 r6)))))))))
    (some (ret_doc_CheckNode 4)))
   (bcond ((!y5) == true)
    ((C_grid_Same F_grid_Same y1.2.2.2.2.1 (0, (0, ([], [])))).bind fun r5 =>
     (bcond ((!(res_grid_Same_0 r5)) == false)
      ((C_doc_Draws F_doc_Draws y1.2.1).bind fun r6 =>
       (bcond ((!(res_doc_Draws_0 r6)) == true)
        (bcond (decide (((List.length y1.2.2.2.2.2 : Int) : Int) > 0))
         (some (ret_doc_CheckNode 4))
         (bcond y4
          ((C_doc_Texts F_doc_Texts y1.2.1).bind fun r7 =>
           ((C_flow_Check F_flow_Check y1.2.2.2.1 (res_doc_Texts_0 r7)).bind fun r8 =>
            (some (ret_doc_CheckNode (res_flow_Check_0 r8)))))
          (bcond y5
           ((C_grid_Check F_grid_Check y1.2.2.2.2.1).bind fun r7 =>
            (bcond (((res_grid_Check_0 r7) : Int) != 0)
             (some (ret_doc_CheckNode (res_grid_Check_0 r7)))
             ((C_doc_CheckCells F_doc_CheckCells y1.2.1 y1.2.2.2.2.1.2.2.1).bind fun r8 =>
              (some (ret_doc_CheckNode (res_doc_CheckCells_0 r8))))))
           ((C_replica_Check F_replica_Check y1.2.2.2.2.2).bind fun r7 =>
            (some (ret_doc_CheckNode (res_replica_Check_0 r7)))))))
        (bcond y4
         ((C_doc_Texts F_doc_Texts y1.2.1).bind fun r7 =>
          ((C_flow_Check F_flow_Check y1.2.2.2.1 (res_doc_Texts_0 r7)).bind fun r8 =>
           (some (ret_doc_CheckNode (res_flow_Check_0 r8)))))
         (bcond y5
          ((C_grid_Check F_grid_Check y1.2.2.2.2.1).bind fun r7 =>
           (bcond (((res_grid_Check_0 r7) : Int) != 0)
            (some (ret_doc_CheckNode (res_grid_Check_0 r7)))
            ((C_doc_CheckCells F_doc_CheckCells y1.2.1 y1.2.2.2.2.1.2.2.1).bind fun r8 =>
             (some (ret_doc_CheckNode (res_doc_CheckCells_0 r8))))))
          ((C_replica_Check F_replica_Check y1.2.2.2.2.2).bind fun r7 =>
           (some (ret_doc_CheckNode (res_replica_Check_0 r7))))))))
      (some (ret_doc_CheckNode 4))))
    ((C_doc_Draws F_doc_Draws y1.2.1).bind fun r5 =>
     (bcond ((!(res_doc_Draws_0 r5)) == true)
      (bcond (decide (((List.length y1.2.2.2.2.2 : Int) : Int) > 0))
       (some (ret_doc_CheckNode 4))
       (bcond y4
        ((C_doc_Texts F_doc_Texts y1.2.1).bind fun r6 =>
         ((C_flow_Check F_flow_Check y1.2.2.2.1 (res_doc_Texts_0 r6)).bind fun r7 =>
          (some (ret_doc_CheckNode (res_flow_Check_0 r7)))))
        (bcond y5
         ((C_grid_Check F_grid_Check y1.2.2.2.2.1).bind fun r6 =>
          (bcond (((res_grid_Check_0 r6) : Int) != 0)
           (some (ret_doc_CheckNode (res_grid_Check_0 r6)))
           ((C_doc_CheckCells F_doc_CheckCells y1.2.1 y1.2.2.2.2.1.2.2.1).bind fun r7 =>
            (some (ret_doc_CheckNode (res_doc_CheckCells_0 r7))))))
         ((C_replica_Check F_replica_Check y1.2.2.2.2.2).bind fun r6 =>
          (some (ret_doc_CheckNode (res_replica_Check_0 r6)))))))
      (bcond y4
       ((C_doc_Texts F_doc_Texts y1.2.1).bind fun r6 =>
        ((C_flow_Check F_flow_Check y1.2.2.2.1 (res_doc_Texts_0 r6)).bind fun r7 =>
         (some (ret_doc_CheckNode (res_flow_Check_0 r7)))))
       (bcond y5
        ((C_grid_Check F_grid_Check y1.2.2.2.2.1).bind fun r6 =>
         (bcond (((res_grid_Check_0 r6) : Int) != 0)
          (some (ret_doc_CheckNode (res_grid_Check_0 r6)))
          ((C_doc_CheckCells F_doc_CheckCells y1.2.1 y1.2.2.2.2.1.2.2.1).bind fun r7 =>
           (some (ret_doc_CheckNode (res_doc_CheckCells_0 r7))))))
        ((C_replica_Check F_replica_Check y1.2.2.2.2.2).bind fun r6 =>
         (some (ret_doc_CheckNode (res_replica_Check_0 r6))))))))))
theorem raw_doc_CheckNode (n : Nat) (a0 : YNode.den) : C_doc_CheckNode (fun x y => run T (env_doc_CheckNode) os_doc_CheckNode sig_doc_CheckNode Tryd.f39 hs_doc_CheckNode n x y) a0 =
  (bcond ((decide ((a0.1 : Int) < 1)) == false)
   (bcond (decide ((a0.1 : Int) > 1073741824))
    (some (ret_doc_CheckNode 2))
    (bcond ((decide ((a0.2.1 : Int) < 0)) == false)
     (bcond ((decide ((a0.2.1 : Int) ≥ 13)) == false)
      (bcond ((((a0.1 : Int) == 1) : Bool) != ((a0.2.1 : Int) == 0))
       (some (ret_doc_CheckNode 8))
       ((C_attr_Check F_attr_Check a0.2.2.1).bind fun r1 =>
        (bcond (((res_attr_Check_0 r1) : Int) != 0)
         (some (ret_doc_CheckNode (res_attr_Check_0 r1)))
         (agree
          ((C_doc_Texts F_doc_Texts a0.2.1).bind fun r2 =>
           (bcond ((res_doc_Texts_0 r2) == false)
            (agree
             ((C_doc_Lists F_doc_Lists a0.2.1).bind fun r3 =>
              ((C_doc_Grids F_doc_Grids a0.2.1).bind fun r4 =>
               (J_doc_CheckNode_0 n a0 (res_doc_Lists_0 r3) (res_doc_Grids_0 r4))))
             ((C_doc_Lists F_doc_Lists a0.2.1).bind fun r3 =>
              ((C_doc_Grids F_doc_Grids a0.2.1).bind fun r4 =>
               (J_doc_CheckNode_0 n a0 (res_doc_Lists_0 r3) (res_doc_Grids_0 r4)))))
            (agree
             ((C_doc_Grids F_doc_Grids a0.2.1).bind fun r3 =>
              (J_doc_CheckNode_0 n a0 true (res_doc_Grids_0 r3)))
             ((C_doc_Grids F_doc_Grids a0.2.1).bind fun r3 =>
              (J_doc_CheckNode_0 n a0 true (res_doc_Grids_0 r3))))))
          ((C_doc_Texts F_doc_Texts a0.2.1).bind fun r2 =>
           (bcond ((res_doc_Texts_0 r2) == false)
            ((C_doc_Lists F_doc_Lists a0.2.1).bind fun r3 =>
             ((C_doc_Grids F_doc_Grids a0.2.1).bind fun r4 =>
              (J_doc_CheckNode_0 n a0 (res_doc_Lists_0 r3) (res_doc_Grids_0 r4))))
            ((C_doc_Grids F_doc_Grids a0.2.1).bind fun r3 =>
             (J_doc_CheckNode_0 n a0 true (res_doc_Grids_0 r3)))))))))
      (some (ret_doc_CheckNode 8)))
     (some (ret_doc_CheckNode 8))))
   (some (ret_doc_CheckNode 2))) := by kernel_rfl
theorem run_doc_CheckNode (n : Nat) (a0 : YNode.den) : C_doc_CheckNode (fun x y => run T (env_doc_CheckNode) os_doc_CheckNode sig_doc_CheckNode Tryd.f39 hs_doc_CheckNode n x y) a0 =
  (bcond ((decide ((a0.1 : Int) < 1)) == false)
   (bcond (decide ((a0.1 : Int) > 1073741824))
    (some (ret_doc_CheckNode 2))
    (bcond ((decide ((a0.2.1 : Int) < 0)) == false)
     (bcond ((decide ((a0.2.1 : Int) ≥ 13)) == false)
      (bcond ((((a0.1 : Int) == 1) : Bool) != ((a0.2.1 : Int) == 0))
       (some (ret_doc_CheckNode 8))
       ((C_attr_Check F_attr_Check a0.2.2.1).bind fun r1 =>
        (bcond (((res_attr_Check_0 r1) : Int) != 0)
         (some (ret_doc_CheckNode (res_attr_Check_0 r1)))
         ((C_doc_Texts F_doc_Texts a0.2.1).bind fun r2 =>
          (bcond ((res_doc_Texts_0 r2) == false)
           ((C_doc_Lists F_doc_Lists a0.2.1).bind fun r3 =>
            ((C_doc_Grids F_doc_Grids a0.2.1).bind fun r4 =>
             (J_doc_CheckNode_0 n a0 (res_doc_Lists_0 r3) (res_doc_Grids_0 r4))))
           ((C_doc_Grids F_doc_Grids a0.2.1).bind fun r3 =>
            (J_doc_CheckNode_0 n a0 true (res_doc_Grids_0 r3))))))))
      (some (ret_doc_CheckNode 8)))
     (some (ret_doc_CheckNode 8))))
   (some (ret_doc_CheckNode 2))) := by rw [raw_doc_CheckNode]; simp only [agree_self]
theorem ok_doc_CheckNode : fnOk os_doc_CheckNode sig_doc_CheckNode Tryd.f39 = true := by kernel_rfl
theorem fn_doc_CheckNode : P.funcs[39]? = some Tryd.f39 := by kernel_rfl
noncomputable def F_doc_CheckNode : sig_doc_CheckNode.Fn := fun x y => run T (env_doc_CheckNode) os_doc_CheckNode sig_doc_CheckNode Tryd.f39 hs_doc_CheckNode big x y
theorem S_doc_CheckNode : Sound P 39 ⟨sig_doc_CheckNode, F_doc_CheckNode⟩ := sound_of (os := os_doc_CheckNode) (hs := hs_doc_CheckNode) (env_cons S_attr_Check (env_cons S_doc_Texts (env_cons S_doc_Lists (env_cons S_doc_Grids (env_cons S_grid_Same (env_cons S_doc_Draws (env_cons S_flow_Check (env_cons S_grid_Check (env_cons S_doc_CheckCells (env_cons S_replica_Check (env_nil))))))))))) fn_doc_CheckNode ok_doc_CheckNode (fun x y out h => ⟨big, h⟩)
theorem e_doc_CheckNode (a0 : YNode.den) : C_doc_CheckNode F_doc_CheckNode a0 =
  (bcond ((decide ((a0.1 : Int) < 1)) == false)
   (bcond (decide ((a0.1 : Int) > 1073741824))
    (some (ret_doc_CheckNode 2))
    (bcond ((decide ((a0.2.1 : Int) < 0)) == false)
     (bcond ((decide ((a0.2.1 : Int) ≥ 13)) == false)
      (bcond ((((a0.1 : Int) == 1) : Bool) != ((a0.2.1 : Int) == 0))
       (some (ret_doc_CheckNode 8))
       ((C_attr_Check F_attr_Check a0.2.2.1).bind fun r1 =>
        (bcond (((res_attr_Check_0 r1) : Int) != 0)
         (some (ret_doc_CheckNode (res_attr_Check_0 r1)))
         ((C_doc_Texts F_doc_Texts a0.2.1).bind fun r2 =>
          (bcond ((res_doc_Texts_0 r2) == false)
           ((C_doc_Lists F_doc_Lists a0.2.1).bind fun r3 =>
            ((C_doc_Grids F_doc_Grids a0.2.1).bind fun r4 =>
             (J_doc_CheckNode_0 big a0 (res_doc_Lists_0 r3) (res_doc_Grids_0 r4))))
           ((C_doc_Grids F_doc_Grids a0.2.1).bind fun r3 =>
            (J_doc_CheckNode_0 big a0 true (res_doc_Grids_0 r3))))))))
      (some (ret_doc_CheckNode 8)))
     (some (ret_doc_CheckNode 8))))
   (some (ret_doc_CheckNode 2))) := run_doc_CheckNode big a0
def sig_doc_find_c1 : Sig := ⟨[.v true YNode, .v false (.int .i64)], [], [(false, [.fr (.int .i64)])]⟩
def C_doc_find_c1 (F : sig_doc_find_c1.Fn) (a0 : YNode.den) (a1 : Int) : Option sig_doc_find_c1.Out := F (a0, a1, ()) ()
def ret_doc_find_c1 (v0 : Int) : sig_doc_find_c1.Out := (((v0, ()), ()), ())
def res_doc_find_c1_0 (r : sig_doc_find_c1.Out) : Int := r.1.1.1
@[simp] theorem res_doc_find_c1_0_ret (v0 : Int) : res_doc_find_c1_0 (ret_doc_find_c1 v0) = v0 := rfl
def os_doc_find_c1 : RegT := ⟨[], [], false⟩
def hs_doc_find_c1 : List Keep := []
@[reducible] noncomputable def env_doc_find_c1 : Env := []
theorem ok_doc_find_c1 : fnOk os_doc_find_c1 sig_doc_find_c1 Tryd.f120 = true := by kernel_rfl
theorem fn_doc_find_c1 : P.funcs[120]? = some Tryd.f120 := by kernel_rfl
noncomputable def F_doc_find_c1 : sig_doc_find_c1.Fn := fun x y => run T (env_doc_find_c1) os_doc_find_c1 sig_doc_find_c1 Tryd.f120 hs_doc_find_c1 big x y
theorem S_doc_find_c1 : Sound P 120 ⟨sig_doc_find_c1, F_doc_find_c1⟩ := sound_of (os := os_doc_find_c1) (hs := hs_doc_find_c1) (env_nil) fn_doc_find_c1 ok_doc_find_c1 (fun x y out h => ⟨big, h⟩)
theorem e_doc_find_c1 (a0 : YNode.den) (a1 : Int) : C_doc_find_c1 F_doc_find_c1 a0 a1 =
  (bcond (decide ((a0.1 : Int) < a1))
   (some (ret_doc_find_c1 (-1)))
   (bcond (decide ((a0.1 : Int) > a1))
    (some (ret_doc_find_c1 1))
    (some (ret_doc_find_c1 0)))) := by kernel_rfl
def sig_slices_BinarySearchFunc_Node_doc_find_c1 : Sig := ⟨[.v false YDoc, .v false (.int .i64), .f 120 []], [], [(false, [.fr (.int .i64)]), (false, [.fr .bool])]⟩
def C_slices_BinarySearchFunc_Node_doc_find_c1 (F : sig_slices_BinarySearchFunc_Node_doc_find_c1.Fn) (a0 : List YNode.den) (a1 : Int) : Option sig_slices_BinarySearchFunc_Node_doc_find_c1.Out := F (a0, a1, ()) ()
def ret_slices_BinarySearchFunc_Node_doc_find_c1 (v0 : Int) (v1 : Bool) : sig_slices_BinarySearchFunc_Node_doc_find_c1.Out := (((v0, ()), (v1, ()), ()), ())
def res_slices_BinarySearchFunc_Node_doc_find_c1_0 (r : sig_slices_BinarySearchFunc_Node_doc_find_c1.Out) : Int := r.1.1.1
@[simp] theorem res_slices_BinarySearchFunc_Node_doc_find_c1_0_ret (v0 : Int) (v1 : Bool) : res_slices_BinarySearchFunc_Node_doc_find_c1_0 (ret_slices_BinarySearchFunc_Node_doc_find_c1 v0 v1) = v0 := rfl
def res_slices_BinarySearchFunc_Node_doc_find_c1_1 (r : sig_slices_BinarySearchFunc_Node_doc_find_c1.Out) : Bool := r.1.2.1.1
@[simp] theorem res_slices_BinarySearchFunc_Node_doc_find_c1_1_ret (v0 : Int) (v1 : Bool) : res_slices_BinarySearchFunc_Node_doc_find_c1_1 (ret_slices_BinarySearchFunc_Node_doc_find_c1 v0 v1) = v1 := rfl
def os_slices_BinarySearchFunc_Node_doc_find_c1 : RegT := ⟨[], [], false⟩
def hs_slices_BinarySearchFunc_Node_doc_find_c1 : List Keep := [[(0, []), (1, []), (2, []), (8, []), (9, []), (10, [])]]
@[reducible] noncomputable def env_slices_BinarySearchFunc_Node_doc_find_c1 : Env := [(120, ⟨sig_doc_find_c1, F_doc_find_c1⟩)]
noncomputable def L_slices_BinarySearchFunc_Node_doc_find_c1_0 (n m1 : Nat) (x0 : List YNode.den) (x1 : Int) (x8 : Int) (x9 : Int) (x10 : Int) : Option sig_slices_BinarySearchFunc_Node_doc_find_c1.Out :=
  loopAt T (env_slices_BinarySearchFunc_Node_doc_find_c1) os_slices_BinarySearchFunc_Node_doc_find_c1 sig_slices_BinarySearchFunc_Node_doc_find_c1 Tryd.f119 hs_slices_BinarySearchFunc_Node_doc_find_c1 n [.sr, .sr, .sr, .sl, .bl] m1 (mk 49 [(0, .cs false [.val YDoc x0]), (1, .cs false [.val (.int .i64) x1]), (2, .cs false [.clo 120 []]), (8, .cs false [.val (.int .i64) x8]), (9, .cs false [.val (.int .i64) x9]), (10, .cs false [.val (.int .i64) x10])])
theorem L_slices_BinarySearchFunc_Node_doc_find_c1_0_step (n m1 : Nat) (x0 : List YNode.den) (x1 : Int) (x8 : Int) (x9 : Int) (x10 : Int) : L_slices_BinarySearchFunc_Node_doc_find_c1_0 n (m1 + 1) x0 x1 x8 x9 x10 =
  (bcond (decide ((x9 : Int) < x10))
   (if 0 ≤ ((IntKind.i64.wrap (shrI .u64 (IntKind.u64.wrap (IntKind.i64.wrap (x9 + x10))) 1)) : Int) ∧ ((IntKind.i64.wrap (shrI .u64 (IntKind.u64.wrap (IntKind.i64.wrap (x9 + x10))) 1)) : Int) < (List.length x0 : Int) then
    ((C_doc_find_c1 F_doc_find_c1 (at_ (e := YNode) x0 (IntKind.i64.wrap (shrI .u64 (IntKind.u64.wrap (IntKind.i64.wrap (x9 + x10))) 1))) x1).bind fun r1 =>
     (bcond (decide (((res_doc_find_c1_0 r1) : Int) < 0))
      (L_slices_BinarySearchFunc_Node_doc_find_c1_0 n m1 x0 x1 x8 (IntKind.i64.wrap ((IntKind.i64.wrap (shrI .u64 (IntKind.u64.wrap (IntKind.i64.wrap (x9 + x10))) 1)) + 1)) x10)
      (L_slices_BinarySearchFunc_Node_doc_find_c1_0 n m1 x0 x1 x8 x9 (IntKind.i64.wrap (shrI .u64 (IntKind.u64.wrap (IntKind.i64.wrap (x9 + x10))) 1)))))
   else none)
   (bcond ((decide ((x9 : Int) < x8)) == true)
    (if 0 ≤ (x9 : Int) ∧ (x9 : Int) < (List.length x0 : Int) then
     ((C_doc_find_c1 F_doc_find_c1 (at_ (e := YNode) x0 x9) x1).bind fun r1 =>
      (some (ret_slices_BinarySearchFunc_Node_doc_find_c1 x9 (((res_doc_find_c1_0 r1) : Int) == 0))))
    else none)
    (some (ret_slices_BinarySearchFunc_Node_doc_find_c1 x9 false)))) := by kernel_rfl
theorem ok_slices_BinarySearchFunc_Node_doc_find_c1 : fnOk os_slices_BinarySearchFunc_Node_doc_find_c1 sig_slices_BinarySearchFunc_Node_doc_find_c1 Tryd.f119 = true := by kernel_rfl
theorem fn_slices_BinarySearchFunc_Node_doc_find_c1 : P.funcs[119]? = some Tryd.f119 := by kernel_rfl
noncomputable def F_slices_BinarySearchFunc_Node_doc_find_c1 : sig_slices_BinarySearchFunc_Node_doc_find_c1.Fn := fun x y => run T (env_slices_BinarySearchFunc_Node_doc_find_c1) os_slices_BinarySearchFunc_Node_doc_find_c1 sig_slices_BinarySearchFunc_Node_doc_find_c1 Tryd.f119 hs_slices_BinarySearchFunc_Node_doc_find_c1 big x y
theorem S_slices_BinarySearchFunc_Node_doc_find_c1 : Sound P 119 ⟨sig_slices_BinarySearchFunc_Node_doc_find_c1, F_slices_BinarySearchFunc_Node_doc_find_c1⟩ := sound_of (os := os_slices_BinarySearchFunc_Node_doc_find_c1) (hs := hs_slices_BinarySearchFunc_Node_doc_find_c1) (env_cons S_doc_find_c1 (env_nil)) fn_slices_BinarySearchFunc_Node_doc_find_c1 ok_slices_BinarySearchFunc_Node_doc_find_c1 (fun x y out h => ⟨big, h⟩)
theorem e_slices_BinarySearchFunc_Node_doc_find_c1 (a0 : List YNode.den) (a1 : Int) : C_slices_BinarySearchFunc_Node_doc_find_c1 F_slices_BinarySearchFunc_Node_doc_find_c1 a0 a1 =
  (L_slices_BinarySearchFunc_Node_doc_find_c1_0 big big a0 a1 (List.length a0 : Int) 0 (List.length a0 : Int)) := by kernel_rfl
def sig_doc_find : Sig := ⟨[.v true YDoc, .v false (.int .i64)], [], [(false, [.fr (.int .i64)]), (false, [.fr .bool])]⟩
def C_doc_find (F : sig_doc_find.Fn) (a0 : List YNode.den) (a1 : Int) : Option sig_doc_find.Out := F (a0, a1, ()) ()
def ret_doc_find (v0 : Int) (v1 : Bool) : sig_doc_find.Out := (((v0, ()), (v1, ()), ()), ())
def res_doc_find_0 (r : sig_doc_find.Out) : Int := r.1.1.1
@[simp] theorem res_doc_find_0_ret (v0 : Int) (v1 : Bool) : res_doc_find_0 (ret_doc_find v0 v1) = v0 := rfl
def res_doc_find_1 (r : sig_doc_find.Out) : Bool := r.1.2.1.1
@[simp] theorem res_doc_find_1_ret (v0 : Int) (v1 : Bool) : res_doc_find_1 (ret_doc_find v0 v1) = v1 := rfl
def os_doc_find : RegT := ⟨[], [], false⟩
def hs_doc_find : List Keep := []
@[reducible] noncomputable def env_doc_find : Env := [(119, ⟨sig_slices_BinarySearchFunc_Node_doc_find_c1, F_slices_BinarySearchFunc_Node_doc_find_c1⟩)]
theorem ok_doc_find : fnOk os_doc_find sig_doc_find Tryd.f97 = true := by kernel_rfl
theorem fn_doc_find : P.funcs[97]? = some Tryd.f97 := by kernel_rfl
noncomputable def F_doc_find : sig_doc_find.Fn := fun x y => run T (env_doc_find) os_doc_find sig_doc_find Tryd.f97 hs_doc_find big x y
theorem S_doc_find : Sound P 97 ⟨sig_doc_find, F_doc_find⟩ := sound_of (os := os_doc_find) (hs := hs_doc_find) (env_cons S_slices_BinarySearchFunc_Node_doc_find_c1 (env_nil)) fn_doc_find ok_doc_find (fun x y out h => ⟨big, h⟩)
theorem e_doc_find (a0 : List YNode.den) (a1 : Int) : C_doc_find F_doc_find a0 a1 =
  ((C_slices_BinarySearchFunc_Node_doc_find_c1 F_slices_BinarySearchFunc_Node_doc_find_c1 a0 a1).bind fun r1 =>
   (some (ret_doc_find (res_slices_BinarySearchFunc_Node_doc_find_c1_0 r1) (res_slices_BinarySearchFunc_Node_doc_find_c1_1 r1)))) := by kernel_rfl
def sig_doc_Refs : Sig := ⟨[.v true YNode], [], [(false, [.fr (.list (.int .i64))])]⟩
def C_doc_Refs (F : sig_doc_Refs.Fn) (a0 : YNode.den) : Option sig_doc_Refs.Out := F (a0, ()) ()
def ret_doc_Refs (v0 : List (Int)) : sig_doc_Refs.Out := (((v0, ()), ()), ())
def res_doc_Refs_0 (r : sig_doc_Refs.Out) : List (Int) := r.1.1.1
@[simp] theorem res_doc_Refs_0_ret (v0 : List (Int)) : res_doc_Refs_0 (ret_doc_Refs v0) = v0 := rfl
def os_doc_Refs : RegT := ⟨[], [], false⟩
def hs_doc_Refs : List Keep := [[(3, [(0, 3, (.int .i64))]), (11, []), (12, []), (13, [])]]
@[reducible] noncomputable def env_doc_Refs : Env := [(21, ⟨sig_flow_Refs, F_flow_Refs⟩)]
noncomputable def L_doc_Refs_0 (n m1 : Nat) (x3 : List (Int)) (x11 : List YCell.den) (x12 : Int) (x13 : Int) : Option sig_doc_Refs.Out :=
  loopAt T (env_doc_Refs) os_doc_Refs sig_doc_Refs Tryd.f69 hs_doc_Refs n [.sr, .sr, .sl, .sr, .bl] m1 (mk 27 [(3, .cs false [.own 3 (.int .i64) x3]), (11, .cs false [.val (.list YCell) x11]), (12, .cs false [.val (.int .i64) x12]), (13, .cs false [.val (.int .i64) x13])])
theorem L_doc_Refs_0_step (n m1 : Nat) (x3 : List (Int)) (x11 : List YCell.den) (x12 : Int) (x13 : Int) : L_doc_Refs_0 n (m1 + 1) x3 x11 x12 x13 =
  (bcond (decide ((x13 : Int) < x12))
   (if 0 ≤ (x13 : Int) ∧ (x13 : Int) < (List.length x11 : Int) then
    (bcond (((at_ (e := YCell) x11 x13).2.2.2.1 : Int) != 0)
     (if (List.length (x3 : List Int) + List.length ([(at_ (e := YCell) x11 x13).2.2.2.1] : List Int)) * 8 ≤ 140737488355328 then
      (L_doc_Refs_0 n m1 (x3 ++ [(at_ (e := YCell) x11 x13).2.2.2.1]) x11 x12 (IntKind.i64.wrap (x13 + 1)))
     else none)
     (L_doc_Refs_0 n m1 x3 x11 x12 (IntKind.i64.wrap (x13 + 1))))
   else none)
   (some (ret_doc_Refs x3))) := by kernel_rfl
theorem ok_doc_Refs : fnOk os_doc_Refs sig_doc_Refs Tryd.f69 = true := by kernel_rfl
theorem fn_doc_Refs : P.funcs[69]? = some Tryd.f69 := by kernel_rfl
noncomputable def F_doc_Refs : sig_doc_Refs.Fn := fun x y => run T (env_doc_Refs) os_doc_Refs sig_doc_Refs Tryd.f69 hs_doc_Refs big x y
theorem S_doc_Refs : Sound P 69 ⟨sig_doc_Refs, F_doc_Refs⟩ := sound_of (os := os_doc_Refs) (hs := hs_doc_Refs) (env_cons S_flow_Refs (env_nil)) fn_doc_Refs ok_doc_Refs (fun x y out h => ⟨big, h⟩)
theorem e_doc_Refs (a0 : YNode.den) : C_doc_Refs F_doc_Refs a0 =
  ((C_flow_Refs F_flow_Refs a0.2.2.2.1).bind fun r1 =>
   (L_doc_Refs_0 big big (res_flow_Refs_0 r1) a0.2.2.2.2.1.2.2.1 (List.length a0.2.2.2.2.1.2.2.1 : Int) 0)) := by kernel_rfl
def sig_doc_CheckRefs : Sig := ⟨[.v true YDoc, .v false (.int .i64), .v false (.list (.int .i64))], [], [(false, [.fr (.int .i64)])]⟩
def C_doc_CheckRefs (F : sig_doc_CheckRefs.Fn) (a0 : List YNode.den) (a1 : Int) (a2 : List (Int)) : Option sig_doc_CheckRefs.Out := F (a0, a1, a2, ()) ()
def ret_doc_CheckRefs (v0 : Int) : sig_doc_CheckRefs.Out := (((v0, ()), ()), ())
def res_doc_CheckRefs_0 (r : sig_doc_CheckRefs.Out) : Int := r.1.1.1
@[simp] theorem res_doc_CheckRefs_0_ret (v0 : Int) : res_doc_CheckRefs_0 (ret_doc_CheckRefs v0) = v0 := rfl
def os_doc_CheckRefs : RegT := ⟨[], [], false⟩
def hs_doc_CheckRefs : List Keep := [[(1, []), (3, []), (11, []), (12, []), (13, [])]]
@[reducible] noncomputable def env_doc_CheckRefs : Env := [(97, ⟨sig_doc_find, F_doc_find⟩), (35, ⟨sig_doc_Permitted, F_doc_Permitted⟩)]
noncomputable def L_doc_CheckRefs_0 (n m1 : Nat) (x1 : Int) (x3 : List YNode.den) (x11 : List (Int)) (x12 : Int) (x13 : Int) : Option sig_doc_CheckRefs.Out :=
  loopAt T (env_doc_CheckRefs) os_doc_CheckRefs sig_doc_CheckRefs Tryd.f68 hs_doc_CheckRefs n [.sr, .sl, .sr, .bl] m1 (mk 35 [(1, .cs false [.val (.int .i64) x1]), (3, .box [.val YDoc x3]), (11, .cs false [.val (.list (.int .i64)) x11]), (12, .cs false [.val (.int .i64) x12]), (13, .cs false [.val (.int .i64) x13])])
theorem L_doc_CheckRefs_0_step (n m1 : Nat) (x1 : Int) (x3 : List YNode.den) (x11 : List (Int)) (x12 : Int) (x13 : Int) : L_doc_CheckRefs_0 n (m1 + 1) x1 x3 x11 x12 x13 =
  (bcond (decide ((x13 : Int) < x12))
   (if 0 ≤ (x13 : Int) ∧ (x13 : Int) < (List.length x11 : Int) then
    ((C_doc_find F_doc_find x3 (at_ (e := (.int .i64)) x11 x13)).bind fun r1 =>
     (bcond (!(res_doc_find_1 r1))
      (some (ret_doc_CheckRefs 7))
      (if 0 ≤ ((res_doc_find_0 r1) : Int) ∧ ((res_doc_find_0 r1) : Int) < (List.length x3 : Int) then
       ((C_doc_Permitted F_doc_Permitted x1 (at_ (e := YNode) x3 (res_doc_find_0 r1)).2.1).bind fun r2 =>
        (bcond (!(res_doc_Permitted_0 r2))
         (some (ret_doc_CheckRefs 8))
         (L_doc_CheckRefs_0 n m1 x1 x3 x11 x12 (IntKind.i64.wrap (x13 + 1)))))
      else none)))
   else none)
   (some (ret_doc_CheckRefs 0))) := by kernel_rfl
theorem ok_doc_CheckRefs : fnOk os_doc_CheckRefs sig_doc_CheckRefs Tryd.f68 = true := by kernel_rfl
theorem fn_doc_CheckRefs : P.funcs[68]? = some Tryd.f68 := by kernel_rfl
noncomputable def F_doc_CheckRefs : sig_doc_CheckRefs.Fn := fun x y => run T (env_doc_CheckRefs) os_doc_CheckRefs sig_doc_CheckRefs Tryd.f68 hs_doc_CheckRefs big x y
theorem S_doc_CheckRefs : Sound P 68 ⟨sig_doc_CheckRefs, F_doc_CheckRefs⟩ := sound_of (os := os_doc_CheckRefs) (hs := hs_doc_CheckRefs) (env_cons S_doc_find (env_cons S_doc_Permitted (env_nil))) fn_doc_CheckRefs ok_doc_CheckRefs (fun x y out h => ⟨big, h⟩)
theorem e_doc_CheckRefs (a0 : List YNode.den) (a1 : Int) (a2 : List (Int)) : C_doc_CheckRefs F_doc_CheckRefs a0 a1 a2 =
  (L_doc_CheckRefs_0 big big a1 a0 a2 (List.length a2 : Int) 0) := by kernel_rfl
def sig_doc_Check : Sig := ⟨[.v true YDoc], [], [(false, [.fr (.int .i64)])]⟩
def C_doc_Check (F : sig_doc_Check.Fn) (a0 : List YNode.den) : Option sig_doc_Check.Out := F (a0, ()) ()
def ret_doc_Check (v0 : Int) : sig_doc_Check.Out := (((v0, ()), ()), ())
def res_doc_Check_0 (r : sig_doc_Check.Out) : Int := r.1.1.1
@[simp] theorem res_doc_Check_0_ret (v0 : Int) : res_doc_Check_0 (ret_doc_Check v0) = v0 := rfl
def os_doc_Check : RegT := ⟨[(9, .st 0 (.st 1 (.st 2 (.st 3 (.st 4 (.st 5 (.st 6 (.st 7 (.st 8 (.st 9 (.st 10 (.st 11 (.st 13 (.st 15 (.st 16 (.st 14 (.st 17 (.st 18 (.st 12 (.st 19 (.st 20 (.st 21 (.st 22 (.nil)))))))))))))))))))))))), (15, .st 1 (.st 3 (.grp [0, 2, 4] (.st 5 (.st 6 (.nil))))))], [], false⟩
def hs_doc_Check : List Keep := [[(1, []), (14, []), (15, []), (16, [])], [(1, []), (51, []), (52, []), (53, [])]]
@[reducible] noncomputable def env_doc_Check : Env := [(39, ⟨sig_doc_CheckNode, F_doc_CheckNode⟩), (69, ⟨sig_doc_Refs, F_doc_Refs⟩), (68, ⟨sig_doc_CheckRefs, F_doc_CheckRefs⟩)]
noncomputable def L_doc_Check_0 (n m1 : Nat) (x1 : List YNode.den) (x14 : List YNode.den) (x15 : Int) (x16 : Int) : Option sig_doc_Check.Out :=
  loopAt T (env_doc_Check) os_doc_Check sig_doc_Check Tryd.f37 hs_doc_Check n [.sr, .sr, .sl, .sr, .bl] m1 (mk 67 [(1, .box [.val YDoc x1]), (14, .cs false [.val YDoc x14]), (15, .cs false [.val (.int .i64) x15]), (16, .cs false [.val (.int .i64) x16])])
noncomputable def L_doc_Check_1 (n m1 : Nat) (x1 : List YNode.den) (x51 : List YNode.den) (x52 : Int) (x53 : Int) : Option sig_doc_Check.Out :=
  loopAt T (env_doc_Check) os_doc_Check sig_doc_Check Tryd.f37 hs_doc_Check n [.sr, .sr, .sr, .sl, .sr, .bl] m1 (mk 67 [(1, .box [.val YDoc x1]), (51, .cs false [.val YDoc x51]), (52, .cs false [.val (.int .i64) x52]), (53, .cs false [.val (.int .i64) x53])])
theorem L_doc_Check_0_step (n m1 : Nat) (x1 : List YNode.den) (x14 : List YNode.den) (x15 : Int) (x16 : Int) : L_doc_Check_0 n (m1 + 1) x1 x14 x15 x16 =
  (bcond (decide ((x16 : Int) < x15))
   (if 0 ≤ (x16 : Int) ∧ (x16 : Int) < (List.length x14 : Int) then
    ((C_doc_CheckNode F_doc_CheckNode (at_ (e := YNode) x14 x16)).bind fun r1 =>
     (bcond (((res_doc_CheckNode_0 r1) : Int) != 0)
      (some (ret_doc_Check (res_doc_CheckNode_0 r1)))
      (bcond (((x16 : Int) == 0) == true)
       (bcond ((((at_ (e := YNode) x14 x16).1 : Int) != 1) == false)
        (bcond ((decide ((x16 : Int) > 0)) == true)
         (if 0 ≤ ((IntKind.i64.wrap (x16 - 1)) : Int) ∧ ((IntKind.i64.wrap (x16 - 1)) : Int) < (List.length x1 : Int) then
          (bcond (decide (((at_ (e := YNode) x14 x16).1 : Int) ≤ (at_ (e := YNode) x1 (IntKind.i64.wrap (x16 - 1))).1))
           (some (ret_doc_Check 5))
           (L_doc_Check_0 n m1 x1 x14 x15 (IntKind.i64.wrap (x16 + 1))))
         else none)
         (L_doc_Check_0 n m1 x1 x14 x15 (IntKind.i64.wrap (x16 + 1))))
        (some (ret_doc_Check 5)))
       (bcond ((decide ((x16 : Int) > 0)) == true)
        (if 0 ≤ ((IntKind.i64.wrap (x16 - 1)) : Int) ∧ ((IntKind.i64.wrap (x16 - 1)) : Int) < (List.length x1 : Int) then
         (bcond (decide (((at_ (e := YNode) x14 x16).1 : Int) ≤ (at_ (e := YNode) x1 (IntKind.i64.wrap (x16 - 1))).1))
          (some (ret_doc_Check 5))
          (L_doc_Check_0 n m1 x1 x14 x15 (IntKind.i64.wrap (x16 + 1))))
        else none)
        (L_doc_Check_0 n m1 x1 x14 x15 (IntKind.i64.wrap (x16 + 1)))))))
   else none)
   (L_doc_Check_1 n n x1 x1 (List.length x1 : Int) 0)) := by kernel_rfl
theorem L_doc_Check_1_step (n m1 : Nat) (x1 : List YNode.den) (x51 : List YNode.den) (x52 : Int) (x53 : Int) : L_doc_Check_1 n (m1 + 1) x1 x51 x52 x53 =
  (bcond (decide ((x53 : Int) < x52))
   (if 0 ≤ (x53 : Int) ∧ (x53 : Int) < (List.length x51 : Int) then
    ((C_doc_Refs F_doc_Refs (at_ (e := YNode) x51 x53)).bind fun r1 =>
     ((C_doc_CheckRefs F_doc_CheckRefs x1 (at_ (e := YNode) x51 x53).2.1 (res_doc_Refs_0 r1)).bind fun r2 =>
      (bcond (((res_doc_CheckRefs_0 r2) : Int) != 0)
       (some (ret_doc_Check (res_doc_CheckRefs_0 r2)))
       (L_doc_Check_1 n m1 x1 x51 x52 (IntKind.i64.wrap (x53 + 1))))))
   else none)
   (some (ret_doc_Check 0))) := by kernel_rfl
theorem ok_doc_Check : fnOk os_doc_Check sig_doc_Check Tryd.f37 = true := by kernel_rfl
theorem fn_doc_Check : P.funcs[37]? = some Tryd.f37 := by kernel_rfl
noncomputable def F_doc_Check : sig_doc_Check.Fn := fun x y => run T (env_doc_Check) os_doc_Check sig_doc_Check Tryd.f37 hs_doc_Check big x y
theorem S_doc_Check : Sound P 37 ⟨sig_doc_Check, F_doc_Check⟩ := sound_of (os := os_doc_Check) (hs := hs_doc_Check) (env_cons S_doc_CheckNode (env_cons S_doc_Refs (env_cons S_doc_CheckRefs (env_nil)))) fn_doc_Check ok_doc_Check (fun x y out h => ⟨big, h⟩)
theorem e_doc_Check (a0 : List YNode.den) : C_doc_Check F_doc_Check a0 =
  (bcond (((List.length a0 : Int) : Int) == 0)
   (some (ret_doc_Check 11))
   (L_doc_Check_0 big big a0 a0 (List.length a0 : Int) 0)) := by kernel_rfl
def sig_doc_First : Sig := ⟨[], [], [(true, [.fr YDoc])]⟩
def C_doc_First (F : sig_doc_First.Fn) : Option sig_doc_First.Out := F () ()
def ret_doc_First (v0 : List YNode.den) : sig_doc_First.Out := (((v0, ()), ()), ())
def res_doc_First_0 (r : sig_doc_First.Out) : List YNode.den := r.1.1.1
@[simp] theorem res_doc_First_0_ret (v0 : List YNode.den) : res_doc_First_0 (ret_doc_First v0) = v0 := rfl
def os_doc_First : RegT := ⟨[], [], false⟩
def hs_doc_First : List Keep := []
@[reducible] noncomputable def env_doc_First : Env := []
theorem ok_doc_First : fnOk os_doc_First sig_doc_First Tryd.f58 = true := by kernel_rfl
theorem fn_doc_First : P.funcs[58]? = some Tryd.f58 := by kernel_rfl
noncomputable def F_doc_First : sig_doc_First.Fn := fun x y => run T (env_doc_First) os_doc_First sig_doc_First Tryd.f58 hs_doc_First big x y
theorem S_doc_First : Sound P 58 ⟨sig_doc_First, F_doc_First⟩ := sound_of (os := os_doc_First) (hs := hs_doc_First) (env_nil) fn_doc_First ok_doc_First (fun x y out h => ⟨big, h⟩)
theorem e_doc_First : C_doc_First F_doc_First =
  (some (ret_doc_First [(1, (0, ([], ([(0, (2, []))], ((0, (0, ([], []))), []))))), (2, (1, ([], ([(10, (0, []))], ((0, (0, ([], []))), [])))))])) := by kernel_rfl
def sig_law_simple : Sig := ⟨[.v false (.list YElem)], [], [(true, [.fr YDoc])]⟩
def C_law_simple (F : sig_law_simple.Fn) (a0 : List YElem.den) : Option sig_law_simple.Out := F (a0, ()) ()
def ret_law_simple (v0 : List YNode.den) : sig_law_simple.Out := (((v0, ()), ()), ())
def res_law_simple_0 (r : sig_law_simple.Out) : List YNode.den := r.1.1.1
@[simp] theorem res_law_simple_0_ret (v0 : List YNode.den) : res_law_simple_0 (ret_law_simple v0) = v0 := rfl
def os_law_simple : RegT := ⟨[], [], false⟩
def hs_law_simple : List Keep := []
@[reducible] noncomputable def env_law_simple : Env := []
theorem ok_law_simple : fnOk os_law_simple sig_law_simple Tryd.f59 = true := by kernel_rfl
theorem fn_law_simple : P.funcs[59]? = some Tryd.f59 := by kernel_rfl
noncomputable def F_law_simple : sig_law_simple.Fn := fun x y => run T (env_law_simple) os_law_simple sig_law_simple Tryd.f59 hs_law_simple big x y
theorem S_law_simple : Sound P 59 ⟨sig_law_simple, F_law_simple⟩ := sound_of (os := os_law_simple) (hs := hs_law_simple) (env_nil) fn_law_simple ok_law_simple (fun x y out h => ⟨big, h⟩)
theorem e_law_simple (a0 : List YElem.den) : C_law_simple F_law_simple a0 =
  (some (ret_law_simple [(1, (0, ([], ([(0, (2, []))], ((0, (0, ([], []))), []))))), (2, (1, ([], (a0, ((0, (0, ([], []))), [])))))])) := by kernel_rfl
def sig_law_end : Sig := ⟨[], [], [(true, [.fr YElem])]⟩
def C_law_end (F : sig_law_end.Fn) : Option sig_law_end.Out := F () ()
def ret_law_end (v0 : YElem.den) : sig_law_end.Out := (((v0, ()), ()), ())
def res_law_end_0 (r : sig_law_end.Out) : YElem.den := r.1.1.1
@[simp] theorem res_law_end_0_ret (v0 : YElem.den) : res_law_end_0 (ret_law_end v0) = v0 := rfl
def os_law_end : RegT := ⟨[], [], false⟩
def hs_law_end : List Keep := []
@[reducible] noncomputable def env_law_end : Env := []
theorem ok_law_end : fnOk os_law_end sig_law_end Tryd.f60 = true := by kernel_rfl
theorem fn_law_end : P.funcs[60]? = some Tryd.f60 := by kernel_rfl
noncomputable def F_law_end : sig_law_end.Fn := fun x y => run T (env_law_end) os_law_end sig_law_end Tryd.f60 hs_law_end big x y
theorem S_law_end : Sound P 60 ⟨sig_law_end, F_law_end⟩ := sound_of (os := os_law_end) (hs := hs_law_end) (env_nil) fn_law_end ok_law_end (fun x y out h => ⟨big, h⟩)
theorem e_law_end : C_law_end F_law_end =
  (some (ret_law_end (10, (0, [])))) := by kernel_rfl
def sig_law_docs : Sig := ⟨[], [], [(false, [.fr .bool])]⟩
def C_law_docs (F : sig_law_docs.Fn) : Option sig_law_docs.Out := F () ()
def ret_law_docs (v0 : Bool) : sig_law_docs.Out := (((v0, ()), ()), ())
def res_law_docs_0 (r : sig_law_docs.Out) : Bool := r.1.1.1
@[simp] theorem res_law_docs_0_ret (v0 : Bool) : res_law_docs_0 (ret_law_docs v0) = v0 := rfl
def os_law_docs : RegT := ⟨[], [], false⟩
def hs_law_docs : List Keep := []
@[reducible] noncomputable def env_law_docs : Env := [(58, ⟨sig_doc_First, F_doc_First⟩), (37, ⟨sig_doc_Check, F_doc_Check⟩), (60, ⟨sig_law_end, F_law_end⟩), (59, ⟨sig_law_simple, F_law_simple⟩), (30, ⟨sig_R_SameDoc, F_R_SameDoc⟩)]
theorem ok_law_docs : fnOk os_law_docs sig_law_docs Tryd.f28 = true := by kernel_rfl
theorem fn_law_docs : P.funcs[28]? = some Tryd.f28 := by kernel_rfl
noncomputable def F_law_docs : sig_law_docs.Fn := fun x y => run T (env_law_docs) os_law_docs sig_law_docs Tryd.f28 hs_law_docs big x y
theorem S_law_docs : Sound P 28 ⟨sig_law_docs, F_law_docs⟩ := sound_of (os := os_law_docs) (hs := hs_law_docs) (env_cons S_doc_First (env_cons S_doc_Check (env_cons S_law_end (env_cons S_law_simple (env_cons S_R_SameDoc (env_nil)))))) fn_law_docs ok_law_docs (fun x y out h => ⟨big, h⟩)
theorem e_law_docs : C_law_docs F_law_docs =
  ((C_doc_First F_doc_First ).bind fun r1 =>
   ((C_doc_Check F_doc_Check (res_doc_First_0 r1)).bind fun r2 =>
    (bcond ((((res_doc_Check_0 r2) : Int) == 0) == true)
     ((C_doc_First F_doc_First ).bind fun r3 =>
      ((C_law_end F_law_end ).bind fun r4 =>
       ((C_law_simple F_law_simple [(res_law_end_0 r4)]).bind fun r5 =>
        ((C_R_SameDoc F_R_SameDoc (res_doc_First_0 r3) (res_law_simple_0 r5)).bind fun r6 =>
         (some (ret_law_docs (res_R_SameDoc_0 r6)))))))
     (some (ret_law_docs false))))) := by kernel_rfl
end Go.Ev
