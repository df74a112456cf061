/- Functions, step by step. -/
import Derived.Test.YtpmeeopafdgbpaaDoorGGridD
import Derived.Test.YtpmeeopafdgbpaaDoorGSpan
namespace Go.Ev
set_option linter.unusedVariables false
set_option maxRecDepth 100000
open Go.Proofs
def sig_grid_CheckEdit : Sig := ⟨[.v true YGridEdit], [], [(false, [.fr (.int .i64)])]⟩
def C_grid_CheckEdit (F : sig_grid_CheckEdit.Fn) (a0 : YGridEdit.den) : Option sig_grid_CheckEdit.Out := F (a0, ()) ()
def ret_grid_CheckEdit (v0 : Int) : sig_grid_CheckEdit.Out := (((v0, ()), ()), ())
def res_grid_CheckEdit_0 (r : sig_grid_CheckEdit.Out) : Int := r.1.1.1
@[simp] theorem res_grid_CheckEdit_0_ret (v0 : Int) : res_grid_CheckEdit_0 (ret_grid_CheckEdit v0) = v0 := rfl
def os_grid_CheckEdit : RegT := ⟨[], [], false⟩
def hs_grid_CheckEdit : List Keep := [[(1, []), (15, []), (16, [])], [(35, []), (36, [])], [(7, []), (35, []), (36, []), (40, []), (41, []), (42, [])]]
@[reducible] noncomputable def env_grid_CheckEdit : Env := [(48, ⟨sig_axis_Check, F_axis_Check⟩), (42, ⟨sig_grid_cells, F_grid_cells⟩), (43, ⟨sig_grid_inside, F_grid_inside⟩)]
noncomputable def L_grid_CheckEdit_0 (n m1 : Nat) (x1_0 : List YSpan.den) (x1_1 : List YSpan.den) (x1_2 : List YCell.den) (x1_3 : List YRect.den) (x1_4 : List YRect.den) (x15_0 : List YSpan.den) (x15_1 : List YSpan.den) (x16 : Int) : Option sig_grid_CheckEdit.Out :=
  loopAt T (env_grid_CheckEdit) os_grid_CheckEdit sig_grid_CheckEdit Tryd.f17 hs_grid_CheckEdit n [.sr, .sl, .sr, .bl] m1 (mk 63 [(1, .box [.val (.list YSpan) x1_0, .val (.list YSpan) x1_1, .val (.list YCell) x1_2, .val (.list YRect) x1_3, .val (.list YRect) x1_4]), (15, .cs true [.val (.list YSpan) x15_0, .val (.list YSpan) x15_1]), (16, .cs false [.val (.int .i64) x16])])
noncomputable def L_grid_CheckEdit_1 (n m1 : Nat) (x35_0 : List YRect.den) (x35_1 : List YRect.den) (x36 : Int) : Option sig_grid_CheckEdit.Out :=
  loopAt T (env_grid_CheckEdit) os_grid_CheckEdit sig_grid_CheckEdit Tryd.f17 hs_grid_CheckEdit n [.sr, .sr, .sr, .sl, .sr, .bl] m1 (mk 63 [(35, .cs true [.val (.list YRect) x35_0, .val (.list YRect) x35_1]), (36, .cs false [.val (.int .i64) x36])])
noncomputable def L_grid_CheckEdit_2 (n m1 m2 : Nat) (x7 : Int) (x35_0 : List YRect.den) (x35_1 : List YRect.den) (x36 : Int) (x40 : List YRect.den) (x41 : Int) (x42 : Int) : Option sig_grid_CheckEdit.Out :=
  loopAt T (env_grid_CheckEdit) os_grid_CheckEdit sig_grid_CheckEdit Tryd.f17 hs_grid_CheckEdit n [.sr, .sr, .sr, .sl, .sr, .bl, .lp m1, .sr, .sr, .sl, .bl, .sr, .sr, .bl] m2 (mk 63 [(7, .cs false [.val (.int .i64) x7]), (35, .cs true [.val (.list YRect) x35_0, .val (.list YRect) x35_1]), (36, .cs false [.val (.int .i64) x36]), (40, .cs false [.val (.list YRect) x40]), (41, .cs false [.val (.int .i64) x41]), (42, .cs false [.val (.int .i64) x42])])
theorem L_grid_CheckEdit_0_step (n m1 : Nat) (x1_0 : List YSpan.den) (x1_1 : List YSpan.den) (x1_2 : List YCell.den) (x1_3 : List YRect.den) (x1_4 : List YRect.den) (x15_0 : List YSpan.den) (x15_1 : List YSpan.den) (x16 : Int) : L_grid_CheckEdit_0 n (m1 + 1) x1_0 x1_1 x1_2 x1_3 x1_4 x15_0 x15_1 x16 =
  (bcond (decide ((x16 : Int) < 2))
   (if 0 ≤ (x16 : Int) ∧ (x16 : Int) < 2 then
    ((C_axis_Check F_axis_Check (at_ (e := (.list YSpan)) [x15_0, x15_1] x16)).bind fun r1 =>
     (bcond (((res_axis_Check_0 r1) : Int) != 0)
      (some (ret_grid_CheckEdit (res_axis_Check_0 r1)))
      (L_grid_CheckEdit_0 n m1 x1_0 x1_1 x1_2 x1_3 x1_4 x15_0 x15_1 (IntKind.i64.wrap (x16 + 1)))))
   else none)
   ((C_grid_cells F_grid_cells x1_2 2147483647 2147483647 true).bind fun r1 =>
    (bcond (((res_grid_cells_0 r1) : Int) != 0)
     (some (ret_grid_CheckEdit (res_grid_cells_0 r1)))
     (L_grid_CheckEdit_1 n n x1_3 x1_4 0)))) := by kernel_rfl
theorem L_grid_CheckEdit_1_step (n m1 : Nat) (x35_0 : List YRect.den) (x35_1 : List YRect.den) (x36 : Int) : L_grid_CheckEdit_1 n (m1 + 1) x35_0 x35_1 x36 =
  (bcond (decide ((x36 : Int) < 2))
   (if 0 ≤ (x36 : Int) ∧ (x36 : Int) < 2 then
    (L_grid_CheckEdit_2 n m1 n x36 x35_0 x35_1 x36 (at_ (e := (.list YRect)) [x35_0, x35_1] x36) (List.length (at_ (e := (.list YRect)) [x35_0, x35_1] x36) : Int) 0)
   else none)
   (some (ret_grid_CheckEdit 0))) := by kernel_rfl
theorem L_grid_CheckEdit_2_step (n m1 m2 : Nat) (x7 : Int) (x35_0 : List YRect.den) (x35_1 : List YRect.den) (x36 : Int) (x40 : List YRect.den) (x41 : Int) (x42 : Int) : L_grid_CheckEdit_2 n m1 (m2 + 1) x7 x35_0 x35_1 x36 x40 x41 x42 =
  (bcond (decide ((x42 : Int) < x41))
   (if 0 ≤ (x42 : Int) ∧ (x42 : Int) < (List.length x40 : Int) then
    ((C_grid_inside F_grid_inside (at_ (e := YRect) x40 x42) 2147483647 2147483647).bind fun r1 =>
     (bcond (!(res_grid_inside_0 r1))
      (some (ret_grid_CheckEdit 2))
      (bcond (((x7 : Int) == 1) == true)
       (bcond ((((at_ (e := YRect) x40 x42).2.2.1 : Int) == 1) == true)
        (bcond (((at_ (e := YRect) x40 x42).2.2.2 : Int) == 1)
         (some (ret_grid_CheckEdit 4))
         (L_grid_CheckEdit_2 n m1 m2 x7 x35_0 x35_1 x36 x40 x41 (IntKind.i64.wrap (x42 + 1))))
        (L_grid_CheckEdit_2 n m1 m2 x7 x35_0 x35_1 x36 x40 x41 (IntKind.i64.wrap (x42 + 1))))
       (L_grid_CheckEdit_2 n m1 m2 x7 x35_0 x35_1 x36 x40 x41 (IntKind.i64.wrap (x42 + 1))))))
   else none)
   (L_grid_CheckEdit_1 n m1 x35_0 x35_1 (IntKind.i64.wrap (x36 + 1)))) := by kernel_rfl
theorem ok_grid_CheckEdit : fnOk os_grid_CheckEdit sig_grid_CheckEdit Tryd.f17 = true := by kernel_rfl
theorem fn_grid_CheckEdit : P.funcs[17]? = some Tryd.f17 := by kernel_rfl
noncomputable def F_grid_CheckEdit : sig_grid_CheckEdit.Fn := fun x y => run T (env_grid_CheckEdit) os_grid_CheckEdit sig_grid_CheckEdit Tryd.f17 hs_grid_CheckEdit big x y
theorem S_grid_CheckEdit : Sound P 17 ⟨sig_grid_CheckEdit, F_grid_CheckEdit⟩ := sound_of (os := os_grid_CheckEdit) (hs := hs_grid_CheckEdit) (env_cons S_axis_Check (env_cons S_grid_cells (env_cons S_grid_inside (env_nil)))) fn_grid_CheckEdit ok_grid_CheckEdit (fun x y out h => ⟨big, h⟩)
theorem e_grid_CheckEdit (a0 : YGridEdit.den) : C_grid_CheckEdit F_grid_CheckEdit a0 =
  (L_grid_CheckEdit_0 big big a0.1 a0.2.1 a0.2.2.1 a0.2.2.2.1 a0.2.2.2.2 a0.1 a0.2.1 0) := by kernel_rfl
def sig_grid_size : Sig := ⟨[.v false (.int .i64), .v false (.list YSpan)], [], [(false, [.fr (.int .i64)]), (false, [.fr .bool])]⟩
def C_grid_size (F : sig_grid_size.Fn) (a0 : Int) (a1 : List YSpan.den) : Option sig_grid_size.Out := F (a0, a1, ()) ()
def ret_grid_size (v0 : Int) (v1 : Bool) : sig_grid_size.Out := (((v0, ()), (v1, ()), ()), ())
def res_grid_size_0 (r : sig_grid_size.Out) : Int := r.1.1.1
@[simp] theorem res_grid_size_0_ret (v0 : Int) (v1 : Bool) : res_grid_size_0 (ret_grid_size v0 v1) = v0 := rfl
def res_grid_size_1 (r : sig_grid_size.Out) : Bool := r.1.2.1.1
@[simp] theorem res_grid_size_1_ret (v0 : Int) (v1 : Bool) : res_grid_size_1 (ret_grid_size v0 v1) = v1 := rfl
def os_grid_size : RegT := ⟨[], [], false⟩
def hs_grid_size : List Keep := []
@[reducible] noncomputable def env_grid_size : Env := [(73, ⟨sig_axis_Lengths, F_axis_Lengths⟩)]
theorem ok_grid_size : fnOk os_grid_size sig_grid_size Tryd.f52 = true := by kernel_rfl
theorem fn_grid_size : P.funcs[52]? = some Tryd.f52 := by kernel_rfl
noncomputable def F_grid_size : sig_grid_size.Fn := fun x y => run T (env_grid_size) os_grid_size sig_grid_size Tryd.f52 hs_grid_size big x y
theorem S_grid_size : Sound P 52 ⟨sig_grid_size, F_grid_size⟩ := sound_of (os := os_grid_size) (hs := hs_grid_size) (env_cons S_axis_Lengths (env_nil)) fn_grid_size ok_grid_size (fun x y out h => ⟨big, h⟩)
theorem e_grid_size (a0 : Int) (a1 : List YSpan.den) : C_grid_size F_grid_size a0 a1 =
  (bcond (((List.length a1 : Int) : Int) == 0)
   (some (ret_grid_size a0 true))
   ((C_axis_Lengths F_axis_Lengths a1).bind fun r1 =>
    (some (ret_grid_size (res_axis_Lengths_1 r1) (((res_axis_Lengths_0 r1) : Int) == a0))))) := by kernel_rfl
def sig_grid_fits : Sig := ⟨[.v true YGrid, .v true YGridEdit], [], [(false, [.fr (.int .i64)]), (false, [.fr (.int .i64)]), (false, [.fr (.int .i64)])]⟩
def C_grid_fits (F : sig_grid_fits.Fn) (a0 : YGrid.den) (a1 : YGridEdit.den) : Option sig_grid_fits.Out := F (a0, a1, ()) ()
def ret_grid_fits (v0 : Int) (v1 : Int) (v2 : Int) : sig_grid_fits.Out := (((v0, ()), (v1, ()), (v2, ()), ()), ())
def res_grid_fits_2 (r : sig_grid_fits.Out) : Int := r.1.2.2.1.1
@[simp] theorem res_grid_fits_2_ret (v0 : Int) (v1 : Int) (v2 : Int) : res_grid_fits_2 (ret_grid_fits v0 v1 v2) = v2 := rfl
def os_grid_fits : RegT := ⟨[], [], false⟩
def hs_grid_fits : List Keep := [[(3, []), (9, []), (11, []), (52, []), (53, []), (54, [])], [(9, []), (11, []), (73, []), (74, [])], [(9, []), (11, []), (73, []), (74, []), (77, []), (78, []), (79, [])]]
@[reducible] noncomputable def env_grid_fits : Env := [(16, ⟨sig_grid_Check, F_grid_Check⟩), (17, ⟨sig_grid_CheckEdit, F_grid_CheckEdit⟩), (52, ⟨sig_grid_size, F_grid_size⟩), (43, ⟨sig_grid_inside, F_grid_inside⟩)]
noncomputable def L_grid_fits_0 (n m1 : Nat) (x3_0 : List YSpan.den) (x3_1 : List YSpan.den) (x3_2 : List YCell.den) (x3_3 : List YRect.den) (x3_4 : List YRect.den) (x9 : Int) (x11 : Int) (x52 : List YCell.den) (x53 : Int) (x54 : Int) : Option sig_grid_fits.Out :=
  loopAt T (env_grid_fits) os_grid_fits sig_grid_fits Tryd.f22 hs_grid_fits n [.sr, .sr, .sr, .sr, .sr, .sr, .sl, .sr, .bl] m1 (mk 92 [(3, .box [.val (.list YSpan) x3_0, .val (.list YSpan) x3_1, .val (.list YCell) x3_2, .val (.list YRect) x3_3, .val (.list YRect) x3_4]), (9, .cs false [.val (.int .i64) x9]), (11, .cs false [.val (.int .i64) x11]), (52, .cs false [.val (.list YCell) x52]), (53, .cs false [.val (.int .i64) x53]), (54, .cs false [.val (.int .i64) x54])])
noncomputable def L_grid_fits_1 (n m1 : Nat) (x9 : Int) (x11 : Int) (x73_0 : List YRect.den) (x73_1 : List YRect.den) (x74 : Int) : Option sig_grid_fits.Out :=
  loopAt T (env_grid_fits) os_grid_fits sig_grid_fits Tryd.f22 hs_grid_fits n [.sr, .sr, .sr, .sr, .sr, .sr, .sr, .sl, .sr, .bl] m1 (mk 92 [(9, .cs false [.val (.int .i64) x9]), (11, .cs false [.val (.int .i64) x11]), (73, .cs true [.val (.list YRect) x73_0, .val (.list YRect) x73_1]), (74, .cs false [.val (.int .i64) x74])])
noncomputable def L_grid_fits_2 (n m1 m2 : Nat) (x9 : Int) (x11 : Int) (x73_0 : List YRect.den) (x73_1 : List YRect.den) (x74 : Int) (x77 : List YRect.den) (x78 : Int) (x79 : Int) : Option sig_grid_fits.Out :=
  loopAt T (env_grid_fits) os_grid_fits sig_grid_fits Tryd.f22 hs_grid_fits n [.sr, .sr, .sr, .sr, .sr, .sr, .sr, .sl, .sr, .bl, .lp m1, .sr, .sr, .sl, .bl, .sr, .sr, .bl] m2 (mk 92 [(9, .cs false [.val (.int .i64) x9]), (11, .cs false [.val (.int .i64) x11]), (73, .cs true [.val (.list YRect) x73_0, .val (.list YRect) x73_1]), (74, .cs false [.val (.int .i64) x74]), (77, .cs false [.val (.list YRect) x77]), (78, .cs false [.val (.int .i64) x78]), (79, .cs false [.val (.int .i64) x79])])
theorem L_grid_fits_0_step (n m1 : Nat) (x3_0 : List YSpan.den) (x3_1 : List YSpan.den) (x3_2 : List YCell.den) (x3_3 : List YRect.den) (x3_4 : List YRect.den) (x9 : Int) (x11 : Int) (x52 : List YCell.den) (x53 : Int) (x54 : Int) : L_grid_fits_0 n (m1 + 1) x3_0 x3_1 x3_2 x3_3 x3_4 x9 x11 x52 x53 x54 =
  (bcond (decide ((x54 : Int) < x53))
   (if 0 ≤ (x54 : Int) ∧ (x54 : Int) < (List.length x52 : Int) then
    (bcond ((decide (((at_ (e := YCell) x52 x54).1 : Int) ≥ x9)) == false)
     (bcond (decide (((at_ (e := YCell) x52 x54).2.1 : Int) ≥ x11))
      (some (ret_grid_fits 0 0 2))
      (L_grid_fits_0 n m1 x3_0 x3_1 x3_2 x3_3 x3_4 x9 x11 x52 x53 (IntKind.i64.wrap (x54 + 1))))
     (some (ret_grid_fits 0 0 2)))
   else none)
   (L_grid_fits_1 n n x9 x11 x3_3 x3_4 0)) := by kernel_rfl
theorem L_grid_fits_1_step (n m1 : Nat) (x9 : Int) (x11 : Int) (x73_0 : List YRect.den) (x73_1 : List YRect.den) (x74 : Int) : L_grid_fits_1 n (m1 + 1) x9 x11 x73_0 x73_1 x74 =
  (bcond (decide ((x74 : Int) < 2))
   (if 0 ≤ (x74 : Int) ∧ (x74 : Int) < 2 then
    (L_grid_fits_2 n m1 n x9 x11 x73_0 x73_1 x74 (at_ (e := (.list YRect)) [x73_0, x73_1] x74) (List.length (at_ (e := (.list YRect)) [x73_0, x73_1] x74) : Int) 0)
   else none)
   (some (ret_grid_fits x9 x11 0))) := by kernel_rfl
theorem L_grid_fits_2_step (n m1 m2 : Nat) (x9 : Int) (x11 : Int) (x73_0 : List YRect.den) (x73_1 : List YRect.den) (x74 : Int) (x77 : List YRect.den) (x78 : Int) (x79 : Int) : L_grid_fits_2 n m1 (m2 + 1) x9 x11 x73_0 x73_1 x74 x77 x78 x79 =
  (bcond (decide ((x79 : Int) < x78))
   (if 0 ≤ (x79 : Int) ∧ (x79 : Int) < (List.length x77 : Int) then
    ((C_grid_inside F_grid_inside (at_ (e := YRect) x77 x79) x9 x11).bind fun r1 =>
     (bcond (!(res_grid_inside_0 r1))
      (some (ret_grid_fits 0 0 2))
      (L_grid_fits_2 n m1 m2 x9 x11 x73_0 x73_1 x74 x77 x78 (IntKind.i64.wrap (x79 + 1)))))
   else none)
   (L_grid_fits_1 n m1 x9 x11 x73_0 x73_1 (IntKind.i64.wrap (x74 + 1)))) := by kernel_rfl
theorem ok_grid_fits : fnOk os_grid_fits sig_grid_fits Tryd.f22 = true := by kernel_rfl
theorem fn_grid_fits : P.funcs[22]? = some Tryd.f22 := by kernel_rfl
noncomputable def F_grid_fits : sig_grid_fits.Fn := fun x y => run T (env_grid_fits) os_grid_fits sig_grid_fits Tryd.f22 hs_grid_fits big x y
theorem S_grid_fits : Sound P 22 ⟨sig_grid_fits, F_grid_fits⟩ := sound_of (os := os_grid_fits) (hs := hs_grid_fits) (env_cons S_grid_Check (env_cons S_grid_CheckEdit (env_cons S_grid_size (env_cons S_grid_inside (env_nil))))) fn_grid_fits ok_grid_fits (fun x y out h => ⟨big, h⟩)
theorem e_grid_fits (a0 : YGrid.den) (a1 : YGridEdit.den) : C_grid_fits F_grid_fits a0 a1 =
  ((C_grid_Check F_grid_Check a0).bind fun r1 =>
   (bcond (((res_grid_Check_0 r1) : Int) != 0)
    (some (ret_grid_fits 0 0 (res_grid_Check_0 r1)))
    ((C_grid_CheckEdit F_grid_CheckEdit a1).bind fun r2 =>
     (bcond (((res_grid_CheckEdit_0 r2) : Int) != 0)
      (some (ret_grid_fits 0 0 (res_grid_CheckEdit_0 r2)))
      ((C_grid_size F_grid_size a0.1 a1.1).bind fun r3 =>
       ((C_grid_size F_grid_size a0.2.1 a1.2.1).bind fun r4 =>
        (bcond ((!(res_grid_size_1 r3)) == false)
         (bcond (!(res_grid_size_1 r4))
          (some (ret_grid_fits 0 0 14))
          (L_grid_fits_0 big big a1.1 a1.2.1 a1.2.2.1 a1.2.2.2.1 a1.2.2.2.2 (res_grid_size_0 r3) (res_grid_size_0 r4) a1.2.2.1 (List.length a1.2.2.1 : Int) 0))
         (some (ret_grid_fits 0 0 14))))))))) := by kernel_rfl
def sig_grid_clone : Sig := ⟨[.v true YCell], [], [(true, [.fr YCell])]⟩
def C_grid_clone (F : sig_grid_clone.Fn) (a0 : YCell.den) : Option sig_grid_clone.Out := F (a0, ()) ()
def ret_grid_clone (v0 : YCell.den) : sig_grid_clone.Out := (((v0, ()), ()), ())
def res_grid_clone_0 (r : sig_grid_clone.Out) : YCell.den := r.1.1.1
@[simp] theorem res_grid_clone_0_ret (v0 : YCell.den) : res_grid_clone_0 (ret_grid_clone v0) = v0 := rfl
def os_grid_clone : RegT := ⟨[], [], false⟩
def hs_grid_clone : List Keep := []
@[reducible] noncomputable def env_grid_clone : Env := []
theorem ok_grid_clone : fnOk os_grid_clone sig_grid_clone Tryd.f51 = true := by kernel_rfl
theorem fn_grid_clone : P.funcs[51]? = some Tryd.f51 := by kernel_rfl
noncomputable def F_grid_clone : sig_grid_clone.Fn := fun x y => run T (env_grid_clone) os_grid_clone sig_grid_clone Tryd.f51 hs_grid_clone big x y
theorem S_grid_clone : Sound P 51 ⟨sig_grid_clone, F_grid_clone⟩ := sound_of (os := os_grid_clone) (hs := hs_grid_clone) (env_nil) fn_grid_clone ok_grid_clone (fun x y out h => ⟨big, h⟩)
theorem e_grid_clone (a0 : YCell.den) : C_grid_clone F_grid_clone a0 =
  (if List.length (a0.2.2.2.2 : List YAttr.den) * 32 ≤ 140737488355328 then
   (some (ret_grid_clone a0))
  else none) := by kernel_rfl
def sig_grid_Moved : Sig := ⟨[.v false (.list YCell), .v false (.list YSpan), .v false (.list YSpan)], [], [(false, [.fr (.list YCell)])]⟩
def C_grid_Moved (F : sig_grid_Moved.Fn) (a0 : List YCell.den) (a1 : List YSpan.den) (a2 : List YSpan.den) : Option sig_grid_Moved.Out := F (a0, a1, a2, ()) ()
def ret_grid_Moved (v0 : List YCell.den) : sig_grid_Moved.Out := (((v0, ()), ()), ())
def res_grid_Moved_0 (r : sig_grid_Moved.Out) : List YCell.den := r.1.1.1
@[simp] theorem res_grid_Moved_0_ret (v0 : List YCell.den) : res_grid_Moved_0 (ret_grid_Moved v0) = v0 := rfl
def os_grid_Moved : RegT := ⟨[], [], false⟩
def hs_grid_Moved : List Keep := [[(1, []), (2, []), (7, [(0, 42, YCell)]), (14, []), (15, []), (16, [])]]
@[reducible] noncomputable def env_grid_Moved : Env := [(51, ⟨sig_grid_clone, F_grid_clone⟩), (74, ⟨sig_axis_Apply, F_axis_Apply⟩)]
noncomputable def L_grid_Moved_0 (n m1 : Nat) (x1 : List YSpan.den) (x2 : List YSpan.den) (x7 : List YCell.den) (x14 : List YCell.den) (x15 : Int) (x16 : Int) : Option sig_grid_Moved.Out :=
  loopAt T (env_grid_Moved) os_grid_Moved sig_grid_Moved Tryd.f54 hs_grid_Moved n [.sr, .sr, .sl, .sr, .bl] m1 (mk 74 [(1, .cs false [.val (.list YSpan) x1]), (2, .cs false [.val (.list YSpan) x2]), (7, .cs false [.own 42 YCell x7]), (14, .cs false [.val (.list YCell) x14]), (15, .cs false [.val (.int .i64) x15]), (16, .cs false [.val (.int .i64) x16])])
noncomputable def J_grid_Moved_0 (n m1 : Nat) (y1 : List YSpan.den) (y2 : List YSpan.den) (y7 : List YCell.den) (y9 : YCell.den) (y14 : List YCell.den) (y15 : Int) (y16 : Int) : Option sig_grid_Moved.Out :=
  (bcond (decide (((List.length y2 : Int) : Int) > 0))
   ((C_axis_Apply F_axis_Apply y2 [y9.2.1]).bind fun r3 =>
    (bcond ((((res_axis_Apply_1 r3) : Int) != 0) == false)
     (if 0 ≤ (0 : Int) ∧ (0 : Int) < (List.length (res_axis_Apply_0 r3) : Int) then
      (bcond (decide (((at_ (e := (.int .i64)) (res_axis_Apply_0 r3) 0) : Int) < 0))
       (L_grid_Moved_0 n m1 y1 y2 y7 y14 y15 (IntKind.i64.wrap (y16 + 1)))
       (if 0 ≤ (0 : Int) ∧ (0 : Int) < (List.length (res_axis_Apply_0 r3) : Int) then
        (if (List.length (y7 : List YCell.den) + List.length ([(y9.1, ((at_ (e := (.int .i64)) (res_axis_Apply_0 r3) 0), y9.2.2))] : List YCell.den)) * 64 ≤ 140737488355328 then
         (L_grid_Moved_0 n m1 y1 y2 (y7 ++ [(y9.1, ((at_ (e := (.int .i64)) (res_axis_Apply_0 r3) 0), y9.2.2))]) y14 y15 (IntKind.i64.wrap (y16 + 1)))
        else none)
       else none))
     else none)
     (L_grid_Moved_0 n m1 y1 y2 y7 y14 y15 (IntKind.i64.wrap (y16 + 1)))))
   (if (List.length (y7 : List YCell.den) + List.length ([y9] : List YCell.den)) * 64 ≤ 140737488355328 then
    (L_grid_Moved_0 n m1 y1 y2 (y7 ++ [y9]) y14 y15 (IntKind.i64.wrap (y16 + 1)))
   else none))
theorem L_grid_Moved_0_step (n m1 : Nat) (x1 : List YSpan.den) (x2 : List YSpan.den) (x7 : List YCell.den) (x14 : List YCell.den) (x15 : Int) (x16 : Int) : L_grid_Moved_0 n (m1 + 1) x1 x2 x7 x14 x15 x16 =
  (bcond (decide ((x16 : Int) < x15))
   (if 0 ≤ (x16 : Int) ∧ (x16 : Int) < (List.length x14 : Int) then
    ((C_grid_clone F_grid_clone (at_ (e := YCell) x14 x16)).bind fun r1 =>
     (bcond (decide (((List.length x1 : Int) : Int) > 0))
      ((C_axis_Apply F_axis_Apply x1 [(res_grid_clone_0 r1).1]).bind fun r2 =>
       (bcond ((((res_axis_Apply_1 r2) : Int) != 0) == false)
        (if 0 ≤ (0 : Int) ∧ (0 : Int) < (List.length (res_axis_Apply_0 r2) : Int) then
         (bcond (decide (((at_ (e := (.int .i64)) (res_axis_Apply_0 r2) 0) : Int) < 0))
          (L_grid_Moved_0 n m1 x1 x2 x7 x14 x15 (IntKind.i64.wrap (x16 + 1)))
          (if 0 ≤ (0 : Int) ∧ (0 : Int) < (List.length (res_axis_Apply_0 r2) : Int) then
           (J_grid_Moved_0 n m1 x1 x2 x7 ((at_ (e := (.int .i64)) (res_axis_Apply_0 r2) 0), (res_grid_clone_0 r1).2) x14 x15 x16)
          else none))
        else none)
        (L_grid_Moved_0 n m1 x1 x2 x7 x14 x15 (IntKind.i64.wrap (x16 + 1)))))
      (J_grid_Moved_0 n m1 x1 x2 x7 (res_grid_clone_0 r1) x14 x15 x16)))
   else none)
   (some (ret_grid_Moved x7))) := by kernel_rfl
theorem ok_grid_Moved : fnOk os_grid_Moved sig_grid_Moved Tryd.f54 = true := by kernel_rfl
theorem fn_grid_Moved : P.funcs[54]? = some Tryd.f54 := by kernel_rfl
noncomputable def F_grid_Moved : sig_grid_Moved.Fn := fun x y => run T (env_grid_Moved) os_grid_Moved sig_grid_Moved Tryd.f54 hs_grid_Moved big x y
theorem S_grid_Moved : Sound P 54 ⟨sig_grid_Moved, F_grid_Moved⟩ := sound_of (os := os_grid_Moved) (hs := hs_grid_Moved) (env_cons S_grid_clone (env_cons S_axis_Apply (env_nil))) fn_grid_Moved ok_grid_Moved (fun x y out h => ⟨big, h⟩)
theorem e_grid_Moved (a0 : List YCell.den) (a1 : List YSpan.den) (a2 : List YSpan.den) : C_grid_Moved F_grid_Moved a0 a1 a2 =
  (L_grid_Moved_0 big big a1 a2 [] a0 (List.length a0 : Int) 0) := by kernel_rfl
def sig_grid_put : Sig := ⟨[.v false (.list YCell), .v false (.list YCell)], [], [(false, [.fr (.list YCell)])]⟩
def C_grid_put (F : sig_grid_put.Fn) (a0 : List YCell.den) (a1 : List YCell.den) : Option sig_grid_put.Out := F (a0, a1, ()) ()
def ret_grid_put (v0 : List YCell.den) : sig_grid_put.Out := (((v0, ()), ()), ())
def res_grid_put_0 (r : sig_grid_put.Out) : List YCell.den := r.1.1.1
@[simp] theorem res_grid_put_0_ret (v0 : List YCell.den) : res_grid_put_0 (ret_grid_put v0) = v0 := rfl
def os_grid_put : RegT := ⟨[(6, .st 0 (.st 1 (.st 2 (.st 3 (.st 4 (.st 5 (.st 6 (.st 7 (.st 8 (.st 9 (.st 10 (.st 11 (.st 12 (.nil)))))))))))))), (9, .st 0 (.st 1 (.st 2 (.st 3 (.st 4 (.st 5 (.st 6 (.st 7 (.st 8 (.st 9 (.st 10 (.st 11 (.st 12 (.nil))))))))))))))], [], false⟩
def hs_grid_put : List Keep := [[(0, []), (5, [(0, 42, YCell)]), (6, []), (9, []), (10, []), (11, [])], [(0, []), (5, [(0, 42, YCell)]), (6, []), (8, []), (9, []), (10, []), (11, [])]]
@[reducible] noncomputable def env_grid_put : Env := [(70, ⟨sig_grid_order, F_grid_order⟩), (69, ⟨sig_grid_empty, F_grid_empty⟩), (51, ⟨sig_grid_clone, F_grid_clone⟩)]
noncomputable def L_grid_put_0 (n m1 : Nat) (x0 : List YCell.den) (x5 : List YCell.den) (x6 : Int) (x9 : List YCell.den) (x10 : Int) (x11 : Int) : Option sig_grid_put.Out :=
  loopAt T (env_grid_put) os_grid_put sig_grid_put Tryd.f53 hs_grid_put n [.sr, .sr, .sr, .sl, .sr, .bl] m1 (mk 66 [(0, .cs false [.val (.list YCell) x0]), (5, .cs false [.own 42 YCell x5]), (6, .cs false [.val (.int .i64) x6]), (9, .cs false [.val (.list YCell) x9]), (10, .cs false [.val (.int .i64) x10]), (11, .cs false [.val (.int .i64) x11])])
noncomputable def L_grid_put_1 (n m1 m2 : Nat) (x0 : List YCell.den) (x5 : List YCell.den) (x6 : Int) (x8_0 : Int) (x8_1 : Int) (x8_2 : List UInt8) (x8_3 : Int) (x8_4 : List YAttr.den) (x9 : List YCell.den) (x10 : Int) (x11 : Int) : Option sig_grid_put.Out :=
  loopAt T (env_grid_put) os_grid_put sig_grid_put Tryd.f53 hs_grid_put n [.sr, .sr, .sr, .sl, .sr, .bl, .lp m1, .sr, .sr, .sl, .bl, .sr, .sl, .bl] m2 (mk 66 [(0, .cs false [.val (.list YCell) x0]), (5, .cs false [.own 42 YCell x5]), (6, .cs false [.val (.int .i64) x6]), (8, .box [.val (.int .i64) x8_0, .val (.int .i64) x8_1, .val .str x8_2, .val (.int .i64) x8_3, .val (.list YAttr) x8_4]), (9, .cs false [.val (.list YCell) x9]), (10, .cs false [.val (.int .i64) x10]), (11, .cs false [.val (.int .i64) x11])])
theorem L_grid_put_0_step (n m1 : Nat) (x0 : List YCell.den) (x5 : List YCell.den) (x6 : Int) (x9 : List YCell.den) (x10 : Int) (x11 : Int) : L_grid_put_0 n (m1 + 1) x0 x5 x6 x9 x10 x11 =
  (bcond (decide ((x11 : Int) < x10))
   (if 0 ≤ (x11 : Int) ∧ (x11 : Int) < (List.length x9 : Int) then
    (L_grid_put_1 n m1 n x0 x5 x6 (at_ (e := YCell) x9 x11).1 (at_ (e := YCell) x9 x11).2.1 (at_ (e := YCell) x9 x11).2.2.1 (at_ (e := YCell) x9 x11).2.2.2.1 (at_ (e := YCell) x9 x11).2.2.2.2 x9 x10 x11)
   else none)
   (if 0 ≤ ((List.length x0 : Int) : Int) ∧ ((List.length x0 : Int) : Int) ≤ (List.length x0 : Int) ∧ 0 ≤ (x6 : Int) ∧ (x6 : Int) ≤ (List.length x0 : Int) then
    (if (List.length (x5 : List YCell.den) + List.length ((List.drop (Int.toNat x6) (List.take (Int.toNat (List.length x0 : Int)) x0)) : List YCell.den)) * 64 ≤ 140737488355328 then
     (some (ret_grid_put (x5 ++ (List.drop (Int.toNat x6) (List.take (Int.toNat (List.length x0 : Int)) x0)))))
    else none)
   else none)) := by kernel_rfl
theorem L_grid_put_1_step (n m1 m2 : Nat) (x0 : List YCell.den) (x5 : List YCell.den) (x6 : Int) (x8_0 : Int) (x8_1 : Int) (x8_2 : List UInt8) (x8_3 : Int) (x8_4 : List YAttr.den) (x9 : List YCell.den) (x10 : Int) (x11 : Int) : L_grid_put_1 n m1 (m2 + 1) x0 x5 x6 x8_0 x8_1 x8_2 x8_3 x8_4 x9 x10 x11 =
  (bcond ((decide ((x6 : Int) < (List.length x0 : Int))) == true)
   (if 0 ≤ (x6 : Int) ∧ (x6 : Int) < (List.length x0 : Int) then
    ((C_grid_order F_grid_order (at_ (e := YCell) x0 x6) (x8_0, (x8_1, (x8_2, (x8_3, x8_4))))).bind fun r1 =>
     (bcond (decide (((res_grid_order_0 r1) : Int) < 0))
      (if 0 ≤ (x6 : Int) ∧ (x6 : Int) < (List.length x0 : Int) then
       (if (List.length (x5 : List YCell.den) + List.length ([(at_ (e := YCell) x0 x6)] : List YCell.den)) * 64 ≤ 140737488355328 then
        (L_grid_put_1 n m1 m2 x0 (x5 ++ [(at_ (e := YCell) x0 x6)]) (IntKind.i64.wrap (x6 + 1)) x8_0 x8_1 x8_2 x8_3 x8_4 x9 x10 x11)
       else none)
      else none)
      (bcond ((decide ((x6 : Int) < (List.length x0 : Int))) == true)
       (if 0 ≤ (x6 : Int) ∧ (x6 : Int) < (List.length x0 : Int) then
        ((C_grid_order F_grid_order (at_ (e := YCell) x0 x6) (x8_0, (x8_1, (x8_2, (x8_3, x8_4))))).bind fun r2 =>
         (bcond (((res_grid_order_0 r2) : Int) == 0)
          ((C_grid_empty F_grid_empty (x8_0, (x8_1, (x8_2, (x8_3, x8_4))))).bind fun r3 =>
           (bcond (!(res_grid_empty_0 r3))
            ((C_grid_clone F_grid_clone (x8_0, (x8_1, (x8_2, (x8_3, x8_4))))).bind fun r4 =>
             (if (List.length (x5 : List YCell.den) + List.length ([(res_grid_clone_0 r4)] : List YCell.den)) * 64 ≤ 140737488355328 then
              (L_grid_put_0 n m1 x0 (x5 ++ [(res_grid_clone_0 r4)]) (IntKind.i64.wrap (x6 + 1)) x9 x10 (IntKind.i64.wrap (x11 + 1)))
             else none))
            (L_grid_put_0 n m1 x0 x5 (IntKind.i64.wrap (x6 + 1)) x9 x10 (IntKind.i64.wrap (x11 + 1)))))
          ((C_grid_empty F_grid_empty (x8_0, (x8_1, (x8_2, (x8_3, x8_4))))).bind fun r3 =>
           (bcond (!(res_grid_empty_0 r3))
            ((C_grid_clone F_grid_clone (x8_0, (x8_1, (x8_2, (x8_3, x8_4))))).bind fun r4 =>
             (if (List.length (x5 : List YCell.den) + List.length ([(res_grid_clone_0 r4)] : List YCell.den)) * 64 ≤ 140737488355328 then
              (L_grid_put_0 n m1 x0 (x5 ++ [(res_grid_clone_0 r4)]) x6 x9 x10 (IntKind.i64.wrap (x11 + 1)))
             else none))
            (L_grid_put_0 n m1 x0 x5 x6 x9 x10 (IntKind.i64.wrap (x11 + 1)))))))
       else none)
       ((C_grid_empty F_grid_empty (x8_0, (x8_1, (x8_2, (x8_3, x8_4))))).bind fun r2 =>
        (bcond (!(res_grid_empty_0 r2))
         ((C_grid_clone F_grid_clone (x8_0, (x8_1, (x8_2, (x8_3, x8_4))))).bind fun r3 =>
          (if (List.length (x5 : List YCell.den) + List.length ([(res_grid_clone_0 r3)] : List YCell.den)) * 64 ≤ 140737488355328 then
           (L_grid_put_0 n m1 x0 (x5 ++ [(res_grid_clone_0 r3)]) x6 x9 x10 (IntKind.i64.wrap (x11 + 1)))
          else none))
         (L_grid_put_0 n m1 x0 x5 x6 x9 x10 (IntKind.i64.wrap (x11 + 1))))))))
   else none)
   (bcond ((decide ((x6 : Int) < (List.length x0 : Int))) == true)
    (if 0 ≤ (x6 : Int) ∧ (x6 : Int) < (List.length x0 : Int) then
     ((C_grid_order F_grid_order (at_ (e := YCell) x0 x6) (x8_0, (x8_1, (x8_2, (x8_3, x8_4))))).bind fun r1 =>
      (bcond (((res_grid_order_0 r1) : Int) == 0)
       ((C_grid_empty F_grid_empty (x8_0, (x8_1, (x8_2, (x8_3, x8_4))))).bind fun r2 =>
        (bcond (!(res_grid_empty_0 r2))
         ((C_grid_clone F_grid_clone (x8_0, (x8_1, (x8_2, (x8_3, x8_4))))).bind fun r3 =>
          (if (List.length (x5 : List YCell.den) + List.length ([(res_grid_clone_0 r3)] : List YCell.den)) * 64 ≤ 140737488355328 then
           (L_grid_put_0 n m1 x0 (x5 ++ [(res_grid_clone_0 r3)]) (IntKind.i64.wrap (x6 + 1)) x9 x10 (IntKind.i64.wrap (x11 + 1)))
          else none))
         (L_grid_put_0 n m1 x0 x5 (IntKind.i64.wrap (x6 + 1)) x9 x10 (IntKind.i64.wrap (x11 + 1)))))
       ((C_grid_empty F_grid_empty (x8_0, (x8_1, (x8_2, (x8_3, x8_4))))).bind fun r2 =>
        (bcond (!(res_grid_empty_0 r2))
         ((C_grid_clone F_grid_clone (x8_0, (x8_1, (x8_2, (x8_3, x8_4))))).bind fun r3 =>
          (if (List.length (x5 : List YCell.den) + List.length ([(res_grid_clone_0 r3)] : List YCell.den)) * 64 ≤ 140737488355328 then
           (L_grid_put_0 n m1 x0 (x5 ++ [(res_grid_clone_0 r3)]) x6 x9 x10 (IntKind.i64.wrap (x11 + 1)))
          else none))
         (L_grid_put_0 n m1 x0 x5 x6 x9 x10 (IntKind.i64.wrap (x11 + 1)))))))
    else none)
    ((C_grid_empty F_grid_empty (x8_0, (x8_1, (x8_2, (x8_3, x8_4))))).bind fun r1 =>
     (bcond (!(res_grid_empty_0 r1))
      ((C_grid_clone F_grid_clone (x8_0, (x8_1, (x8_2, (x8_3, x8_4))))).bind fun r2 =>
       (if (List.length (x5 : List YCell.den) + List.length ([(res_grid_clone_0 r2)] : List YCell.den)) * 64 ≤ 140737488355328 then
        (L_grid_put_0 n m1 x0 (x5 ++ [(res_grid_clone_0 r2)]) x6 x9 x10 (IntKind.i64.wrap (x11 + 1)))
       else none))
      (L_grid_put_0 n m1 x0 x5 x6 x9 x10 (IntKind.i64.wrap (x11 + 1))))))) := by kernel_rfl
theorem ok_grid_put : fnOk os_grid_put sig_grid_put Tryd.f53 = true := by kernel_rfl
theorem fn_grid_put : P.funcs[53]? = some Tryd.f53 := by kernel_rfl
noncomputable def F_grid_put : sig_grid_put.Fn := fun x y => run T (env_grid_put) os_grid_put sig_grid_put Tryd.f53 hs_grid_put big x y
theorem S_grid_put : Sound P 53 ⟨sig_grid_put, F_grid_put⟩ := sound_of (os := os_grid_put) (hs := hs_grid_put) (env_cons S_grid_order (env_cons S_grid_empty (env_cons S_grid_clone (env_nil)))) fn_grid_put ok_grid_put (fun x y out h => ⟨big, h⟩)
theorem e_grid_put (a0 : List YCell.den) (a1 : List YCell.den) : C_grid_put F_grid_put a0 a1 =
  (L_grid_put_0 big big a0 [] 0 a1 (List.length a1 : Int) 0) := by kernel_rfl
def sig_grid_through : Sig := ⟨[.v true YRect, .v false (.list YSpan), .v false (.list YSpan)], [], [(true, [.fr YRect]), (false, [.fr .bool])]⟩
def C_grid_through (F : sig_grid_through.Fn) (a0 : YRect.den) (a1 : List YSpan.den) (a2 : List YSpan.den) : Option sig_grid_through.Out := F (a0, a1, a2, ()) ()
def ret_grid_through (v0 : YRect.den) (v1 : Bool) : sig_grid_through.Out := (((v0, ()), (v1, ()), ()), ())
def res_grid_through_0 (r : sig_grid_through.Out) : YRect.den := r.1.1.1
@[simp] theorem res_grid_through_0_ret (v0 : YRect.den) (v1 : Bool) : res_grid_through_0 (ret_grid_through v0 v1) = v0 := rfl
def res_grid_through_1 (r : sig_grid_through.Out) : Bool := r.1.2.1.1
@[simp] theorem res_grid_through_1_ret (v0 : YRect.den) (v1 : Bool) : res_grid_through_1 (ret_grid_through v0 v1) = v1 := rfl
def os_grid_through : RegT := ⟨[(7, .st 1 (.st 2 (.st 3 (.st 4 (.st 5 (.st 6 (.st 7 (.st 8 (.st 9 (.st 10 (.st 12 (.alt 0 (.alt 11 (.alt 13 (.st 14 (.st 15 (.st 16 (.st 17 (.st 18 (.nil)))))) (.st 17 (.st 13 (.st 14 (.st 15 (.st 16 (.st 18 (.nil)))))))) (.alt 13 (.alt 11 (.st 14 (.st 15 (.st 16 (.st 17 (.st 18 (.nil)))))) (.st 17 (.st 11 (.st 14 (.st 15 (.st 16 (.st 18 (.nil)))))))) (.st 17 (.st 11 (.st 13 (.st 14 (.st 15 (.st 16 (.st 18 (.nil)))))))))) (.alt 11 (.alt 0 (.alt 13 (.st 14 (.st 15 (.st 16 (.st 17 (.st 18 (.nil)))))) (.st 17 (.st 13 (.st 14 (.st 15 (.st 16 (.st 18 (.nil)))))))) (.st 13 (.st 14 (.st 15 (.st 16 (.st 0 (.st 17 (.st 18 (.nil))))))))) (.st 13 (.alt 0 (.alt 11 (.st 14 (.st 15 (.st 16 (.st 17 (.st 18 (.nil)))))) (.st 17 (.st 11 (.st 14 (.st 15 (.st 16 (.st 18 (.nil)))))))) (.st 11 (.st 14 (.st 15 (.st 16 (.st 0 (.st 17 (.st 18 (.nil)))))))))))))))))))))))], [], false⟩
def hs_grid_through : List Keep := []
@[reducible] noncomputable def env_grid_through : Env := [(75, ⟨sig_axis_Hull, F_axis_Hull⟩)]
noncomputable def J_grid_through_0 (n : Nat) (y2 : List YSpan.den) (y3 : YRect.den) (y6 : YRect.den) : Option sig_grid_through.Out :=
  (bcond (decide (((List.length y2 : Int) : Int) > 0))
   ((C_axis_Hull F_axis_Hull y2 y3.2.1 (IntKind.i64.wrap (y3.2.1 + y3.2.2.2))).bind fun r2 =>
    (bcond ((decide ((y3.2.2.1 : Int) > 0)) == true)
     (bcond ((decide (((IntKind.i64.wrap ((res_axis_Hull_1 r2) - (res_axis_Hull_0 r2))) : Int) > 0)) == true)
      (agree
       (agree
        (agree
         (some (ret_grid_through (y3.1, ((res_axis_Hull_0 r2), (y3.2.2.1, (IntKind.i64.wrap ((res_axis_Hull_1 r2) - (res_axis_Hull_0 r2)))))) (decide (((IntKind.i64.wrap (y3.2.2.1 + (IntKind.i64.wrap ((res_axis_Hull_1 r2) - (res_axis_Hull_0 r2))))) : Int) > 2))))
         (some (ret_grid_through (y3.1, ((res_axis_Hull_0 r2), (y3.2.2.1, (IntKind.i64.wrap ((res_axis_Hull_1 r2) - (res_axis_Hull_0 r2)))))) (decide (((IntKind.i64.wrap (y3.2.2.1 + (IntKind.i64.wrap ((res_axis_Hull_1 r2) - (res_axis_Hull_0 r2))))) : Int) > 2)))))
       (agree
        (agree
         (some (ret_grid_through (y3.1, ((res_axis_Hull_0 r2), (y3.2.2.1, (IntKind.i64.wrap ((res_axis_Hull_1 r2) - (res_axis_Hull_0 r2)))))) (decide (((IntKind.i64.wrap (y3.2.2.1 + (IntKind.i64.wrap ((res_axis_Hull_1 r2) - (res_axis_Hull_0 r2))))) : Int) > 2))))
         (some (ret_grid_through (y3.1, ((res_axis_Hull_0 r2), (y3.2.2.1, (IntKind.i64.wrap ((res_axis_Hull_1 r2) - (res_axis_Hull_0 r2)))))) (decide (((IntKind.i64.wrap (y3.2.2.1 + (IntKind.i64.wrap ((res_axis_Hull_1 r2) - (res_axis_Hull_0 r2))))) : Int) > 2)))))
        (some (ret_grid_through (y3.1, ((res_axis_Hull_0 r2), (y3.2.2.1, (IntKind.i64.wrap ((res_axis_Hull_1 r2) - (res_axis_Hull_0 r2)))))) (decide (((IntKind.i64.wrap (y3.2.2.1 + (IntKind.i64.wrap ((res_axis_Hull_1 r2) - (res_axis_Hull_0 r2))))) : Int) > 2))))))
      (agree
       (agree
        (agree
         (some (ret_grid_through (y3.1, ((res_axis_Hull_0 r2), (y3.2.2.1, (IntKind.i64.wrap ((res_axis_Hull_1 r2) - (res_axis_Hull_0 r2)))))) (decide (((IntKind.i64.wrap (y3.2.2.1 + (IntKind.i64.wrap ((res_axis_Hull_1 r2) - (res_axis_Hull_0 r2))))) : Int) > 2))))
         (some (ret_grid_through (y3.1, ((res_axis_Hull_0 r2), (y3.2.2.1, (IntKind.i64.wrap ((res_axis_Hull_1 r2) - (res_axis_Hull_0 r2)))))) (decide (((IntKind.i64.wrap (y3.2.2.1 + (IntKind.i64.wrap ((res_axis_Hull_1 r2) - (res_axis_Hull_0 r2))))) : Int) > 2)))))
        (some (ret_grid_through (y3.1, ((res_axis_Hull_0 r2), (y3.2.2.1, (IntKind.i64.wrap ((res_axis_Hull_1 r2) - (res_axis_Hull_0 r2)))))) (decide (((IntKind.i64.wrap (y3.2.2.1 + (IntKind.i64.wrap ((res_axis_Hull_1 r2) - (res_axis_Hull_0 r2))))) : Int) > 2)))))
       (agree
        (agree
         (some (ret_grid_through (y3.1, ((res_axis_Hull_0 r2), (y3.2.2.1, (IntKind.i64.wrap ((res_axis_Hull_1 r2) - (res_axis_Hull_0 r2)))))) (decide (((IntKind.i64.wrap (y3.2.2.1 + (IntKind.i64.wrap ((res_axis_Hull_1 r2) - (res_axis_Hull_0 r2))))) : Int) > 2))))
         (some (ret_grid_through (y3.1, ((res_axis_Hull_0 r2), (y3.2.2.1, (IntKind.i64.wrap ((res_axis_Hull_1 r2) - (res_axis_Hull_0 r2)))))) (decide (((IntKind.i64.wrap (y3.2.2.1 + (IntKind.i64.wrap ((res_axis_Hull_1 r2) - (res_axis_Hull_0 r2))))) : Int) > 2)))))
        (some (ret_grid_through (y3.1, ((res_axis_Hull_0 r2), (y3.2.2.1, (IntKind.i64.wrap ((res_axis_Hull_1 r2) - (res_axis_Hull_0 r2)))))) (decide (((IntKind.i64.wrap (y3.2.2.1 + (IntKind.i64.wrap ((res_axis_Hull_1 r2) - (res_axis_Hull_0 r2))))) : Int) > 2)))))))
      (agree
       (agree
        (agree
         (some (ret_grid_through (y3.1, ((res_axis_Hull_0 r2), (y3.2.2.1, (IntKind.i64.wrap ((res_axis_Hull_1 r2) - (res_axis_Hull_0 r2)))))) false))
         (some (ret_grid_through (y3.1, ((res_axis_Hull_0 r2), (y3.2.2.1, (IntKind.i64.wrap ((res_axis_Hull_1 r2) - (res_axis_Hull_0 r2)))))) false)))
       (agree
        (agree
         (some (ret_grid_through (y3.1, ((res_axis_Hull_0 r2), (y3.2.2.1, (IntKind.i64.wrap ((res_axis_Hull_1 r2) - (res_axis_Hull_0 r2)))))) false))
         (some (ret_grid_through (y3.1, ((res_axis_Hull_0 r2), (y3.2.2.1, (IntKind.i64.wrap ((res_axis_Hull_1 r2) - (res_axis_Hull_0 r2)))))) false)))
        (some (ret_grid_through (y3.1, ((res_axis_Hull_0 r2), (y3.2.2.1, (IntKind.i64.wrap ((res_axis_Hull_1 r2) - (res_axis_Hull_0 r2)))))) false))))
      (agree
       (agree
        (agree
         (some (ret_grid_through (y3.1, ((res_axis_Hull_0 r2), (y3.2.2.1, (IntKind.i64.wrap ((res_axis_Hull_1 r2) - (res_axis_Hull_0 r2)))))) false))
         (some (ret_grid_through (y3.1, ((res_axis_Hull_0 r2), (y3.2.2.1, (IntKind.i64.wrap ((res_axis_Hull_1 r2) - (res_axis_Hull_0 r2)))))) false)))
        (some (ret_grid_through (y3.1, ((res_axis_Hull_0 r2), (y3.2.2.1, (IntKind.i64.wrap ((res_axis_Hull_1 r2) - (res_axis_Hull_0 r2)))))) false)))
       (agree
        (agree
         (some (ret_grid_through (y3.1, ((res_axis_Hull_0 r2), (y3.2.2.1, (IntKind.i64.wrap ((res_axis_Hull_1 r2) - (res_axis_Hull_0 r2)))))) false))
         (some (ret_grid_through (y3.1, ((res_axis_Hull_0 r2), (y3.2.2.1, (IntKind.i64.wrap ((res_axis_Hull_1 r2) - (res_axis_Hull_0 r2)))))) false)))
        (some (ret_grid_through (y3.1, ((res_axis_Hull_0 r2), (y3.2.2.1, (IntKind.i64.wrap ((res_axis_Hull_1 r2) - (res_axis_Hull_0 r2)))))) false))))))
     (agree
      (agree
       (agree
        (some (ret_grid_through (y3.1, ((res_axis_Hull_0 r2), (y3.2.2.1, (IntKind.i64.wrap ((res_axis_Hull_1 r2) - (res_axis_Hull_0 r2)))))) false))
        (some (ret_grid_through (y3.1, ((res_axis_Hull_0 r2), (y3.2.2.1, (IntKind.i64.wrap ((res_axis_Hull_1 r2) - (res_axis_Hull_0 r2)))))) false)))
      (agree
       (agree
        (some (ret_grid_through (y3.1, ((res_axis_Hull_0 r2), (y3.2.2.1, (IntKind.i64.wrap ((res_axis_Hull_1 r2) - (res_axis_Hull_0 r2)))))) false))
        (some (ret_grid_through (y3.1, ((res_axis_Hull_0 r2), (y3.2.2.1, (IntKind.i64.wrap ((res_axis_Hull_1 r2) - (res_axis_Hull_0 r2)))))) false)))
       (some (ret_grid_through (y3.1, ((res_axis_Hull_0 r2), (y3.2.2.1, (IntKind.i64.wrap ((res_axis_Hull_1 r2) - (res_axis_Hull_0 r2)))))) false))))
     (agree
      (agree
       (agree
        (some (ret_grid_through (y3.1, ((res_axis_Hull_0 r2), (y3.2.2.1, (IntKind.i64.wrap ((res_axis_Hull_1 r2) - (res_axis_Hull_0 r2)))))) false))
        (some (ret_grid_through (y3.1, ((res_axis_Hull_0 r2), (y3.2.2.1, (IntKind.i64.wrap ((res_axis_Hull_1 r2) - (res_axis_Hull_0 r2)))))) false)))
       (some (ret_grid_through (y3.1, ((res_axis_Hull_0 r2), (y3.2.2.1, (IntKind.i64.wrap ((res_axis_Hull_1 r2) - (res_axis_Hull_0 r2)))))) false)))
      (agree
       (agree
        (some (ret_grid_through (y3.1, ((res_axis_Hull_0 r2), (y3.2.2.1, (IntKind.i64.wrap ((res_axis_Hull_1 r2) - (res_axis_Hull_0 r2)))))) false))
        (some (ret_grid_through (y3.1, ((res_axis_Hull_0 r2), (y3.2.2.1, (IntKind.i64.wrap ((res_axis_Hull_1 r2) - (res_axis_Hull_0 r2)))))) false)))
       (some (ret_grid_through (y3.1, ((res_axis_Hull_0 r2), (y3.2.2.1, (IntKind.i64.wrap ((res_axis_Hull_1 r2) - (res_axis_Hull_0 r2)))))) false)))))))
   (bcond ((decide ((y3.2.2.1 : Int) > 0)) == true)
    (bcond ((decide ((y3.2.2.2 : Int) > 0)) == true)
     (agree
      (agree
       (agree
        (some (ret_grid_through y3 (decide (((IntKind.i64.wrap (y3.2.2.1 + y3.2.2.2)) : Int) > 2))))
        (some (ret_grid_through y3 (decide (((IntKind.i64.wrap (y3.2.2.1 + y3.2.2.2)) : Int) > 2)))))
      (agree
       (agree
        (some (ret_grid_through y3 (decide (((IntKind.i64.wrap (y3.2.2.1 + y3.2.2.2)) : Int) > 2))))
        (some (ret_grid_through y3 (decide (((IntKind.i64.wrap (y3.2.2.1 + y3.2.2.2)) : Int) > 2)))))
       (some (ret_grid_through y3 (decide (((IntKind.i64.wrap (y3.2.2.1 + y3.2.2.2)) : Int) > 2))))))
     (agree
      (agree
       (agree
        (some (ret_grid_through y3 (decide (((IntKind.i64.wrap (y3.2.2.1 + y3.2.2.2)) : Int) > 2))))
        (some (ret_grid_through y3 (decide (((IntKind.i64.wrap (y3.2.2.1 + y3.2.2.2)) : Int) > 2)))))
       (some (ret_grid_through y3 (decide (((IntKind.i64.wrap (y3.2.2.1 + y3.2.2.2)) : Int) > 2)))))
      (agree
       (agree
        (some (ret_grid_through y3 (decide (((IntKind.i64.wrap (y3.2.2.1 + y3.2.2.2)) : Int) > 2))))
        (some (ret_grid_through y3 (decide (((IntKind.i64.wrap (y3.2.2.1 + y3.2.2.2)) : Int) > 2)))))
       (some (ret_grid_through y3 (decide (((IntKind.i64.wrap (y3.2.2.1 + y3.2.2.2)) : Int) > 2)))))))
     (agree
      (agree
       (agree
        (some (ret_grid_through y3 false))
        (some (ret_grid_through y3 false)))
      (agree
       (agree
        (some (ret_grid_through y3 false))
        (some (ret_grid_through y3 false)))
       (some (ret_grid_through y3 false))))
     (agree
      (agree
       (agree
        (some (ret_grid_through y3 false))
        (some (ret_grid_through y3 false)))
       (some (ret_grid_through y3 false)))
      (agree
       (agree
        (some (ret_grid_through y3 false))
        (some (ret_grid_through y3 false)))
       (some (ret_grid_through y3 false))))))
    (agree
     (agree
      (agree
       (some (ret_grid_through y3 false))
       (some (ret_grid_through y3 false)))
     (agree
      (agree
       (some (ret_grid_through y3 false))
       (some (ret_grid_through y3 false)))
      (some (ret_grid_through y3 false))))
    (agree
     (agree
      (agree
       (some (ret_grid_through y3 false))
       (some (ret_grid_through y3 false)))
      (some (ret_grid_through y3 false)))
     (agree
      (agree
       (some (ret_grid_through y3 false))
       (some (ret_grid_through y3 false)))
      (some (ret_grid_through y3 false)))))))
theorem J_grid_through_0_eq (n : Nat) (y2 : List YSpan.den) (y3 : YRect.den) (y6 : YRect.den) : J_grid_through_0 n y2 y3 y6 =
  (bcond (decide (((List.length y2 : Int) : Int) > 0))
   ((C_axis_Hull F_axis_Hull y2 y3.2.1 (IntKind.i64.wrap (y3.2.1 + y3.2.2.2))).bind fun r2 =>
    (bcond ((decide ((y3.2.2.1 : Int) > 0)) == true)
     (bcond ((decide (((IntKind.i64.wrap ((res_axis_Hull_1 r2) - (res_axis_Hull_0 r2))) : Int) > 0)) == true)
      (some (ret_grid_through (y3.1, ((res_axis_Hull_0 r2), (y3.2.2.1, (IntKind.i64.wrap ((res_axis_Hull_1 r2) - (res_axis_Hull_0 r2)))))) (decide (((IntKind.i64.wrap (y3.2.2.1 + (IntKind.i64.wrap ((res_axis_Hull_1 r2) - (res_axis_Hull_0 r2))))) : Int) > 2))))
      (some (ret_grid_through (y3.1, ((res_axis_Hull_0 r2), (y3.2.2.1, (IntKind.i64.wrap ((res_axis_Hull_1 r2) - (res_axis_Hull_0 r2)))))) false)))
     (some (ret_grid_through (y3.1, ((res_axis_Hull_0 r2), (y3.2.2.1, (IntKind.i64.wrap ((res_axis_Hull_1 r2) - (res_axis_Hull_0 r2)))))) false))))
   (bcond ((decide ((y3.2.2.1 : Int) > 0)) == true)
    (bcond ((decide ((y3.2.2.2 : Int) > 0)) == true)
     (some (ret_grid_through y3 (decide (((IntKind.i64.wrap (y3.2.2.1 + y3.2.2.2)) : Int) > 2))))
     (some (ret_grid_through y3 false)))
    (some (ret_grid_through y3 false)))) := by unfold J_grid_through_0; simp only [agree_self]
theorem ok_grid_through : fnOk os_grid_through sig_grid_through Tryd.f55 = true := by kernel_rfl
theorem fn_grid_through : P.funcs[55]? = some Tryd.f55 := by kernel_rfl
noncomputable def F_grid_through : sig_grid_through.Fn := fun x y => run T (env_grid_through) os_grid_through sig_grid_through Tryd.f55 hs_grid_through big x y
theorem S_grid_through : Sound P 55 ⟨sig_grid_through, F_grid_through⟩ := sound_of (os := os_grid_through) (hs := hs_grid_through) (env_cons S_axis_Hull (env_nil)) fn_grid_through ok_grid_through (fun x y out h => ⟨big, h⟩)
theorem e_grid_through (a0 : YRect.den) (a1 : List YSpan.den) (a2 : List YSpan.den) : C_grid_through F_grid_through a0 a1 a2 =
  (bcond (decide (((List.length a1 : Int) : Int) > 0))
   ((C_axis_Hull F_axis_Hull a1 a0.1 (IntKind.i64.wrap (a0.1 + a0.2.2.1))).bind fun r1 =>
    (J_grid_through_0 big a2 ((res_axis_Hull_0 r1), (a0.2.1, ((IntKind.i64.wrap ((res_axis_Hull_1 r1) - (res_axis_Hull_0 r1))), a0.2.2.2))) (0, (0, (0, 0)))))
   (J_grid_through_0 big a2 a0 (0, (0, (0, 0))))) := by kernel_rfl
def sig_grid_Raw : Sig := ⟨[.v true YGrid, .v true YGridEdit], [], [(true, [.fr YGrid])]⟩
def C_grid_Raw (F : sig_grid_Raw.Fn) (a0 : YGrid.den) (a1 : YGridEdit.den) : Option sig_grid_Raw.Out := F (a0, a1, ()) ()
def ret_grid_Raw (v0 : YGrid.den) : sig_grid_Raw.Out := (((v0, ()), ()), ())
def res_grid_Raw_0 (r : sig_grid_Raw.Out) : YGrid.den := r.1.1.1
@[simp] theorem res_grid_Raw_0_ret (v0 : YGrid.den) : res_grid_Raw_0 (ret_grid_Raw v0) = v0 := rfl
def os_grid_Raw : RegT := ⟨[(3, .st 0 (.st 1 (.st 2 (.st 4 (.st 6 (.st 9 (.st 3 (.st 5 (.st 7 (.alt 8 (.st 10 (.alt 11 (.st 12 (.st 13 (.st 14 (.nil)))) (.st 13 (.st 11 (.st 12 (.st 14 (.nil))))))) (.alt 10 (.alt 8 (.alt 11 (.st 12 (.st 13 (.st 14 (.nil)))) (.st 13 (.st 11 (.st 12 (.st 14 (.nil)))))) (.st 13 (.st 8 (.st 11 (.st 12 (.st 14 (.nil))))))) (.st 13 (.grp [10, 8] (.st 11 (.st 12 (.st 14 (.nil)))))))))))))))))], [], false⟩
def hs_grid_Raw : List Keep := [[(3, []), (4, []), (9, [(3, 46, YRect)]), (46, []), (47, []), (48, [])], [(4, []), (9, [(3, 46, YRect)]), (77, []), (78, []), (79, [])]]
@[reducible] noncomputable def env_grid_Raw : Env := [(52, ⟨sig_grid_size, F_grid_size⟩), (54, ⟨sig_grid_Moved, F_grid_Moved⟩), (53, ⟨sig_grid_put, F_grid_put⟩), (55, ⟨sig_grid_through, F_grid_through⟩), (56, ⟨sig_slices_Contains_Rect, F_slices_Contains_Rect⟩), (57, ⟨sig_slices_DeleteFunc_Rect_grid_Raw_c1, F_slices_DeleteFunc_Rect_grid_Raw_c1⟩), (59, ⟨sig_slices_SortFunc_Rect_grid_Raw_c2, F_slices_SortFunc_Rect_grid_Raw_c2⟩)]
noncomputable def L_grid_Raw_0 (n m1 : Nat) (x3_0 : List YSpan.den) (x3_1 : List YSpan.den) (x3_2 : List YCell.den) (x3_3 : List YRect.den) (x3_4 : List YRect.den) (x4_0 : Int) (x4_1 : Int) (x9_0 : Int) (x9_1 : Int) (x9_2 : List YCell.den) (x9_3 : List YRect.den) (x46 : List YRect.den) (x47 : Int) (x48 : Int) : Option sig_grid_Raw.Out :=
  loopAt T (env_grid_Raw) os_grid_Raw sig_grid_Raw Tryd.f23 hs_grid_Raw n [.sr, .sr, .sr, .sr, .sl, .sr, .bl] m1 (mk 99 [(3, .box [.val (.list YSpan) x3_0, .val (.list YSpan) x3_1, .val (.list YCell) x3_2, .val (.list YRect) x3_3, .val (.list YRect) x3_4]), (4, .box [.val (.int .i64) x4_0, .val (.int .i64) x4_1, .nils, .nils]), (9, .box [.val (.int .i64) x9_0, .val (.int .i64) x9_1, .val (.list YCell) x9_2, .own 46 YRect x9_3]), (46, .cs false [.val (.list YRect) x46]), (47, .cs false [.val (.int .i64) x47]), (48, .cs false [.val (.int .i64) x48])])
noncomputable def L_grid_Raw_1 (n m1 : Nat) (x4_0 : Int) (x4_1 : Int) (x9_0 : Int) (x9_1 : Int) (x9_2 : List YCell.den) (x9_3 : List YRect.den) (x77 : List YRect.den) (x78 : Int) (x79 : Int) : Option sig_grid_Raw.Out :=
  loopAt T (env_grid_Raw) os_grid_Raw sig_grid_Raw Tryd.f23 hs_grid_Raw n [.sr, .sr, .sr, .sr, .sr, .sl, .sr, .bl] m1 (mk 99 [(4, .box [.val (.int .i64) x4_0, .val (.int .i64) x4_1, .nils, .nils]), (9, .box [.val (.int .i64) x9_0, .val (.int .i64) x9_1, .val (.list YCell) x9_2, .own 46 YRect x9_3]), (77, .cs false [.val (.list YRect) x77]), (78, .cs false [.val (.int .i64) x78]), (79, .cs false [.val (.int .i64) x79])])
theorem L_grid_Raw_0_step (n m1 : Nat) (x3_0 : List YSpan.den) (x3_1 : List YSpan.den) (x3_2 : List YCell.den) (x3_3 : List YRect.den) (x3_4 : List YRect.den) (x4_0 : Int) (x4_1 : Int) (x9_0 : Int) (x9_1 : Int) (x9_2 : List YCell.den) (x9_3 : List YRect.den) (x46 : List YRect.den) (x47 : Int) (x48 : Int) : L_grid_Raw_0 n (m1 + 1) x3_0 x3_1 x3_2 x3_3 x3_4 x4_0 x4_1 x9_0 x9_1 x9_2 x9_3 x46 x47 x48 =
  (bcond (decide ((x48 : Int) < x47))
   (if 0 ≤ (x48 : Int) ∧ (x48 : Int) < (List.length x46 : Int) then
    ((C_grid_through F_grid_through (at_ (e := YRect) x46 x48) x3_0 x3_1).bind fun r1 =>
     (bcond ((res_grid_through_1 r1) == true)
      ((C_slices_Contains_Rect F_slices_Contains_Rect x3_3 (res_grid_through_0 r1)).bind fun r2 =>
       (bcond (!(res_slices_Contains_Rect_0 r2))
        (if (List.length (x9_3 : List YRect.den) + List.length ([(res_grid_through_0 r1)] : List YRect.den)) * 32 ≤ 140737488355328 then
         (L_grid_Raw_0 n m1 x3_0 x3_1 x3_2 x3_3 x3_4 x4_0 x4_1 x9_0 x9_1 x9_2 (x9_3 ++ [(res_grid_through_0 r1)]) x46 x47 (IntKind.i64.wrap (x48 + 1)))
        else none)
        (L_grid_Raw_0 n m1 x3_0 x3_1 x3_2 x3_3 x3_4 x4_0 x4_1 x9_0 x9_1 x9_2 x9_3 x46 x47 (IntKind.i64.wrap (x48 + 1)))))
      (L_grid_Raw_0 n m1 x3_0 x3_1 x3_2 x3_3 x3_4 x4_0 x4_1 x9_0 x9_1 x9_2 x9_3 x46 x47 (IntKind.i64.wrap (x48 + 1)))))
   else none)
   (L_grid_Raw_1 n n x4_0 x4_1 x9_0 x9_1 x9_2 x9_3 x3_4 (List.length x3_4 : Int) 0)) := by kernel_rfl
theorem L_grid_Raw_1_step (n m1 : Nat) (x4_0 : Int) (x4_1 : Int) (x9_0 : Int) (x9_1 : Int) (x9_2 : List YCell.den) (x9_3 : List YRect.den) (x77 : List YRect.den) (x78 : Int) (x79 : Int) : L_grid_Raw_1 n (m1 + 1) x4_0 x4_1 x9_0 x9_1 x9_2 x9_3 x77 x78 x79 =
  (bcond (decide ((x79 : Int) < x78))
   (if 0 ≤ (x79 : Int) ∧ (x79 : Int) < (List.length x77 : Int) then
    ((C_slices_DeleteFunc_Rect_grid_Raw_c1 F_slices_DeleteFunc_Rect_grid_Raw_c1 x9_3 (at_ (e := YRect) x77 x79).1 (at_ (e := YRect) x77 x79).2.1 (at_ (e := YRect) x77 x79).2.2.1 (at_ (e := YRect) x77 x79).2.2.2).bind fun r1 =>
     (if (List.length ((res_slices_DeleteFunc_Rect_grid_Raw_c1_0 r1) : List YRect.den) + List.length ([((res_slices_DeleteFunc_Rect_grid_Raw_c1_1 r1), ((res_slices_DeleteFunc_Rect_grid_Raw_c1_2 r1), ((res_slices_DeleteFunc_Rect_grid_Raw_c1_3 r1), (res_slices_DeleteFunc_Rect_grid_Raw_c1_4 r1))))] : List YRect.den)) * 32 ≤ 140737488355328 then
      (L_grid_Raw_1 n m1 x4_0 x4_1 x9_0 x9_1 x9_2 ((res_slices_DeleteFunc_Rect_grid_Raw_c1_0 r1) ++ [((res_slices_DeleteFunc_Rect_grid_Raw_c1_1 r1), ((res_slices_DeleteFunc_Rect_grid_Raw_c1_2 r1), ((res_slices_DeleteFunc_Rect_grid_Raw_c1_3 r1), (res_slices_DeleteFunc_Rect_grid_Raw_c1_4 r1))))]) x77 x78 (IntKind.i64.wrap (x79 + 1)))
     else none))
   else none)
   ((C_slices_SortFunc_Rect_grid_Raw_c2 F_slices_SortFunc_Rect_grid_Raw_c2 x9_3).bind fun r1 =>
    (some (ret_grid_Raw (x9_0, (x9_1, (x9_2, (res_slices_SortFunc_Rect_grid_Raw_c2_0 r1)))))))) := by kernel_rfl
theorem raw_grid_Raw (n : Nat) (a0 : YGrid.den) (a1 : YGridEdit.den) : C_grid_Raw (fun x y => run T (env_grid_Raw) os_grid_Raw sig_grid_Raw Tryd.f23 hs_grid_Raw n x y) a0 a1 =
  ((C_grid_size F_grid_size a0.1 a1.1).bind fun r1 =>
   ((C_grid_size F_grid_size a0.2.1 a1.2.1).bind fun r2 =>
    (agree
     ((C_grid_Moved F_grid_Moved a0.2.2.1 a1.1 a1.2.1).bind fun r3 =>
      (agree
       ((C_grid_put F_grid_put (res_grid_Moved_0 r3) a1.2.2.1).bind fun r4 =>
        (L_grid_Raw_0 n n a1.1 a1.2.1 a1.2.2.1 a1.2.2.2.1 a1.2.2.2.2 0 0 (res_grid_size_0 r1) (res_grid_size_0 r2) (res_grid_put_0 r4) [] a0.2.2.2 (List.length a0.2.2.2 : Int) 0))
       ((C_grid_put F_grid_put (res_grid_Moved_0 r3) a1.2.2.1).bind fun r4 =>
        (L_grid_Raw_0 n n a1.1 a1.2.1 a1.2.2.1 a1.2.2.2.1 a1.2.2.2.2 0 0 (res_grid_size_0 r1) (res_grid_size_0 r2) (res_grid_put_0 r4) [] a0.2.2.2 (List.length a0.2.2.2 : Int) 0))))
    (agree
     (agree
      ((C_grid_Moved F_grid_Moved a0.2.2.1 a1.1 a1.2.1).bind fun r3 =>
       (agree
        ((C_grid_put F_grid_put (res_grid_Moved_0 r3) a1.2.2.1).bind fun r4 =>
         (L_grid_Raw_0 n n a1.1 a1.2.1 a1.2.2.1 a1.2.2.2.1 a1.2.2.2.2 0 0 (res_grid_size_0 r1) (res_grid_size_0 r2) (res_grid_put_0 r4) [] a0.2.2.2 (List.length a0.2.2.2 : Int) 0))
        ((C_grid_put F_grid_put (res_grid_Moved_0 r3) a1.2.2.1).bind fun r4 =>
         (L_grid_Raw_0 n n a1.1 a1.2.1 a1.2.2.1 a1.2.2.2.1 a1.2.2.2.2 0 0 (res_grid_size_0 r1) (res_grid_size_0 r2) (res_grid_put_0 r4) [] a0.2.2.2 (List.length a0.2.2.2 : Int) 0))))
      ((C_grid_Moved F_grid_Moved a0.2.2.1 a1.1 a1.2.1).bind fun r3 =>
       ((C_grid_put F_grid_put (res_grid_Moved_0 r3) a1.2.2.1).bind fun r4 =>
        (L_grid_Raw_0 n n a1.1 a1.2.1 a1.2.2.1 a1.2.2.2.1 a1.2.2.2.2 0 0 (res_grid_size_0 r1) (res_grid_size_0 r2) (res_grid_put_0 r4) [] a0.2.2.2 (List.length a0.2.2.2 : Int) 0))))
     ((C_grid_Moved F_grid_Moved a0.2.2.1 a1.1 a1.2.1).bind fun r3 =>
      ((C_grid_put F_grid_put (res_grid_Moved_0 r3) a1.2.2.1).bind fun r4 =>
       (L_grid_Raw_0 n n a1.1 a1.2.1 a1.2.2.1 a1.2.2.2.1 a1.2.2.2.2 0 0 (res_grid_size_0 r1) (res_grid_size_0 r2) (res_grid_put_0 r4) [] a0.2.2.2 (List.length a0.2.2.2 : Int) 0))))))) := by kernel_rfl
theorem run_grid_Raw (n : Nat) (a0 : YGrid.den) (a1 : YGridEdit.den) : C_grid_Raw (fun x y => run T (env_grid_Raw) os_grid_Raw sig_grid_Raw Tryd.f23 hs_grid_Raw n x y) a0 a1 =
  ((C_grid_size F_grid_size a0.1 a1.1).bind fun r1 =>
   ((C_grid_size F_grid_size a0.2.1 a1.2.1).bind fun r2 =>
    ((C_grid_Moved F_grid_Moved a0.2.2.1 a1.1 a1.2.1).bind fun r3 =>
     ((C_grid_put F_grid_put (res_grid_Moved_0 r3) a1.2.2.1).bind fun r4 =>
      (L_grid_Raw_0 n n a1.1 a1.2.1 a1.2.2.1 a1.2.2.2.1 a1.2.2.2.2 0 0 (res_grid_size_0 r1) (res_grid_size_0 r2) (res_grid_put_0 r4) [] a0.2.2.2 (List.length a0.2.2.2 : Int) 0))))) := by rw [raw_grid_Raw]; simp only [agree_self]
theorem ok_grid_Raw : fnOk os_grid_Raw sig_grid_Raw Tryd.f23 = true := by kernel_rfl
theorem fn_grid_Raw : P.funcs[23]? = some Tryd.f23 := by kernel_rfl
noncomputable def F_grid_Raw : sig_grid_Raw.Fn := fun x y => run T (env_grid_Raw) os_grid_Raw sig_grid_Raw Tryd.f23 hs_grid_Raw big x y
theorem S_grid_Raw : Sound P 23 ⟨sig_grid_Raw, F_grid_Raw⟩ := sound_of (os := os_grid_Raw) (hs := hs_grid_Raw) (env_cons S_grid_size (env_cons S_grid_Moved (env_cons S_grid_put (env_cons S_grid_through (env_cons S_slices_Contains_Rect (env_cons S_slices_DeleteFunc_Rect_grid_Raw_c1 (env_cons S_slices_SortFunc_Rect_grid_Raw_c2 (env_nil)))))))) fn_grid_Raw ok_grid_Raw (fun x y out h => ⟨big, h⟩)
theorem e_grid_Raw (a0 : YGrid.den) (a1 : YGridEdit.den) : C_grid_Raw F_grid_Raw a0 a1 =
  ((C_grid_size F_grid_size a0.1 a1.1).bind fun r1 =>
   ((C_grid_size F_grid_size a0.2.1 a1.2.1).bind fun r2 =>
    ((C_grid_Moved F_grid_Moved a0.2.2.1 a1.1 a1.2.1).bind fun r3 =>
     ((C_grid_put F_grid_put (res_grid_Moved_0 r3) a1.2.2.1).bind fun r4 =>
      (L_grid_Raw_0 big big a1.1 a1.2.1 a1.2.2.1 a1.2.2.2.1 a1.2.2.2.2 0 0 (res_grid_size_0 r1) (res_grid_size_0 r2) (res_grid_put_0 r4) [] a0.2.2.2 (List.length a0.2.2.2 : Int) 0))))) := run_grid_Raw big a0 a1
def sig_grid_Apply : Sig := ⟨[.v true YGrid, .v true YGridEdit], [], [(true, [.fr YGrid]), (false, [.fr (.int .i64)])]⟩
def C_grid_Apply (F : sig_grid_Apply.Fn) (a0 : YGrid.den) (a1 : YGridEdit.den) : Option sig_grid_Apply.Out := F (a0, a1, ()) ()
def ret_grid_Apply (v0 : YGrid.den) (v1 : Int) : sig_grid_Apply.Out := (((v0, ()), (v1, ()), ()), ())
def res_grid_Apply_0 (r : sig_grid_Apply.Out) : YGrid.den := r.1.1.1
@[simp] theorem res_grid_Apply_0_ret (v0 : YGrid.den) (v1 : Int) : res_grid_Apply_0 (ret_grid_Apply v0 v1) = v0 := rfl
def res_grid_Apply_1 (r : sig_grid_Apply.Out) : Int := r.1.2.1.1
@[simp] theorem res_grid_Apply_1_ret (v0 : YGrid.den) (v1 : Int) : res_grid_Apply_1 (ret_grid_Apply v0 v1) = v1 := rfl
def os_grid_Apply : RegT := ⟨[], [], false⟩
def hs_grid_Apply : List Keep := []
@[reducible] noncomputable def env_grid_Apply : Env := [(22, ⟨sig_grid_fits, F_grid_fits⟩), (23, ⟨sig_grid_Raw, F_grid_Raw⟩)]
theorem ok_grid_Apply : fnOk os_grid_Apply sig_grid_Apply Tryd.f7 = true := by kernel_rfl
theorem fn_grid_Apply : P.funcs[7]? = some Tryd.f7 := by kernel_rfl
noncomputable def F_grid_Apply : sig_grid_Apply.Fn := fun x y => run T (env_grid_Apply) os_grid_Apply sig_grid_Apply Tryd.f7 hs_grid_Apply big x y
theorem S_grid_Apply : Sound P 7 ⟨sig_grid_Apply, F_grid_Apply⟩ := sound_of (os := os_grid_Apply) (hs := hs_grid_Apply) (env_cons S_grid_fits (env_cons S_grid_Raw (env_nil))) fn_grid_Apply ok_grid_Apply (fun x y out h => ⟨big, h⟩)
theorem e_grid_Apply (a0 : YGrid.den) (a1 : YGridEdit.den) : C_grid_Apply F_grid_Apply a0 a1 =
  ((C_grid_fits F_grid_fits a0 a1).bind fun r1 =>
   (bcond (((res_grid_fits_2 r1) : Int) != 0)
    (some (ret_grid_Apply (0, (0, ([], []))) (res_grid_fits_2 r1)))
    ((C_grid_Raw F_grid_Raw a0 a1).bind fun r2 =>
     (some (ret_grid_Apply (res_grid_Raw_0 r2) 0))))) := by kernel_rfl
def sig_law_grids : Sig := ⟨[], [], [(false, [.fr .bool])]⟩
abbrev C_law_grids (F : sig_law_grids.Fn) : Option sig_law_grids.Out := F () ()
def ret_law_grids (v0 : Bool) : sig_law_grids.Out := (((v0, ()), ()), ())
def res_law_grids_0 (r : sig_law_grids.Out) : Bool := r.1.1.1
@[simp] theorem res_law_grids_0_ret (v0 : Bool) : res_law_grids_0 (ret_law_grids v0) = v0 := rfl
def os_law_grids : RegT := ⟨[], [], false⟩
def hs_law_grids : List Keep := []
@[reducible] noncomputable def env_law_grids : Env := [(7, ⟨sig_grid_Apply, F_grid_Apply⟩)]
theorem ok_law_grids : fnOk os_law_grids sig_law_grids Tryd.f6 = true := by kernel_rfl
theorem fn_law_grids : P.funcs[6]? = some Tryd.f6 := by kernel_rfl
noncomputable def F_law_grids : sig_law_grids.Fn := fun x y => run T (env_law_grids) os_law_grids sig_law_grids Tryd.f6 hs_law_grids big x y
theorem S_law_grids : Sound P 6 ⟨sig_law_grids, F_law_grids⟩ := sound_of (os := os_law_grids) (hs := hs_law_grids) (env_cons S_grid_Apply (env_nil)) fn_law_grids ok_law_grids (fun x y out h => ⟨big, h⟩)
theorem e_law_grids : C_law_grids F_law_grids =
  ((C_grid_Apply F_grid_Apply (2, (1, ([(1, (0, ([120], (0, []))))], []))) ([(1, 1), (0, 2)], ([], ([], ([], []))))).bind fun r1 =>
   (bcond ((((res_grid_Apply_1 r1) : Int) == 0) == true)
    (bcond ((((res_grid_Apply_0 r1).1 : Int) == 3) == true)
     (bcond ((((List.length (res_grid_Apply_0 r1).2.2.1 : Int) : Int) == 1) == true)
      (if 0 ≤ (0 : Int) ∧ (0 : Int) < (List.length (res_grid_Apply_0 r1).2.2.1 : Int) then
       (some (ret_law_grids (((at_ (e := YCell) (res_grid_Apply_0 r1).2.2.1 0).1 : Int) == 2)))
      else none)
      (some (ret_law_grids false)))
     (some (ret_law_grids false)))
    (some (ret_law_grids false)))) := by kernel_rfl
end Go.Ev
