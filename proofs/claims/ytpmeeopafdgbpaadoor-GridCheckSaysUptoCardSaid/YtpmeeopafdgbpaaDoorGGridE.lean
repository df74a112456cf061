/- Functions, step by step. -/
import Derived.Test.YtpmeeopafdgbpaaDoorGGridA
import Derived.Test.YtpmeeopafdgbpaaDoorGGridR
namespace Go.Ev
set_option linter.unusedVariables false
set_option maxRecDepth 100000
open Go.Proofs
def sig_R_EditError : Sig := ⟨[.v true YGridEdit], [], [(false, [.fr (.int .i64)])]⟩
def C_R_EditError (F : sig_R_EditError.Fn) (a0 : YGridEdit.den) : Option sig_R_EditError.Out := F (a0, ()) ()
def ret_R_EditError (v0 : Int) : sig_R_EditError.Out := (((v0, ()), ()), ())
def res_R_EditError_0 (r : sig_R_EditError.Out) : Int := r.1.1.1
@[simp] theorem res_R_EditError_0_ret (v0 : Int) : res_R_EditError_0 (ret_R_EditError v0) = v0 := rfl
def os_R_EditError : RegT := ⟨[], [], false⟩
def hs_R_EditError : List Keep := [[(1, []), (28, []), (29, [])], [(1, []), (42, []), (43, [])]]
@[reducible] noncomputable def env_R_EditError : Env := [(28, ⟨sig_R_AxisError, F_R_AxisError⟩), (25, ⟨sig_R_CellsError, F_R_CellsError⟩), (26, ⟨sig_R_Lies, F_R_Lies⟩)]
noncomputable def L_R_EditError_0 (n m1 : Nat) (x1_0 : List YSpan.den) (x1_1 : List YSpan.den) (x1_2 : List YCell.den) (x1_3 : List YRect.den) (x1_4 : List YRect.den) (x28 : Int) (x29 : Int) : Option sig_R_EditError.Out :=
  loopAt T (env_R_EditError) os_R_EditError sig_R_EditError Tryd.f9 hs_R_EditError n [.sr, .sr, .sr, .sr, .sl, .sr, .bl] m1 (mk 70 [(1, .box [.val (.list YSpan) x1_0, .val (.list YSpan) x1_1, .val (.list YCell) x1_2, .val (.list YRect) x1_3, .val (.list YRect) x1_4]), (28, .cs false [.val (.int .i64) x28]), (29, .cs false [.val (.int .i64) x29])])
noncomputable def L_R_EditError_1 (n m1 : Nat) (x1_0 : List YSpan.den) (x1_1 : List YSpan.den) (x1_2 : List YCell.den) (x1_3 : List YRect.den) (x1_4 : List YRect.den) (x42 : Int) (x43 : Int) : Option sig_R_EditError.Out :=
  loopAt T (env_R_EditError) os_R_EditError sig_R_EditError Tryd.f9 hs_R_EditError n [.sr, .sr, .sr, .sr, .sr, .sl, .sr, .bl] m1 (mk 70 [(1, .box [.val (.list YSpan) x1_0, .val (.list YSpan) x1_1, .val (.list YCell) x1_2, .val (.list YRect) x1_3, .val (.list YRect) x1_4]), (42, .cs false [.val (.int .i64) x42]), (43, .cs false [.val (.int .i64) x43])])
theorem L_R_EditError_0_step (n m1 : Nat) (x1_0 : List YSpan.den) (x1_1 : List YSpan.den) (x1_2 : List YCell.den) (x1_3 : List YRect.den) (x1_4 : List YRect.den) (x28 : Int) (x29 : Int) : L_R_EditError_0 n (m1 + 1) x1_0 x1_1 x1_2 x1_3 x1_4 x28 x29 =
  (bcond (decide ((x29 : Int) < x28))
   (if 0 ≤ (x29 : Int) ∧ (x29 : Int) < (List.length x1_3 : Int) then
    ((C_R_Lies F_R_Lies (at_ (e := YRect) x1_3 x29) 2147483647 2147483647).bind fun r1 =>
     (bcond (!(res_R_Lies_0 r1))
      (some (ret_R_EditError 2))
      (L_R_EditError_0 n m1 x1_0 x1_1 x1_2 x1_3 x1_4 x28 (IntKind.i64.wrap (x29 + 1)))))
   else none)
   (L_R_EditError_1 n n x1_0 x1_1 x1_2 x1_3 x1_4 (List.length x1_4 : Int) 0)) := by kernel_rfl
theorem L_R_EditError_1_step (n m1 : Nat) (x1_0 : List YSpan.den) (x1_1 : List YSpan.den) (x1_2 : List YCell.den) (x1_3 : List YRect.den) (x1_4 : List YRect.den) (x42 : Int) (x43 : Int) : L_R_EditError_1 n (m1 + 1) x1_0 x1_1 x1_2 x1_3 x1_4 x42 x43 =
  (bcond (decide ((x43 : Int) < x42))
   (if 0 ≤ (x43 : Int) ∧ (x43 : Int) < (List.length x1_4 : Int) then
    ((C_R_Lies F_R_Lies (at_ (e := YRect) x1_4 x43) 2147483647 2147483647).bind fun r1 =>
     (bcond (!(res_R_Lies_0 r1))
      (some (ret_R_EditError 2))
      (if 0 ≤ (x43 : Int) ∧ (x43 : Int) < (List.length x1_4 : Int) then
       (bcond ((((at_ (e := YRect) x1_4 x43).2.2.1 : Int) == 1) == true)
        (if 0 ≤ (x43 : Int) ∧ (x43 : Int) < (List.length x1_4 : Int) then
         (bcond (((at_ (e := YRect) x1_4 x43).2.2.2 : Int) == 1)
          (some (ret_R_EditError 4))
          (L_R_EditError_1 n m1 x1_0 x1_1 x1_2 x1_3 x1_4 x42 (IntKind.i64.wrap (x43 + 1))))
        else none)
        (L_R_EditError_1 n m1 x1_0 x1_1 x1_2 x1_3 x1_4 x42 (IntKind.i64.wrap (x43 + 1))))
      else none)))
   else none)
   (some (ret_R_EditError 0))) := by kernel_rfl
theorem ok_R_EditError : fnOk os_R_EditError sig_R_EditError Tryd.f9 = true := by kernel_rfl
theorem fn_R_EditError : P.funcs[9]? = some Tryd.f9 := by kernel_rfl
noncomputable def F_R_EditError : sig_R_EditError.Fn := fun x y => run T (env_R_EditError) os_R_EditError sig_R_EditError Tryd.f9 hs_R_EditError big x y
theorem S_R_EditError : Sound P 9 ⟨sig_R_EditError, F_R_EditError⟩ := sound_of (os := os_R_EditError) (hs := hs_R_EditError) (env_cons S_R_AxisError (env_cons S_R_CellsError (env_cons S_R_Lies (env_nil)))) fn_R_EditError ok_R_EditError (fun x y out h => ⟨big, h⟩)
theorem e_R_EditError (a0 : YGridEdit.den) : C_R_EditError F_R_EditError a0 =
  ((C_R_AxisError F_R_AxisError a0.1).bind fun r1 =>
   (bcond (((res_R_AxisError_0 r1) : Int) != 0)
    (some (ret_R_EditError (res_R_AxisError_0 r1)))
    ((C_R_AxisError F_R_AxisError a0.2.1).bind fun r2 =>
     (bcond (((res_R_AxisError_0 r2) : Int) != 0)
      (some (ret_R_EditError (res_R_AxisError_0 r2)))
      ((C_R_CellsError F_R_CellsError a0.2.2.1 2147483647 2147483647 true).bind fun r3 =>
       (bcond (((res_R_CellsError_0 r3) : Int) != 0)
        (some (ret_R_EditError (res_R_CellsError_0 r3)))
        (L_R_EditError_0 big big a0.1 a0.2.1 a0.2.2.1 a0.2.2.2.1 a0.2.2.2.2 (List.length a0.2.2.2.1 : Int) 0))))))) := by kernel_rfl
def sig_R_Cover : Sig := ⟨[.v true YGrid, .v false (.int .i64), .v false (.int .i64)], [], [(true, [.fr YRect])]⟩
def C_R_Cover (F : sig_R_Cover.Fn) (a0 : YGrid.den) (a1 : Int) (a2 : Int) : Option sig_R_Cover.Out := F (a0, a1, a2, ()) ()
def ret_R_Cover (v0 : YRect.den) : sig_R_Cover.Out := (((v0, ()), ()), ())
def res_R_Cover_0 (r : sig_R_Cover.Out) : YRect.den := r.1.1.1
@[simp] theorem res_R_Cover_0_ret (v0 : YRect.den) : res_R_Cover_0 (ret_R_Cover v0) = v0 := rfl
def os_R_Cover : RegT := ⟨[], [], false⟩
def hs_R_Cover : List Keep := [[(1, []), (2, []), (3, []), (6, []), (11, []), (12, [])]]
@[reducible] noncomputable def env_R_Cover : Env := [(24, ⟨sig_R_In, F_R_In⟩)]
noncomputable def L_R_Cover_0 (n m1 : Nat) (x1 : Int) (x2 : Int) (x3_0 : Int) (x3_1 : Int) (x3_2 : List YCell.den) (x3_3 : List YRect.den) (x6_0 : Int) (x6_1 : Int) (x6_2 : Int) (x6_3 : Int) (x11 : Int) (x12 : Int) : Option sig_R_Cover.Out :=
  loopAt T (env_R_Cover) os_R_Cover sig_R_Cover Tryd.f21 hs_R_Cover n [.sr, .sl, .sr, .bl] m1 (mk 47 [(1, .cs false [.val (.int .i64) x1]), (2, .cs false [.val (.int .i64) x2]), (3, .box [.val (.int .i64) x3_0, .val (.int .i64) x3_1, .val (.list YCell) x3_2, .val (.list YRect) x3_3]), (6, .box [.val (.int .i64) x6_0, .val (.int .i64) x6_1, .val (.int .i64) x6_2, .val (.int .i64) x6_3]), (11, .cs false [.val (.int .i64) x11]), (12, .cs false [.val (.int .i64) x12])])
theorem L_R_Cover_0_step (n m1 : Nat) (x1 : Int) (x2 : Int) (x3_0 : Int) (x3_1 : Int) (x3_2 : List YCell.den) (x3_3 : List YRect.den) (x6_0 : Int) (x6_1 : Int) (x6_2 : Int) (x6_3 : Int) (x11 : Int) (x12 : Int) : L_R_Cover_0 n (m1 + 1) x1 x2 x3_0 x3_1 x3_2 x3_3 x6_0 x6_1 x6_2 x6_3 x11 x12 =
  (bcond (decide ((x12 : Int) < x11))
   (if 0 ≤ (x12 : Int) ∧ (x12 : Int) < (List.length x3_3 : Int) then
    ((C_R_In F_R_In x1 (at_ (e := YRect) x3_3 x12).1 (IntKind.i64.wrap ((IntKind.i64.wrap ((at_ (e := YRect) x3_3 x12).1 + (at_ (e := YRect) x3_3 x12).2.2.1)) - 1))).bind fun r1 =>
     (bcond ((res_R_In_0 r1) == true)
      ((C_R_In F_R_In x2 (at_ (e := YRect) x3_3 x12).2.1 (IntKind.i64.wrap ((IntKind.i64.wrap ((at_ (e := YRect) x3_3 x12).2.1 + (at_ (e := YRect) x3_3 x12).2.2.2)) - 1))).bind fun r2 =>
       (bcond (res_R_In_0 r2)
        (some (ret_R_Cover (at_ (e := YRect) x3_3 x12)))
        (L_R_Cover_0 n m1 x1 x2 x3_0 x3_1 x3_2 x3_3 x6_0 x6_1 x6_2 x6_3 x11 (IntKind.i64.wrap (x12 + 1)))))
      (L_R_Cover_0 n m1 x1 x2 x3_0 x3_1 x3_2 x3_3 x6_0 x6_1 x6_2 x6_3 x11 (IntKind.i64.wrap (x12 + 1)))))
   else none)
   (some (ret_R_Cover (x1, (x2, (1, 1)))))) := by kernel_rfl
theorem ok_R_Cover : fnOk os_R_Cover sig_R_Cover Tryd.f21 = true := by kernel_rfl
theorem fn_R_Cover : P.funcs[21]? = some Tryd.f21 := by kernel_rfl
noncomputable def F_R_Cover : sig_R_Cover.Fn := fun x y => run T (env_R_Cover) os_R_Cover sig_R_Cover Tryd.f21 hs_R_Cover big x y
theorem S_R_Cover : Sound P 21 ⟨sig_R_Cover, F_R_Cover⟩ := sound_of (os := os_R_Cover) (hs := hs_R_Cover) (env_cons S_R_In (env_nil)) fn_R_Cover ok_R_Cover (fun x y out h => ⟨big, h⟩)
theorem e_R_Cover (a0 : YGrid.den) (a1 : Int) (a2 : Int) : C_R_Cover F_R_Cover a0 a1 a2 =
  (L_R_Cover_0 big big a1 a2 a0.1 a0.2.1 a0.2.2.1 a0.2.2.2 0 0 0 0 (List.length a0.2.2.2 : Int) 0) := by kernel_rfl
def sig_slices_BinarySearchFunc_Cell_grid_order : Sig := ⟨[.v false (.list YCell), .v true YCell, .f 70 []], [], [(false, [.fr (.int .i64)]), (false, [.fr .bool])]⟩
def C_slices_BinarySearchFunc_Cell_grid_order (F : sig_slices_BinarySearchFunc_Cell_grid_order.Fn) (a0 : List YCell.den) (a1 : YCell.den) : Option sig_slices_BinarySearchFunc_Cell_grid_order.Out := F (a0, a1, ()) ()
def ret_slices_BinarySearchFunc_Cell_grid_order (v0 : Int) (v1 : Bool) : sig_slices_BinarySearchFunc_Cell_grid_order.Out := (((v0, ()), (v1, ()), ()), ())
def res_slices_BinarySearchFunc_Cell_grid_order_0 (r : sig_slices_BinarySearchFunc_Cell_grid_order.Out) : Int := r.1.1.1
@[simp] theorem res_slices_BinarySearchFunc_Cell_grid_order_0_ret (v0 : Int) (v1 : Bool) : res_slices_BinarySearchFunc_Cell_grid_order_0 (ret_slices_BinarySearchFunc_Cell_grid_order v0 v1) = v0 := rfl
def res_slices_BinarySearchFunc_Cell_grid_order_1 (r : sig_slices_BinarySearchFunc_Cell_grid_order.Out) : Bool := r.1.2.1.1
@[simp] theorem res_slices_BinarySearchFunc_Cell_grid_order_1_ret (v0 : Int) (v1 : Bool) : res_slices_BinarySearchFunc_Cell_grid_order_1 (ret_slices_BinarySearchFunc_Cell_grid_order v0 v1) = v1 := rfl
def os_slices_BinarySearchFunc_Cell_grid_order : RegT := ⟨[(5, .st 0 (.st 1 (.st 2 (.st 3 (.st 4 (.st 5 (.st 6 (.st 7 (.nil))))))))), (8, .st 0 (.st 1 (.st 2 (.st 3 (.st 4 (.st 5 (.st 6 (.st 7 (.st 8 (.st 9 (.st 10 (.st 11 (.st 12 (.st 13 (.st 14 (.st 15 (.nil)))))))))))))))))], [], false⟩
def hs_slices_BinarySearchFunc_Cell_grid_order : List Keep := [[(0, []), (2, []), (4, []), (8, []), (9, []), (10, [])]]
@[reducible] noncomputable def env_slices_BinarySearchFunc_Cell_grid_order : Env := [(70, ⟨sig_grid_order, F_grid_order⟩)]
noncomputable def L_slices_BinarySearchFunc_Cell_grid_order_0 (n m1 : Nat) (x0 : List YCell.den) (x4_0 : Int) (x4_1 : Int) (x4_2 : List UInt8) (x4_3 : Int) (x4_4 : List YAttr.den) (x8 : Int) (x9 : Int) (x10 : Int) : Option sig_slices_BinarySearchFunc_Cell_grid_order.Out :=
  loopAt T (env_slices_BinarySearchFunc_Cell_grid_order) os_slices_BinarySearchFunc_Cell_grid_order sig_slices_BinarySearchFunc_Cell_grid_order Tryd.f72 hs_slices_BinarySearchFunc_Cell_grid_order n [.sr, .sr, .sr, .sl, .bl] m1 (mk 49 [(0, .cs false [.val (.list YCell) x0]), (2, .cs false [.clo 70 []]), (4, .box [.val (.int .i64) x4_0, .val (.int .i64) x4_1, .val .str x4_2, .val (.int .i64) x4_3, .val (.list YAttr) x4_4]), (8, .cs false [.val (.int .i64) x8]), (9, .cs false [.val (.int .i64) x9]), (10, .cs false [.val (.int .i64) x10])])
theorem L_slices_BinarySearchFunc_Cell_grid_order_0_step (n m1 : Nat) (x0 : List YCell.den) (x4_0 : Int) (x4_1 : Int) (x4_2 : List UInt8) (x4_3 : Int) (x4_4 : List YAttr.den) (x8 : Int) (x9 : Int) (x10 : Int) : L_slices_BinarySearchFunc_Cell_grid_order_0 n (m1 + 1) x0 x4_0 x4_1 x4_2 x4_3 x4_4 x8 x9 x10 =
  (bcond (decide ((x9 : Int) < x10))
   (if 0 ≤ ((IntKind.i64.wrap (shrI .u64 (IntKind.u64.wrap (IntKind.i64.wrap (x9 + x10))) 1)) : Int) ∧ ((IntKind.i64.wrap (shrI .u64 (IntKind.u64.wrap (IntKind.i64.wrap (x9 + x10))) 1)) : Int) < (List.length x0 : Int) then
    ((C_grid_order F_grid_order (at_ (e := YCell) x0 (IntKind.i64.wrap (shrI .u64 (IntKind.u64.wrap (IntKind.i64.wrap (x9 + x10))) 1))) (x4_0, (x4_1, (x4_2, (x4_3, x4_4))))).bind fun r1 =>
     (bcond (decide (((res_grid_order_0 r1) : Int) < 0))
      (L_slices_BinarySearchFunc_Cell_grid_order_0 n m1 x0 x4_0 x4_1 x4_2 x4_3 x4_4 x8 (IntKind.i64.wrap ((IntKind.i64.wrap (shrI .u64 (IntKind.u64.wrap (IntKind.i64.wrap (x9 + x10))) 1)) + 1)) x10)
      (L_slices_BinarySearchFunc_Cell_grid_order_0 n m1 x0 x4_0 x4_1 x4_2 x4_3 x4_4 x8 x9 (IntKind.i64.wrap (shrI .u64 (IntKind.u64.wrap (IntKind.i64.wrap (x9 + x10))) 1)))))
   else none)
   (bcond ((decide ((x9 : Int) < x8)) == true)
    (if 0 ≤ (x9 : Int) ∧ (x9 : Int) < (List.length x0 : Int) then
     ((C_grid_order F_grid_order (at_ (e := YCell) x0 x9) (x4_0, (x4_1, (x4_2, (x4_3, x4_4))))).bind fun r1 =>
      (some (ret_slices_BinarySearchFunc_Cell_grid_order x9 (((res_grid_order_0 r1) : Int) == 0))))
    else none)
    (some (ret_slices_BinarySearchFunc_Cell_grid_order x9 false)))) := by kernel_rfl
theorem ok_slices_BinarySearchFunc_Cell_grid_order : fnOk os_slices_BinarySearchFunc_Cell_grid_order sig_slices_BinarySearchFunc_Cell_grid_order Tryd.f72 = true := by kernel_rfl
theorem fn_slices_BinarySearchFunc_Cell_grid_order : P.funcs[72]? = some Tryd.f72 := by kernel_rfl
noncomputable def F_slices_BinarySearchFunc_Cell_grid_order : sig_slices_BinarySearchFunc_Cell_grid_order.Fn := fun x y => run T (env_slices_BinarySearchFunc_Cell_grid_order) os_slices_BinarySearchFunc_Cell_grid_order sig_slices_BinarySearchFunc_Cell_grid_order Tryd.f72 hs_slices_BinarySearchFunc_Cell_grid_order big x y
theorem S_slices_BinarySearchFunc_Cell_grid_order : Sound P 72 ⟨sig_slices_BinarySearchFunc_Cell_grid_order, F_slices_BinarySearchFunc_Cell_grid_order⟩ := sound_of (os := os_slices_BinarySearchFunc_Cell_grid_order) (hs := hs_slices_BinarySearchFunc_Cell_grid_order) (env_cons S_grid_order (env_nil)) fn_slices_BinarySearchFunc_Cell_grid_order ok_slices_BinarySearchFunc_Cell_grid_order (fun x y out h => ⟨big, h⟩)
theorem e_slices_BinarySearchFunc_Cell_grid_order (a0 : List YCell.den) (a1 : YCell.den) : C_slices_BinarySearchFunc_Cell_grid_order F_slices_BinarySearchFunc_Cell_grid_order a0 a1 =
  (L_slices_BinarySearchFunc_Cell_grid_order_0 big big a0 a1.1 a1.2.1 a1.2.2.1 a1.2.2.2.1 a1.2.2.2.2 (List.length a0 : Int) 0 (List.length a0 : Int)) := by kernel_rfl
def sig_grid_find : Sig := ⟨[.v false (.list YCell), .v false (.int .i64), .v false (.int .i64)], [], [(false, [.fr (.int .i64)]), (false, [.fr .bool])]⟩
def C_grid_find (F : sig_grid_find.Fn) (a0 : List YCell.den) (a1 : Int) (a2 : Int) : Option sig_grid_find.Out := F (a0, a1, a2, ()) ()
def ret_grid_find (v0 : Int) (v1 : Bool) : sig_grid_find.Out := (((v0, ()), (v1, ()), ()), ())
def res_grid_find_0 (r : sig_grid_find.Out) : Int := r.1.1.1
@[simp] theorem res_grid_find_0_ret (v0 : Int) (v1 : Bool) : res_grid_find_0 (ret_grid_find v0 v1) = v0 := rfl
def res_grid_find_1 (r : sig_grid_find.Out) : Bool := r.1.2.1.1
@[simp] theorem res_grid_find_1_ret (v0 : Int) (v1 : Bool) : res_grid_find_1 (ret_grid_find v0 v1) = v1 := rfl
def os_grid_find : RegT := ⟨[], [], false⟩
def hs_grid_find : List Keep := []
@[reducible] noncomputable def env_grid_find : Env := [(72, ⟨sig_slices_BinarySearchFunc_Cell_grid_order, F_slices_BinarySearchFunc_Cell_grid_order⟩)]
theorem ok_grid_find : fnOk os_grid_find sig_grid_find Tryd.f50 = true := by kernel_rfl
theorem fn_grid_find : P.funcs[50]? = some Tryd.f50 := by kernel_rfl
noncomputable def F_grid_find : sig_grid_find.Fn := fun x y => run T (env_grid_find) os_grid_find sig_grid_find Tryd.f50 hs_grid_find big x y
theorem S_grid_find : Sound P 50 ⟨sig_grid_find, F_grid_find⟩ := sound_of (os := os_grid_find) (hs := hs_grid_find) (env_cons S_slices_BinarySearchFunc_Cell_grid_order (env_nil)) fn_grid_find ok_grid_find (fun x y out h => ⟨big, h⟩)
theorem e_grid_find (a0 : List YCell.den) (a1 : Int) (a2 : Int) : C_grid_find F_grid_find a0 a1 a2 =
  ((C_slices_BinarySearchFunc_Cell_grid_order F_slices_BinarySearchFunc_Cell_grid_order a0 (a1, (a2, ([], (0, []))))).bind fun r1 =>
   (some (ret_grid_find (res_slices_BinarySearchFunc_Cell_grid_order_0 r1) (res_slices_BinarySearchFunc_Cell_grid_order_1 r1)))) := by kernel_rfl
def sig_grid_At : Sig := ⟨[.v true YGrid, .v false (.int .i64), .v false (.int .i64)], [], [(true, [.fr YCell])]⟩
def C_grid_At (F : sig_grid_At.Fn) (a0 : YGrid.den) (a1 : Int) (a2 : Int) : Option sig_grid_At.Out := F (a0, a1, a2, ()) ()
def ret_grid_At (v0 : YCell.den) : sig_grid_At.Out := (((v0, ()), ()), ())
def res_grid_At_0 (r : sig_grid_At.Out) : YCell.den := r.1.1.1
@[simp] theorem res_grid_At_0_ret (v0 : YCell.den) : res_grid_At_0 (ret_grid_At v0) = v0 := rfl
def os_grid_At : RegT := ⟨[], [], false⟩
def hs_grid_At : List Keep := []
@[reducible] noncomputable def env_grid_At : Env := [(50, ⟨sig_grid_find, F_grid_find⟩), (51, ⟨sig_grid_clone, F_grid_clone⟩)]
theorem ok_grid_At : fnOk os_grid_At sig_grid_At Tryd.f19 = true := by kernel_rfl
theorem fn_grid_At : P.funcs[19]? = some Tryd.f19 := by kernel_rfl
noncomputable def F_grid_At : sig_grid_At.Fn := fun x y => run T (env_grid_At) os_grid_At sig_grid_At Tryd.f19 hs_grid_At big x y
theorem S_grid_At : Sound P 19 ⟨sig_grid_At, F_grid_At⟩ := sound_of (os := os_grid_At) (hs := hs_grid_At) (env_cons S_grid_find (env_cons S_grid_clone (env_nil))) fn_grid_At ok_grid_At (fun x y out h => ⟨big, h⟩)
theorem e_grid_At (a0 : YGrid.den) (a1 : Int) (a2 : Int) : C_grid_At F_grid_At a0 a1 a2 =
  ((C_grid_find F_grid_find a0.2.2.1 a1 a2).bind fun r1 =>
   (bcond (!(res_grid_find_1 r1))
    (some (ret_grid_At (a1, (a2, ([], (0, []))))))
    (if 0 ≤ ((res_grid_find_0 r1) : Int) ∧ ((res_grid_find_0 r1) : Int) < (List.length a0.2.2.1 : Int) then
     ((C_grid_clone F_grid_clone (at_ (e := YCell) a0.2.2.1 (res_grid_find_0 r1))).bind fun r2 =>
      (some (ret_grid_At (res_grid_clone_0 r2))))
    else none))) := by kernel_rfl
def sig_grid_Cover : Sig := ⟨[.v true YGrid, .v false (.int .i64), .v false (.int .i64)], [], [(true, [.fr YRect])]⟩
def C_grid_Cover (F : sig_grid_Cover.Fn) (a0 : YGrid.den) (a1 : Int) (a2 : Int) : Option sig_grid_Cover.Out := F (a0, a1, a2, ()) ()
def ret_grid_Cover (v0 : YRect.den) : sig_grid_Cover.Out := (((v0, ()), ()), ())
def res_grid_Cover_0 (r : sig_grid_Cover.Out) : YRect.den := r.1.1.1
@[simp] theorem res_grid_Cover_0_ret (v0 : YRect.den) : res_grid_Cover_0 (ret_grid_Cover v0) = v0 := rfl
def os_grid_Cover : RegT := ⟨[], [], false⟩
def hs_grid_Cover : List Keep := [[(1, []), (2, []), (6, []), (7, []), (14, []), (15, []), (16, [])]]
@[reducible] noncomputable def env_grid_Cover : Env := []
noncomputable def L_grid_Cover_0 (n m1 : Nat) (x1 : Int) (x2 : Int) (x6_0 : Int) (x6_1 : Int) (x6_2 : Int) (x6_3 : Int) (x7_0 : Int) (x7_1 : Int) (x7_2 : Int) (x7_3 : Int) (x14 : List YRect.den) (x15 : Int) (x16 : Int) : Option sig_grid_Cover.Out :=
  loopAt T (env_grid_Cover) os_grid_Cover sig_grid_Cover Tryd.f20 hs_grid_Cover n [.sr, .sr, .sl, .sr, .bl] m1 (mk 51 [(1, .cs false [.val (.int .i64) x1]), (2, .cs false [.val (.int .i64) x2]), (6, .box [.val (.int .i64) x6_0, .val (.int .i64) x6_1, .val (.int .i64) x6_2, .val (.int .i64) x6_3]), (7, .box [.val (.int .i64) x7_0, .val (.int .i64) x7_1, .val (.int .i64) x7_2, .val (.int .i64) x7_3]), (14, .cs false [.val (.list YRect) x14]), (15, .cs false [.val (.int .i64) x15]), (16, .cs false [.val (.int .i64) x16])])
theorem L_grid_Cover_0_step (n m1 : Nat) (x1 : Int) (x2 : Int) (x6_0 : Int) (x6_1 : Int) (x6_2 : Int) (x6_3 : Int) (x7_0 : Int) (x7_1 : Int) (x7_2 : Int) (x7_3 : Int) (x14 : List YRect.den) (x15 : Int) (x16 : Int) : L_grid_Cover_0 n (m1 + 1) x1 x2 x6_0 x6_1 x6_2 x6_3 x7_0 x7_1 x7_2 x7_3 x14 x15 x16 =
  (bcond (decide ((x16 : Int) < x15))
   (if 0 ≤ (x16 : Int) ∧ (x16 : Int) < (List.length x14 : Int) then
    (bcond ((decide ((x1 : Int) ≥ (at_ (e := YRect) x14 x16).1)) == true)
     (bcond ((decide (((IntKind.i64.wrap (x1 - (at_ (e := YRect) x14 x16).1)) : Int) < (at_ (e := YRect) x14 x16).2.2.1)) == true)
      (bcond ((decide ((x2 : Int) ≥ (at_ (e := YRect) x14 x16).2.1)) == true)
       (bcond (decide (((IntKind.i64.wrap (x2 - (at_ (e := YRect) x14 x16).2.1)) : Int) < (at_ (e := YRect) x14 x16).2.2.2))
        (some (ret_grid_Cover (at_ (e := YRect) x14 x16)))
        (L_grid_Cover_0 n m1 x1 x2 x6_0 x6_1 x6_2 x6_3 x7_0 x7_1 x7_2 x7_3 x14 x15 (IntKind.i64.wrap (x16 + 1))))
       (L_grid_Cover_0 n m1 x1 x2 x6_0 x6_1 x6_2 x6_3 x7_0 x7_1 x7_2 x7_3 x14 x15 (IntKind.i64.wrap (x16 + 1))))
      (L_grid_Cover_0 n m1 x1 x2 x6_0 x6_1 x6_2 x6_3 x7_0 x7_1 x7_2 x7_3 x14 x15 (IntKind.i64.wrap (x16 + 1))))
     (L_grid_Cover_0 n m1 x1 x2 x6_0 x6_1 x6_2 x6_3 x7_0 x7_1 x7_2 x7_3 x14 x15 (IntKind.i64.wrap (x16 + 1))))
   else none)
   (some (ret_grid_Cover (x7_0, (x7_1, (x7_2, x7_3)))))) := by kernel_rfl
theorem ok_grid_Cover : fnOk os_grid_Cover sig_grid_Cover Tryd.f20 = true := by kernel_rfl
theorem fn_grid_Cover : P.funcs[20]? = some Tryd.f20 := by kernel_rfl
noncomputable def F_grid_Cover : sig_grid_Cover.Fn := fun x y => run T (env_grid_Cover) os_grid_Cover sig_grid_Cover Tryd.f20 hs_grid_Cover big x y
theorem S_grid_Cover : Sound P 20 ⟨sig_grid_Cover, F_grid_Cover⟩ := sound_of (os := os_grid_Cover) (hs := hs_grid_Cover) (env_nil) fn_grid_Cover ok_grid_Cover (fun x y out h => ⟨big, h⟩)
theorem e_grid_Cover (a0 : YGrid.den) (a1 : Int) (a2 : Int) : C_grid_Cover F_grid_Cover a0 a1 a2 =
  (L_grid_Cover_0 big big a1 a2 0 0 0 0 a1 a2 1 1 a0.2.2.2 (List.length a0.2.2.2 : Int) 0) := by kernel_rfl
end Go.Ev
