/- Functions, step by step. -/
import Derived.Test.YtpmeeopafdgbpaaDoorGGridA
import Derived.Test.YtpmeeopafdgbpaaDoorGGridR
namespace Go.Ev
set_option linter.unusedVariables false
set_option maxRecDepth 100000
open Go.Proofs
def sig_R_EditError : Sig := ⟨[.v true YGridEdit], [], [(false, [.fr (.int .i64)])]⟩
def C_R_EditError (F : sig_R_EditError.Fn) (a0 : YGridEdit.den) : Option sig_R_EditError.Out := F (a0, ()) ()
def ret_R_EditError (v0 : Int) : sig_R_EditError.Out := (((v0, ()), ()), ())
def res_R_EditError_0 (r : sig_R_EditError.Out) : Int := r.1.1.1
@[simp] theorem res_R_EditError_0_ret (v0 : Int) : res_R_EditError_0 (ret_R_EditError v0) = v0 := rfl
def os_R_EditError : RegT := ⟨[], [], false⟩
def hs_R_EditError : List Keep := [[(1, []), (28, []), (29, [])], [(1, []), (42, []), (43, [])]]
@[reducible] noncomputable def env_R_EditError : Env := [(28, ⟨sig_R_AxisError, F_R_AxisError⟩), (25, ⟨sig_R_CellsError, F_R_CellsError⟩), (26, ⟨sig_R_Lies, F_R_Lies⟩)]
noncomputable def L_R_EditError_0 (n m1 : Nat) (x1_0 : List YSpan.den) (x1_1 : List YSpan.den) (x1_2 : List YCell.den) (x1_3 : List YRect.den) (x1_4 : List YRect.den) (x28 : Int) (x29 : Int) : Option sig_R_EditError.Out :=
  loopAt T (env_R_EditError) os_R_EditError sig_R_EditError Tryd.f9 hs_R_EditError n [.sr, .sr, .sr, .sr, .sl, .sr, .bl] m1 (mk 70 [(1, .box [.val (.list YSpan) x1_0, .val (.list YSpan) x1_1, .val (.list YCell) x1_2, .val (.list YRect) x1_3, .val (.list YRect) x1_4]), (28, .cs false [.val (.int .i64) x28]), (29, .cs false [.val (.int .i64) x29])])
noncomputable def L_R_EditError_1 (n m1 : Nat) (x1_0 : List YSpan.den) (x1_1 : List YSpan.den) (x1_2 : List YCell.den) (x1_3 : List YRect.den) (x1_4 : List YRect.den) (x42 : Int) (x43 : Int) : Option sig_R_EditError.Out :=
  loopAt T (env_R_EditError) os_R_EditError sig_R_EditError Tryd.f9 hs_R_EditError n [.sr, .sr, .sr, .sr, .sr, .sl, .sr, .bl] m1 (mk 70 [(1, .box [.val (.list YSpan) x1_0, .val (.list YSpan) x1_1, .val (.list YCell) x1_2, .val (.list YRect) x1_3, .val (.list YRect) x1_4]), (42, .cs false [.val (.int .i64) x42]), (43, .cs false [.val (.int .i64) x43])])
theorem L_R_EditError_0_step (n m1 : Nat) (x1_0 : List YSpan.den) (x1_1 : List YSpan.den) (x1_2 : List YCell.den) (x1_3 : List YRect.den) (x1_4 : List YRect.den) (x28 : Int) (x29 : Int) : L_R_EditError_0 n (m1 + 1) x1_0 x1_1 x1_2 x1_3 x1_4 x28 x29 =
  (bcond (decide ((x29 : Int) < x28))
   (if 0 ≤ (x29 : Int) ∧ (x29 : Int) < (List.length x1_3 : Int) then
    ((C_R_Lies F_R_Lies (at_ (e := YRect) x1_3 x29) 2147483647 2147483647).bind fun r1 =>
     (bcond (!(res_R_Lies_0 r1))
      (some (ret_R_EditError 2))
      (L_R_EditError_0 n m1 x1_0 x1_1 x1_2 x1_3 x1_4 x28 (IntKind.i64.wrap (x29 + 1)))))
   else none)
   (L_R_EditError_1 n n x1_0 x1_1 x1_2 x1_3 x1_4 (List.length x1_4 : Int) 0)) := by kernel_rfl
theorem L_R_EditError_1_step (n m1 : Nat) (x1_0 : List YSpan.den) (x1_1 : List YSpan.den) (x1_2 : List YCell.den) (x1_3 : List YRect.den) (x1_4 : List YRect.den) (x42 : Int) (x43 : Int) : L_R_EditError_1 n (m1 + 1) x1_0 x1_1 x1_2 x1_3 x1_4 x42 x43 =
  (bcond (decide ((x43 : Int) < x42))
   (if 0 ≤ (x43 : Int) ∧ (x43 : Int) < (List.length x1_4 : Int) then
    ((C_R_Lies F_R_Lies (at_ (e := YRect) x1_4 x43) 2147483647 2147483647).bind fun r1 =>
     (bcond (!(res_R_Lies_0 r1))
      (some (ret_R_EditError 2))
      (if 0 ≤ (x43 : Int) ∧ (x43 : Int) < (List.length x1_4 : Int) then
       (bcond ((((at_ (e := YRect) x1_4 x43).2.2.1 : Int) == 1) == true)
        (if 0 ≤ (x43 : Int) ∧ (x43 : Int) < (List.length x1_4 : Int) then
         (bcond (((at_ (e := YRect) x1_4 x43).2.2.2 : Int) == 1)
          (some (ret_R_EditError 4))
          (L_R_EditError_1 n m1 x1_0 x1_1 x1_2 x1_3 x1_4 x42 (IntKind.i64.wrap (x43 + 1))))
        else none)
        (L_R_EditError_1 n m1 x1_0 x1_1 x1_2 x1_3 x1_4 x42 (IntKind.i64.wrap (x43 + 1))))
      else none)))
   else none)
   (some (ret_R_EditError 0))) := by kernel_rfl
theorem ok_R_EditError : fnOk os_R_EditError sig_R_EditError Tryd.f9 = true := by kernel_rfl
theorem fn_R_EditError : P.funcs[9]? = some Tryd.f9 := by kernel_rfl
noncomputable def F_R_EditError : sig_R_EditError.Fn := fun x y => run T (env_R_EditError) os_R_EditError sig_R_EditError Tryd.f9 hs_R_EditError big x y
theorem S_R_EditError : Sound P 9 ⟨sig_R_EditError, F_R_EditError⟩ := sound_of (os := os_R_EditError) (hs := hs_R_EditError) (env_cons S_R_AxisError (env_cons S_R_CellsError (env_cons S_R_Lies (env_nil)))) fn_R_EditError ok_R_EditError (fun x y out h => ⟨big, h⟩)
theorem e_R_EditError (a0 : YGridEdit.den) : C_R_EditError F_R_EditError a0 =
  ((C_R_AxisError F_R_AxisError a0.1).bind fun r1 =>
   (bcond (((res_R_AxisError_0 r1) : Int) != 0)
    (some (ret_R_EditError (res_R_AxisError_0 r1)))
    ((C_R_AxisError F_R_AxisError a0.2.1).bind fun r2 =>
     (bcond (((res_R_AxisError_0 r2) : Int) != 0)
      (some (ret_R_EditError (res_R_AxisError_0 r2)))
      ((C_R_CellsError F_R_CellsError a0.2.2.1 2147483647 2147483647 true).bind fun r3 =>
       (bcond (((res_R_CellsError_0 r3) : Int) != 0)
        (some (ret_R_EditError (res_R_CellsError_0 r3)))
        (L_R_EditError_0 big big a0.1 a0.2.1 a0.2.2.1 a0.2.2.2.1 a0.2.2.2.2 (List.length a0.2.2.2.1 : Int) 0))))))) := by kernel_rfl
def sig_R_SmallGrid : Sig := ⟨[.v true YGrid, .v true YGridEdit], [], [(false, [.fr .bool])]⟩
def C_R_SmallGrid (F : sig_R_SmallGrid.Fn) (a0 : YGrid.den) (a1 : YGridEdit.den) : Option sig_R_SmallGrid.Out := F (a0, a1, ()) ()
def ret_R_SmallGrid (v0 : Bool) : sig_R_SmallGrid.Out := (((v0, ()), ()), ())
def res_R_SmallGrid_0 (r : sig_R_SmallGrid.Out) : Bool := r.1.1.1
@[simp] theorem res_R_SmallGrid_0_ret (v0 : Bool) : res_R_SmallGrid_0 (ret_R_SmallGrid v0) = v0 := rfl
def os_R_SmallGrid : RegT := ⟨[], [], false⟩
def hs_R_SmallGrid : List Keep := []
@[reducible] noncomputable def env_R_SmallGrid : Env := [(32, ⟨sig_R_AxisSize, F_R_AxisSize⟩)]
theorem ok_R_SmallGrid : fnOk os_R_SmallGrid sig_R_SmallGrid Tryd.f12 = true := by kernel_rfl
theorem fn_R_SmallGrid : P.funcs[12]? = some Tryd.f12 := by kernel_rfl
noncomputable def F_R_SmallGrid : sig_R_SmallGrid.Fn := fun x y => run T (env_R_SmallGrid) os_R_SmallGrid sig_R_SmallGrid Tryd.f12 hs_R_SmallGrid big x y
theorem S_R_SmallGrid : Sound P 12 ⟨sig_R_SmallGrid, F_R_SmallGrid⟩ := sound_of (os := os_R_SmallGrid) (hs := hs_R_SmallGrid) (env_cons S_R_AxisSize (env_nil)) fn_R_SmallGrid ok_R_SmallGrid (fun x y out h => ⟨big, h⟩)
theorem e_R_SmallGrid (a0 : YGrid.den) (a1 : YGridEdit.den) : C_R_SmallGrid F_R_SmallGrid a0 a1 =
  (bcond ((decide ((a0.1 : Int) ≤ 30)) == true)
   (bcond ((decide ((a0.2.1 : Int) ≤ 30)) == true)
    ((C_R_AxisSize F_R_AxisSize a1.1).bind fun r1 =>
     (bcond ((decide (((res_R_AxisSize_0 r1) : Int) ≤ 60)) == true)
      ((C_R_AxisSize F_R_AxisSize a1.2.1).bind fun r2 =>
       (some (ret_R_SmallGrid (decide (((res_R_AxisSize_0 r2) : Int) ≤ 60)))))
      (some (ret_R_SmallGrid false))))
    (some (ret_R_SmallGrid false)))
   (some (ret_R_SmallGrid false))) := by kernel_rfl
end Go.Ev
