/- Functions, step by step. -/
import Derived.Test.YtpmeeopafdgbpaaDoorGUtf
namespace Go.Ev
set_option linter.unusedVariables false
set_option maxRecDepth 100000
open Go.Proofs
def sig_R_SameCell : Sig := ⟨[.v true YCell, .v true YCell], [], [(false, [.fr .bool])]⟩
def C_R_SameCell (F : sig_R_SameCell.Fn) (a0 : YCell.den) (a1 : YCell.den) : Option sig_R_SameCell.Out := F (a0, a1, ()) ()
def ret_R_SameCell (v0 : Bool) : sig_R_SameCell.Out := (((v0, ()), ()), ())
def res_R_SameCell_0 (r : sig_R_SameCell.Out) : Bool := r.1.1.1
@[simp] theorem res_R_SameCell_0_ret (v0 : Bool) : res_R_SameCell_0 (ret_R_SameCell v0) = v0 := rfl
def os_R_SameCell : RegT := ⟨[], [], false⟩
def hs_R_SameCell : List Keep := []
@[reducible] noncomputable def env_R_SameCell : Env := [(49, ⟨sig_R_SameAttrs, F_R_SameAttrs⟩)]
theorem ok_R_SameCell : fnOk os_R_SameCell sig_R_SameCell Tryd.f18 = true := by kernel_rfl
theorem fn_R_SameCell : P.funcs[18]? = some Tryd.f18 := by kernel_rfl
noncomputable def F_R_SameCell : sig_R_SameCell.Fn := fun x y => run T (env_R_SameCell) os_R_SameCell sig_R_SameCell Tryd.f18 hs_R_SameCell big x y
theorem S_R_SameCell : Sound P 18 ⟨sig_R_SameCell, F_R_SameCell⟩ := sound_of (os := os_R_SameCell) (hs := hs_R_SameCell) (env_cons S_R_SameAttrs (env_nil)) fn_R_SameCell ok_R_SameCell (fun x y out h => ⟨big, h⟩)
theorem e_R_SameCell (a0 : YCell.den) (a1 : YCell.den) : C_R_SameCell F_R_SameCell a0 a1 =
  (bcond (((a0.1 : Int) == a1.1) == true)
   (bcond (((a0.2.1 : Int) == a1.2.1) == true)
    (bcond (((a0.2.2.1 : List UInt8) == a1.2.2.1) == true)
     (bcond (((a0.2.2.2.1 : Int) == a1.2.2.2.1) == true)
      ((C_R_SameAttrs F_R_SameAttrs a0.2.2.2.2 a1.2.2.2.2).bind fun r1 =>
       (some (ret_R_SameCell (res_R_SameAttrs_0 r1))))
      (some (ret_R_SameCell false)))
     (some (ret_R_SameCell false)))
    (some (ret_R_SameCell false)))
   (some (ret_R_SameCell false))) := by kernel_rfl
def sig_R_SameCells : Sig := ⟨[.v false (.list YCell), .v false (.list YCell)], [], [(false, [.fr .bool])]⟩
def C_R_SameCells (F : sig_R_SameCells.Fn) (a0 : List YCell.den) (a1 : List YCell.den) : Option sig_R_SameCells.Out := F (a0, a1, ()) ()
def ret_R_SameCells (v0 : Bool) : sig_R_SameCells.Out := (((v0, ()), ()), ())
def res_R_SameCells_0 (r : sig_R_SameCells.Out) : Bool := r.1.1.1
@[simp] theorem res_R_SameCells_0_ret (v0 : Bool) : res_R_SameCells_0 (ret_R_SameCells v0) = v0 := rfl
def os_R_SameCells : RegT := ⟨[(6, .st 0 (.st 1 (.st 2 (.st 4 (.st 5 (.st 6 (.st 3 (.st 7 (.st 8 (.st 9 (.nil)))))))))))], [], false⟩
def hs_R_SameCells : List Keep := [[(0, []), (1, []), (12, []), (13, [])]]
@[reducible] noncomputable def env_R_SameCells : Env := [(18, ⟨sig_R_SameCell, F_R_SameCell⟩)]
noncomputable def L_R_SameCells_0 (n m1 : Nat) (x0 : List YCell.den) (x1 : List YCell.den) (x12 : Int) (x13 : Int) : Option sig_R_SameCells.Out :=
  loopAt T (env_R_SameCells) os_R_SameCells sig_R_SameCells Tryd.f30 hs_R_SameCells n [.sr, .sr, .sl, .sr, .bl] m1 (mk 27 [(0, .cs false [.val (.list YCell) x0]), (1, .cs false [.val (.list YCell) x1]), (12, .cs false [.val (.int .i64) x12]), (13, .cs false [.val (.int .i64) x13])])
theorem L_R_SameCells_0_step (n m1 : Nat) (x0 : List YCell.den) (x1 : List YCell.den) (x12 : Int) (x13 : Int) : L_R_SameCells_0 n (m1 + 1) x0 x1 x12 x13 =
  (bcond (decide ((x13 : Int) < x12))
   (if 0 ≤ (x13 : Int) ∧ (x13 : Int) < (List.length x0 : Int) then
    (if 0 ≤ (x13 : Int) ∧ (x13 : Int) < (List.length x1 : Int) then
     ((C_R_SameCell F_R_SameCell (at_ (e := YCell) x0 x13) (at_ (e := YCell) x1 x13)).bind fun r1 =>
      (bcond (!(res_R_SameCell_0 r1))
       (some (ret_R_SameCells false))
       (L_R_SameCells_0 n m1 x0 x1 x12 (IntKind.i64.wrap (x13 + 1)))))
    else none)
   else none)
   (some (ret_R_SameCells true))) := by kernel_rfl
theorem ok_R_SameCells : fnOk os_R_SameCells sig_R_SameCells Tryd.f30 = true := by kernel_rfl
theorem fn_R_SameCells : P.funcs[30]? = some Tryd.f30 := by kernel_rfl
noncomputable def F_R_SameCells : sig_R_SameCells.Fn := fun x y => run T (env_R_SameCells) os_R_SameCells sig_R_SameCells Tryd.f30 hs_R_SameCells big x y
theorem S_R_SameCells : Sound P 30 ⟨sig_R_SameCells, F_R_SameCells⟩ := sound_of (os := os_R_SameCells) (hs := hs_R_SameCells) (env_cons S_R_SameCell (env_nil)) fn_R_SameCells ok_R_SameCells (fun x y out h => ⟨big, h⟩)
theorem e_R_SameCells (a0 : List YCell.den) (a1 : List YCell.den) : C_R_SameCells F_R_SameCells a0 a1 =
  (bcond (((List.length a0 : Int) : Int) != (List.length a1 : Int))
   (some (ret_R_SameCells false))
   (L_R_SameCells_0 big big a0 a1 (List.length a0 : Int) 0)) := by kernel_rfl
def sig_R_SameRects : Sig := ⟨[.v false (.list YRect), .v false (.list YRect)], [], [(false, [.fr .bool])]⟩
def C_R_SameRects (F : sig_R_SameRects.Fn) (a0 : List YRect.den) (a1 : List YRect.den) : Option sig_R_SameRects.Out := F (a0, a1, ()) ()
def ret_R_SameRects (v0 : Bool) : sig_R_SameRects.Out := (((v0, ()), ()), ())
def res_R_SameRects_0 (r : sig_R_SameRects.Out) : Bool := r.1.1.1
@[simp] theorem res_R_SameRects_0_ret (v0 : Bool) : res_R_SameRects_0 (ret_R_SameRects v0) = v0 := rfl
def os_R_SameRects : RegT := ⟨[(6, .st 0 (.st 1 (.st 2 (.st 4 (.st 5 (.st 6 (.st 3 (.st 7 (.st 8 (.nil))))))))))], [], false⟩
def hs_R_SameRects : List Keep := [[(0, []), (1, []), (12, []), (13, [])]]
@[reducible] noncomputable def env_R_SameRects : Env := []
noncomputable def L_R_SameRects_0 (n m1 : Nat) (x0 : List YRect.den) (x1 : List YRect.den) (x12 : Int) (x13 : Int) : Option sig_R_SameRects.Out :=
  loopAt T (env_R_SameRects) os_R_SameRects sig_R_SameRects Tryd.f31 hs_R_SameRects n [.sr, .sr, .sl, .sr, .bl] m1 (mk 26 [(0, .cs false [.val (.list YRect) x0]), (1, .cs false [.val (.list YRect) x1]), (12, .cs false [.val (.int .i64) x12]), (13, .cs false [.val (.int .i64) x13])])
theorem L_R_SameRects_0_step (n m1 : Nat) (x0 : List YRect.den) (x1 : List YRect.den) (x12 : Int) (x13 : Int) : L_R_SameRects_0 n (m1 + 1) x0 x1 x12 x13 =
  (bcond (decide ((x13 : Int) < x12))
   (if 0 ≤ (x13 : Int) ∧ (x13 : Int) < (List.length x0 : Int) then
    (if 0 ≤ (x13 : Int) ∧ (x13 : Int) < (List.length x1 : Int) then
     (bcond (!((((at_ (e := YRect) x0 x13).1 : Int) == (at_ (e := YRect) x1 x13).1) && ((((at_ (e := YRect) x0 x13).2.1 : Int) == (at_ (e := YRect) x1 x13).2.1) && ((((at_ (e := YRect) x0 x13).2.2.1 : Int) == (at_ (e := YRect) x1 x13).2.2.1) && ((((at_ (e := YRect) x0 x13).2.2.2 : Int) == (at_ (e := YRect) x1 x13).2.2.2) && true)))))
      (some (ret_R_SameRects false))
      (L_R_SameRects_0 n m1 x0 x1 x12 (IntKind.i64.wrap (x13 + 1))))
    else none)
   else none)
   (some (ret_R_SameRects true))) := by kernel_rfl
theorem ok_R_SameRects : fnOk os_R_SameRects sig_R_SameRects Tryd.f31 = true := by kernel_rfl
theorem fn_R_SameRects : P.funcs[31]? = some Tryd.f31 := by kernel_rfl
noncomputable def F_R_SameRects : sig_R_SameRects.Fn := fun x y => run T (env_R_SameRects) os_R_SameRects sig_R_SameRects Tryd.f31 hs_R_SameRects big x y
theorem S_R_SameRects : Sound P 31 ⟨sig_R_SameRects, F_R_SameRects⟩ := sound_of (os := os_R_SameRects) (hs := hs_R_SameRects) (env_nil) fn_R_SameRects ok_R_SameRects (fun x y out h => ⟨big, h⟩)
theorem e_R_SameRects (a0 : List YRect.den) (a1 : List YRect.den) : C_R_SameRects F_R_SameRects a0 a1 =
  (bcond (((List.length a0 : Int) : Int) != (List.length a1 : Int))
   (some (ret_R_SameRects false))
   (L_R_SameRects_0 big big a0 a1 (List.length a0 : Int) 0)) := by kernel_rfl
def sig_R_SameGrid : Sig := ⟨[.v true YGrid, .v true YGrid], [], [(false, [.fr .bool])]⟩
def C_R_SameGrid (F : sig_R_SameGrid.Fn) (a0 : YGrid.den) (a1 : YGrid.den) : Option sig_R_SameGrid.Out := F (a0, a1, ()) ()
def ret_R_SameGrid (v0 : Bool) : sig_R_SameGrid.Out := (((v0, ()), ()), ())
def res_R_SameGrid_0 (r : sig_R_SameGrid.Out) : Bool := r.1.1.1
@[simp] theorem res_R_SameGrid_0_ret (v0 : Bool) : res_R_SameGrid_0 (ret_R_SameGrid v0) = v0 := rfl
def os_R_SameGrid : RegT := ⟨[], [], false⟩
def hs_R_SameGrid : List Keep := []
@[reducible] noncomputable def env_R_SameGrid : Env := [(30, ⟨sig_R_SameCells, F_R_SameCells⟩), (31, ⟨sig_R_SameRects, F_R_SameRects⟩)]
theorem ok_R_SameGrid : fnOk os_R_SameGrid sig_R_SameGrid Tryd.f11 = true := by kernel_rfl
theorem fn_R_SameGrid : P.funcs[11]? = some Tryd.f11 := by kernel_rfl
noncomputable def F_R_SameGrid : sig_R_SameGrid.Fn := fun x y => run T (env_R_SameGrid) os_R_SameGrid sig_R_SameGrid Tryd.f11 hs_R_SameGrid big x y
theorem S_R_SameGrid : Sound P 11 ⟨sig_R_SameGrid, F_R_SameGrid⟩ := sound_of (os := os_R_SameGrid) (hs := hs_R_SameGrid) (env_cons S_R_SameCells (env_cons S_R_SameRects (env_nil))) fn_R_SameGrid ok_R_SameGrid (fun x y out h => ⟨big, h⟩)
theorem e_R_SameGrid (a0 : YGrid.den) (a1 : YGrid.den) : C_R_SameGrid F_R_SameGrid a0 a1 =
  (bcond (((a0.1 : Int) == a1.1) == true)
   (bcond (((a0.2.1 : Int) == a1.2.1) == true)
    ((C_R_SameCells F_R_SameCells a0.2.2.1 a1.2.2.1).bind fun r1 =>
     (bcond ((res_R_SameCells_0 r1) == true)
      ((C_R_SameRects F_R_SameRects a0.2.2.2 a1.2.2.2).bind fun r2 =>
       (some (ret_R_SameGrid (res_R_SameRects_0 r2))))
      (some (ret_R_SameGrid false))))
    (some (ret_R_SameGrid false)))
   (some (ret_R_SameGrid false))) := by kernel_rfl
end Go.Ev
