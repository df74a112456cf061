/- Functions, step by step. -/
import Derived.Test.YtpmeeopafdgbpaaDoorGGridE
namespace Go.Ev
set_option linter.unusedVariables false
set_option maxRecDepth 100000
open Go.Proofs
def sig_R_sizes : Sig := ⟨[.v false (.list YSpan)], [], [(false, [.fr (.int .i64)]), (false, [.fr (.int .i64)])]⟩
def C_R_sizes (F : sig_R_sizes.Fn) (a0 : List YSpan.den) : Option sig_R_sizes.Out := F (a0, ()) ()
def ret_R_sizes (v0 : Int) (v1 : Int) : sig_R_sizes.Out := (((v0, ()), (v1, ()), ()), ())
def res_R_sizes_0 (r : sig_R_sizes.Out) : Int := r.1.1.1
@[simp] theorem res_R_sizes_0_ret (v0 : Int) (v1 : Int) : res_R_sizes_0 (ret_R_sizes v0 v1) = v0 := rfl
def res_R_sizes_1 (r : sig_R_sizes.Out) : Int := r.1.2.1.1
@[simp] theorem res_R_sizes_1_ret (v0 : Int) (v1 : Int) : res_R_sizes_1 (ret_R_sizes v0 v1) = v1 := rfl
def os_R_sizes : RegT := ⟨[], [], false⟩
def hs_R_sizes : List Keep := [[(0, []), (4, []), (5, []), (8, []), (9, [])]]
@[reducible] noncomputable def env_R_sizes : Env := []
noncomputable def L_R_sizes_0 (n m1 : Nat) (x0 : List YSpan.den) (x4 : Int) (x5 : Int) (x8 : Int) (x9 : Int) : Option sig_R_sizes.Out :=
  loopAt T (env_R_sizes) os_R_sizes sig_R_sizes Tryd.f29 hs_R_sizes n [.sr, .sr, .sl, .sr, .bl] m1 (mk 41 [(0, .cs false [.val (.list YSpan) x0]), (4, .cs false [.val (.int .i64) x4]), (5, .cs false [.val (.int .i64) x5]), (8, .cs false [.val (.int .i64) x8]), (9, .cs false [.val (.int .i64) x9])])
theorem L_R_sizes_0_step (n m1 : Nat) (x0 : List YSpan.den) (x4 : Int) (x5 : Int) (x8 : Int) (x9 : Int) : L_R_sizes_0 n (m1 + 1) x0 x4 x5 x8 x9 =
  (bcond (decide ((x9 : Int) < x8))
   (if 0 ≤ (x9 : Int) ∧ (x9 : Int) < (List.length x0 : Int) then
    (bcond (((at_ (e := YSpan) x0 x9).1 : Int) != 1)
     (if 0 ≤ (x9 : Int) ∧ (x9 : Int) < (List.length x0 : Int) then
      (if 0 ≤ (x9 : Int) ∧ (x9 : Int) < (List.length x0 : Int) then
       (bcond (((at_ (e := YSpan) x0 x9).1 : Int) != 2)
        (if 0 ≤ (x9 : Int) ∧ (x9 : Int) < (List.length x0 : Int) then
         (L_R_sizes_0 n m1 x0 (IntKind.i64.wrap (x4 + (at_ (e := YSpan) x0 x9).2)) (IntKind.i64.wrap (x5 + (at_ (e := YSpan) x0 x9).2)) x8 (IntKind.i64.wrap (x9 + 1)))
        else none)
        (L_R_sizes_0 n m1 x0 (IntKind.i64.wrap (x4 + (at_ (e := YSpan) x0 x9).2)) x5 x8 (IntKind.i64.wrap (x9 + 1))))
      else none)
     else none)
     (if 0 ≤ (x9 : Int) ∧ (x9 : Int) < (List.length x0 : Int) then
      (bcond (((at_ (e := YSpan) x0 x9).1 : Int) != 2)
       (if 0 ≤ (x9 : Int) ∧ (x9 : Int) < (List.length x0 : Int) then
        (L_R_sizes_0 n m1 x0 x4 (IntKind.i64.wrap (x5 + (at_ (e := YSpan) x0 x9).2)) x8 (IntKind.i64.wrap (x9 + 1)))
       else none)
       (L_R_sizes_0 n m1 x0 x4 x5 x8 (IntKind.i64.wrap (x9 + 1))))
     else none))
   else none)
   (some (ret_R_sizes x4 x5))) := by kernel_rfl
theorem ok_R_sizes : fnOk os_R_sizes sig_R_sizes Tryd.f29 = true := by kernel_rfl
theorem fn_R_sizes : P.funcs[29]? = some Tryd.f29 := by kernel_rfl
noncomputable def F_R_sizes : sig_R_sizes.Fn := fun x y => run T (env_R_sizes) os_R_sizes sig_R_sizes Tryd.f29 hs_R_sizes big x y
theorem S_R_sizes : Sound P 29 ⟨sig_R_sizes, F_R_sizes⟩ := sound_of (os := os_R_sizes) (hs := hs_R_sizes) (env_nil) fn_R_sizes ok_R_sizes (fun x y out h => ⟨big, h⟩)
theorem e_R_sizes (a0 : List YSpan.den) : C_R_sizes F_R_sizes a0 =
  (L_R_sizes_0 big big a0 0 0 (List.length a0 : Int) 0) := by kernel_rfl
def sig_R_FitError : Sig := ⟨[.v true YGrid, .v true YGridEdit], [], [(false, [.fr (.int .i64)])]⟩
def C_R_FitError (F : sig_R_FitError.Fn) (a0 : YGrid.den) (a1 : YGridEdit.den) : Option sig_R_FitError.Out := F (a0, a1, ()) ()
def ret_R_FitError (v0 : Int) : sig_R_FitError.Out := (((v0, ()), ()), ())
def res_R_FitError_0 (r : sig_R_FitError.Out) : Int := r.1.1.1
@[simp] theorem res_R_FitError_0_ret (v0 : Int) : res_R_FitError_0 (ret_R_FitError v0) = v0 := rfl
def os_R_FitError : RegT := ⟨[(1, .st 0 (.st 2 (.st 1 (.st 4 (.st 3 (.st 5 (.nil)))))))], [], false⟩
def hs_R_FitError : List Keep := [[(3, []), (5, []), (6, []), (48, []), (49, [])], [(3, []), (5, []), (6, []), (73, []), (74, [])], [(3, []), (5, []), (6, []), (89, []), (90, [])]]
@[reducible] noncomputable def env_R_FitError : Env := [(29, ⟨sig_R_sizes, F_R_sizes⟩), (26, ⟨sig_R_Lies, F_R_Lies⟩)]
noncomputable def L_R_FitError_0 (n m1 : Nat) (x3_0 : List YSpan.den) (x3_1 : List YSpan.den) (x3_2 : List YCell.den) (x3_3 : List YRect.den) (x3_4 : List YRect.den) (x5 : Int) (x6 : Int) (x48 : Int) (x49 : Int) : Option sig_R_FitError.Out :=
  loopAt T (env_R_FitError) os_R_FitError sig_R_FitError Tryd.f10 hs_R_FitError n [.sr, .sr, .sr, .sr, .sl, .sr, .bl] m1 (mk 103 [(3, .box [.val (.list YSpan) x3_0, .val (.list YSpan) x3_1, .val (.list YCell) x3_2, .val (.list YRect) x3_3, .val (.list YRect) x3_4]), (5, .cs false [.val (.int .i64) x5]), (6, .cs false [.val (.int .i64) x6]), (48, .cs false [.val (.int .i64) x48]), (49, .cs false [.val (.int .i64) x49])])
noncomputable def L_R_FitError_1 (n m1 : Nat) (x3_0 : List YSpan.den) (x3_1 : List YSpan.den) (x3_2 : List YCell.den) (x3_3 : List YRect.den) (x3_4 : List YRect.den) (x5 : Int) (x6 : Int) (x73 : Int) (x74 : Int) : Option sig_R_FitError.Out :=
  loopAt T (env_R_FitError) os_R_FitError sig_R_FitError Tryd.f10 hs_R_FitError n [.sr, .sr, .sr, .sr, .sr, .sl, .sr, .bl] m1 (mk 103 [(3, .box [.val (.list YSpan) x3_0, .val (.list YSpan) x3_1, .val (.list YCell) x3_2, .val (.list YRect) x3_3, .val (.list YRect) x3_4]), (5, .cs false [.val (.int .i64) x5]), (6, .cs false [.val (.int .i64) x6]), (73, .cs false [.val (.int .i64) x73]), (74, .cs false [.val (.int .i64) x74])])
noncomputable def L_R_FitError_2 (n m1 : Nat) (x3_0 : List YSpan.den) (x3_1 : List YSpan.den) (x3_2 : List YCell.den) (x3_3 : List YRect.den) (x3_4 : List YRect.den) (x5 : Int) (x6 : Int) (x89 : Int) (x90 : Int) : Option sig_R_FitError.Out :=
  loopAt T (env_R_FitError) os_R_FitError sig_R_FitError Tryd.f10 hs_R_FitError n [.sr, .sr, .sr, .sr, .sr, .sr, .sl, .sr, .bl] m1 (mk 103 [(3, .box [.val (.list YSpan) x3_0, .val (.list YSpan) x3_1, .val (.list YCell) x3_2, .val (.list YRect) x3_3, .val (.list YRect) x3_4]), (5, .cs false [.val (.int .i64) x5]), (6, .cs false [.val (.int .i64) x6]), (89, .cs false [.val (.int .i64) x89]), (90, .cs false [.val (.int .i64) x90])])
theorem L_R_FitError_0_step (n m1 : Nat) (x3_0 : List YSpan.den) (x3_1 : List YSpan.den) (x3_2 : List YCell.den) (x3_3 : List YRect.den) (x3_4 : List YRect.den) (x5 : Int) (x6 : Int) (x48 : Int) (x49 : Int) : L_R_FitError_0 n (m1 + 1) x3_0 x3_1 x3_2 x3_3 x3_4 x5 x6 x48 x49 =
  (bcond (decide ((x49 : Int) < x48))
   (if 0 ≤ (x49 : Int) ∧ (x49 : Int) < (List.length x3_2 : Int) then
    (bcond ((decide (((at_ (e := YCell) x3_2 x49).1 : Int) ≥ x5)) == false)
     (if 0 ≤ (x49 : Int) ∧ (x49 : Int) < (List.length x3_2 : Int) then
      (bcond (decide (((at_ (e := YCell) x3_2 x49).2.1 : Int) ≥ x6))
       (some (ret_R_FitError 2))
       (L_R_FitError_0 n m1 x3_0 x3_1 x3_2 x3_3 x3_4 x5 x6 x48 (IntKind.i64.wrap (x49 + 1))))
     else none)
     (some (ret_R_FitError 2)))
   else none)
   (L_R_FitError_1 n n x3_0 x3_1 x3_2 x3_3 x3_4 x5 x6 (List.length x3_3 : Int) 0)) := by kernel_rfl
theorem L_R_FitError_1_step (n m1 : Nat) (x3_0 : List YSpan.den) (x3_1 : List YSpan.den) (x3_2 : List YCell.den) (x3_3 : List YRect.den) (x3_4 : List YRect.den) (x5 : Int) (x6 : Int) (x73 : Int) (x74 : Int) : L_R_FitError_1 n (m1 + 1) x3_0 x3_1 x3_2 x3_3 x3_4 x5 x6 x73 x74 =
  (bcond (decide ((x74 : Int) < x73))
   (if 0 ≤ (x74 : Int) ∧ (x74 : Int) < (List.length x3_3 : Int) then
    ((C_R_Lies F_R_Lies (at_ (e := YRect) x3_3 x74) x5 x6).bind fun r1 =>
     (bcond (!(res_R_Lies_0 r1))
      (some (ret_R_FitError 2))
      (L_R_FitError_1 n m1 x3_0 x3_1 x3_2 x3_3 x3_4 x5 x6 x73 (IntKind.i64.wrap (x74 + 1)))))
   else none)
   (L_R_FitError_2 n n x3_0 x3_1 x3_2 x3_3 x3_4 x5 x6 (List.length x3_4 : Int) 0)) := by kernel_rfl
theorem L_R_FitError_2_step (n m1 : Nat) (x3_0 : List YSpan.den) (x3_1 : List YSpan.den) (x3_2 : List YCell.den) (x3_3 : List YRect.den) (x3_4 : List YRect.den) (x5 : Int) (x6 : Int) (x89 : Int) (x90 : Int) : L_R_FitError_2 n (m1 + 1) x3_0 x3_1 x3_2 x3_3 x3_4 x5 x6 x89 x90 =
  (bcond (decide ((x90 : Int) < x89))
   (if 0 ≤ (x90 : Int) ∧ (x90 : Int) < (List.length x3_4 : Int) then
    ((C_R_Lies F_R_Lies (at_ (e := YRect) x3_4 x90) x5 x6).bind fun r1 =>
     (bcond (!(res_R_Lies_0 r1))
      (some (ret_R_FitError 2))
      (L_R_FitError_2 n m1 x3_0 x3_1 x3_2 x3_3 x3_4 x5 x6 x89 (IntKind.i64.wrap (x90 + 1)))))
   else none)
   (some (ret_R_FitError 0))) := by kernel_rfl
theorem ok_R_FitError : fnOk os_R_FitError sig_R_FitError Tryd.f10 = true := by kernel_rfl
theorem fn_R_FitError : P.funcs[10]? = some Tryd.f10 := by kernel_rfl
noncomputable def F_R_FitError : sig_R_FitError.Fn := fun x y => run T (env_R_FitError) os_R_FitError sig_R_FitError Tryd.f10 hs_R_FitError big x y
theorem S_R_FitError : Sound P 10 ⟨sig_R_FitError, F_R_FitError⟩ := sound_of (os := os_R_FitError) (hs := hs_R_FitError) (env_cons S_R_sizes (env_cons S_R_Lies (env_nil))) fn_R_FitError ok_R_FitError (fun x y out h => ⟨big, h⟩)
theorem e_R_FitError (a0 : YGrid.den) (a1 : YGridEdit.den) : C_R_FitError F_R_FitError a0 a1 =
  (bcond (decide (((List.length a1.1 : Int) : Int) > 0))
   ((C_R_sizes F_R_sizes a1.1).bind fun r1 =>
    (bcond (((res_R_sizes_0 r1) : Int) != a0.1)
     (some (ret_R_FitError 14))
     (bcond (decide (((List.length a1.2.1 : Int) : Int) > 0))
      ((C_R_sizes F_R_sizes a1.2.1).bind fun r2 =>
       (bcond (((res_R_sizes_0 r2) : Int) != a0.2.1)
        (some (ret_R_FitError 14))
        (L_R_FitError_0 big big a1.1 a1.2.1 a1.2.2.1 a1.2.2.2.1 a1.2.2.2.2 (res_R_sizes_1 r1) (res_R_sizes_1 r2) (List.length a1.2.2.1 : Int) 0)))
      (L_R_FitError_0 big big a1.1 a1.2.1 a1.2.2.1 a1.2.2.2.1 a1.2.2.2.2 (res_R_sizes_1 r1) a0.2.1 (List.length a1.2.2.1 : Int) 0))))
   (bcond (decide (((List.length a1.2.1 : Int) : Int) > 0))
    ((C_R_sizes F_R_sizes a1.2.1).bind fun r1 =>
     (bcond (((res_R_sizes_0 r1) : Int) != a0.2.1)
      (some (ret_R_FitError 14))
      (L_R_FitError_0 big big a1.1 a1.2.1 a1.2.2.1 a1.2.2.2.1 a1.2.2.2.2 a0.1 (res_R_sizes_1 r1) (List.length a1.2.2.1 : Int) 0)))
    (L_R_FitError_0 big big a1.1 a1.2.1 a1.2.2.1 a1.2.2.2.1 a1.2.2.2.2 a0.1 a0.2.1 (List.length a1.2.2.1 : Int) 0))) := by kernel_rfl
def sig_R_MovedRect : Sig := ⟨[.v true YRect, .v false (.list (.int .i64)), .v false (.list (.int .i64))], [], [(true, [.fr YRect])]⟩
def C_R_MovedRect (F : sig_R_MovedRect.Fn) (a0 : YRect.den) (a1 : List (Int)) (a2 : List (Int)) : Option sig_R_MovedRect.Out := F (a0, a1, a2, ()) ()
def ret_R_MovedRect (v0 : YRect.den) : sig_R_MovedRect.Out := (((v0, ()), ()), ())
def res_R_MovedRect_0 (r : sig_R_MovedRect.Out) : YRect.den := r.1.1.1
@[simp] theorem res_R_MovedRect_0_ret (v0 : YRect.den) : res_R_MovedRect_0 (ret_R_MovedRect v0) = v0 := rfl
def os_R_MovedRect : RegT := ⟨[], [], false⟩
def hs_R_MovedRect : List Keep := []
@[reducible] noncomputable def env_R_MovedRect : Env := [(65, ⟨sig_R_RestOf, F_R_RestOf⟩)]
theorem ok_R_MovedRect : fnOk os_R_MovedRect sig_R_MovedRect Tryd.f37 = true := by kernel_rfl
theorem fn_R_MovedRect : P.funcs[37]? = some Tryd.f37 := by kernel_rfl
noncomputable def F_R_MovedRect : sig_R_MovedRect.Fn := fun x y => run T (env_R_MovedRect) os_R_MovedRect sig_R_MovedRect Tryd.f37 hs_R_MovedRect big x y
theorem S_R_MovedRect : Sound P 37 ⟨sig_R_MovedRect, F_R_MovedRect⟩ := sound_of (os := os_R_MovedRect) (hs := hs_R_MovedRect) (env_cons S_R_RestOf (env_nil)) fn_R_MovedRect ok_R_MovedRect (fun x y out h => ⟨big, h⟩)
theorem e_R_MovedRect (a0 : YRect.den) (a1 : List (Int)) (a2 : List (Int)) : C_R_MovedRect F_R_MovedRect a0 a1 a2 =
  ((C_R_RestOf F_R_RestOf a1 a0.1 (IntKind.i64.wrap (a0.1 + a0.2.2.1))).bind fun r1 =>
   ((C_R_RestOf F_R_RestOf a2 a0.2.1 (IntKind.i64.wrap (a0.2.1 + a0.2.2.2))).bind fun r2 =>
    (bcond ((decide (((res_R_RestOf_0 r1) : Int) < (res_R_RestOf_1 r1))) == true)
     (bcond ((decide (((res_R_RestOf_0 r2) : Int) < (res_R_RestOf_1 r2))) == true)
      (bcond (decide (((IntKind.i64.wrap ((IntKind.i64.wrap ((IntKind.i64.wrap ((res_R_RestOf_1 r1) - (res_R_RestOf_0 r1))) + (res_R_RestOf_1 r2))) - (res_R_RestOf_0 r2))) : Int) > 2))
       (some (ret_R_MovedRect ((res_R_RestOf_0 r1), ((res_R_RestOf_0 r2), ((IntKind.i64.wrap ((res_R_RestOf_1 r1) - (res_R_RestOf_0 r1))), (IntKind.i64.wrap ((res_R_RestOf_1 r2) - (res_R_RestOf_0 r2))))))))
       (some (ret_R_MovedRect (0, (0, (0, 0))))))
      (some (ret_R_MovedRect (0, (0, (0, 0))))))
     (some (ret_R_MovedRect (0, (0, (0, 0)))))))) := by kernel_rfl
def sig_R_cellAt : Sig := ⟨[.v false (.list YCell), .v false (.int .i64), .v false (.int .i64)], [], [(true, [.fr YCell])]⟩
def C_R_cellAt (F : sig_R_cellAt.Fn) (a0 : List YCell.den) (a1 : Int) (a2 : Int) : Option sig_R_cellAt.Out := F (a0, a1, a2, ()) ()
def ret_R_cellAt (v0 : YCell.den) : sig_R_cellAt.Out := (((v0, ()), ()), ())
def res_R_cellAt_0 (r : sig_R_cellAt.Out) : YCell.den := r.1.1.1
@[simp] theorem res_R_cellAt_0_ret (v0 : YCell.den) : res_R_cellAt_0 (ret_R_cellAt v0) = v0 := rfl
def os_R_cellAt : RegT := ⟨[], [], false⟩
def hs_R_cellAt : List Keep := [[(0, []), (1, []), (2, []), (6, []), (9, []), (10, [])]]
@[reducible] noncomputable def env_R_cellAt : Env := []
noncomputable def L_R_cellAt_0 (n m1 : Nat) (x0 : List YCell.den) (x1 : Int) (x2 : Int) (x6_0 : Int) (x6_1 : Int) (x6_2 : List UInt8) (x6_3 : Int) (x9 : Int) (x10 : Int) : Option sig_R_cellAt.Out :=
  loopAt T (env_R_cellAt) os_R_cellAt sig_R_cellAt Tryd.f35 hs_R_cellAt n [.sr, .sl, .sr, .bl] m1 (mk 37 [(0, .cs false [.val (.list YCell) x0]), (1, .cs false [.val (.int .i64) x1]), (2, .cs false [.val (.int .i64) x2]), (6, .box [.val (.int .i64) x6_0, .val (.int .i64) x6_1, .val .str x6_2, .val (.int .i64) x6_3, .nils]), (9, .cs false [.val (.int .i64) x9]), (10, .cs false [.val (.int .i64) x10])])
theorem L_R_cellAt_0_step (n m1 : Nat) (x0 : List YCell.den) (x1 : Int) (x2 : Int) (x6_0 : Int) (x6_1 : Int) (x6_2 : List UInt8) (x6_3 : Int) (x9 : Int) (x10 : Int) : L_R_cellAt_0 n (m1 + 1) x0 x1 x2 x6_0 x6_1 x6_2 x6_3 x9 x10 =
  (bcond (decide ((x10 : Int) < x9))
   (if 0 ≤ (x10 : Int) ∧ (x10 : Int) < (List.length x0 : Int) then
    (bcond ((((at_ (e := YCell) x0 x10).1 : Int) == x1) == true)
     (if 0 ≤ (x10 : Int) ∧ (x10 : Int) < (List.length x0 : Int) then
      (bcond (((at_ (e := YCell) x0 x10).2.1 : Int) == x2)
       (if 0 ≤ (x10 : Int) ∧ (x10 : Int) < (List.length x0 : Int) then
        (some (ret_R_cellAt (at_ (e := YCell) x0 x10)))
       else none)
       (L_R_cellAt_0 n m1 x0 x1 x2 x6_0 x6_1 x6_2 x6_3 x9 (IntKind.i64.wrap (x10 + 1))))
     else none)
     (L_R_cellAt_0 n m1 x0 x1 x2 x6_0 x6_1 x6_2 x6_3 x9 (IntKind.i64.wrap (x10 + 1))))
   else none)
   (some (ret_R_cellAt (x1, (x2, ([], (0, []))))))) := by kernel_rfl
theorem ok_R_cellAt : fnOk os_R_cellAt sig_R_cellAt Tryd.f35 = true := by kernel_rfl
theorem fn_R_cellAt : P.funcs[35]? = some Tryd.f35 := by kernel_rfl
noncomputable def F_R_cellAt : sig_R_cellAt.Fn := fun x y => run T (env_R_cellAt) os_R_cellAt sig_R_cellAt Tryd.f35 hs_R_cellAt big x y
theorem S_R_cellAt : Sound P 35 ⟨sig_R_cellAt, F_R_cellAt⟩ := sound_of (os := os_R_cellAt) (hs := hs_R_cellAt) (env_nil) fn_R_cellAt ok_R_cellAt (fun x y out h => ⟨big, h⟩)
theorem e_R_cellAt (a0 : List YCell.den) (a1 : Int) (a2 : Int) : C_R_cellAt F_R_cellAt a0 a1 a2 =
  (L_R_cellAt_0 big big a0 a1 a2 0 0 [] 0 (List.length a0 : Int) 0) := by kernel_rfl
def sig_R_units : Sig := ⟨[.v false (.list YSpan), .v false (.int .i64)], [], [(false, [.fr (.list (.int .i64))])]⟩
def C_R_units (F : sig_R_units.Fn) (a0 : List YSpan.den) (a1 : Int) : Option sig_R_units.Out := F (a0, a1, ()) ()
def ret_R_units (v0 : List (Int)) : sig_R_units.Out := (((v0, ()), ()), ())
def res_R_units_0 (r : sig_R_units.Out) : List (Int) := r.1.1.1
@[simp] theorem res_R_units_0_ret (v0 : List (Int)) : res_R_units_0 (ret_R_units v0) = v0 := rfl
def os_R_units : RegT := ⟨[], [], false⟩
def hs_R_units : List Keep := []
@[reducible] noncomputable def env_R_units : Env := [(64, ⟨sig_R_Units, F_R_Units⟩)]
theorem ok_R_units : fnOk os_R_units sig_R_units Tryd.f33 = true := by kernel_rfl
theorem fn_R_units : P.funcs[33]? = some Tryd.f33 := by kernel_rfl
noncomputable def F_R_units : sig_R_units.Fn := fun x y => run T (env_R_units) os_R_units sig_R_units Tryd.f33 hs_R_units big x y
theorem S_R_units : Sound P 33 ⟨sig_R_units, F_R_units⟩ := sound_of (os := os_R_units) (hs := hs_R_units) (env_cons S_R_Units (env_nil)) fn_R_units ok_R_units (fun x y out h => ⟨big, h⟩)
theorem e_R_units (a0 : List YSpan.den) (a1 : Int) : C_R_units F_R_units a0 a1 =
  (bcond (((List.length a0 : Int) : Int) == 0)
   ((C_R_Units F_R_Units [(0, a1)]).bind fun r1 =>
    (some (ret_R_units (res_R_Units_0 r1))))
   ((C_R_Units F_R_Units a0).bind fun r1 =>
    (some (ret_R_units (res_R_Units_0 r1))))) := by kernel_rfl
def sig_R_Edited : Sig := ⟨[.v true YGrid, .v true YGridEdit], [], [(true, [.fr YGrid])]⟩
def C_R_Edited (F : sig_R_Edited.Fn) (a0 : YGrid.den) (a1 : YGridEdit.den) : Option sig_R_Edited.Out := F (a0, a1, ()) ()
def ret_R_Edited (v0 : YGrid.den) : sig_R_Edited.Out := (((v0, ()), ()), ())
def res_R_Edited_0 (r : sig_R_Edited.Out) : YGrid.den := r.1.1.1
@[simp] theorem res_R_Edited_0_ret (v0 : YGrid.den) : res_R_Edited_0 (ret_R_Edited v0) = v0 := rfl
def os_R_Edited : RegT := ⟨[(1, .st 0 (.st 2 (.st 5 (.st 7 (.st 1 (.st 3 (.grp [6, 8, 4] (.st 9 (.st 10 (.st 11 (.nil))))))))))), (13, .st 0 (.st 2 (.st 3 (.st 4 (.st 6 (.st 7 (.st 8 (.st 1 (.st 5 (.st 9 (.st 10 (.st 11 (.nil))))))))))))), (34, .st 0 (.st 1 (.st 2 (.st 4 (.st 3 (.st 5 (.st 6 (.st 7 (.st 8 (.st 9 (.st 10 (.nil)))))))))))), (46, .st 0 (.st 1 (.st 2 (.st 4 (.st 6 (.st 5 (.st 7 (.st 3 (.st 8 (.st 9 (.st 10 (.nil)))))))))))), (61, .st 0 (.st 2 (.st 3 (.st 4 (.st 1 (.st 5 (.st 6 (.st 7 (.st 8 (.st 9 (.nil)))))))))))], [], false⟩
def hs_R_Edited : List Keep := [[(2, []), (3, []), (4, []), (5, []), (6, []), (7, []), (9, []), (11, [(2, 42, YCell)]), (53, []), (54, [])], [(2, []), (3, []), (4, []), (5, []), (6, []), (7, []), (9, []), (11, [(2, 42, YCell)]), (12, []), (53, []), (54, []), (58, []), (59, [])], [(2, []), (3, []), (4, []), (5, []), (6, []), (7, []), (9, []), (11, [(2, 42, YCell)]), (12, []), (13, []), (14, []), (53, []), (54, []), (58, []), (59, []), (94, []), (95, [])], [(2, []), (3, []), (4, []), (5, []), (6, []), (11, [(2, 42, YCell)]), (16, [(0, 46, YRect)]), (135, []), (136, [])], [(2, []), (3, []), (4, []), (5, []), (6, []), (11, [(2, 42, YCell)]), (16, [(0, 46, YRect)]), (18, []), (19, []), (135, []), (136, []), (152, []), (153, [])], [(3, []), (4, []), (11, [(2, 42, YCell)]), (16, [(0, 46, YRect)]), (175, []), (176, [])], [(3, []), (4, []), (11, [(2, 42, YCell)]), (16, [(0, 46, YRect)]), (21, []), (22, [(0, 46, YRect)]), (175, []), (176, []), (180, []), (181, [])], [(4, []), (11, [(2, 42, YCell), (3, 46, YRect)]), (16, [(0, 46, YRect)]), (213, []), (214, [])], [(4, []), (11, [(2, 42, YCell), (3, 46, YRect)]), (16, [(0, 46, YRect)]), (24, []), (213, []), (214, []), (218, []), (219, [])], [(4, []), (11, [(2, 42, YCell), (3, 46, YRect)]), (16, [(0, 46, YRect)]), (24, []), (25, []), (213, []), (214, []), (218, []), (219, []), (223, []), (224, [])]]
@[reducible] noncomputable def env_R_Edited : Env := [(33, ⟨sig_R_units, F_R_units⟩), (34, ⟨sig_R_Olds, F_R_Olds⟩), (35, ⟨sig_R_cellAt, F_R_cellAt⟩), (37, ⟨sig_R_MovedRect, F_R_MovedRect⟩), (36, ⟨sig_R_EmptyCell, F_R_EmptyCell⟩), (27, ⟨sig_R_Share, F_R_Share⟩)]
noncomputable def L_R_Edited_0 (n m1 : Nat) (x2_0 : Int) (x2_1 : Int) (x2_2 : List YCell.den) (x2_3 : List YRect.den) (x3_0 : List YSpan.den) (x3_1 : List YSpan.den) (x3_2 : List YCell.den) (x3_3 : List YRect.den) (x3_4 : List YRect.den) (x4_0 : Int) (x4_1 : Int) (x5 : List (Int)) (x6 : List (Int)) (x7 : List (Int)) (x9 : List (Int)) (x11_0 : Int) (x11_1 : Int) (x11_2 : List YCell.den) (x53 : Int) (x54 : Int) : Option sig_R_Edited.Out :=
  loopAt T (env_R_Edited) os_R_Edited sig_R_Edited Tryd.f13 hs_R_Edited n [.sr, .sr, .sr, .sr, .sr, .sl, .sr, .bl] m1 (mk 256 [(2, .box [.val (.int .i64) x2_0, .val (.int .i64) x2_1, .val (.list YCell) x2_2, .val (.list YRect) x2_3]), (3, .box [.val (.list YSpan) x3_0, .val (.list YSpan) x3_1, .val (.list YCell) x3_2, .val (.list YRect) x3_3, .val (.list YRect) x3_4]), (4, .box [.val (.int .i64) x4_0, .val (.int .i64) x4_1, .nils, .nils]), (5, .cs false [.val (.list (.int .i64)) x5]), (6, .cs false [.val (.list (.int .i64)) x6]), (7, .cs false [.val (.list (.int .i64)) x7]), (9, .cs false [.val (.list (.int .i64)) x9]), (11, .box [.val (.int .i64) x11_0, .val (.int .i64) x11_1, .own 42 YCell x11_2, .nils]), (53, .cs false [.val (.int .i64) x53]), (54, .cs false [.val (.int .i64) x54])])
noncomputable def L_R_Edited_1 (n m1 m2 : Nat) (x2_0 : Int) (x2_1 : Int) (x2_2 : List YCell.den) (x2_3 : List YRect.den) (x3_0 : List YSpan.den) (x3_1 : List YSpan.den) (x3_2 : List YCell.den) (x3_3 : List YRect.den) (x3_4 : List YRect.den) (x4_0 : Int) (x4_1 : Int) (x5 : List (Int)) (x6 : List (Int)) (x7 : List (Int)) (x9 : List (Int)) (x11_0 : Int) (x11_1 : Int) (x11_2 : List YCell.den) (x12 : Int) (x53 : Int) (x54 : Int) (x58 : Int) (x59 : Int) : Option sig_R_Edited.Out :=
  loopAt T (env_R_Edited) os_R_Edited sig_R_Edited Tryd.f13 hs_R_Edited n [.sr, .sr, .sr, .sr, .sr, .sl, .sr, .bl, .lp m1, .sr, .sr, .sl, .bl, .sr, .sr, .bl] m2 (mk 256 [(2, .box [.val (.int .i64) x2_0, .val (.int .i64) x2_1, .val (.list YCell) x2_2, .val (.list YRect) x2_3]), (3, .box [.val (.list YSpan) x3_0, .val (.list YSpan) x3_1, .val (.list YCell) x3_2, .val (.list YRect) x3_3, .val (.list YRect) x3_4]), (4, .box [.val (.int .i64) x4_0, .val (.int .i64) x4_1, .nils, .nils]), (5, .cs false [.val (.list (.int .i64)) x5]), (6, .cs false [.val (.list (.int .i64)) x6]), (7, .cs false [.val (.list (.int .i64)) x7]), (9, .cs false [.val (.list (.int .i64)) x9]), (11, .box [.val (.int .i64) x11_0, .val (.int .i64) x11_1, .own 42 YCell x11_2, .nils]), (12, .cs false [.val (.int .i64) x12]), (53, .cs false [.val (.int .i64) x53]), (54, .cs false [.val (.int .i64) x54]), (58, .cs false [.val (.int .i64) x58]), (59, .cs false [.val (.int .i64) x59])])
noncomputable def L_R_Edited_3 (n m1 : Nat) (x2_0 : Int) (x2_1 : Int) (x2_2 : List YCell.den) (x2_3 : List YRect.den) (x3_0 : List YSpan.den) (x3_1 : List YSpan.den) (x3_2 : List YCell.den) (x3_3 : List YRect.den) (x3_4 : List YRect.den) (x4_0 : Int) (x4_1 : Int) (x5 : List (Int)) (x6 : List (Int)) (x11_0 : Int) (x11_1 : Int) (x11_2 : List YCell.den) (x16 : List YRect.den) (x135 : Int) (x136 : Int) : Option sig_R_Edited.Out :=
  loopAt T (env_R_Edited) os_R_Edited sig_R_Edited Tryd.f13 hs_R_Edited n [.sr, .sr, .sr, .sr, .sr, .sr, .sr, .sl, .sr, .bl] m1 (mk 256 [(2, .box [.val (.int .i64) x2_0, .val (.int .i64) x2_1, .val (.list YCell) x2_2, .val (.list YRect) x2_3]), (3, .box [.val (.list YSpan) x3_0, .val (.list YSpan) x3_1, .val (.list YCell) x3_2, .val (.list YRect) x3_3, .val (.list YRect) x3_4]), (4, .box [.val (.int .i64) x4_0, .val (.int .i64) x4_1, .nils, .nils]), (5, .cs false [.val (.list (.int .i64)) x5]), (6, .cs false [.val (.list (.int .i64)) x6]), (11, .box [.val (.int .i64) x11_0, .val (.int .i64) x11_1, .own 42 YCell x11_2, .nils]), (16, .cs false [.own 46 YRect x16]), (135, .cs false [.val (.int .i64) x135]), (136, .cs false [.val (.int .i64) x136])])
noncomputable def L_R_Edited_2 (n m1 m2 m3 : Nat) (x2_0 : Int) (x2_1 : Int) (x2_2 : List YCell.den) (x2_3 : List YRect.den) (x3_0 : List YSpan.den) (x3_1 : List YSpan.den) (x3_2 : List YCell.den) (x3_3 : List YRect.den) (x3_4 : List YRect.den) (x4_0 : Int) (x4_1 : Int) (x5 : List (Int)) (x6 : List (Int)) (x7 : List (Int)) (x9 : List (Int)) (x11_0 : Int) (x11_1 : Int) (x11_2 : List YCell.den) (x12 : Int) (x13 : Int) (x14_0 : Int) (x14_1 : Int) (x14_2 : List UInt8) (x14_3 : Int) (x14_4 : List YAttr.den) (x53 : Int) (x54 : Int) (x58 : Int) (x59 : Int) (x94 : Int) (x95 : Int) : Option sig_R_Edited.Out :=
  loopAt T (env_R_Edited) os_R_Edited sig_R_Edited Tryd.f13 hs_R_Edited n [.sr, .sr, .sr, .sr, .sr, .sl, .sr, .bl, .lp m1, .sr, .sr, .sl, .bl, .sr, .sr, .bl, .lp m2, .sr, .sr, .sl, .bl, .sr, .sr, .sr, .sl, .sr, .bl] m3 (mk 256 [(2, .box [.val (.int .i64) x2_0, .val (.int .i64) x2_1, .val (.list YCell) x2_2, .val (.list YRect) x2_3]), (3, .box [.val (.list YSpan) x3_0, .val (.list YSpan) x3_1, .val (.list YCell) x3_2, .val (.list YRect) x3_3, .val (.list YRect) x3_4]), (4, .box [.val (.int .i64) x4_0, .val (.int .i64) x4_1, .nils, .nils]), (5, .cs false [.val (.list (.int .i64)) x5]), (6, .cs false [.val (.list (.int .i64)) x6]), (7, .cs false [.val (.list (.int .i64)) x7]), (9, .cs false [.val (.list (.int .i64)) x9]), (11, .box [.val (.int .i64) x11_0, .val (.int .i64) x11_1, .own 42 YCell x11_2, .nils]), (12, .cs false [.val (.int .i64) x12]), (13, .cs false [.val (.int .i64) x13]), (14, .box [.val (.int .i64) x14_0, .val (.int .i64) x14_1, .val .str x14_2, .val (.int .i64) x14_3, .val (.list YAttr) x14_4]), (53, .cs false [.val (.int .i64) x53]), (54, .cs false [.val (.int .i64) x54]), (58, .cs false [.val (.int .i64) x58]), (59, .cs false [.val (.int .i64) x59]), (94, .cs false [.val (.int .i64) x94]), (95, .cs false [.val (.int .i64) x95])])
noncomputable def L_R_Edited_2a (n m1 m2 m3 : Nat) (x2_0 : Int) (x2_1 : Int) (x2_2 : List YCell.den) (x2_3 : List YRect.den) (x3_0 : List YSpan.den) (x3_1 : List YSpan.den) (x3_2 : List YCell.den) (x3_3 : List YRect.den) (x3_4 : List YRect.den) (x4_0 : Int) (x4_1 : Int) (x5 : List (Int)) (x6 : List (Int)) (x7 : List (Int)) (x9 : List (Int)) (x11_0 : Int) (x11_1 : Int) (x11_2 : List YCell.den) (x12 : Int) (x13 : Int) (x14_0 : Int) (x14_1 : Int) (x14_2 : List UInt8) (x14_3 : Int) (x53 : Int) (x54 : Int) (x58 : Int) (x59 : Int) (x94 : Int) (x95 : Int) : Option sig_R_Edited.Out :=
  loopAt T (env_R_Edited) os_R_Edited sig_R_Edited Tryd.f13 hs_R_Edited n [.sr, .sr, .sr, .sr, .sr, .sl, .sr, .bl, .lp m1, .sr, .sr, .sl, .bl, .sr, .sr, .bl, .lp m2, .sr, .sr, .sl, .bl, .sr, .sr, .sr, .sl, .sr, .bl] m3 (mk 256 [(2, .box [.val (.int .i64) x2_0, .val (.int .i64) x2_1, .val (.list YCell) x2_2, .val (.list YRect) x2_3]), (3, .box [.val (.list YSpan) x3_0, .val (.list YSpan) x3_1, .val (.list YCell) x3_2, .val (.list YRect) x3_3, .val (.list YRect) x3_4]), (4, .box [.val (.int .i64) x4_0, .val (.int .i64) x4_1, .nils, .nils]), (5, .cs false [.val (.list (.int .i64)) x5]), (6, .cs false [.val (.list (.int .i64)) x6]), (7, .cs false [.val (.list (.int .i64)) x7]), (9, .cs false [.val (.list (.int .i64)) x9]), (11, .box [.val (.int .i64) x11_0, .val (.int .i64) x11_1, .own 42 YCell x11_2, .nils]), (12, .cs false [.val (.int .i64) x12]), (13, .cs false [.val (.int .i64) x13]), (14, .box [.val (.int .i64) x14_0, .val (.int .i64) x14_1, .val .str x14_2, .val (.int .i64) x14_3, .nils]), (53, .cs false [.val (.int .i64) x53]), (54, .cs false [.val (.int .i64) x54]), (58, .cs false [.val (.int .i64) x58]), (59, .cs false [.val (.int .i64) x59]), (94, .cs false [.val (.int .i64) x94]), (95, .cs false [.val (.int .i64) x95])])
noncomputable def L_R_Edited_4 (n m1 m2 : Nat) (x2_0 : Int) (x2_1 : Int) (x2_2 : List YCell.den) (x2_3 : List YRect.den) (x3_0 : List YSpan.den) (x3_1 : List YSpan.den) (x3_2 : List YCell.den) (x3_3 : List YRect.den) (x3_4 : List YRect.den) (x4_0 : Int) (x4_1 : Int) (x5 : List (Int)) (x6 : List (Int)) (x11_0 : Int) (x11_1 : Int) (x11_2 : List YCell.den) (x16 : List YRect.den) (x18_0 : Int) (x18_1 : Int) (x18_2 : Int) (x18_3 : Int) (x19 : Bool) (x135 : Int) (x136 : Int) (x152 : Int) (x153 : Int) : Option sig_R_Edited.Out :=
  loopAt T (env_R_Edited) os_R_Edited sig_R_Edited Tryd.f13 hs_R_Edited n [.sr, .sr, .sr, .sr, .sr, .sr, .sr, .sl, .sr, .bl, .lp m1, .sr, .sr, .sl, .bl, .sr, .sr, .sr, .sl, .sr, .bl] m2 (mk 256 [(2, .box [.val (.int .i64) x2_0, .val (.int .i64) x2_1, .val (.list YCell) x2_2, .val (.list YRect) x2_3]), (3, .box [.val (.list YSpan) x3_0, .val (.list YSpan) x3_1, .val (.list YCell) x3_2, .val (.list YRect) x3_3, .val (.list YRect) x3_4]), (4, .box [.val (.int .i64) x4_0, .val (.int .i64) x4_1, .nils, .nils]), (5, .cs false [.val (.list (.int .i64)) x5]), (6, .cs false [.val (.list (.int .i64)) x6]), (11, .box [.val (.int .i64) x11_0, .val (.int .i64) x11_1, .own 42 YCell x11_2, .nils]), (16, .cs false [.own 46 YRect x16]), (18, .box [.val (.int .i64) x18_0, .val (.int .i64) x18_1, .val (.int .i64) x18_2, .val (.int .i64) x18_3]), (19, .cs false [.val .bool x19]), (135, .cs false [.val (.int .i64) x135]), (136, .cs false [.val (.int .i64) x136]), (152, .cs false [.val (.int .i64) x152]), (153, .cs false [.val (.int .i64) x153])])
noncomputable def L_R_Edited_5 (n m1 : Nat) (x3_0 : List YSpan.den) (x3_1 : List YSpan.den) (x3_2 : List YCell.den) (x3_3 : List YRect.den) (x3_4 : List YRect.den) (x4_0 : Int) (x4_1 : Int) (x11_0 : Int) (x11_1 : Int) (x11_2 : List YCell.den) (x16 : List YRect.den) (x175 : Int) (x176 : Int) : Option sig_R_Edited.Out :=
  loopAt T (env_R_Edited) os_R_Edited sig_R_Edited Tryd.f13 hs_R_Edited n [.sr, .sr, .sr, .sr, .sr, .sr, .sr, .sr, .sl, .sr, .bl] m1 (mk 256 [(3, .box [.val (.list YSpan) x3_0, .val (.list YSpan) x3_1, .val (.list YCell) x3_2, .val (.list YRect) x3_3, .val (.list YRect) x3_4]), (4, .box [.val (.int .i64) x4_0, .val (.int .i64) x4_1, .nils, .nils]), (11, .box [.val (.int .i64) x11_0, .val (.int .i64) x11_1, .own 42 YCell x11_2, .nils]), (16, .cs false [.own 46 YRect x16]), (175, .cs false [.val (.int .i64) x175]), (176, .cs false [.val (.int .i64) x176])])
noncomputable def L_R_Edited_6 (n m1 m2 : Nat) (x3_0 : List YSpan.den) (x3_1 : List YSpan.den) (x3_2 : List YCell.den) (x3_3 : List YRect.den) (x3_4 : List YRect.den) (x4_0 : Int) (x4_1 : Int) (x11_0 : Int) (x11_1 : Int) (x11_2 : List YCell.den) (x16 : List YRect.den) (x21 : Int) (x22 : List YRect.den) (x175 : Int) (x176 : Int) (x180 : Int) (x181 : Int) : Option sig_R_Edited.Out :=
  loopAt T (env_R_Edited) os_R_Edited sig_R_Edited Tryd.f13 hs_R_Edited n [.sr, .sr, .sr, .sr, .sr, .sr, .sr, .sr, .sl, .sr, .bl, .lp m1, .sr, .sr, .sl, .bl, .sr, .sr, .sl, .sr, .bl] m2 (mk 256 [(3, .box [.val (.list YSpan) x3_0, .val (.list YSpan) x3_1, .val (.list YCell) x3_2, .val (.list YRect) x3_3, .val (.list YRect) x3_4]), (4, .box [.val (.int .i64) x4_0, .val (.int .i64) x4_1, .nils, .nils]), (11, .box [.val (.int .i64) x11_0, .val (.int .i64) x11_1, .own 42 YCell x11_2, .nils]), (16, .cs false [.own 46 YRect x16]), (21, .cs false [.val (.int .i64) x21]), (22, .cs false [.own 46 YRect x22]), (175, .cs false [.val (.int .i64) x175]), (176, .cs false [.val (.int .i64) x176]), (180, .cs false [.val (.int .i64) x180]), (181, .cs false [.val (.int .i64) x181])])
noncomputable def L_R_Edited_7 (n m1 : Nat) (x4_0 : Int) (x4_1 : Int) (x11_0 : Int) (x11_1 : Int) (x11_2 : List YCell.den) (x11_3 : List YRect.den) (x16 : List YRect.den) (x213 : Int) (x214 : Int) : Option sig_R_Edited.Out :=
  loopAt T (env_R_Edited) os_R_Edited sig_R_Edited Tryd.f13 hs_R_Edited n [.sr, .sr, .sr, .sr, .sr, .sr, .sr, .sr, .sr, .sl, .sr, .bl] m1 (mk 256 [(4, .box [.val (.int .i64) x4_0, .val (.int .i64) x4_1, .nils, .nils]), (11, .box [.val (.int .i64) x11_0, .val (.int .i64) x11_1, .own 42 YCell x11_2, .own 46 YRect x11_3]), (16, .cs false [.own 46 YRect x16]), (213, .cs false [.val (.int .i64) x213]), (214, .cs false [.val (.int .i64) x214])])
noncomputable def L_R_Edited_8 (n m1 m2 : Nat) (x4_0 : Int) (x4_1 : Int) (x11_0 : Int) (x11_1 : Int) (x11_2 : List YCell.den) (x11_3 : List YRect.den) (x16 : List YRect.den) (x24 : Int) (x213 : Int) (x214 : Int) (x218 : Int) (x219 : Int) : Option sig_R_Edited.Out :=
  loopAt T (env_R_Edited) os_R_Edited sig_R_Edited Tryd.f13 hs_R_Edited n [.sr, .sr, .sr, .sr, .sr, .sr, .sr, .sr, .sr, .sl, .sr, .bl, .lp m1, .sr, .sr, .sl, .bl, .sr, .sr, .bl] m2 (mk 256 [(4, .box [.val (.int .i64) x4_0, .val (.int .i64) x4_1, .nils, .nils]), (11, .box [.val (.int .i64) x11_0, .val (.int .i64) x11_1, .own 42 YCell x11_2, .own 46 YRect x11_3]), (16, .cs false [.own 46 YRect x16]), (24, .cs false [.val (.int .i64) x24]), (213, .cs false [.val (.int .i64) x213]), (214, .cs false [.val (.int .i64) x214]), (218, .cs false [.val (.int .i64) x218]), (219, .cs false [.val (.int .i64) x219])])
noncomputable def L_R_Edited_9 (n m1 m2 m3 : Nat) (x4_0 : Int) (x4_1 : Int) (x11_0 : Int) (x11_1 : Int) (x11_2 : List YCell.den) (x11_3 : List YRect.den) (x16 : List YRect.den) (x24 : Int) (x25 : Int) (x213 : Int) (x214 : Int) (x218 : Int) (x219 : Int) (x223 : Int) (x224 : Int) : Option sig_R_Edited.Out :=
  loopAt T (env_R_Edited) os_R_Edited sig_R_Edited Tryd.f13 hs_R_Edited n [.sr, .sr, .sr, .sr, .sr, .sr, .sr, .sr, .sr, .sl, .sr, .bl, .lp m1, .sr, .sr, .sl, .bl, .sr, .sr, .bl, .lp m2, .sr, .sr, .sl, .bl, .sr, .sr, .bl] m3 (mk 256 [(4, .box [.val (.int .i64) x4_0, .val (.int .i64) x4_1, .nils, .nils]), (11, .box [.val (.int .i64) x11_0, .val (.int .i64) x11_1, .own 42 YCell x11_2, .own 46 YRect x11_3]), (16, .cs false [.own 46 YRect x16]), (24, .cs false [.val (.int .i64) x24]), (25, .cs false [.val (.int .i64) x25]), (213, .cs false [.val (.int .i64) x213]), (214, .cs false [.val (.int .i64) x214]), (218, .cs false [.val (.int .i64) x218]), (219, .cs false [.val (.int .i64) x219]), (223, .cs false [.val (.int .i64) x223]), (224, .cs false [.val (.int .i64) x224])])
theorem L_R_Edited_0_step (n m1 : Nat) (x2_0 : Int) (x2_1 : Int) (x2_2 : List YCell.den) (x2_3 : List YRect.den) (x3_0 : List YSpan.den) (x3_1 : List YSpan.den) (x3_2 : List YCell.den) (x3_3 : List YRect.den) (x3_4 : List YRect.den) (x4_0 : Int) (x4_1 : Int) (x5 : List (Int)) (x6 : List (Int)) (x7 : List (Int)) (x9 : List (Int)) (x11_0 : Int) (x11_1 : Int) (x11_2 : List YCell.den) (x53 : Int) (x54 : Int) : L_R_Edited_0 n (m1 + 1) x2_0 x2_1 x2_2 x2_3 x3_0 x3_1 x3_2 x3_3 x3_4 x4_0 x4_1 x5 x6 x7 x9 x11_0 x11_1 x11_2 x53 x54 =
  (bcond (decide ((x54 : Int) < x53))
   (L_R_Edited_1 n m1 n x2_0 x2_1 x2_2 x2_3 x3_0 x3_1 x3_2 x3_3 x3_4 x4_0 x4_1 x5 x6 x7 x9 x11_0 x11_1 x11_2 x54 x53 x54 (List.length x9 : Int) 0)
   (L_R_Edited_3 n n x2_0 x2_1 x2_2 x2_3 x3_0 x3_1 x3_2 x3_3 x3_4 x4_0 x4_1 x5 x6 x11_0 x11_1 x11_2 [] (List.length x2_3 : Int) 0)) := by kernel_rfl
theorem L_R_Edited_1_step (n m1 m2 : Nat) (x2_0 : Int) (x2_1 : Int) (x2_2 : List YCell.den) (x2_3 : List YRect.den) (x3_0 : List YSpan.den) (x3_1 : List YSpan.den) (x3_2 : List YCell.den) (x3_3 : List YRect.den) (x3_4 : List YRect.den) (x4_0 : Int) (x4_1 : Int) (x5 : List (Int)) (x6 : List (Int)) (x7 : List (Int)) (x9 : List (Int)) (x11_0 : Int) (x11_1 : Int) (x11_2 : List YCell.den) (x12 : Int) (x53 : Int) (x54 : Int) (x58 : Int) (x59 : Int) : L_R_Edited_1 n m1 (m2 + 1) x2_0 x2_1 x2_2 x2_3 x3_0 x3_1 x3_2 x3_3 x3_4 x4_0 x4_1 x5 x6 x7 x9 x11_0 x11_1 x11_2 x12 x53 x54 x58 x59 =
  (bcond (decide ((x59 : Int) < x58))
   (if 0 ≤ (x12 : Int) ∧ (x12 : Int) < (List.length x7 : Int) then
    (bcond ((decide (((at_ (e := (.int .i64)) x7 x12) : Int) ≥ 0)) == true)
     (if 0 ≤ (x59 : Int) ∧ (x59 : Int) < (List.length x9 : Int) then
      (bcond (decide (((at_ (e := (.int .i64)) x9 x59) : Int) ≥ 0))
       (if 0 ≤ (x12 : Int) ∧ (x12 : Int) < (List.length x7 : Int) then
        (if 0 ≤ (x59 : Int) ∧ (x59 : Int) < (List.length x9 : Int) then
         ((C_R_cellAt F_R_cellAt x2_2 (at_ (e := (.int .i64)) x7 x12) (at_ (e := (.int .i64)) x9 x59)).bind fun r1 =>
          (L_R_Edited_2 n m1 m2 n x2_0 x2_1 x2_2 x2_3 x3_0 x3_1 x3_2 x3_3 x3_4 x4_0 x4_1 x5 x6 x7 x9 x11_0 x11_1 x11_2 x12 x59 x12 x59 (res_R_cellAt_0 r1).2.2.1 (res_R_cellAt_0 r1).2.2.2.1 (res_R_cellAt_0 r1).2.2.2.2 x53 x54 x58 x59 (List.length x3_2 : Int) 0))
        else none)
       else none)
       (L_R_Edited_2a n m1 m2 n x2_0 x2_1 x2_2 x2_3 x3_0 x3_1 x3_2 x3_3 x3_4 x4_0 x4_1 x5 x6 x7 x9 x11_0 x11_1 x11_2 x12 x59 x12 x59 [] 0 x53 x54 x58 x59 (List.length x3_2 : Int) 0))
     else none)
     (L_R_Edited_2a n m1 m2 n x2_0 x2_1 x2_2 x2_3 x3_0 x3_1 x3_2 x3_3 x3_4 x4_0 x4_1 x5 x6 x7 x9 x11_0 x11_1 x11_2 x12 x59 x12 x59 [] 0 x53 x54 x58 x59 (List.length x3_2 : Int) 0))
   else none)
   (L_R_Edited_0 n m1 x2_0 x2_1 x2_2 x2_3 x3_0 x3_1 x3_2 x3_3 x3_4 x4_0 x4_1 x5 x6 x7 x9 x11_0 x11_1 x11_2 x53 (IntKind.i64.wrap (x54 + 1)))) := by kernel_rfl
theorem L_R_Edited_3_step (n m1 : Nat) (x2_0 : Int) (x2_1 : Int) (x2_2 : List YCell.den) (x2_3 : List YRect.den) (x3_0 : List YSpan.den) (x3_1 : List YSpan.den) (x3_2 : List YCell.den) (x3_3 : List YRect.den) (x3_4 : List YRect.den) (x4_0 : Int) (x4_1 : Int) (x5 : List (Int)) (x6 : List (Int)) (x11_0 : Int) (x11_1 : Int) (x11_2 : List YCell.den) (x16 : List YRect.den) (x135 : Int) (x136 : Int) : L_R_Edited_3 n (m1 + 1) x2_0 x2_1 x2_2 x2_3 x3_0 x3_1 x3_2 x3_3 x3_4 x4_0 x4_1 x5 x6 x11_0 x11_1 x11_2 x16 x135 x136 =
  (bcond (decide ((x136 : Int) < x135))
   (if 0 ≤ (x136 : Int) ∧ (x136 : Int) < (List.length x2_3 : Int) then
    ((C_R_MovedRect F_R_MovedRect (at_ (e := YRect) x2_3 x136) x5 x6).bind fun r1 =>
     (L_R_Edited_4 n m1 n x2_0 x2_1 x2_2 x2_3 x3_0 x3_1 x3_2 x3_3 x3_4 x4_0 x4_1 x5 x6 x11_0 x11_1 x11_2 x16 (res_R_MovedRect_0 r1).1 (res_R_MovedRect_0 r1).2.1 (res_R_MovedRect_0 r1).2.2.1 (res_R_MovedRect_0 r1).2.2.2 (decide (((res_R_MovedRect_0 r1).2.2.1 : Int) > 0)) x135 x136 (List.length x3_3 : Int) 0))
   else none)
   (L_R_Edited_5 n n x3_0 x3_1 x3_2 x3_3 x3_4 x4_0 x4_1 x11_0 x11_1 x11_2 x16 (List.length x3_4 : Int) 0)) := by kernel_rfl
theorem L_R_Edited_2_step (n m1 m2 m3 : Nat) (x2_0 : Int) (x2_1 : Int) (x2_2 : List YCell.den) (x2_3 : List YRect.den) (x3_0 : List YSpan.den) (x3_1 : List YSpan.den) (x3_2 : List YCell.den) (x3_3 : List YRect.den) (x3_4 : List YRect.den) (x4_0 : Int) (x4_1 : Int) (x5 : List (Int)) (x6 : List (Int)) (x7 : List (Int)) (x9 : List (Int)) (x11_0 : Int) (x11_1 : Int) (x11_2 : List YCell.den) (x12 : Int) (x13 : Int) (x14_0 : Int) (x14_1 : Int) (x14_2 : List UInt8) (x14_3 : Int) (x14_4 : List YAttr.den) (x53 : Int) (x54 : Int) (x58 : Int) (x59 : Int) (x94 : Int) (x95 : Int) : L_R_Edited_2 n m1 m2 (m3 + 1) x2_0 x2_1 x2_2 x2_3 x3_0 x3_1 x3_2 x3_3 x3_4 x4_0 x4_1 x5 x6 x7 x9 x11_0 x11_1 x11_2 x12 x13 x14_0 x14_1 x14_2 x14_3 x14_4 x53 x54 x58 x59 x94 x95 =
  (bcond (decide ((x95 : Int) < x94))
   (if 0 ≤ (x95 : Int) ∧ (x95 : Int) < (List.length x3_2 : Int) then
    (bcond ((((at_ (e := YCell) x3_2 x95).1 : Int) == x12) == true)
     (if 0 ≤ (x95 : Int) ∧ (x95 : Int) < (List.length x3_2 : Int) then
      (bcond (((at_ (e := YCell) x3_2 x95).2.1 : Int) == x13)
       (if 0 ≤ (x95 : Int) ∧ (x95 : Int) < (List.length x3_2 : Int) then
        (L_R_Edited_2 n m1 m2 m3 x2_0 x2_1 x2_2 x2_3 x3_0 x3_1 x3_2 x3_3 x3_4 x4_0 x4_1 x5 x6 x7 x9 x11_0 x11_1 x11_2 x12 x13 (at_ (e := YCell) x3_2 x95).1 (at_ (e := YCell) x3_2 x95).2.1 (at_ (e := YCell) x3_2 x95).2.2.1 (at_ (e := YCell) x3_2 x95).2.2.2.1 (at_ (e := YCell) x3_2 x95).2.2.2.2 x53 x54 x58 x59 x94 (IntKind.i64.wrap (x95 + 1)))
       else none)
       (L_R_Edited_2 n m1 m2 m3 x2_0 x2_1 x2_2 x2_3 x3_0 x3_1 x3_2 x3_3 x3_4 x4_0 x4_1 x5 x6 x7 x9 x11_0 x11_1 x11_2 x12 x13 x14_0 x14_1 x14_2 x14_3 x14_4 x53 x54 x58 x59 x94 (IntKind.i64.wrap (x95 + 1))))
     else none)
     (L_R_Edited_2 n m1 m2 m3 x2_0 x2_1 x2_2 x2_3 x3_0 x3_1 x3_2 x3_3 x3_4 x4_0 x4_1 x5 x6 x7 x9 x11_0 x11_1 x11_2 x12 x13 x14_0 x14_1 x14_2 x14_3 x14_4 x53 x54 x58 x59 x94 (IntKind.i64.wrap (x95 + 1))))
   else none)
   ((C_R_EmptyCell F_R_EmptyCell (x14_0, (x14_1, (x14_2, (x14_3, x14_4))))).bind fun r1 =>
    (bcond (!(res_R_EmptyCell_0 r1))
     (if (List.length (x11_2 : List YCell.den) + List.length ([(x14_0, (x14_1, (x14_2, (x14_3, x14_4))))] : List YCell.den)) * 64 ≤ 140737488355328 then
      (L_R_Edited_1 n m1 m2 x2_0 x2_1 x2_2 x2_3 x3_0 x3_1 x3_2 x3_3 x3_4 x4_0 x4_1 x5 x6 x7 x9 x11_0 x11_1 (x11_2 ++ [(x14_0, (x14_1, (x14_2, (x14_3, x14_4))))]) x12 x53 x54 x58 (IntKind.i64.wrap (x59 + 1)))
     else none)
     (L_R_Edited_1 n m1 m2 x2_0 x2_1 x2_2 x2_3 x3_0 x3_1 x3_2 x3_3 x3_4 x4_0 x4_1 x5 x6 x7 x9 x11_0 x11_1 x11_2 x12 x53 x54 x58 (IntKind.i64.wrap (x59 + 1)))))) := by kernel_rfl
theorem L_R_Edited_2a_step (n m1 m2 m3 : Nat) (x2_0 : Int) (x2_1 : Int) (x2_2 : List YCell.den) (x2_3 : List YRect.den) (x3_0 : List YSpan.den) (x3_1 : List YSpan.den) (x3_2 : List YCell.den) (x3_3 : List YRect.den) (x3_4 : List YRect.den) (x4_0 : Int) (x4_1 : Int) (x5 : List (Int)) (x6 : List (Int)) (x7 : List (Int)) (x9 : List (Int)) (x11_0 : Int) (x11_1 : Int) (x11_2 : List YCell.den) (x12 : Int) (x13 : Int) (x14_0 : Int) (x14_1 : Int) (x14_2 : List UInt8) (x14_3 : Int) (x53 : Int) (x54 : Int) (x58 : Int) (x59 : Int) (x94 : Int) (x95 : Int) : L_R_Edited_2a n m1 m2 (m3 + 1) x2_0 x2_1 x2_2 x2_3 x3_0 x3_1 x3_2 x3_3 x3_4 x4_0 x4_1 x5 x6 x7 x9 x11_0 x11_1 x11_2 x12 x13 x14_0 x14_1 x14_2 x14_3 x53 x54 x58 x59 x94 x95 =
  (bcond (decide ((x95 : Int) < x94))
   (if 0 ≤ (x95 : Int) ∧ (x95 : Int) < (List.length x3_2 : Int) then
    (bcond ((((at_ (e := YCell) x3_2 x95).1 : Int) == x12) == true)
     (if 0 ≤ (x95 : Int) ∧ (x95 : Int) < (List.length x3_2 : Int) then
      (bcond (((at_ (e := YCell) x3_2 x95).2.1 : Int) == x13)
       (if 0 ≤ (x95 : Int) ∧ (x95 : Int) < (List.length x3_2 : Int) then
        (L_R_Edited_2 n m1 m2 m3 x2_0 x2_1 x2_2 x2_3 x3_0 x3_1 x3_2 x3_3 x3_4 x4_0 x4_1 x5 x6 x7 x9 x11_0 x11_1 x11_2 x12 x13 (at_ (e := YCell) x3_2 x95).1 (at_ (e := YCell) x3_2 x95).2.1 (at_ (e := YCell) x3_2 x95).2.2.1 (at_ (e := YCell) x3_2 x95).2.2.2.1 (at_ (e := YCell) x3_2 x95).2.2.2.2 x53 x54 x58 x59 x94 (IntKind.i64.wrap (x95 + 1)))
       else none)
       (L_R_Edited_2a n m1 m2 m3 x2_0 x2_1 x2_2 x2_3 x3_0 x3_1 x3_2 x3_3 x3_4 x4_0 x4_1 x5 x6 x7 x9 x11_0 x11_1 x11_2 x12 x13 x14_0 x14_1 x14_2 x14_3 x53 x54 x58 x59 x94 (IntKind.i64.wrap (x95 + 1))))
     else none)
     (L_R_Edited_2a n m1 m2 m3 x2_0 x2_1 x2_2 x2_3 x3_0 x3_1 x3_2 x3_3 x3_4 x4_0 x4_1 x5 x6 x7 x9 x11_0 x11_1 x11_2 x12 x13 x14_0 x14_1 x14_2 x14_3 x53 x54 x58 x59 x94 (IntKind.i64.wrap (x95 + 1))))
   else none)
   ((C_R_EmptyCell F_R_EmptyCell (x14_0, (x14_1, (x14_2, (x14_3, []))))).bind fun r1 =>
    (bcond (!(res_R_EmptyCell_0 r1))
     (if (List.length (x11_2 : List YCell.den) + List.length ([(x14_0, (x14_1, (x14_2, (x14_3, []))))] : List YCell.den)) * 64 ≤ 140737488355328 then
      (L_R_Edited_1 n m1 m2 x2_0 x2_1 x2_2 x2_3 x3_0 x3_1 x3_2 x3_3 x3_4 x4_0 x4_1 x5 x6 x7 x9 x11_0 x11_1 (x11_2 ++ [(x14_0, (x14_1, (x14_2, (x14_3, []))))]) x12 x53 x54 x58 (IntKind.i64.wrap (x59 + 1)))
     else none)
     (L_R_Edited_1 n m1 m2 x2_0 x2_1 x2_2 x2_3 x3_0 x3_1 x3_2 x3_3 x3_4 x4_0 x4_1 x5 x6 x7 x9 x11_0 x11_1 x11_2 x12 x53 x54 x58 (IntKind.i64.wrap (x59 + 1)))))) := by kernel_rfl
theorem L_R_Edited_4_step (n m1 m2 : Nat) (x2_0 : Int) (x2_1 : Int) (x2_2 : List YCell.den) (x2_3 : List YRect.den) (x3_0 : List YSpan.den) (x3_1 : List YSpan.den) (x3_2 : List YCell.den) (x3_3 : List YRect.den) (x3_4 : List YRect.den) (x4_0 : Int) (x4_1 : Int) (x5 : List (Int)) (x6 : List (Int)) (x11_0 : Int) (x11_1 : Int) (x11_2 : List YCell.den) (x16 : List YRect.den) (x18_0 : Int) (x18_1 : Int) (x18_2 : Int) (x18_3 : Int) (x19 : Bool) (x135 : Int) (x136 : Int) (x152 : Int) (x153 : Int) : L_R_Edited_4 n m1 (m2 + 1) x2_0 x2_1 x2_2 x2_3 x3_0 x3_1 x3_2 x3_3 x3_4 x4_0 x4_1 x5 x6 x11_0 x11_1 x11_2 x16 x18_0 x18_1 x18_2 x18_3 x19 x135 x136 x152 x153 =
  (bcond (decide ((x153 : Int) < x152))
   (bcond (x19 == true)
    (if 0 ≤ (x153 : Int) ∧ (x153 : Int) < (List.length x3_3 : Int) then
     (L_R_Edited_4 n m1 m2 x2_0 x2_1 x2_2 x2_3 x3_0 x3_1 x3_2 x3_3 x3_4 x4_0 x4_1 x5 x6 x11_0 x11_1 x11_2 x16 x18_0 x18_1 x18_2 x18_3 (!((((at_ (e := YRect) x3_3 x153).1 : Int) == x18_0) && ((((at_ (e := YRect) x3_3 x153).2.1 : Int) == x18_1) && ((((at_ (e := YRect) x3_3 x153).2.2.1 : Int) == x18_2) && ((((at_ (e := YRect) x3_3 x153).2.2.2 : Int) == x18_3) && true))))) x135 x136 x152 (IntKind.i64.wrap (x153 + 1)))
    else none)
    (L_R_Edited_4 n m1 m2 x2_0 x2_1 x2_2 x2_3 x3_0 x3_1 x3_2 x3_3 x3_4 x4_0 x4_1 x5 x6 x11_0 x11_1 x11_2 x16 x18_0 x18_1 x18_2 x18_3 false x135 x136 x152 (IntKind.i64.wrap (x153 + 1))))
   (bcond x19
    (if (List.length (x16 : List YRect.den) + List.length ([(x18_0, (x18_1, (x18_2, x18_3)))] : List YRect.den)) * 32 ≤ 140737488355328 then
     (L_R_Edited_3 n m1 x2_0 x2_1 x2_2 x2_3 x3_0 x3_1 x3_2 x3_3 x3_4 x4_0 x4_1 x5 x6 x11_0 x11_1 x11_2 (x16 ++ [(x18_0, (x18_1, (x18_2, x18_3)))]) x135 (IntKind.i64.wrap (x136 + 1)))
    else none)
    (L_R_Edited_3 n m1 x2_0 x2_1 x2_2 x2_3 x3_0 x3_1 x3_2 x3_3 x3_4 x4_0 x4_1 x5 x6 x11_0 x11_1 x11_2 x16 x135 (IntKind.i64.wrap (x136 + 1))))) := by kernel_rfl
theorem L_R_Edited_5_step (n m1 : Nat) (x3_0 : List YSpan.den) (x3_1 : List YSpan.den) (x3_2 : List YCell.den) (x3_3 : List YRect.den) (x3_4 : List YRect.den) (x4_0 : Int) (x4_1 : Int) (x11_0 : Int) (x11_1 : Int) (x11_2 : List YCell.den) (x16 : List YRect.den) (x175 : Int) (x176 : Int) : L_R_Edited_5 n (m1 + 1) x3_0 x3_1 x3_2 x3_3 x3_4 x4_0 x4_1 x11_0 x11_1 x11_2 x16 x175 x176 =
  (bcond (decide ((x176 : Int) < x175))
   (L_R_Edited_6 n m1 n x3_0 x3_1 x3_2 x3_3 x3_4 x4_0 x4_1 x11_0 x11_1 x11_2 x16 x176 [] x175 x176 (List.length x16 : Int) 0)
   (L_R_Edited_7 n n x4_0 x4_1 x11_0 x11_1 x11_2 [] x16 x11_0 0)) := by kernel_rfl
theorem L_R_Edited_6_step (n m1 m2 : Nat) (x3_0 : List YSpan.den) (x3_1 : List YSpan.den) (x3_2 : List YCell.den) (x3_3 : List YRect.den) (x3_4 : List YRect.den) (x4_0 : Int) (x4_1 : Int) (x11_0 : Int) (x11_1 : Int) (x11_2 : List YCell.den) (x16 : List YRect.den) (x21 : Int) (x22 : List YRect.den) (x175 : Int) (x176 : Int) (x180 : Int) (x181 : Int) : L_R_Edited_6 n m1 (m2 + 1) x3_0 x3_1 x3_2 x3_3 x3_4 x4_0 x4_1 x11_0 x11_1 x11_2 x16 x21 x22 x175 x176 x180 x181 =
  (bcond (decide ((x181 : Int) < x180))
   (if 0 ≤ (x181 : Int) ∧ (x181 : Int) < (List.length x16 : Int) then
    (if 0 ≤ (x21 : Int) ∧ (x21 : Int) < (List.length x3_4 : Int) then
     ((C_R_Share F_R_Share (at_ (e := YRect) x16 x181) (at_ (e := YRect) x3_4 x21)).bind fun r1 =>
      (bcond (!(res_R_Share_0 r1))
       (if 0 ≤ (x181 : Int) ∧ (x181 : Int) < (List.length x16 : Int) then
        (if (List.length (x22 : List YRect.den) + List.length ([(at_ (e := YRect) x16 x181)] : List YRect.den)) * 32 ≤ 140737488355328 then
         (L_R_Edited_6 n m1 m2 x3_0 x3_1 x3_2 x3_3 x3_4 x4_0 x4_1 x11_0 x11_1 x11_2 x16 x21 (x22 ++ [(at_ (e := YRect) x16 x181)]) x175 x176 x180 (IntKind.i64.wrap (x181 + 1)))
        else none)
       else none)
       (L_R_Edited_6 n m1 m2 x3_0 x3_1 x3_2 x3_3 x3_4 x4_0 x4_1 x11_0 x11_1 x11_2 x16 x21 x22 x175 x176 x180 (IntKind.i64.wrap (x181 + 1)))))
    else none)
   else none)
   (if 0 ≤ (x21 : Int) ∧ (x21 : Int) < (List.length x3_4 : Int) then
    (if (List.length (x22 : List YRect.den) + List.length ([(at_ (e := YRect) x3_4 x21)] : List YRect.den)) * 32 ≤ 140737488355328 then
     (L_R_Edited_5 n m1 x3_0 x3_1 x3_2 x3_3 x3_4 x4_0 x4_1 x11_0 x11_1 x11_2 (x22 ++ [(at_ (e := YRect) x3_4 x21)]) x175 (IntKind.i64.wrap (x176 + 1)))
    else none)
   else none)) := by kernel_rfl
theorem L_R_Edited_7_step (n m1 : Nat) (x4_0 : Int) (x4_1 : Int) (x11_0 : Int) (x11_1 : Int) (x11_2 : List YCell.den) (x11_3 : List YRect.den) (x16 : List YRect.den) (x213 : Int) (x214 : Int) : L_R_Edited_7 n (m1 + 1) x4_0 x4_1 x11_0 x11_1 x11_2 x11_3 x16 x213 x214 =
  (bcond (decide ((x214 : Int) < x213))
   (L_R_Edited_8 n m1 n x4_0 x4_1 x11_0 x11_1 x11_2 x11_3 x16 x214 x213 x214 x11_1 0)
   (some (ret_R_Edited (x11_0, (x11_1, (x11_2, x11_3)))))) := by kernel_rfl
theorem L_R_Edited_8_step (n m1 m2 : Nat) (x4_0 : Int) (x4_1 : Int) (x11_0 : Int) (x11_1 : Int) (x11_2 : List YCell.den) (x11_3 : List YRect.den) (x16 : List YRect.den) (x24 : Int) (x213 : Int) (x214 : Int) (x218 : Int) (x219 : Int) : L_R_Edited_8 n m1 (m2 + 1) x4_0 x4_1 x11_0 x11_1 x11_2 x11_3 x16 x24 x213 x214 x218 x219 =
  (bcond (decide ((x219 : Int) < x218))
   (L_R_Edited_9 n m1 m2 n x4_0 x4_1 x11_0 x11_1 x11_2 x11_3 x16 x24 x219 x213 x214 x218 x219 (List.length x16 : Int) 0)
   (L_R_Edited_7 n m1 x4_0 x4_1 x11_0 x11_1 x11_2 x11_3 x16 x213 (IntKind.i64.wrap (x214 + 1)))) := by kernel_rfl
theorem L_R_Edited_9_step (n m1 m2 m3 : Nat) (x4_0 : Int) (x4_1 : Int) (x11_0 : Int) (x11_1 : Int) (x11_2 : List YCell.den) (x11_3 : List YRect.den) (x16 : List YRect.den) (x24 : Int) (x25 : Int) (x213 : Int) (x214 : Int) (x218 : Int) (x219 : Int) (x223 : Int) (x224 : Int) : L_R_Edited_9 n m1 m2 (m3 + 1) x4_0 x4_1 x11_0 x11_1 x11_2 x11_3 x16 x24 x25 x213 x214 x218 x219 x223 x224 =
  (bcond (decide ((x224 : Int) < x223))
   (if 0 ≤ (x224 : Int) ∧ (x224 : Int) < (List.length x16 : Int) then
    (bcond ((((at_ (e := YRect) x16 x224).1 : Int) == x24) == true)
     (if 0 ≤ (x224 : Int) ∧ (x224 : Int) < (List.length x16 : Int) then
      (bcond (((at_ (e := YRect) x16 x224).2.1 : Int) == x25)
       (if 0 ≤ (x224 : Int) ∧ (x224 : Int) < (List.length x16 : Int) then
        (if (List.length (x11_3 : List YRect.den) + List.length ([(at_ (e := YRect) x16 x224)] : List YRect.den)) * 32 ≤ 140737488355328 then
         (L_R_Edited_9 n m1 m2 m3 x4_0 x4_1 x11_0 x11_1 x11_2 (x11_3 ++ [(at_ (e := YRect) x16 x224)]) x16 x24 x25 x213 x214 x218 x219 x223 (IntKind.i64.wrap (x224 + 1)))
        else none)
       else none)
       (L_R_Edited_9 n m1 m2 m3 x4_0 x4_1 x11_0 x11_1 x11_2 x11_3 x16 x24 x25 x213 x214 x218 x219 x223 (IntKind.i64.wrap (x224 + 1))))
     else none)
     (L_R_Edited_9 n m1 m2 m3 x4_0 x4_1 x11_0 x11_1 x11_2 x11_3 x16 x24 x25 x213 x214 x218 x219 x223 (IntKind.i64.wrap (x224 + 1))))
   else none)
   (L_R_Edited_8 n m1 m2 x4_0 x4_1 x11_0 x11_1 x11_2 x11_3 x16 x24 x213 x214 x218 (IntKind.i64.wrap (x219 + 1)))) := by kernel_rfl
theorem ok_R_Edited : fnOk os_R_Edited sig_R_Edited Tryd.f13 = true := by kernel_rfl
theorem fn_R_Edited : P.funcs[13]? = some Tryd.f13 := by kernel_rfl
noncomputable def F_R_Edited : sig_R_Edited.Fn := fun x y => run T (env_R_Edited) os_R_Edited sig_R_Edited Tryd.f13 hs_R_Edited big x y
theorem S_R_Edited : Sound P 13 ⟨sig_R_Edited, F_R_Edited⟩ := sound_of (os := os_R_Edited) (hs := hs_R_Edited) (env_cons S_R_units (env_cons S_R_Olds (env_cons S_R_cellAt (env_cons S_R_MovedRect (env_cons S_R_EmptyCell (env_cons S_R_Share (env_nil))))))) fn_R_Edited ok_R_Edited (fun x y out h => ⟨big, h⟩)
theorem e_R_Edited (a0 : YGrid.den) (a1 : YGridEdit.den) : C_R_Edited F_R_Edited a0 a1 =
  ((C_R_units F_R_units a1.1 a0.1).bind fun r1 =>
   ((C_R_units F_R_units a1.2.1 a0.2.1).bind fun r2 =>
    ((C_R_Olds F_R_Olds (res_R_units_0 r1)).bind fun r3 =>
     ((C_R_Olds F_R_Olds (res_R_units_0 r2)).bind fun r4 =>
      (L_R_Edited_0 big big a0.1 a0.2.1 a0.2.2.1 a0.2.2.2 a1.1 a1.2.1 a1.2.2.1 a1.2.2.2.1 a1.2.2.2.2 0 0 (res_R_units_0 r1) (res_R_units_0 r2) (res_R_Olds_0 r3) (res_R_Olds_0 r4) (List.length (res_R_Olds_0 r3) : Int) (List.length (res_R_Olds_0 r4) : Int) [] (List.length (res_R_Olds_0 r3) : Int) 0))))) := by kernel_rfl
end Go.Ev
