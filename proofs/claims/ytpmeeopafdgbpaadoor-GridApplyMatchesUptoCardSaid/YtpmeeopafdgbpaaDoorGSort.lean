/- Functions, step by step. -/
import Derived.Test.YtpmeeopafdgbpaaDoorGGridK
import Derived.Test.YtpmeeopafdgbpaaDoorGLays
namespace Go.Ev
set_option linter.unusedVariables false
set_option maxRecDepth 100000
open Go.Proofs
def sig_grid_Raw_c2 : Sig := ⟨[.v true YRect, .v true YRect], [], [(false, [.fr (.int .i64)])]⟩
def C_grid_Raw_c2 (F : sig_grid_Raw_c2.Fn) (a0 : YRect.den) (a1 : YRect.den) : Option sig_grid_Raw_c2.Out := F (a0, a1, ()) ()
def ret_grid_Raw_c2 (v0 : Int) : sig_grid_Raw_c2.Out := (((v0, ()), ()), ())
def os_grid_Raw_c2 : RegT := ⟨[(1, .st 0 (.st 2 (.st 5 (.st 7 (.st 1 (.st 3 (.grp [6, 8, 4] (.st 9 (.st 10 (.st 11 (.st 12 (.nil))))))))))))], [], false⟩
def hs_grid_Raw_c2 : List Keep := []
@[reducible] noncomputable def env_grid_Raw_c2 : Env := [(62, ⟨sig_cmp_Compare_int, F_cmp_Compare_int⟩), (61, ⟨sig_cmp_Or_int, F_cmp_Or_int⟩)]
theorem ok_grid_Raw_c2 : fnOk os_grid_Raw_c2 sig_grid_Raw_c2 Tryd.f60 = true := by kernel_rfl
theorem fn_grid_Raw_c2 : P.funcs[60]? = some Tryd.f60 := by kernel_rfl
noncomputable def F_grid_Raw_c2 : sig_grid_Raw_c2.Fn := fun x y => run T (env_grid_Raw_c2) os_grid_Raw_c2 sig_grid_Raw_c2 Tryd.f60 hs_grid_Raw_c2 big x y
theorem S_grid_Raw_c2 : Sound P 60 ⟨sig_grid_Raw_c2, F_grid_Raw_c2⟩ := sound_of (os := os_grid_Raw_c2) (hs := hs_grid_Raw_c2) (env_cons S_cmp_Compare_int (env_cons S_cmp_Or_int (env_nil))) fn_grid_Raw_c2 ok_grid_Raw_c2 (fun x y out h => ⟨big, h⟩)
theorem e_grid_Raw_c2 (a0 : YRect.den) (a1 : YRect.den) : C_grid_Raw_c2 F_grid_Raw_c2 a0 a1 =
  ((C_cmp_Compare_int F_cmp_Compare_int a0.1 a1.1).bind fun r1 =>
   ((C_cmp_Compare_int F_cmp_Compare_int a0.2.1 a1.2.1).bind fun r2 =>
    ((C_cmp_Or_int F_cmp_Or_int [(res_cmp_Compare_int_0 r1), (res_cmp_Compare_int_0 r2)]).bind fun r3 =>
     (some (ret_grid_Raw_c2 (res_cmp_Or_int_0 r3)))))) := by kernel_rfl
def sig_slices_SortFunc_Rect_grid_Raw_c2 : Sig := ⟨[.w 46 YRect, .f 60 []], [], []⟩
def C_slices_SortFunc_Rect_grid_Raw_c2 (F : sig_slices_SortFunc_Rect_grid_Raw_c2.Fn) (a0 : List YRect.den) : Option sig_slices_SortFunc_Rect_grid_Raw_c2.Out := F (a0, ()) ()
def ret_slices_SortFunc_Rect_grid_Raw_c2 (v0 : List YRect.den) : sig_slices_SortFunc_Rect_grid_Raw_c2.Out := ((), ((v0, ()), ()))
def res_slices_SortFunc_Rect_grid_Raw_c2_0 (r : sig_slices_SortFunc_Rect_grid_Raw_c2.Out) : List YRect.den := r.2.1.1
@[simp] theorem res_slices_SortFunc_Rect_grid_Raw_c2_0_ret (v0 : List YRect.den) : res_slices_SortFunc_Rect_grid_Raw_c2_0 (ret_slices_SortFunc_Rect_grid_Raw_c2 v0) = v0 := rfl
noncomputable def F_slices_SortFunc_Rect_grid_Raw_c2 : sig_slices_SortFunc_Rect_grid_Raw_c2.Fn := sortF (te := 46) (g := 60) F_grid_Raw_c2
theorem S_slices_SortFunc_Rect_grid_Raw_c2 : Sound P 59 ⟨sig_slices_SortFunc_Rect_grid_Raw_c2, F_slices_SortFunc_Rect_grid_Raw_c2⟩ := sort_given lays_59 T_ok (te := 46) (by kernel_rfl) (ti := ⟨YRect, true, _, _, _, _, _, _, _⟩) rfl rfl S_grid_Raw_c2 (enters_of (P := P) (f := 60) (fn := Tryd.f60) (by kernel_rfl) (by decide) (by rfl)) (by kernel_rfl) ⟨Tryd.f59, by kernel_rfl, by kernel_rfl, by decide⟩
end Go.Ev
