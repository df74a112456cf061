/- Functions, step by step. -/
import Derived.Test.YteojfhgljknmiaaDoorGGridS
namespace Go.Ev
set_option linter.unusedVariables false
set_option maxRecDepth 100000
open Go.Proofs
def sig_grid_Text : Sig := ⟨[.v false .str], [], [(false, [.fr .bool])]⟩
def os_grid_Text : RegT := ⟨[], [], false⟩
def hs_grid_Text : List Keep := [[(0, [])]]
@[reducible] noncomputable def env_grid_Text : Env := [(44, ⟨sig_unicode_utf8_DecodeRuneInString, F_unicode_utf8_DecodeRuneInString⟩), (13, ⟨sig_flow_Char, F_flow_Char⟩)]
theorem ok_grid_Text : fnOk os_grid_Text sig_grid_Text Tryd.f121 = true := by kernel_rfl
theorem fn_grid_Text : P.funcs[121]? = some Tryd.f121 := by kernel_rfl
noncomputable def F_grid_Text : sig_grid_Text.Fn := fun x y => run T (env_grid_Text) os_grid_Text sig_grid_Text Tryd.f121 hs_grid_Text big x y
theorem S_grid_Text : Sound P 121 ⟨sig_grid_Text, F_grid_Text⟩ := sound_of (os := os_grid_Text) (hs := hs_grid_Text) (env_cons S_unicode_utf8_DecodeRuneInString (env_cons S_flow_Char (env_nil))) fn_grid_Text ok_grid_Text (fun x y out h => ⟨big, h⟩)
def sig_grid_empty : Sig := ⟨[.v true YCell], [], [(false, [.fr .bool])]⟩
def os_grid_empty : RegT := ⟨[], [], false⟩
def hs_grid_empty : List Keep := []
@[reducible] noncomputable def env_grid_empty : Env := []
theorem ok_grid_empty : fnOk os_grid_empty sig_grid_empty Tryd.f122 = true := by kernel_rfl
theorem fn_grid_empty : P.funcs[122]? = some Tryd.f122 := by kernel_rfl
noncomputable def F_grid_empty : sig_grid_empty.Fn := fun x y => run T (env_grid_empty) os_grid_empty sig_grid_empty Tryd.f122 hs_grid_empty big x y
theorem S_grid_empty : Sound P 122 ⟨sig_grid_empty, F_grid_empty⟩ := sound_of (os := os_grid_empty) (hs := hs_grid_empty) (env_nil) fn_grid_empty ok_grid_empty (fun x y out h => ⟨big, h⟩)
def sig_cmp_isNaN_int : Sig := ⟨[.v false (.int .i64)], [], [(false, [.fr .bool])]⟩
def os_cmp_isNaN_int : RegT := ⟨[], [], false⟩
def hs_cmp_isNaN_int : List Keep := []
@[reducible] noncomputable def env_cmp_isNaN_int : Env := []
theorem ok_cmp_isNaN_int : fnOk os_cmp_isNaN_int sig_cmp_isNaN_int Tryd.f130 = true := by kernel_rfl
theorem fn_cmp_isNaN_int : P.funcs[130]? = some Tryd.f130 := by kernel_rfl
noncomputable def F_cmp_isNaN_int : sig_cmp_isNaN_int.Fn := fun x y => run T (env_cmp_isNaN_int) os_cmp_isNaN_int sig_cmp_isNaN_int Tryd.f130 hs_cmp_isNaN_int big x y
theorem S_cmp_isNaN_int : Sound P 130 ⟨sig_cmp_isNaN_int, F_cmp_isNaN_int⟩ := sound_of (os := os_cmp_isNaN_int) (hs := hs_cmp_isNaN_int) (env_nil) fn_cmp_isNaN_int ok_cmp_isNaN_int (fun x y out h => ⟨big, h⟩)
def sig_cmp_Compare_int : Sig := ⟨[.v false (.int .i64), .v false (.int .i64)], [], [(false, [.fr (.int .i64)])]⟩
def os_cmp_Compare_int : RegT := ⟨[], [], false⟩
def hs_cmp_Compare_int : List Keep := []
@[reducible] noncomputable def env_cmp_Compare_int : Env := [(130, ⟨sig_cmp_isNaN_int, F_cmp_isNaN_int⟩)]
theorem ok_cmp_Compare_int : fnOk os_cmp_Compare_int sig_cmp_Compare_int Tryd.f127 = true := by kernel_rfl
theorem fn_cmp_Compare_int : P.funcs[127]? = some Tryd.f127 := by kernel_rfl
noncomputable def F_cmp_Compare_int : sig_cmp_Compare_int.Fn := fun x y => run T (env_cmp_Compare_int) os_cmp_Compare_int sig_cmp_Compare_int Tryd.f127 hs_cmp_Compare_int big x y
theorem S_cmp_Compare_int : Sound P 127 ⟨sig_cmp_Compare_int, F_cmp_Compare_int⟩ := sound_of (os := os_cmp_Compare_int) (hs := hs_cmp_Compare_int) (env_cons S_cmp_isNaN_int (env_nil)) fn_cmp_Compare_int ok_cmp_Compare_int (fun x y out h => ⟨big, h⟩)
def sig_cmp_Or_int : Sig := ⟨[.v false (.list (.int .i64))], [], [(false, [.fr (.int .i64)])]⟩
def os_cmp_Or_int : RegT := ⟨[], [], false⟩
def hs_cmp_Or_int : List Keep := [[(3, []), (6, []), (7, []), (8, [])]]
@[reducible] noncomputable def env_cmp_Or_int : Env := []
theorem ok_cmp_Or_int : fnOk os_cmp_Or_int sig_cmp_Or_int Tryd.f126 = true := by kernel_rfl
theorem fn_cmp_Or_int : P.funcs[126]? = some Tryd.f126 := by kernel_rfl
noncomputable def F_cmp_Or_int : sig_cmp_Or_int.Fn := fun x y => run T (env_cmp_Or_int) os_cmp_Or_int sig_cmp_Or_int Tryd.f126 hs_cmp_Or_int big x y
theorem S_cmp_Or_int : Sound P 126 ⟨sig_cmp_Or_int, F_cmp_Or_int⟩ := sound_of (os := os_cmp_Or_int) (hs := hs_cmp_Or_int) (env_nil) fn_cmp_Or_int ok_cmp_Or_int (fun x y out h => ⟨big, h⟩)
def sig_grid_order : Sig := ⟨[.v true YCell, .v true YCell], [], [(false, [.fr (.int .i64)])]⟩
def os_grid_order : RegT := ⟨[(1, .st 0 (.st 2 (.st 5 (.st 7 (.st 1 (.st 3 (.grp [6, 8, 4] (.st 9 (.st 10 (.st 11 (.st 12 (.nil))))))))))))], [], false⟩
def hs_grid_order : List Keep := []
@[reducible] noncomputable def env_grid_order : Env := [(127, ⟨sig_cmp_Compare_int, F_cmp_Compare_int⟩), (126, ⟨sig_cmp_Or_int, F_cmp_Or_int⟩)]
theorem ok_grid_order : fnOk os_grid_order sig_grid_order Tryd.f123 = true := by kernel_rfl
theorem fn_grid_order : P.funcs[123]? = some Tryd.f123 := by kernel_rfl
noncomputable def F_grid_order : sig_grid_order.Fn := fun x y => run T (env_grid_order) os_grid_order sig_grid_order Tryd.f123 hs_grid_order big x y
theorem S_grid_order : Sound P 123 ⟨sig_grid_order, F_grid_order⟩ := sound_of (os := os_grid_order) (hs := hs_grid_order) (env_cons S_cmp_Compare_int (env_cons S_cmp_Or_int (env_nil))) fn_grid_order ok_grid_order (fun x y out h => ⟨big, h⟩)
def sig_grid_cells : Sig := ⟨[.v false (.list YCell), .v false (.int .i64), .v false (.int .i64), .v false .bool], [], [(false, [.fr (.int .i64)])]⟩
def os_grid_cells : RegT := ⟨[(15, .st 0 (.st 1 (.st 2 (.st 3 (.st 4 (.st 5 (.st 6 (.st 7 (.st 8 (.st 9 (.st 10 (.st 11 (.nil)))))))))))))], [], false⟩
def hs_grid_cells : List Keep := [[(0, []), (1, []), (2, []), (3, []), (12, []), (13, []), (14, [])]]
@[reducible] noncomputable def env_grid_cells : Env := [(121, ⟨sig_grid_Text, F_grid_Text⟩), (43, ⟨sig_attr_Check, F_attr_Check⟩), (122, ⟨sig_grid_empty, F_grid_empty⟩), (123, ⟨sig_grid_order, F_grid_order⟩)]
theorem ok_grid_cells : fnOk os_grid_cells sig_grid_cells Tryd.f101 = true := by kernel_rfl
theorem fn_grid_cells : P.funcs[101]? = some Tryd.f101 := by kernel_rfl
noncomputable def F_grid_cells : sig_grid_cells.Fn := fun x y => run T (env_grid_cells) os_grid_cells sig_grid_cells Tryd.f101 hs_grid_cells big x y
theorem S_grid_cells : Sound P 101 ⟨sig_grid_cells, F_grid_cells⟩ := sound_of (os := os_grid_cells) (hs := hs_grid_cells) (env_cons S_grid_Text (env_cons S_attr_Check (env_cons S_grid_empty (env_cons S_grid_order (env_nil))))) fn_grid_cells ok_grid_cells (fun x y out h => ⟨big, h⟩)
def sig_grid_inside : Sig := ⟨[.v true YRect, .v false (.int .i64), .v false (.int .i64)], [], [(false, [.fr .bool])]⟩
def os_grid_inside : RegT := ⟨[], [], false⟩
def hs_grid_inside : List Keep := []
@[reducible] noncomputable def env_grid_inside : Env := []
theorem ok_grid_inside : fnOk os_grid_inside sig_grid_inside Tryd.f102 = true := by kernel_rfl
theorem fn_grid_inside : P.funcs[102]? = some Tryd.f102 := by kernel_rfl
noncomputable def F_grid_inside : sig_grid_inside.Fn := fun x y => run T (env_grid_inside) os_grid_inside sig_grid_inside Tryd.f102 hs_grid_inside big x y
theorem S_grid_inside : Sound P 102 ⟨sig_grid_inside, F_grid_inside⟩ := sound_of (os := os_grid_inside) (hs := hs_grid_inside) (env_nil) fn_grid_inside ok_grid_inside (fun x y out h => ⟨big, h⟩)
def sig_grid_before : Sig := ⟨[.v true YRect, .v true YRect], [], [(false, [.fr .bool])]⟩
def os_grid_before : RegT := ⟨[], [], false⟩
def hs_grid_before : List Keep := []
@[reducible] noncomputable def env_grid_before : Env := []
theorem ok_grid_before : fnOk os_grid_before sig_grid_before Tryd.f103 = true := by kernel_rfl
theorem fn_grid_before : P.funcs[103]? = some Tryd.f103 := by kernel_rfl
noncomputable def F_grid_before : sig_grid_before.Fn := fun x y => run T (env_grid_before) os_grid_before sig_grid_before Tryd.f103 hs_grid_before big x y
theorem S_grid_before : Sound P 103 ⟨sig_grid_before, F_grid_before⟩ := sound_of (os := os_grid_before) (hs := hs_grid_before) (env_nil) fn_grid_before ok_grid_before (fun x y out h => ⟨big, h⟩)
def sig_grid_meets : Sig := ⟨[.v true YRect, .v true YRect], [], [(false, [.fr .bool])]⟩
def os_grid_meets : RegT := ⟨[], [], false⟩
def hs_grid_meets : List Keep := []
@[reducible] noncomputable def env_grid_meets : Env := []
theorem ok_grid_meets : fnOk os_grid_meets sig_grid_meets Tryd.f106 = true := by kernel_rfl
theorem fn_grid_meets : P.funcs[106]? = some Tryd.f106 := by kernel_rfl
noncomputable def F_grid_meets : sig_grid_meets.Fn := fun x y => run T (env_grid_meets) os_grid_meets sig_grid_meets Tryd.f106 hs_grid_meets big x y
theorem S_grid_meets : Sound P 106 ⟨sig_grid_meets, F_grid_meets⟩ := sound_of (os := os_grid_meets) (hs := hs_grid_meets) (env_nil) fn_grid_meets ok_grid_meets (fun x y out h => ⟨big, h⟩)
def sig_grid_Check_c1 : Sig := ⟨[.v true YRect, .p 0], [[.fr (.int .i64), .fr (.int .i64), .fr (.int .i64), .fr (.int .i64)]], [(false, [.fr .bool])]⟩
def os_grid_Check_c1 : RegT := ⟨[], [], false⟩
def hs_grid_Check_c1 : List Keep := []
@[reducible] noncomputable def env_grid_Check_c1 : Env := [(106, ⟨sig_grid_meets, F_grid_meets⟩)]
theorem ok_grid_Check_c1 : fnOk os_grid_Check_c1 sig_grid_Check_c1 Tryd.f105 = true := by kernel_rfl
theorem fn_grid_Check_c1 : P.funcs[105]? = some Tryd.f105 := by kernel_rfl
noncomputable def F_grid_Check_c1 : sig_grid_Check_c1.Fn := fun x y => run T (env_grid_Check_c1) os_grid_Check_c1 sig_grid_Check_c1 Tryd.f105 hs_grid_Check_c1 big x y
theorem S_grid_Check_c1 : Sound P 105 ⟨sig_grid_Check_c1, F_grid_Check_c1⟩ := sound_of (os := os_grid_Check_c1) (hs := hs_grid_Check_c1) (env_cons S_grid_meets (env_nil)) fn_grid_Check_c1 ok_grid_Check_c1 (fun x y out h => ⟨big, h⟩)
def sig_slices_IndexFunc_Rect_grid_Check_c1 : Sig := ⟨[.v false (.list YRect), .f 105 [0]], [[.fr (.int .i64), .fr (.int .i64), .fr (.int .i64), .fr (.int .i64)]], [(false, [.fr (.int .i64)])]⟩
def os_slices_IndexFunc_Rect_grid_Check_c1 : RegT := ⟨[], [], false⟩
def hs_slices_IndexFunc_Rect_grid_Check_c1 : List Keep := [[(0, []), (1, []), (7, []), (8, []), (19, [])]]
@[reducible] noncomputable def env_slices_IndexFunc_Rect_grid_Check_c1 : Env := [(105, ⟨sig_grid_Check_c1, F_grid_Check_c1⟩)]
theorem ok_slices_IndexFunc_Rect_grid_Check_c1 : fnOk os_slices_IndexFunc_Rect_grid_Check_c1 sig_slices_IndexFunc_Rect_grid_Check_c1 Tryd.f124 = true := by kernel_rfl
theorem fn_slices_IndexFunc_Rect_grid_Check_c1 : P.funcs[124]? = some Tryd.f124 := by kernel_rfl
noncomputable def F_slices_IndexFunc_Rect_grid_Check_c1 : sig_slices_IndexFunc_Rect_grid_Check_c1.Fn := fun x y => run T (env_slices_IndexFunc_Rect_grid_Check_c1) os_slices_IndexFunc_Rect_grid_Check_c1 sig_slices_IndexFunc_Rect_grid_Check_c1 Tryd.f124 hs_slices_IndexFunc_Rect_grid_Check_c1 big x y
theorem S_slices_IndexFunc_Rect_grid_Check_c1 : Sound P 124 ⟨sig_slices_IndexFunc_Rect_grid_Check_c1, F_slices_IndexFunc_Rect_grid_Check_c1⟩ := sound_of (os := os_slices_IndexFunc_Rect_grid_Check_c1) (hs := hs_slices_IndexFunc_Rect_grid_Check_c1) (env_cons S_grid_Check_c1 (env_nil)) fn_slices_IndexFunc_Rect_grid_Check_c1 ok_slices_IndexFunc_Rect_grid_Check_c1 (fun x y out h => ⟨big, h⟩)
def sig_slices_ContainsFunc_Rect_grid_Check_c1 : Sig := ⟨[.v false (.list YRect), .f 105 [0]], [[.fr (.int .i64), .fr (.int .i64), .fr (.int .i64), .fr (.int .i64)]], [(false, [.fr .bool])]⟩
def os_slices_ContainsFunc_Rect_grid_Check_c1 : RegT := ⟨[], [], false⟩
def hs_slices_ContainsFunc_Rect_grid_Check_c1 : List Keep := []
@[reducible] noncomputable def env_slices_ContainsFunc_Rect_grid_Check_c1 : Env := [(124, ⟨sig_slices_IndexFunc_Rect_grid_Check_c1, F_slices_IndexFunc_Rect_grid_Check_c1⟩)]
theorem ok_slices_ContainsFunc_Rect_grid_Check_c1 : fnOk os_slices_ContainsFunc_Rect_grid_Check_c1 sig_slices_ContainsFunc_Rect_grid_Check_c1 Tryd.f104 = true := by kernel_rfl
theorem fn_slices_ContainsFunc_Rect_grid_Check_c1 : P.funcs[104]? = some Tryd.f104 := by kernel_rfl
noncomputable def F_slices_ContainsFunc_Rect_grid_Check_c1 : sig_slices_ContainsFunc_Rect_grid_Check_c1.Fn := fun x y => run T (env_slices_ContainsFunc_Rect_grid_Check_c1) os_slices_ContainsFunc_Rect_grid_Check_c1 sig_slices_ContainsFunc_Rect_grid_Check_c1 Tryd.f104 hs_slices_ContainsFunc_Rect_grid_Check_c1 big x y
theorem S_slices_ContainsFunc_Rect_grid_Check_c1 : Sound P 104 ⟨sig_slices_ContainsFunc_Rect_grid_Check_c1, F_slices_ContainsFunc_Rect_grid_Check_c1⟩ := sound_of (os := os_slices_ContainsFunc_Rect_grid_Check_c1) (hs := hs_slices_ContainsFunc_Rect_grid_Check_c1) (env_cons S_slices_IndexFunc_Rect_grid_Check_c1 (env_nil)) fn_slices_ContainsFunc_Rect_grid_Check_c1 ok_slices_ContainsFunc_Rect_grid_Check_c1 (fun x y out h => ⟨big, h⟩)
def sig_grid_Check : Sig := ⟨[.v true YGrid], [], [(false, [.fr (.int .i64)])]⟩
def C_grid_Check (F : sig_grid_Check.Fn) (a0 : YGrid.den) : Option sig_grid_Check.Out := F (a0, ()) ()
def res_grid_Check_0 (r : sig_grid_Check.Out) : Int := r.1.1.1
def os_grid_Check : RegT := ⟨[(13, .st 0 (.st 1 (.st 2 (.st 3 (.st 5 (.st 6 (.st 4 (.st 7 (.st 8 (.st 9 (.st 10 (.st 11 (.st 12 (.st 13 (.nil)))))))))))))))], [], false⟩
def hs_grid_Check : List Keep := [[(1, []), (35, []), (36, []), (37, [])]]
@[reducible] noncomputable def env_grid_Check : Env := [(101, ⟨sig_grid_cells, F_grid_cells⟩), (102, ⟨sig_grid_inside, F_grid_inside⟩), (103, ⟨sig_grid_before, F_grid_before⟩), (104, ⟨sig_slices_ContainsFunc_Rect_grid_Check_c1, F_slices_ContainsFunc_Rect_grid_Check_c1⟩)]
theorem ok_grid_Check : fnOk os_grid_Check sig_grid_Check Tryd.f77 = true := by kernel_rfl
theorem fn_grid_Check : P.funcs[77]? = some Tryd.f77 := by kernel_rfl
noncomputable def F_grid_Check : sig_grid_Check.Fn := fun x y => run T (env_grid_Check) os_grid_Check sig_grid_Check Tryd.f77 hs_grid_Check big x y
theorem S_grid_Check : Sound P 77 ⟨sig_grid_Check, F_grid_Check⟩ := sound_of (os := os_grid_Check) (hs := hs_grid_Check) (env_cons S_grid_cells (env_cons S_grid_inside (env_cons S_grid_before (env_cons S_slices_ContainsFunc_Rect_grid_Check_c1 (env_nil))))) fn_grid_Check ok_grid_Check (fun x y out h => ⟨big, h⟩)
end Go.Ev
