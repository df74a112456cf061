/- Functions, step by step. -/
import Derived.Test.YtpmeeopafdgbpaaDoorGGridS
namespace Go.Ev
set_option linter.unusedVariables false
set_option maxRecDepth 100000
open Go.Proofs
def sig_grid_Text : Sig := ⟨[.v false .str], [], [(false, [.fr .bool])]⟩
def C_grid_Text (F : sig_grid_Text.Fn) (a0 : List UInt8) : Option sig_grid_Text.Out := F (a0, ()) ()
def ret_grid_Text (v0 : Bool) : sig_grid_Text.Out := (((v0, ()), ()), ())
def res_grid_Text_0 (r : sig_grid_Text.Out) : Bool := r.1.1.1
@[simp] theorem res_grid_Text_0_ret (v0 : Bool) : res_grid_Text_0 (ret_grid_Text v0) = v0 := rfl
def os_grid_Text : RegT := ⟨[], [], false⟩
def hs_grid_Text : List Keep := [[(0, [])]]
@[reducible] noncomputable def env_grid_Text : Env := [(38, ⟨sig_unicode_utf8_DecodeRuneInString, F_unicode_utf8_DecodeRuneInString⟩), (39, ⟨sig_flow_Char, F_flow_Char⟩)]
noncomputable def L_grid_Text_0 (n m1 : Nat) (x0 : List UInt8) : Option sig_grid_Text.Out :=
  loopAt T (env_grid_Text) os_grid_Text sig_grid_Text Tryd.f14 hs_grid_Text n [.sr, .sl, .bl] m1 (mk 31 [(0, .cs false [.val .str x0])])
theorem L_grid_Text_0_step (n m1 : Nat) (x0 : List UInt8) : L_grid_Text_0 n (m1 + 1) x0 =
  (bcond (!((x0 : List UInt8) == []))
   ((C_unicode_utf8_DecodeRuneInString F_unicode_utf8_DecodeRuneInString x0).bind fun r1 =>
    (bcond ((((res_unicode_utf8_DecodeRuneInString_0 r1) : Int) == 65533) == true)
     (bcond ((((res_unicode_utf8_DecodeRuneInString_1 r1) : Int) == 1) == false)
      (bcond ((((res_unicode_utf8_DecodeRuneInString_0 r1) : Int) == 10) == false)
       ((C_flow_Char F_flow_Char (IntKind.i64.wrap (res_unicode_utf8_DecodeRuneInString_0 r1))).bind fun r2 =>
        (bcond (!(res_flow_Char_0 r2))
         (some (ret_grid_Text false))
         (if 0 ≤ ((List.length x0 : Int) : Int) ∧ ((List.length x0 : Int) : Int) ≤ (List.length x0 : Int) ∧ 0 ≤ ((res_unicode_utf8_DecodeRuneInString_1 r1) : Int) ∧ ((res_unicode_utf8_DecodeRuneInString_1 r1) : Int) ≤ (List.length x0 : Int) then
          (L_grid_Text_0 n m1 (List.drop (Int.toNat (res_unicode_utf8_DecodeRuneInString_1 r1)) (List.take (Int.toNat (List.length x0 : Int)) x0)))
         else none)))
       (some (ret_grid_Text false)))
      (some (ret_grid_Text false)))
     (bcond ((((res_unicode_utf8_DecodeRuneInString_0 r1) : Int) == 10) == false)
      ((C_flow_Char F_flow_Char (IntKind.i64.wrap (res_unicode_utf8_DecodeRuneInString_0 r1))).bind fun r2 =>
       (bcond (!(res_flow_Char_0 r2))
        (some (ret_grid_Text false))
        (if 0 ≤ ((List.length x0 : Int) : Int) ∧ ((List.length x0 : Int) : Int) ≤ (List.length x0 : Int) ∧ 0 ≤ ((res_unicode_utf8_DecodeRuneInString_1 r1) : Int) ∧ ((res_unicode_utf8_DecodeRuneInString_1 r1) : Int) ≤ (List.length x0 : Int) then
         (L_grid_Text_0 n m1 (List.drop (Int.toNat (res_unicode_utf8_DecodeRuneInString_1 r1)) (List.take (Int.toNat (List.length x0 : Int)) x0)))
        else none)))
      (some (ret_grid_Text false)))))
   (some (ret_grid_Text true))) := by kernel_rfl
theorem ok_grid_Text : fnOk os_grid_Text sig_grid_Text Tryd.f14 = true := by kernel_rfl
theorem fn_grid_Text : P.funcs[14]? = some Tryd.f14 := by kernel_rfl
noncomputable def F_grid_Text : sig_grid_Text.Fn := fun x y => run T (env_grid_Text) os_grid_Text sig_grid_Text Tryd.f14 hs_grid_Text big x y
theorem S_grid_Text : Sound P 14 ⟨sig_grid_Text, F_grid_Text⟩ := sound_of (os := os_grid_Text) (hs := hs_grid_Text) (env_cons S_unicode_utf8_DecodeRuneInString (env_cons S_flow_Char (env_nil))) fn_grid_Text ok_grid_Text (fun x y out h => ⟨big, h⟩)
theorem e_grid_Text (a0 : List UInt8) : C_grid_Text F_grid_Text a0 =
  (L_grid_Text_0 big big a0) := by kernel_rfl
def sig_grid_empty : Sig := ⟨[.v true YCell], [], [(false, [.fr .bool])]⟩
def C_grid_empty (F : sig_grid_empty.Fn) (a0 : YCell.den) : Option sig_grid_empty.Out := F (a0, ()) ()
def ret_grid_empty (v0 : Bool) : sig_grid_empty.Out := (((v0, ()), ()), ())
def res_grid_empty_0 (r : sig_grid_empty.Out) : Bool := r.1.1.1
@[simp] theorem res_grid_empty_0_ret (v0 : Bool) : res_grid_empty_0 (ret_grid_empty v0) = v0 := rfl
def os_grid_empty : RegT := ⟨[], [], false⟩
def hs_grid_empty : List Keep := []
@[reducible] noncomputable def env_grid_empty : Env := []
theorem ok_grid_empty : fnOk os_grid_empty sig_grid_empty Tryd.f69 = true := by kernel_rfl
theorem fn_grid_empty : P.funcs[69]? = some Tryd.f69 := by kernel_rfl
noncomputable def F_grid_empty : sig_grid_empty.Fn := fun x y => run T (env_grid_empty) os_grid_empty sig_grid_empty Tryd.f69 hs_grid_empty big x y
theorem S_grid_empty : Sound P 69 ⟨sig_grid_empty, F_grid_empty⟩ := sound_of (os := os_grid_empty) (hs := hs_grid_empty) (env_nil) fn_grid_empty ok_grid_empty (fun x y out h => ⟨big, h⟩)
theorem e_grid_empty (a0 : YCell.den) : C_grid_empty F_grid_empty a0 =
  (bcond (((a0.2.2.1 : List UInt8) == []) == true)
   (bcond (((a0.2.2.2.1 : Int) == 0) == true)
    (some (ret_grid_empty (((List.length a0.2.2.2.2 : Int) : Int) == 0)))
    (some (ret_grid_empty false)))
   (some (ret_grid_empty false))) := by kernel_rfl
def sig_cmp_isNaN_int : Sig := ⟨[.v false (.int .i64)], [], [(false, [.fr .bool])]⟩
def C_cmp_isNaN_int (F : sig_cmp_isNaN_int.Fn) (a0 : Int) : Option sig_cmp_isNaN_int.Out := F (a0, ()) ()
def ret_cmp_isNaN_int (v0 : Bool) : sig_cmp_isNaN_int.Out := (((v0, ()), ()), ())
def res_cmp_isNaN_int_0 (r : sig_cmp_isNaN_int.Out) : Bool := r.1.1.1
@[simp] theorem res_cmp_isNaN_int_0_ret (v0 : Bool) : res_cmp_isNaN_int_0 (ret_cmp_isNaN_int v0) = v0 := rfl
def os_cmp_isNaN_int : RegT := ⟨[], [], false⟩
def hs_cmp_isNaN_int : List Keep := []
@[reducible] noncomputable def env_cmp_isNaN_int : Env := []
theorem ok_cmp_isNaN_int : fnOk os_cmp_isNaN_int sig_cmp_isNaN_int Tryd.f79 = true := by kernel_rfl
theorem fn_cmp_isNaN_int : P.funcs[79]? = some Tryd.f79 := by kernel_rfl
noncomputable def F_cmp_isNaN_int : sig_cmp_isNaN_int.Fn := fun x y => run T (env_cmp_isNaN_int) os_cmp_isNaN_int sig_cmp_isNaN_int Tryd.f79 hs_cmp_isNaN_int big x y
theorem S_cmp_isNaN_int : Sound P 79 ⟨sig_cmp_isNaN_int, F_cmp_isNaN_int⟩ := sound_of (os := os_cmp_isNaN_int) (hs := hs_cmp_isNaN_int) (env_nil) fn_cmp_isNaN_int ok_cmp_isNaN_int (fun x y out h => ⟨big, h⟩)
theorem e_cmp_isNaN_int (a0 : Int) : C_cmp_isNaN_int F_cmp_isNaN_int a0 =
  (some (ret_cmp_isNaN_int ((a0 : Int) != a0))) := by kernel_rfl
def sig_cmp_Compare_int : Sig := ⟨[.v false (.int .i64), .v false (.int .i64)], [], [(false, [.fr (.int .i64)])]⟩
def C_cmp_Compare_int (F : sig_cmp_Compare_int.Fn) (a0 : Int) (a1 : Int) : Option sig_cmp_Compare_int.Out := F (a0, a1, ()) ()
def ret_cmp_Compare_int (v0 : Int) : sig_cmp_Compare_int.Out := (((v0, ()), ()), ())
def res_cmp_Compare_int_0 (r : sig_cmp_Compare_int.Out) : Int := r.1.1.1
@[simp] theorem res_cmp_Compare_int_0_ret (v0 : Int) : res_cmp_Compare_int_0 (ret_cmp_Compare_int v0) = v0 := rfl
def os_cmp_Compare_int : RegT := ⟨[], [], false⟩
def hs_cmp_Compare_int : List Keep := []
@[reducible] noncomputable def env_cmp_Compare_int : Env := [(79, ⟨sig_cmp_isNaN_int, F_cmp_isNaN_int⟩)]
theorem ok_cmp_Compare_int : fnOk os_cmp_Compare_int sig_cmp_Compare_int Tryd.f62 = true := by kernel_rfl
theorem fn_cmp_Compare_int : P.funcs[62]? = some Tryd.f62 := by kernel_rfl
noncomputable def F_cmp_Compare_int : sig_cmp_Compare_int.Fn := fun x y => run T (env_cmp_Compare_int) os_cmp_Compare_int sig_cmp_Compare_int Tryd.f62 hs_cmp_Compare_int big x y
theorem S_cmp_Compare_int : Sound P 62 ⟨sig_cmp_Compare_int, F_cmp_Compare_int⟩ := sound_of (os := os_cmp_Compare_int) (hs := hs_cmp_Compare_int) (env_cons S_cmp_isNaN_int (env_nil)) fn_cmp_Compare_int ok_cmp_Compare_int (fun x y out h => ⟨big, h⟩)
theorem e_cmp_Compare_int (a0 : Int) (a1 : Int) : C_cmp_Compare_int F_cmp_Compare_int a0 a1 =
  ((C_cmp_isNaN_int F_cmp_isNaN_int a0).bind fun r1 =>
   ((C_cmp_isNaN_int F_cmp_isNaN_int a1).bind fun r2 =>
    (bcond (res_cmp_isNaN_int_0 r1)
     (bcond (res_cmp_isNaN_int_0 r2)
      (some (ret_cmp_Compare_int 0))
      (some (ret_cmp_Compare_int (-1))))
     (bcond (res_cmp_isNaN_int_0 r2)
      (some (ret_cmp_Compare_int 1))
      (bcond (decide ((a0 : Int) < a1))
       (some (ret_cmp_Compare_int (-1)))
       (bcond (decide ((a0 : Int) > a1))
        (some (ret_cmp_Compare_int 1))
        (some (ret_cmp_Compare_int 0)))))))) := by kernel_rfl
def sig_cmp_Or_int : Sig := ⟨[.v false (.list (.int .i64))], [], [(false, [.fr (.int .i64)])]⟩
def C_cmp_Or_int (F : sig_cmp_Or_int.Fn) (a0 : List (Int)) : Option sig_cmp_Or_int.Out := F (a0, ()) ()
def ret_cmp_Or_int (v0 : Int) : sig_cmp_Or_int.Out := (((v0, ()), ()), ())
def res_cmp_Or_int_0 (r : sig_cmp_Or_int.Out) : Int := r.1.1.1
@[simp] theorem res_cmp_Or_int_0_ret (v0 : Int) : res_cmp_Or_int_0 (ret_cmp_Or_int v0) = v0 := rfl
def os_cmp_Or_int : RegT := ⟨[], [], false⟩
def hs_cmp_Or_int : List Keep := [[(3, []), (6, []), (7, []), (8, [])]]
@[reducible] noncomputable def env_cmp_Or_int : Env := []
noncomputable def L_cmp_Or_int_0 (n m1 : Nat) (x3 : Int) (x6 : List (Int)) (x7 : Int) (x8 : Int) : Option sig_cmp_Or_int.Out :=
  loopAt T (env_cmp_Or_int) os_cmp_Or_int sig_cmp_Or_int Tryd.f61 hs_cmp_Or_int n [.sr, .sr, .sl, .sr, .bl] m1 (mk 18 [(3, .cs false [.val (.int .i64) x3]), (6, .cs false [.val (.list (.int .i64)) x6]), (7, .cs false [.val (.int .i64) x7]), (8, .cs false [.val (.int .i64) x8])])
theorem L_cmp_Or_int_0_step (n m1 : Nat) (x3 : Int) (x6 : List (Int)) (x7 : Int) (x8 : Int) : L_cmp_Or_int_0 n (m1 + 1) x3 x6 x7 x8 =
  (bcond (decide ((x8 : Int) < x7))
   (if 0 ≤ (x8 : Int) ∧ (x8 : Int) < (List.length x6 : Int) then
    (bcond (((at_ (e := (.int .i64)) x6 x8) : Int) != x3)
     (some (ret_cmp_Or_int (at_ (e := (.int .i64)) x6 x8)))
     (L_cmp_Or_int_0 n m1 x3 x6 x7 (IntKind.i64.wrap (x8 + 1))))
   else none)
   (some (ret_cmp_Or_int x3))) := by kernel_rfl
theorem ok_cmp_Or_int : fnOk os_cmp_Or_int sig_cmp_Or_int Tryd.f61 = true := by kernel_rfl
theorem fn_cmp_Or_int : P.funcs[61]? = some Tryd.f61 := by kernel_rfl
noncomputable def F_cmp_Or_int : sig_cmp_Or_int.Fn := fun x y => run T (env_cmp_Or_int) os_cmp_Or_int sig_cmp_Or_int Tryd.f61 hs_cmp_Or_int big x y
theorem S_cmp_Or_int : Sound P 61 ⟨sig_cmp_Or_int, F_cmp_Or_int⟩ := sound_of (os := os_cmp_Or_int) (hs := hs_cmp_Or_int) (env_nil) fn_cmp_Or_int ok_cmp_Or_int (fun x y out h => ⟨big, h⟩)
theorem e_cmp_Or_int (a0 : List (Int)) : C_cmp_Or_int F_cmp_Or_int a0 =
  (L_cmp_Or_int_0 big big 0 a0 (List.length a0 : Int) 0) := by kernel_rfl
def sig_grid_order : Sig := ⟨[.v true YCell, .v true YCell], [], [(false, [.fr (.int .i64)])]⟩
def C_grid_order (F : sig_grid_order.Fn) (a0 : YCell.den) (a1 : YCell.den) : Option sig_grid_order.Out := F (a0, a1, ()) ()
def ret_grid_order (v0 : Int) : sig_grid_order.Out := (((v0, ()), ()), ())
def res_grid_order_0 (r : sig_grid_order.Out) : Int := r.1.1.1
@[simp] theorem res_grid_order_0_ret (v0 : Int) : res_grid_order_0 (ret_grid_order v0) = v0 := rfl
def os_grid_order : RegT := ⟨[(1, .st 0 (.st 2 (.st 5 (.st 7 (.st 1 (.st 3 (.grp [6, 8, 4] (.st 9 (.st 10 (.st 11 (.st 12 (.nil))))))))))))], [], false⟩
def hs_grid_order : List Keep := []
@[reducible] noncomputable def env_grid_order : Env := [(62, ⟨sig_cmp_Compare_int, F_cmp_Compare_int⟩), (61, ⟨sig_cmp_Or_int, F_cmp_Or_int⟩)]
theorem ok_grid_order : fnOk os_grid_order sig_grid_order Tryd.f70 = true := by kernel_rfl
theorem fn_grid_order : P.funcs[70]? = some Tryd.f70 := by kernel_rfl
noncomputable def F_grid_order : sig_grid_order.Fn := fun x y => run T (env_grid_order) os_grid_order sig_grid_order Tryd.f70 hs_grid_order big x y
theorem S_grid_order : Sound P 70 ⟨sig_grid_order, F_grid_order⟩ := sound_of (os := os_grid_order) (hs := hs_grid_order) (env_cons S_cmp_Compare_int (env_cons S_cmp_Or_int (env_nil))) fn_grid_order ok_grid_order (fun x y out h => ⟨big, h⟩)
theorem e_grid_order (a0 : YCell.den) (a1 : YCell.den) : C_grid_order F_grid_order a0 a1 =
  ((C_cmp_Compare_int F_cmp_Compare_int a0.1 a1.1).bind fun r1 =>
   ((C_cmp_Compare_int F_cmp_Compare_int a0.2.1 a1.2.1).bind fun r2 =>
    ((C_cmp_Or_int F_cmp_Or_int [(res_cmp_Compare_int_0 r1), (res_cmp_Compare_int_0 r2)]).bind fun r3 =>
     (some (ret_grid_order (res_cmp_Or_int_0 r3)))))) := by kernel_rfl
def sig_grid_cells : Sig := ⟨[.v false (.list YCell), .v false (.int .i64), .v false (.int .i64), .v false .bool], [], [(false, [.fr (.int .i64)])]⟩
def C_grid_cells (F : sig_grid_cells.Fn) (a0 : List YCell.den) (a1 : Int) (a2 : Int) (a3 : Bool) : Option sig_grid_cells.Out := F (a0, a1, a2, a3, ()) ()
def ret_grid_cells (v0 : Int) : sig_grid_cells.Out := (((v0, ()), ()), ())
def res_grid_cells_0 (r : sig_grid_cells.Out) : Int := r.1.1.1
@[simp] theorem res_grid_cells_0_ret (v0 : Int) : res_grid_cells_0 (ret_grid_cells v0) = v0 := rfl
def os_grid_cells : RegT := ⟨[(15, .st 0 (.st 1 (.st 2 (.st 3 (.st 4 (.st 5 (.st 6 (.st 7 (.st 8 (.st 9 (.st 10 (.st 11 (.nil)))))))))))))], [], false⟩
def hs_grid_cells : List Keep := [[(0, []), (1, []), (2, []), (3, []), (12, []), (13, []), (14, [])]]
@[reducible] noncomputable def env_grid_cells : Env := [(14, ⟨sig_grid_Text, F_grid_Text⟩), (68, ⟨sig_attr_Check, F_attr_Check⟩), (69, ⟨sig_grid_empty, F_grid_empty⟩), (70, ⟨sig_grid_order, F_grid_order⟩)]
noncomputable def L_grid_cells_0 (n m1 : Nat) (x0 : List YCell.den) (x1 : Int) (x2 : Int) (x3 : Bool) (x12 : List YCell.den) (x13 : Int) (x14 : Int) : Option sig_grid_cells.Out :=
  loopAt T (env_grid_cells) os_grid_cells sig_grid_cells Tryd.f42 hs_grid_cells n [.sr, .sl, .sr, .bl] m1 (mk 79 [(0, .cs false [.val (.list YCell) x0]), (1, .cs false [.val (.int .i64) x1]), (2, .cs false [.val (.int .i64) x2]), (3, .cs false [.val .bool x3]), (12, .cs false [.val (.list YCell) x12]), (13, .cs false [.val (.int .i64) x13]), (14, .cs false [.val (.int .i64) x14])])
theorem L_grid_cells_0_step (n m1 : Nat) (x0 : List YCell.den) (x1 : Int) (x2 : Int) (x3 : Bool) (x12 : List YCell.den) (x13 : Int) (x14 : Int) : L_grid_cells_0 n (m1 + 1) x0 x1 x2 x3 x12 x13 x14 =
  (bcond (decide ((x14 : Int) < x13))
   (if 0 ≤ (x14 : Int) ∧ (x14 : Int) < (List.length x12 : Int) then
    (bcond ((decide (((at_ (e := YCell) x12 x14).1 : Int) < 0)) == false)
     (bcond ((decide (((at_ (e := YCell) x12 x14).1 : Int) ≥ x1)) == false)
      (bcond ((decide (((at_ (e := YCell) x12 x14).2.1 : Int) < 0)) == false)
       (bcond (decide (((at_ (e := YCell) x12 x14).2.1 : Int) ≥ x2))
        (some (ret_grid_cells 2))
        (bcond ((decide (((at_ (e := YCell) x12 x14).2.2.2.1 : Int) < 0)) == false)
         (bcond (decide (((at_ (e := YCell) x12 x14).2.2.2.1 : Int) > 1073741824))
          (some (ret_grid_cells 2))
          ((C_grid_Text F_grid_Text (at_ (e := YCell) x12 x14).2.2.1).bind fun r1 =>
           (bcond (!(res_grid_Text_0 r1))
            (some (ret_grid_cells 23))
            ((C_attr_Check F_attr_Check (at_ (e := YCell) x12 x14).2.2.2.2).bind fun r2 =>
             (bcond (((res_attr_Check_0 r2) : Int) != 0)
              (some (ret_grid_cells (res_attr_Check_0 r2)))
              ((C_grid_empty F_grid_empty (at_ (e := YCell) x12 x14)).bind fun r3 =>
               (bcond ((res_grid_empty_0 r3) == true)
                (bcond (!x3)
                 (some (ret_grid_cells 4))
                 (bcond ((decide ((x14 : Int) > 0)) == true)
                  (if 0 ≤ ((IntKind.i64.wrap (x14 - 1)) : Int) ∧ ((IntKind.i64.wrap (x14 - 1)) : Int) < (List.length x0 : Int) then
                   ((C_grid_order F_grid_order (at_ (e := YCell) x0 (IntKind.i64.wrap (x14 - 1))) (at_ (e := YCell) x12 x14)).bind fun r4 =>
                    (bcond (decide (((res_grid_order_0 r4) : Int) ≥ 0))
                     (some (ret_grid_cells 5))
                     (L_grid_cells_0 n m1 x0 x1 x2 x3 x12 x13 (IntKind.i64.wrap (x14 + 1)))))
                  else none)
                  (L_grid_cells_0 n m1 x0 x1 x2 x3 x12 x13 (IntKind.i64.wrap (x14 + 1)))))
                (bcond ((decide ((x14 : Int) > 0)) == true)
                 (if 0 ≤ ((IntKind.i64.wrap (x14 - 1)) : Int) ∧ ((IntKind.i64.wrap (x14 - 1)) : Int) < (List.length x0 : Int) then
                  ((C_grid_order F_grid_order (at_ (e := YCell) x0 (IntKind.i64.wrap (x14 - 1))) (at_ (e := YCell) x12 x14)).bind fun r4 =>
                   (bcond (decide (((res_grid_order_0 r4) : Int) ≥ 0))
                    (some (ret_grid_cells 5))
                    (L_grid_cells_0 n m1 x0 x1 x2 x3 x12 x13 (IntKind.i64.wrap (x14 + 1)))))
                 else none)
                 (L_grid_cells_0 n m1 x0 x1 x2 x3 x12 x13 (IntKind.i64.wrap (x14 + 1)))))))))))
         (some (ret_grid_cells 2))))
       (some (ret_grid_cells 2)))
      (some (ret_grid_cells 2)))
     (some (ret_grid_cells 2)))
   else none)
   (some (ret_grid_cells 0))) := by kernel_rfl
theorem ok_grid_cells : fnOk os_grid_cells sig_grid_cells Tryd.f42 = true := by kernel_rfl
theorem fn_grid_cells : P.funcs[42]? = some Tryd.f42 := by kernel_rfl
noncomputable def F_grid_cells : sig_grid_cells.Fn := fun x y => run T (env_grid_cells) os_grid_cells sig_grid_cells Tryd.f42 hs_grid_cells big x y
theorem S_grid_cells : Sound P 42 ⟨sig_grid_cells, F_grid_cells⟩ := sound_of (os := os_grid_cells) (hs := hs_grid_cells) (env_cons S_grid_Text (env_cons S_attr_Check (env_cons S_grid_empty (env_cons S_grid_order (env_nil))))) fn_grid_cells ok_grid_cells (fun x y out h => ⟨big, h⟩)
theorem e_grid_cells (a0 : List YCell.den) (a1 : Int) (a2 : Int) (a3 : Bool) : C_grid_cells F_grid_cells a0 a1 a2 a3 =
  (L_grid_cells_0 big big a0 a1 a2 a3 a0 (List.length a0 : Int) 0) := by kernel_rfl
def sig_grid_inside : Sig := ⟨[.v true YRect, .v false (.int .i64), .v false (.int .i64)], [], [(false, [.fr .bool])]⟩
def C_grid_inside (F : sig_grid_inside.Fn) (a0 : YRect.den) (a1 : Int) (a2 : Int) : Option sig_grid_inside.Out := F (a0, a1, a2, ()) ()
def ret_grid_inside (v0 : Bool) : sig_grid_inside.Out := (((v0, ()), ()), ())
def res_grid_inside_0 (r : sig_grid_inside.Out) : Bool := r.1.1.1
@[simp] theorem res_grid_inside_0_ret (v0 : Bool) : res_grid_inside_0 (ret_grid_inside v0) = v0 := rfl
def os_grid_inside : RegT := ⟨[], [], false⟩
def hs_grid_inside : List Keep := []
@[reducible] noncomputable def env_grid_inside : Env := []
theorem ok_grid_inside : fnOk os_grid_inside sig_grid_inside Tryd.f43 = true := by kernel_rfl
theorem fn_grid_inside : P.funcs[43]? = some Tryd.f43 := by kernel_rfl
noncomputable def F_grid_inside : sig_grid_inside.Fn := fun x y => run T (env_grid_inside) os_grid_inside sig_grid_inside Tryd.f43 hs_grid_inside big x y
theorem S_grid_inside : Sound P 43 ⟨sig_grid_inside, F_grid_inside⟩ := sound_of (os := os_grid_inside) (hs := hs_grid_inside) (env_nil) fn_grid_inside ok_grid_inside (fun x y out h => ⟨big, h⟩)
theorem e_grid_inside (a0 : YRect.den) (a1 : Int) (a2 : Int) : C_grid_inside F_grid_inside a0 a1 a2 =
  (bcond ((decide ((a0.1 : Int) ≥ 0)) == true)
   (bcond ((decide ((a0.2.1 : Int) ≥ 0)) == true)
    (bcond ((decide ((a0.2.2.1 : Int) ≥ 1)) == true)
     (bcond ((decide ((a0.2.2.2 : Int) ≥ 1)) == true)
      (bcond ((decide ((a0.1 : Int) < a1)) == true)
       (bcond ((decide ((a0.2.1 : Int) < a2)) == true)
        (bcond ((decide ((a0.2.2.1 : Int) ≤ (IntKind.i64.wrap (a1 - a0.1)))) == true)
         (some (ret_grid_inside (decide ((a0.2.2.2 : Int) ≤ (IntKind.i64.wrap (a2 - a0.2.1))))))
         (some (ret_grid_inside false)))
        (some (ret_grid_inside false)))
       (some (ret_grid_inside false)))
      (some (ret_grid_inside false)))
     (some (ret_grid_inside false)))
    (some (ret_grid_inside false)))
   (some (ret_grid_inside false))) := by kernel_rfl
def sig_grid_before : Sig := ⟨[.v true YRect, .v true YRect], [], [(false, [.fr .bool])]⟩
def C_grid_before (F : sig_grid_before.Fn) (a0 : YRect.den) (a1 : YRect.den) : Option sig_grid_before.Out := F (a0, a1, ()) ()
def ret_grid_before (v0 : Bool) : sig_grid_before.Out := (((v0, ()), ()), ())
def res_grid_before_0 (r : sig_grid_before.Out) : Bool := r.1.1.1
@[simp] theorem res_grid_before_0_ret (v0 : Bool) : res_grid_before_0 (ret_grid_before v0) = v0 := rfl
def os_grid_before : RegT := ⟨[], [], false⟩
def hs_grid_before : List Keep := []
@[reducible] noncomputable def env_grid_before : Env := []
theorem ok_grid_before : fnOk os_grid_before sig_grid_before Tryd.f44 = true := by kernel_rfl
theorem fn_grid_before : P.funcs[44]? = some Tryd.f44 := by kernel_rfl
noncomputable def F_grid_before : sig_grid_before.Fn := fun x y => run T (env_grid_before) os_grid_before sig_grid_before Tryd.f44 hs_grid_before big x y
theorem S_grid_before : Sound P 44 ⟨sig_grid_before, F_grid_before⟩ := sound_of (os := os_grid_before) (hs := hs_grid_before) (env_nil) fn_grid_before ok_grid_before (fun x y out h => ⟨big, h⟩)
theorem e_grid_before (a0 : YRect.den) (a1 : YRect.den) : C_grid_before F_grid_before a0 a1 =
  (bcond ((decide ((a0.1 : Int) < a1.1)) == false)
   (bcond (((a0.1 : Int) == a1.1) == true)
    (some (ret_grid_before (decide ((a0.2.1 : Int) < a1.2.1))))
    (some (ret_grid_before false)))
   (some (ret_grid_before true))) := by kernel_rfl
def sig_grid_meets : Sig := ⟨[.v true YRect, .v true YRect], [], [(false, [.fr .bool])]⟩
def C_grid_meets (F : sig_grid_meets.Fn) (a0 : YRect.den) (a1 : YRect.den) : Option sig_grid_meets.Out := F (a0, a1, ()) ()
def ret_grid_meets (v0 : Bool) : sig_grid_meets.Out := (((v0, ()), ()), ())
def res_grid_meets_0 (r : sig_grid_meets.Out) : Bool := r.1.1.1
@[simp] theorem res_grid_meets_0_ret (v0 : Bool) : res_grid_meets_0 (ret_grid_meets v0) = v0 := rfl
def os_grid_meets : RegT := ⟨[], [], false⟩
def hs_grid_meets : List Keep := []
@[reducible] noncomputable def env_grid_meets : Env := []
theorem ok_grid_meets : fnOk os_grid_meets sig_grid_meets Tryd.f47 = true := by kernel_rfl
theorem fn_grid_meets : P.funcs[47]? = some Tryd.f47 := by kernel_rfl
noncomputable def F_grid_meets : sig_grid_meets.Fn := fun x y => run T (env_grid_meets) os_grid_meets sig_grid_meets Tryd.f47 hs_grid_meets big x y
theorem S_grid_meets : Sound P 47 ⟨sig_grid_meets, F_grid_meets⟩ := sound_of (os := os_grid_meets) (hs := hs_grid_meets) (env_nil) fn_grid_meets ok_grid_meets (fun x y out h => ⟨big, h⟩)
theorem e_grid_meets (a0 : YRect.den) (a1 : YRect.den) : C_grid_meets F_grid_meets a0 a1 =
  (bcond ((decide ((a0.1 : Int) < (IntKind.i64.wrap (a1.1 + a1.2.2.1)))) == true)
   (bcond ((decide ((a1.1 : Int) < (IntKind.i64.wrap (a0.1 + a0.2.2.1)))) == true)
    (bcond ((decide ((a0.2.1 : Int) < (IntKind.i64.wrap (a1.2.1 + a1.2.2.2)))) == true)
     (some (ret_grid_meets (decide ((a1.2.1 : Int) < (IntKind.i64.wrap (a0.2.1 + a0.2.2.2))))))
     (some (ret_grid_meets false)))
    (some (ret_grid_meets false)))
   (some (ret_grid_meets false))) := by kernel_rfl
def sig_grid_Check_c1 : Sig := ⟨[.v true YRect, .p 0], [[.fr (.int .i64), .fr (.int .i64), .fr (.int .i64), .fr (.int .i64)]], [(false, [.fr .bool])]⟩
def C_grid_Check_c1 (F : sig_grid_Check_c1.Fn) (a0 : YRect.den) (b0_0 : Int) (b0_1 : Int) (b0_2 : Int) (b0_3 : Int) : Option sig_grid_Check_c1.Out := F (a0, ()) ((b0_0, b0_1, b0_2, b0_3, ()), ())
def ret_grid_Check_c1 (v0 : Bool) (v1 : Int) (v2 : Int) (v3 : Int) (v4 : Int) : sig_grid_Check_c1.Out := (((v0, ()), ()), ((v1, v2, v3, v4, ()), ()))
def res_grid_Check_c1_0 (r : sig_grid_Check_c1.Out) : Bool := r.1.1.1
@[simp] theorem res_grid_Check_c1_0_ret (v0 : Bool) (v1 : Int) (v2 : Int) (v3 : Int) (v4 : Int) : res_grid_Check_c1_0 (ret_grid_Check_c1 v0 v1 v2 v3 v4) = v0 := rfl
def res_grid_Check_c1_1 (r : sig_grid_Check_c1.Out) : Int := r.2.1.1
@[simp] theorem res_grid_Check_c1_1_ret (v0 : Bool) (v1 : Int) (v2 : Int) (v3 : Int) (v4 : Int) : res_grid_Check_c1_1 (ret_grid_Check_c1 v0 v1 v2 v3 v4) = v1 := rfl
def res_grid_Check_c1_2 (r : sig_grid_Check_c1.Out) : Int := r.2.1.2.1
@[simp] theorem res_grid_Check_c1_2_ret (v0 : Bool) (v1 : Int) (v2 : Int) (v3 : Int) (v4 : Int) : res_grid_Check_c1_2 (ret_grid_Check_c1 v0 v1 v2 v3 v4) = v2 := rfl
def res_grid_Check_c1_3 (r : sig_grid_Check_c1.Out) : Int := r.2.1.2.2.1
@[simp] theorem res_grid_Check_c1_3_ret (v0 : Bool) (v1 : Int) (v2 : Int) (v3 : Int) (v4 : Int) : res_grid_Check_c1_3 (ret_grid_Check_c1 v0 v1 v2 v3 v4) = v3 := rfl
def res_grid_Check_c1_4 (r : sig_grid_Check_c1.Out) : Int := r.2.1.2.2.2.1
@[simp] theorem res_grid_Check_c1_4_ret (v0 : Bool) (v1 : Int) (v2 : Int) (v3 : Int) (v4 : Int) : res_grid_Check_c1_4 (ret_grid_Check_c1 v0 v1 v2 v3 v4) = v4 := rfl
def os_grid_Check_c1 : RegT := ⟨[], [], false⟩
def hs_grid_Check_c1 : List Keep := []
@[reducible] noncomputable def env_grid_Check_c1 : Env := [(47, ⟨sig_grid_meets, F_grid_meets⟩)]
theorem ok_grid_Check_c1 : fnOk os_grid_Check_c1 sig_grid_Check_c1 Tryd.f46 = true := by kernel_rfl
theorem fn_grid_Check_c1 : P.funcs[46]? = some Tryd.f46 := by kernel_rfl
noncomputable def F_grid_Check_c1 : sig_grid_Check_c1.Fn := fun x y => run T (env_grid_Check_c1) os_grid_Check_c1 sig_grid_Check_c1 Tryd.f46 hs_grid_Check_c1 big x y
theorem S_grid_Check_c1 : Sound P 46 ⟨sig_grid_Check_c1, F_grid_Check_c1⟩ := sound_of (os := os_grid_Check_c1) (hs := hs_grid_Check_c1) (env_cons S_grid_meets (env_nil)) fn_grid_Check_c1 ok_grid_Check_c1 (fun x y out h => ⟨big, h⟩)
theorem e_grid_Check_c1 (a0 : YRect.den) (b0_0 : Int) (b0_1 : Int) (b0_2 : Int) (b0_3 : Int) : C_grid_Check_c1 F_grid_Check_c1 a0 b0_0 b0_1 b0_2 b0_3 =
  ((C_grid_meets F_grid_meets a0 (b0_0, (b0_1, (b0_2, b0_3)))).bind fun r1 =>
   (some (ret_grid_Check_c1 (res_grid_meets_0 r1) b0_0 b0_1 b0_2 b0_3))) := by kernel_rfl
def sig_slices_IndexFunc_Rect_grid_Check_c1 : Sig := ⟨[.v false (.list YRect), .f 46 [0]], [[.fr (.int .i64), .fr (.int .i64), .fr (.int .i64), .fr (.int .i64)]], [(false, [.fr (.int .i64)])]⟩
def C_slices_IndexFunc_Rect_grid_Check_c1 (F : sig_slices_IndexFunc_Rect_grid_Check_c1.Fn) (a0 : List YRect.den) (b0_0 : Int) (b0_1 : Int) (b0_2 : Int) (b0_3 : Int) : Option sig_slices_IndexFunc_Rect_grid_Check_c1.Out := F (a0, ()) ((b0_0, b0_1, b0_2, b0_3, ()), ())
def ret_slices_IndexFunc_Rect_grid_Check_c1 (v0 : Int) (v1 : Int) (v2 : Int) (v3 : Int) (v4 : Int) : sig_slices_IndexFunc_Rect_grid_Check_c1.Out := (((v0, ()), ()), ((v1, v2, v3, v4, ()), ()))
def res_slices_IndexFunc_Rect_grid_Check_c1_0 (r : sig_slices_IndexFunc_Rect_grid_Check_c1.Out) : Int := r.1.1.1
@[simp] theorem res_slices_IndexFunc_Rect_grid_Check_c1_0_ret (v0 : Int) (v1 : Int) (v2 : Int) (v3 : Int) (v4 : Int) : res_slices_IndexFunc_Rect_grid_Check_c1_0 (ret_slices_IndexFunc_Rect_grid_Check_c1 v0 v1 v2 v3 v4) = v0 := rfl
def res_slices_IndexFunc_Rect_grid_Check_c1_1 (r : sig_slices_IndexFunc_Rect_grid_Check_c1.Out) : Int := r.2.1.1
@[simp] theorem res_slices_IndexFunc_Rect_grid_Check_c1_1_ret (v0 : Int) (v1 : Int) (v2 : Int) (v3 : Int) (v4 : Int) : res_slices_IndexFunc_Rect_grid_Check_c1_1 (ret_slices_IndexFunc_Rect_grid_Check_c1 v0 v1 v2 v3 v4) = v1 := rfl
def res_slices_IndexFunc_Rect_grid_Check_c1_2 (r : sig_slices_IndexFunc_Rect_grid_Check_c1.Out) : Int := r.2.1.2.1
@[simp] theorem res_slices_IndexFunc_Rect_grid_Check_c1_2_ret (v0 : Int) (v1 : Int) (v2 : Int) (v3 : Int) (v4 : Int) : res_slices_IndexFunc_Rect_grid_Check_c1_2 (ret_slices_IndexFunc_Rect_grid_Check_c1 v0 v1 v2 v3 v4) = v2 := rfl
def res_slices_IndexFunc_Rect_grid_Check_c1_3 (r : sig_slices_IndexFunc_Rect_grid_Check_c1.Out) : Int := r.2.1.2.2.1
@[simp] theorem res_slices_IndexFunc_Rect_grid_Check_c1_3_ret (v0 : Int) (v1 : Int) (v2 : Int) (v3 : Int) (v4 : Int) : res_slices_IndexFunc_Rect_grid_Check_c1_3 (ret_slices_IndexFunc_Rect_grid_Check_c1 v0 v1 v2 v3 v4) = v3 := rfl
def res_slices_IndexFunc_Rect_grid_Check_c1_4 (r : sig_slices_IndexFunc_Rect_grid_Check_c1.Out) : Int := r.2.1.2.2.2.1
@[simp] theorem res_slices_IndexFunc_Rect_grid_Check_c1_4_ret (v0 : Int) (v1 : Int) (v2 : Int) (v3 : Int) (v4 : Int) : res_slices_IndexFunc_Rect_grid_Check_c1_4 (ret_slices_IndexFunc_Rect_grid_Check_c1 v0 v1 v2 v3 v4) = v4 := rfl
def os_slices_IndexFunc_Rect_grid_Check_c1 : RegT := ⟨[], [], false⟩
def hs_slices_IndexFunc_Rect_grid_Check_c1 : List Keep := [[(0, []), (1, []), (7, []), (8, []), (19, [])]]
@[reducible] noncomputable def env_slices_IndexFunc_Rect_grid_Check_c1 : Env := [(46, ⟨sig_grid_Check_c1, F_grid_Check_c1⟩)]
noncomputable def L_slices_IndexFunc_Rect_grid_Check_c1_0 (n m1 : Nat) (x0 : List YRect.den) (x7 : Int) (x8 : Int) (x19_0 : Int) (x19_1 : Int) (x19_2 : Int) (x19_3 : Int) : Option sig_slices_IndexFunc_Rect_grid_Check_c1.Out :=
  loopAt T (env_slices_IndexFunc_Rect_grid_Check_c1) os_slices_IndexFunc_Rect_grid_Check_c1 sig_slices_IndexFunc_Rect_grid_Check_c1 Tryd.f71 hs_slices_IndexFunc_Rect_grid_Check_c1 n [.sr, .sl, .sr, .bl] m1 (mk 20 [(0, .cs false [.val (.list YRect) x0]), (1, .cs false [.clo 46 [19]]), (7, .cs false [.val (.int .i64) x7]), (8, .cs false [.val (.int .i64) x8]), (19, .box [.val (.int .i64) x19_0, .val (.int .i64) x19_1, .val (.int .i64) x19_2, .val (.int .i64) x19_3])])
theorem L_slices_IndexFunc_Rect_grid_Check_c1_0_step (n m1 : Nat) (x0 : List YRect.den) (x7 : Int) (x8 : Int) (x19_0 : Int) (x19_1 : Int) (x19_2 : Int) (x19_3 : Int) : L_slices_IndexFunc_Rect_grid_Check_c1_0 n (m1 + 1) x0 x7 x8 x19_0 x19_1 x19_2 x19_3 =
  (bcond (decide ((x8 : Int) < x7))
   (if 0 ≤ (x8 : Int) ∧ (x8 : Int) < (List.length x0 : Int) then
    ((C_grid_Check_c1 F_grid_Check_c1 (at_ (e := YRect) x0 x8) x19_0 x19_1 x19_2 x19_3).bind fun r1 =>
     (bcond (res_grid_Check_c1_0 r1)
      (some (ret_slices_IndexFunc_Rect_grid_Check_c1 x8 (res_grid_Check_c1_1 r1) (res_grid_Check_c1_2 r1) (res_grid_Check_c1_3 r1) (res_grid_Check_c1_4 r1)))
      (L_slices_IndexFunc_Rect_grid_Check_c1_0 n m1 x0 x7 (IntKind.i64.wrap (x8 + 1)) (res_grid_Check_c1_1 r1) (res_grid_Check_c1_2 r1) (res_grid_Check_c1_3 r1) (res_grid_Check_c1_4 r1))))
   else none)
   (some (ret_slices_IndexFunc_Rect_grid_Check_c1 (-1) x19_0 x19_1 x19_2 x19_3))) := by kernel_rfl
theorem ok_slices_IndexFunc_Rect_grid_Check_c1 : fnOk os_slices_IndexFunc_Rect_grid_Check_c1 sig_slices_IndexFunc_Rect_grid_Check_c1 Tryd.f71 = true := by kernel_rfl
theorem fn_slices_IndexFunc_Rect_grid_Check_c1 : P.funcs[71]? = some Tryd.f71 := by kernel_rfl
noncomputable def F_slices_IndexFunc_Rect_grid_Check_c1 : sig_slices_IndexFunc_Rect_grid_Check_c1.Fn := fun x y => run T (env_slices_IndexFunc_Rect_grid_Check_c1) os_slices_IndexFunc_Rect_grid_Check_c1 sig_slices_IndexFunc_Rect_grid_Check_c1 Tryd.f71 hs_slices_IndexFunc_Rect_grid_Check_c1 big x y
theorem S_slices_IndexFunc_Rect_grid_Check_c1 : Sound P 71 ⟨sig_slices_IndexFunc_Rect_grid_Check_c1, F_slices_IndexFunc_Rect_grid_Check_c1⟩ := sound_of (os := os_slices_IndexFunc_Rect_grid_Check_c1) (hs := hs_slices_IndexFunc_Rect_grid_Check_c1) (env_cons S_grid_Check_c1 (env_nil)) fn_slices_IndexFunc_Rect_grid_Check_c1 ok_slices_IndexFunc_Rect_grid_Check_c1 (fun x y out h => ⟨big, h⟩)
theorem e_slices_IndexFunc_Rect_grid_Check_c1 (a0 : List YRect.den) (b0_0 : Int) (b0_1 : Int) (b0_2 : Int) (b0_3 : Int) : C_slices_IndexFunc_Rect_grid_Check_c1 F_slices_IndexFunc_Rect_grid_Check_c1 a0 b0_0 b0_1 b0_2 b0_3 =
  (L_slices_IndexFunc_Rect_grid_Check_c1_0 big big a0 (List.length a0 : Int) 0 b0_0 b0_1 b0_2 b0_3) := by kernel_rfl
def sig_slices_ContainsFunc_Rect_grid_Check_c1 : Sig := ⟨[.v false (.list YRect), .f 46 [0]], [[.fr (.int .i64), .fr (.int .i64), .fr (.int .i64), .fr (.int .i64)]], [(false, [.fr .bool])]⟩
def C_slices_ContainsFunc_Rect_grid_Check_c1 (F : sig_slices_ContainsFunc_Rect_grid_Check_c1.Fn) (a0 : List YRect.den) (b0_0 : Int) (b0_1 : Int) (b0_2 : Int) (b0_3 : Int) : Option sig_slices_ContainsFunc_Rect_grid_Check_c1.Out := F (a0, ()) ((b0_0, b0_1, b0_2, b0_3, ()), ())
def ret_slices_ContainsFunc_Rect_grid_Check_c1 (v0 : Bool) (v1 : Int) (v2 : Int) (v3 : Int) (v4 : Int) : sig_slices_ContainsFunc_Rect_grid_Check_c1.Out := (((v0, ()), ()), ((v1, v2, v3, v4, ()), ()))
def res_slices_ContainsFunc_Rect_grid_Check_c1_0 (r : sig_slices_ContainsFunc_Rect_grid_Check_c1.Out) : Bool := r.1.1.1
@[simp] theorem res_slices_ContainsFunc_Rect_grid_Check_c1_0_ret (v0 : Bool) (v1 : Int) (v2 : Int) (v3 : Int) (v4 : Int) : res_slices_ContainsFunc_Rect_grid_Check_c1_0 (ret_slices_ContainsFunc_Rect_grid_Check_c1 v0 v1 v2 v3 v4) = v0 := rfl
def os_slices_ContainsFunc_Rect_grid_Check_c1 : RegT := ⟨[], [], false⟩
def hs_slices_ContainsFunc_Rect_grid_Check_c1 : List Keep := []
@[reducible] noncomputable def env_slices_ContainsFunc_Rect_grid_Check_c1 : Env := [(71, ⟨sig_slices_IndexFunc_Rect_grid_Check_c1, F_slices_IndexFunc_Rect_grid_Check_c1⟩)]
theorem ok_slices_ContainsFunc_Rect_grid_Check_c1 : fnOk os_slices_ContainsFunc_Rect_grid_Check_c1 sig_slices_ContainsFunc_Rect_grid_Check_c1 Tryd.f45 = true := by kernel_rfl
theorem fn_slices_ContainsFunc_Rect_grid_Check_c1 : P.funcs[45]? = some Tryd.f45 := by kernel_rfl
noncomputable def F_slices_ContainsFunc_Rect_grid_Check_c1 : sig_slices_ContainsFunc_Rect_grid_Check_c1.Fn := fun x y => run T (env_slices_ContainsFunc_Rect_grid_Check_c1) os_slices_ContainsFunc_Rect_grid_Check_c1 sig_slices_ContainsFunc_Rect_grid_Check_c1 Tryd.f45 hs_slices_ContainsFunc_Rect_grid_Check_c1 big x y
theorem S_slices_ContainsFunc_Rect_grid_Check_c1 : Sound P 45 ⟨sig_slices_ContainsFunc_Rect_grid_Check_c1, F_slices_ContainsFunc_Rect_grid_Check_c1⟩ := sound_of (os := os_slices_ContainsFunc_Rect_grid_Check_c1) (hs := hs_slices_ContainsFunc_Rect_grid_Check_c1) (env_cons S_slices_IndexFunc_Rect_grid_Check_c1 (env_nil)) fn_slices_ContainsFunc_Rect_grid_Check_c1 ok_slices_ContainsFunc_Rect_grid_Check_c1 (fun x y out h => ⟨big, h⟩)
theorem e_slices_ContainsFunc_Rect_grid_Check_c1 (a0 : List YRect.den) (b0_0 : Int) (b0_1 : Int) (b0_2 : Int) (b0_3 : Int) : C_slices_ContainsFunc_Rect_grid_Check_c1 F_slices_ContainsFunc_Rect_grid_Check_c1 a0 b0_0 b0_1 b0_2 b0_3 =
  ((C_slices_IndexFunc_Rect_grid_Check_c1 F_slices_IndexFunc_Rect_grid_Check_c1 a0 b0_0 b0_1 b0_2 b0_3).bind fun r1 =>
   (some (ret_slices_ContainsFunc_Rect_grid_Check_c1 (decide (((res_slices_IndexFunc_Rect_grid_Check_c1_0 r1) : Int) ≥ 0)) (res_slices_IndexFunc_Rect_grid_Check_c1_1 r1) (res_slices_IndexFunc_Rect_grid_Check_c1_2 r1) (res_slices_IndexFunc_Rect_grid_Check_c1_3 r1) (res_slices_IndexFunc_Rect_grid_Check_c1_4 r1)))) := by kernel_rfl
def sig_grid_Check : Sig := ⟨[.v true YGrid], [], [(false, [.fr (.int .i64)])]⟩
def C_grid_Check (F : sig_grid_Check.Fn) (a0 : YGrid.den) : Option sig_grid_Check.Out := F (a0, ()) ()
def ret_grid_Check (v0 : Int) : sig_grid_Check.Out := (((v0, ()), ()), ())
def res_grid_Check_0 (r : sig_grid_Check.Out) : Int := r.1.1.1
@[simp] theorem res_grid_Check_0_ret (v0 : Int) : res_grid_Check_0 (ret_grid_Check v0) = v0 := rfl
def os_grid_Check : RegT := ⟨[(13, .st 0 (.st 1 (.st 2 (.st 3 (.st 5 (.st 6 (.st 4 (.st 7 (.st 8 (.st 9 (.st 10 (.st 11 (.st 12 (.st 13 (.nil)))))))))))))))], [], false⟩
def hs_grid_Check : List Keep := [[(1, []), (35, []), (36, []), (37, [])]]
@[reducible] noncomputable def env_grid_Check : Env := [(42, ⟨sig_grid_cells, F_grid_cells⟩), (43, ⟨sig_grid_inside, F_grid_inside⟩), (44, ⟨sig_grid_before, F_grid_before⟩), (45, ⟨sig_slices_ContainsFunc_Rect_grid_Check_c1, F_slices_ContainsFunc_Rect_grid_Check_c1⟩)]
noncomputable def L_grid_Check_0 (n m1 : Nat) (x1_0 : Int) (x1_1 : Int) (x1_2 : List YCell.den) (x1_3 : List YRect.den) (x35 : List YRect.den) (x36 : Int) (x37 : Int) : Option sig_grid_Check.Out :=
  loopAt T (env_grid_Check) os_grid_Check sig_grid_Check Tryd.f16 hs_grid_Check n [.sr, .sr, .sr, .sl, .sr, .bl] m1 (mk 81 [(1, .box [.val (.int .i64) x1_0, .val (.int .i64) x1_1, .val (.list YCell) x1_2, .val (.list YRect) x1_3]), (35, .cs false [.val (.list YRect) x35]), (36, .cs false [.val (.int .i64) x36]), (37, .cs false [.val (.int .i64) x37])])
theorem L_grid_Check_0_step (n m1 : Nat) (x1_0 : Int) (x1_1 : Int) (x1_2 : List YCell.den) (x1_3 : List YRect.den) (x35 : List YRect.den) (x36 : Int) (x37 : Int) : L_grid_Check_0 n (m1 + 1) x1_0 x1_1 x1_2 x1_3 x35 x36 x37 =
  (bcond (decide ((x37 : Int) < x36))
   (if 0 ≤ (x37 : Int) ∧ (x37 : Int) < (List.length x35 : Int) then
    ((C_grid_inside F_grid_inside (at_ (e := YRect) x35 x37) x1_0 x1_1).bind fun r1 =>
     (bcond (!(res_grid_inside_0 r1))
      (some (ret_grid_Check 2))
      (bcond ((((at_ (e := YRect) x35 x37).2.2.1 : Int) == 1) == true)
       (bcond (((at_ (e := YRect) x35 x37).2.2.2 : Int) == 1)
        (some (ret_grid_Check 4))
        (bcond ((decide ((x37 : Int) > 0)) == true)
         (if 0 ≤ ((IntKind.i64.wrap (x37 - 1)) : Int) ∧ ((IntKind.i64.wrap (x37 - 1)) : Int) < (List.length x1_3 : Int) then
          ((C_grid_before F_grid_before (at_ (e := YRect) x1_3 (IntKind.i64.wrap (x37 - 1))) (at_ (e := YRect) x35 x37)).bind fun r2 =>
           (bcond (!(res_grid_before_0 r2))
            (some (ret_grid_Check 5))
            (if 0 ≤ (x37 : Int) ∧ (x37 : Int) ≤ (List.length x1_3 : Int) ∧ 0 ≤ (0 : Int) ∧ (0 : Int) ≤ x37 then
             ((C_slices_ContainsFunc_Rect_grid_Check_c1 F_slices_ContainsFunc_Rect_grid_Check_c1 (List.drop (Int.toNat 0) (List.take (Int.toNat x37) x1_3)) (at_ (e := YRect) x35 x37).1 (at_ (e := YRect) x35 x37).2.1 (at_ (e := YRect) x35 x37).2.2.1 (at_ (e := YRect) x35 x37).2.2.2).bind fun r3 =>
              (bcond (res_slices_ContainsFunc_Rect_grid_Check_c1_0 r3)
               (some (ret_grid_Check 21))
               (L_grid_Check_0 n m1 x1_0 x1_1 x1_2 x1_3 x35 x36 (IntKind.i64.wrap (x37 + 1)))))
            else none)))
         else none)
         (if 0 ≤ (x37 : Int) ∧ (x37 : Int) ≤ (List.length x1_3 : Int) ∧ 0 ≤ (0 : Int) ∧ (0 : Int) ≤ x37 then
          ((C_slices_ContainsFunc_Rect_grid_Check_c1 F_slices_ContainsFunc_Rect_grid_Check_c1 (List.drop (Int.toNat 0) (List.take (Int.toNat x37) x1_3)) (at_ (e := YRect) x35 x37).1 (at_ (e := YRect) x35 x37).2.1 (at_ (e := YRect) x35 x37).2.2.1 (at_ (e := YRect) x35 x37).2.2.2).bind fun r2 =>
           (bcond (res_slices_ContainsFunc_Rect_grid_Check_c1_0 r2)
            (some (ret_grid_Check 21))
            (L_grid_Check_0 n m1 x1_0 x1_1 x1_2 x1_3 x35 x36 (IntKind.i64.wrap (x37 + 1)))))
         else none)))
       (bcond ((decide ((x37 : Int) > 0)) == true)
        (if 0 ≤ ((IntKind.i64.wrap (x37 - 1)) : Int) ∧ ((IntKind.i64.wrap (x37 - 1)) : Int) < (List.length x1_3 : Int) then
         ((C_grid_before F_grid_before (at_ (e := YRect) x1_3 (IntKind.i64.wrap (x37 - 1))) (at_ (e := YRect) x35 x37)).bind fun r2 =>
          (bcond (!(res_grid_before_0 r2))
           (some (ret_grid_Check 5))
           (if 0 ≤ (x37 : Int) ∧ (x37 : Int) ≤ (List.length x1_3 : Int) ∧ 0 ≤ (0 : Int) ∧ (0 : Int) ≤ x37 then
            ((C_slices_ContainsFunc_Rect_grid_Check_c1 F_slices_ContainsFunc_Rect_grid_Check_c1 (List.drop (Int.toNat 0) (List.take (Int.toNat x37) x1_3)) (at_ (e := YRect) x35 x37).1 (at_ (e := YRect) x35 x37).2.1 (at_ (e := YRect) x35 x37).2.2.1 (at_ (e := YRect) x35 x37).2.2.2).bind fun r3 =>
             (bcond (res_slices_ContainsFunc_Rect_grid_Check_c1_0 r3)
              (some (ret_grid_Check 21))
              (L_grid_Check_0 n m1 x1_0 x1_1 x1_2 x1_3 x35 x36 (IntKind.i64.wrap (x37 + 1)))))
           else none)))
        else none)
        (if 0 ≤ (x37 : Int) ∧ (x37 : Int) ≤ (List.length x1_3 : Int) ∧ 0 ≤ (0 : Int) ∧ (0 : Int) ≤ x37 then
         ((C_slices_ContainsFunc_Rect_grid_Check_c1 F_slices_ContainsFunc_Rect_grid_Check_c1 (List.drop (Int.toNat 0) (List.take (Int.toNat x37) x1_3)) (at_ (e := YRect) x35 x37).1 (at_ (e := YRect) x35 x37).2.1 (at_ (e := YRect) x35 x37).2.2.1 (at_ (e := YRect) x35 x37).2.2.2).bind fun r2 =>
          (bcond (res_slices_ContainsFunc_Rect_grid_Check_c1_0 r2)
           (some (ret_grid_Check 21))
           (L_grid_Check_0 n m1 x1_0 x1_1 x1_2 x1_3 x35 x36 (IntKind.i64.wrap (x37 + 1)))))
        else none)))))
   else none)
   (some (ret_grid_Check 0))) := by kernel_rfl
theorem ok_grid_Check : fnOk os_grid_Check sig_grid_Check Tryd.f16 = true := by kernel_rfl
theorem fn_grid_Check : P.funcs[16]? = some Tryd.f16 := by kernel_rfl
noncomputable def F_grid_Check : sig_grid_Check.Fn := fun x y => run T (env_grid_Check) os_grid_Check sig_grid_Check Tryd.f16 hs_grid_Check big x y
theorem S_grid_Check : Sound P 16 ⟨sig_grid_Check, F_grid_Check⟩ := sound_of (os := os_grid_Check) (hs := hs_grid_Check) (env_cons S_grid_cells (env_cons S_grid_inside (env_cons S_grid_before (env_cons S_slices_ContainsFunc_Rect_grid_Check_c1 (env_nil))))) fn_grid_Check ok_grid_Check (fun x y out h => ⟨big, h⟩)
theorem e_grid_Check (a0 : YGrid.den) : C_grid_Check F_grid_Check a0 =
  (bcond ((decide ((a0.1 : Int) < 0)) == false)
   (bcond ((decide ((a0.1 : Int) > 2147483647)) == false)
    (bcond ((decide ((a0.2.1 : Int) < 0)) == false)
     (bcond (decide ((a0.2.1 : Int) > 2147483647))
      (some (ret_grid_Check 2))
      ((C_grid_cells F_grid_cells a0.2.2.1 a0.1 a0.2.1 false).bind fun r1 =>
       (bcond (((res_grid_cells_0 r1) : Int) != 0)
        (some (ret_grid_Check (res_grid_cells_0 r1)))
        (L_grid_Check_0 big big a0.1 a0.2.1 a0.2.2.1 a0.2.2.2 a0.2.2.2 (List.length a0.2.2.2 : Int) 0))))
     (some (ret_grid_Check 2)))
    (some (ret_grid_Check 2)))
   (some (ret_grid_Check 2))) := by kernel_rfl
end Go.Ev
