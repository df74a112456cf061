/- Functions, step by step. -/
import Derived.Test.YtlgjdgebmiegeaaGTab
namespace Go.Ev
set_option linter.unusedVariables false
set_option maxRecDepth 100000
open Go.Proofs
def sig_R_In : Sig := ⟨[.v false (.int .i64), .v false (.int .i64), .v false (.int .i64)], [], [(false, [.fr .bool])]⟩
def C_R_In (F : sig_R_In.Fn) (a0 : Int) (a1 : Int) (a2 : Int) : Option sig_R_In.Out := F (a0, a1, a2, ()) ()
def ret_R_In (v0 : Bool) : sig_R_In.Out := (((v0, ()), ()), ())
def res_R_In_0 (r : sig_R_In.Out) : Bool := r.1.1.1
@[simp] theorem res_R_In_0_ret (v0 : Bool) : res_R_In_0 (ret_R_In v0) = v0 := rfl
def os_R_In : RegT := ⟨[], [], false⟩
def hs_R_In : List Keep := []
@[reducible] noncomputable def env_R_In : Env := []
theorem ok_R_In : fnOk os_R_In sig_R_In Try.f36 = true := by kernel_rfl
theorem fn_R_In : P.funcs[36]? = some Try.f36 := by kernel_rfl
noncomputable def F_R_In : sig_R_In.Fn := fun x y => run T (env_R_In) os_R_In sig_R_In Try.f36 hs_R_In big x y
theorem S_R_In : Sound P 36 ⟨sig_R_In, F_R_In⟩ := sound_of (os := os_R_In) (hs := hs_R_In) (env_nil) fn_R_In ok_R_In (fun x y out h => ⟨big, h⟩)
theorem e_R_In (a0 : Int) (a1 : Int) (a2 : Int) : C_R_In F_R_In a0 a1 a2 =
  (bcond ((decide ((a0 : Int) ≥ a1)) == true)
   (some (ret_R_In (decide ((a0 : Int) ≤ a2))))
   (some (ret_R_In false))) := by kernel_rfl
def sig_attr_Name : Sig := ⟨[.v false .str], [], [(false, [.fr .bool])]⟩
def C_attr_Name (F : sig_attr_Name.Fn) (a0 : List UInt8) : Option sig_attr_Name.Out := F (a0, ()) ()
def ret_attr_Name (v0 : Bool) : sig_attr_Name.Out := (((v0, ()), ()), ())
def res_attr_Name_0 (r : sig_attr_Name.Out) : Bool := r.1.1.1
@[simp] theorem res_attr_Name_0_ret (v0 : Bool) : res_attr_Name_0 (ret_attr_Name v0) = v0 := rfl
def os_attr_Name : RegT := ⟨[], [], false⟩
def hs_attr_Name : List Keep := [[(0, []), (23, []), (24, [])]]
@[reducible] noncomputable def env_attr_Name : Env := []
noncomputable def L_attr_Name_0 (n m1 : Nat) (x0 : List UInt8) (x23 : Int) (x24 : Int) : Option sig_attr_Name.Out :=
  loopAt T (env_attr_Name) os_attr_Name sig_attr_Name Try.f157 hs_attr_Name n [.sr, .sr, .sl, .sr, .bl] m1 (mk 53 [(0, .cs false [.val .str x0]), (23, .cs false [.val (.int .i64) x23]), (24, .cs false [.val (.int .i64) x24])])
theorem L_attr_Name_0_step (n m1 : Nat) (x0 : List UInt8) (x23 : Int) (x24 : Int) : L_attr_Name_0 n (m1 + 1) x0 x23 x24 =
  (bcond (decide ((x24 : Int) < x23))
   (if 0 ≤ (x24 : Int) ∧ (x24 : Int) < (List.length x0 : Int) then
    (bcond ((decide ((((List.getD (x0 : List UInt8) (Int.toNat x24) 0).toNat : Int) : Int) < 97)) == false)
     (bcond ((decide ((((List.getD (x0 : List UInt8) (Int.toNat x24) 0).toNat : Int) : Int) > 122)) == true)
      (bcond ((decide ((((List.getD (x0 : List UInt8) (Int.toNat x24) 0).toNat : Int) : Int) < 48)) == false)
       (bcond ((decide ((((List.getD (x0 : List UInt8) (Int.toNat x24) 0).toNat : Int) : Int) > 57)) == true)
        (bcond (((((List.getD (x0 : List UInt8) (Int.toNat x24) 0).toNat : Int) : Int) != 46) == true)
         (bcond ((((List.getD (x0 : List UInt8) (Int.toNat x24) 0).toNat : Int) : Int) != 45)
          (some (ret_attr_Name false))
          (L_attr_Name_0 n m1 x0 x23 (IntKind.i64.wrap (x24 + 1))))
         (L_attr_Name_0 n m1 x0 x23 (IntKind.i64.wrap (x24 + 1))))
        (L_attr_Name_0 n m1 x0 x23 (IntKind.i64.wrap (x24 + 1))))
       (bcond (((((List.getD (x0 : List UInt8) (Int.toNat x24) 0).toNat : Int) : Int) != 46) == true)
        (bcond ((((List.getD (x0 : List UInt8) (Int.toNat x24) 0).toNat : Int) : Int) != 45)
         (some (ret_attr_Name false))
         (L_attr_Name_0 n m1 x0 x23 (IntKind.i64.wrap (x24 + 1))))
        (L_attr_Name_0 n m1 x0 x23 (IntKind.i64.wrap (x24 + 1)))))
      (L_attr_Name_0 n m1 x0 x23 (IntKind.i64.wrap (x24 + 1))))
     (bcond ((decide ((((List.getD (x0 : List UInt8) (Int.toNat x24) 0).toNat : Int) : Int) < 48)) == false)
      (bcond ((decide ((((List.getD (x0 : List UInt8) (Int.toNat x24) 0).toNat : Int) : Int) > 57)) == true)
       (bcond (((((List.getD (x0 : List UInt8) (Int.toNat x24) 0).toNat : Int) : Int) != 46) == true)
        (bcond ((((List.getD (x0 : List UInt8) (Int.toNat x24) 0).toNat : Int) : Int) != 45)
         (some (ret_attr_Name false))
         (L_attr_Name_0 n m1 x0 x23 (IntKind.i64.wrap (x24 + 1))))
        (L_attr_Name_0 n m1 x0 x23 (IntKind.i64.wrap (x24 + 1))))
       (L_attr_Name_0 n m1 x0 x23 (IntKind.i64.wrap (x24 + 1))))
      (bcond (((((List.getD (x0 : List UInt8) (Int.toNat x24) 0).toNat : Int) : Int) != 46) == true)
       (bcond ((((List.getD (x0 : List UInt8) (Int.toNat x24) 0).toNat : Int) : Int) != 45)
        (some (ret_attr_Name false))
        (L_attr_Name_0 n m1 x0 x23 (IntKind.i64.wrap (x24 + 1))))
       (L_attr_Name_0 n m1 x0 x23 (IntKind.i64.wrap (x24 + 1))))))
   else none)
   (some (ret_attr_Name true))) := by kernel_rfl
theorem ok_attr_Name : fnOk os_attr_Name sig_attr_Name Try.f157 = true := by kernel_rfl
theorem fn_attr_Name : P.funcs[157]? = some Try.f157 := by kernel_rfl
noncomputable def F_attr_Name : sig_attr_Name.Fn := fun x y => run T (env_attr_Name) os_attr_Name sig_attr_Name Try.f157 hs_attr_Name big x y
theorem S_attr_Name : Sound P 157 ⟨sig_attr_Name, F_attr_Name⟩ := sound_of (os := os_attr_Name) (hs := hs_attr_Name) (env_nil) fn_attr_Name ok_attr_Name (fun x y out h => ⟨big, h⟩)
theorem e_attr_Name (a0 : List UInt8) : C_attr_Name F_attr_Name a0 =
  (bcond (((a0 : List UInt8) == []) == false)
   (bcond ((decide (((List.length a0 : Int) : Int) > 24)) == false)
    (if 0 ≤ (0 : Int) ∧ (0 : Int) < (List.length a0 : Int) then
     (bcond ((decide ((((List.getD (a0 : List UInt8) (Int.toNat 0) 0).toNat : Int) : Int) < 97)) == false)
      (if 0 ≤ (0 : Int) ∧ (0 : Int) < (List.length a0 : Int) then
       (bcond (decide ((((List.getD (a0 : List UInt8) (Int.toNat 0) 0).toNat : Int) : Int) > 122))
        (some (ret_attr_Name false))
        (L_attr_Name_0 big big a0 (List.length a0 : Int) 0))
      else none)
      (some (ret_attr_Name false)))
    else none)
    (some (ret_attr_Name false)))
   (some (ret_attr_Name false))) := by kernel_rfl
def sig_attr_Value : Sig := ⟨[.v false .str], [], [(false, [.fr .bool])]⟩
def C_attr_Value (F : sig_attr_Value.Fn) (a0 : List UInt8) : Option sig_attr_Value.Out := F (a0, ()) ()
def ret_attr_Value (v0 : Bool) : sig_attr_Value.Out := (((v0, ()), ()), ())
def res_attr_Value_0 (r : sig_attr_Value.Out) : Bool := r.1.1.1
@[simp] theorem res_attr_Value_0_ret (v0 : Bool) : res_attr_Value_0 (ret_attr_Value v0) = v0 := rfl
def os_attr_Value : RegT := ⟨[], [], false⟩
def hs_attr_Value : List Keep := [[(0, []), (12, []), (13, [])]]
@[reducible] noncomputable def env_attr_Value : Env := []
noncomputable def L_attr_Value_0 (n m1 : Nat) (x0 : List UInt8) (x12 : Int) (x13 : Int) : Option sig_attr_Value.Out :=
  loopAt T (env_attr_Value) os_attr_Value sig_attr_Value Try.f158 hs_attr_Value n [.sr, .sr, .sl, .sr, .bl] m1 (mk 27 [(0, .cs false [.val .str x0]), (12, .cs false [.val (.int .i64) x12]), (13, .cs false [.val (.int .i64) x13])])
theorem L_attr_Value_0_step (n m1 : Nat) (x0 : List UInt8) (x12 : Int) (x13 : Int) : L_attr_Value_0 n (m1 + 1) x0 x12 x13 =
  (bcond (decide ((x13 : Int) < x12))
   (if 0 ≤ (x13 : Int) ∧ (x13 : Int) < (List.length x0 : Int) then
    (bcond ((decide ((((List.getD (x0 : List UInt8) (Int.toNat x13) 0).toNat : Int) : Int) < 32)) == false)
     (if 0 ≤ (x13 : Int) ∧ (x13 : Int) < (List.length x0 : Int) then
      (bcond (decide ((((List.getD (x0 : List UInt8) (Int.toNat x13) 0).toNat : Int) : Int) > 126))
       (some (ret_attr_Value false))
       (L_attr_Value_0 n m1 x0 x12 (IntKind.i64.wrap (x13 + 1))))
     else none)
     (some (ret_attr_Value false)))
   else none)
   (some (ret_attr_Value true))) := by kernel_rfl
theorem ok_attr_Value : fnOk os_attr_Value sig_attr_Value Try.f158 = true := by kernel_rfl
theorem fn_attr_Value : P.funcs[158]? = some Try.f158 := by kernel_rfl
noncomputable def F_attr_Value : sig_attr_Value.Fn := fun x y => run T (env_attr_Value) os_attr_Value sig_attr_Value Try.f158 hs_attr_Value big x y
theorem S_attr_Value : Sound P 158 ⟨sig_attr_Value, F_attr_Value⟩ := sound_of (os := os_attr_Value) (hs := hs_attr_Value) (env_nil) fn_attr_Value ok_attr_Value (fun x y out h => ⟨big, h⟩)
theorem e_attr_Value (a0 : List UInt8) : C_attr_Value F_attr_Value a0 =
  (bcond (((a0 : List UInt8) == []) == false)
   (bcond (decide (((List.length a0 : Int) : Int) > 200))
    (some (ret_attr_Value false))
    (L_attr_Value_0 big big a0 (List.length a0 : Int) 0))
   (some (ret_attr_Value false))) := by kernel_rfl
def sig_attr_check : Sig := ⟨[.v false (.list YAttr), .v false .bool], [], [(false, [.fr (.int .i64)])]⟩
def C_attr_check (F : sig_attr_check.Fn) (a0 : List YAttr.den) (a1 : Bool) : Option sig_attr_check.Out := F (a0, a1, ()) ()
def ret_attr_check (v0 : Int) : sig_attr_check.Out := (((v0, ()), ()), ())
def res_attr_check_0 (r : sig_attr_check.Out) : Int := r.1.1.1
@[simp] theorem res_attr_check_0_ret (v0 : Int) : res_attr_check_0 (ret_attr_check v0) = v0 := rfl
def os_attr_check : RegT := ⟨[(8, .st 0 (.st 1 (.st 2 (.st 3 (.st 5 (.st 6 (.st 7 (.st 8 (.st 9 (.st 4 (.st 10 (.st 11 (.st 12 (.st 13 (.nil)))))))))))))))], [], false⟩
def hs_attr_check : List Keep := [[(0, []), (1, []), (7, []), (8, []), (9, [])]]
@[reducible] noncomputable def env_attr_check : Env := [(157, ⟨sig_attr_Name, F_attr_Name⟩), (158, ⟨sig_attr_Value, F_attr_Value⟩)]
noncomputable def L_attr_check_0 (n m1 : Nat) (x0 : List YAttr.den) (x1 : Bool) (x7 : List YAttr.den) (x8 : Int) (x9 : Int) : Option sig_attr_check.Out :=
  loopAt T (env_attr_check) os_attr_check sig_attr_check Try.f132 hs_attr_check n [.sr, .sl, .sr, .bl] m1 (mk 48 [(0, .cs false [.val (.list YAttr) x0]), (1, .cs false [.val .bool x1]), (7, .cs false [.val (.list YAttr) x7]), (8, .cs false [.val (.int .i64) x8]), (9, .cs false [.val (.int .i64) x9])])
theorem L_attr_check_0_step (n m1 : Nat) (x0 : List YAttr.den) (x1 : Bool) (x7 : List YAttr.den) (x8 : Int) (x9 : Int) : L_attr_check_0 n (m1 + 1) x0 x1 x7 x8 x9 =
  (bcond (decide ((x9 : Int) < x8))
   (if 0 ≤ (x9 : Int) ∧ (x9 : Int) < (List.length x7 : Int) then
    ((C_attr_Name F_attr_Name (at_ (e := YAttr) x7 x9).1).bind fun r1 =>
     (bcond (!(res_attr_Name_0 r1))
      (some (ret_attr_check 9))
      ((C_attr_Value F_attr_Value (at_ (e := YAttr) x7 x9).2).bind fun r2 =>
       (bcond ((!(res_attr_Value_0 r2)) == true)
        (bcond (x1 == true)
         (bcond (!(((at_ (e := YAttr) x7 x9).2 : List UInt8) == []))
          (some (ret_attr_check 23))
          (bcond ((decide ((x9 : Int) > 0)) == true)
           (if 0 ≤ ((IntKind.i64.wrap (x9 - 1)) : Int) ∧ ((IntKind.i64.wrap (x9 - 1)) : Int) < (List.length x0 : Int) then
            (bcond (strLess (at_ (e := YAttr) x7 x9).1 (at_ (e := YAttr) x0 (IntKind.i64.wrap (x9 - 1))).1 || ((at_ (e := YAttr) x7 x9).1 : List UInt8) == (at_ (e := YAttr) x0 (IntKind.i64.wrap (x9 - 1))).1)
             (some (ret_attr_check 5))
             (L_attr_check_0 n m1 x0 x1 x7 x8 (IntKind.i64.wrap (x9 + 1))))
           else none)
           (L_attr_check_0 n m1 x0 x1 x7 x8 (IntKind.i64.wrap (x9 + 1)))))
         (some (ret_attr_check 23)))
        (bcond ((decide ((x9 : Int) > 0)) == true)
         (if 0 ≤ ((IntKind.i64.wrap (x9 - 1)) : Int) ∧ ((IntKind.i64.wrap (x9 - 1)) : Int) < (List.length x0 : Int) then
          (bcond (strLess (at_ (e := YAttr) x7 x9).1 (at_ (e := YAttr) x0 (IntKind.i64.wrap (x9 - 1))).1 || ((at_ (e := YAttr) x7 x9).1 : List UInt8) == (at_ (e := YAttr) x0 (IntKind.i64.wrap (x9 - 1))).1)
           (some (ret_attr_check 5))
           (L_attr_check_0 n m1 x0 x1 x7 x8 (IntKind.i64.wrap (x9 + 1))))
         else none)
         (L_attr_check_0 n m1 x0 x1 x7 x8 (IntKind.i64.wrap (x9 + 1))))))))
   else none)
   (some (ret_attr_check 0))) := by kernel_rfl
theorem ok_attr_check : fnOk os_attr_check sig_attr_check Try.f132 = true := by kernel_rfl
theorem fn_attr_check : P.funcs[132]? = some Try.f132 := by kernel_rfl
noncomputable def F_attr_check : sig_attr_check.Fn := fun x y => run T (env_attr_check) os_attr_check sig_attr_check Try.f132 hs_attr_check big x y
theorem S_attr_check : Sound P 132 ⟨sig_attr_check, F_attr_check⟩ := sound_of (os := os_attr_check) (hs := hs_attr_check) (env_cons S_attr_Name (env_cons S_attr_Value (env_nil))) fn_attr_check ok_attr_check (fun x y out h => ⟨big, h⟩)
theorem e_attr_check (a0 : List YAttr.den) (a1 : Bool) : C_attr_check F_attr_check a0 a1 =
  (L_attr_check_0 big big a0 a1 a0 (List.length a0 : Int) 0) := by kernel_rfl
def sig_attr_Check : Sig := ⟨[.v false (.list YAttr)], [], [(false, [.fr (.int .i64)])]⟩
def C_attr_Check (F : sig_attr_Check.Fn) (a0 : List YAttr.den) : Option sig_attr_Check.Out := F (a0, ()) ()
def ret_attr_Check (v0 : Int) : sig_attr_Check.Out := (((v0, ()), ()), ())
def res_attr_Check_0 (r : sig_attr_Check.Out) : Int := r.1.1.1
@[simp] theorem res_attr_Check_0_ret (v0 : Int) : res_attr_Check_0 (ret_attr_Check v0) = v0 := rfl
def os_attr_Check : RegT := ⟨[], [], false⟩
def hs_attr_Check : List Keep := []
@[reducible] noncomputable def env_attr_Check : Env := [(132, ⟨sig_attr_check, F_attr_check⟩)]
theorem ok_attr_Check : fnOk os_attr_Check sig_attr_Check Try.f160 = true := by kernel_rfl
theorem fn_attr_Check : P.funcs[160]? = some Try.f160 := by kernel_rfl
noncomputable def F_attr_Check : sig_attr_Check.Fn := fun x y => run T (env_attr_Check) os_attr_Check sig_attr_Check Try.f160 hs_attr_Check big x y
theorem S_attr_Check : Sound P 160 ⟨sig_attr_Check, F_attr_Check⟩ := sound_of (os := os_attr_Check) (hs := hs_attr_Check) (env_cons S_attr_check (env_nil)) fn_attr_Check ok_attr_Check (fun x y out h => ⟨big, h⟩)
theorem e_attr_Check (a0 : List YAttr.den) : C_attr_Check F_attr_Check a0 =
  ((C_attr_check F_attr_check a0 false).bind fun r1 =>
   (some (ret_attr_Check (res_attr_check_0 r1)))) := by kernel_rfl
def sig_attr_CheckChange : Sig := ⟨[.v false (.list YAttr)], [], [(false, [.fr (.int .i64)])]⟩
def C_attr_CheckChange (F : sig_attr_CheckChange.Fn) (a0 : List YAttr.den) : Option sig_attr_CheckChange.Out := F (a0, ()) ()
def ret_attr_CheckChange (v0 : Int) : sig_attr_CheckChange.Out := (((v0, ()), ()), ())
def res_attr_CheckChange_0 (r : sig_attr_CheckChange.Out) : Int := r.1.1.1
@[simp] theorem res_attr_CheckChange_0_ret (v0 : Int) : res_attr_CheckChange_0 (ret_attr_CheckChange v0) = v0 := rfl
def os_attr_CheckChange : RegT := ⟨[], [], false⟩
def hs_attr_CheckChange : List Keep := []
@[reducible] noncomputable def env_attr_CheckChange : Env := [(132, ⟨sig_attr_check, F_attr_check⟩)]
theorem ok_attr_CheckChange : fnOk os_attr_CheckChange sig_attr_CheckChange Try.f79 = true := by kernel_rfl
theorem fn_attr_CheckChange : P.funcs[79]? = some Try.f79 := by kernel_rfl
noncomputable def F_attr_CheckChange : sig_attr_CheckChange.Fn := fun x y => run T (env_attr_CheckChange) os_attr_CheckChange sig_attr_CheckChange Try.f79 hs_attr_CheckChange big x y
theorem S_attr_CheckChange : Sound P 79 ⟨sig_attr_CheckChange, F_attr_CheckChange⟩ := sound_of (os := os_attr_CheckChange) (hs := hs_attr_CheckChange) (env_cons S_attr_check (env_nil)) fn_attr_CheckChange ok_attr_CheckChange (fun x y out h => ⟨big, h⟩)
theorem e_attr_CheckChange (a0 : List YAttr.den) : C_attr_CheckChange F_attr_CheckChange a0 =
  ((C_attr_check F_attr_check a0 true).bind fun r1 =>
   (some (ret_attr_CheckChange (res_attr_check_0 r1)))) := by kernel_rfl
def sig_attr_Same : Sig := ⟨[.v false (.list YAttr), .v false (.list YAttr)], [], [(false, [.fr .bool])]⟩
def C_attr_Same (F : sig_attr_Same.Fn) (a0 : List YAttr.den) (a1 : List YAttr.den) : Option sig_attr_Same.Out := F (a0, a1, ()) ()
def ret_attr_Same (v0 : Bool) : sig_attr_Same.Out := (((v0, ()), ()), ())
def res_attr_Same_0 (r : sig_attr_Same.Out) : Bool := r.1.1.1
@[simp] theorem res_attr_Same_0_ret (v0 : Bool) : res_attr_Same_0 (ret_attr_Same v0) = v0 := rfl
def os_attr_Same : RegT := ⟨[(6, .st 0 (.st 1 (.st 2 (.st 4 (.st 5 (.st 6 (.st 3 (.st 7 (.st 8 (.nil))))))))))], [], false⟩
def hs_attr_Same : List Keep := [[(0, []), (1, []), (12, []), (13, [])]]
@[reducible] noncomputable def env_attr_Same : Env := []
noncomputable def L_attr_Same_0 (n m1 : Nat) (x0 : List YAttr.den) (x1 : List YAttr.den) (x12 : Int) (x13 : Int) : Option sig_attr_Same.Out :=
  loopAt T (env_attr_Same) os_attr_Same sig_attr_Same Try.f134 hs_attr_Same n [.sr, .sr, .sl, .sr, .bl] m1 (mk 26 [(0, .cs false [.val (.list YAttr) x0]), (1, .cs false [.val (.list YAttr) x1]), (12, .cs false [.val (.int .i64) x12]), (13, .cs false [.val (.int .i64) x13])])
theorem L_attr_Same_0_step (n m1 : Nat) (x0 : List YAttr.den) (x1 : List YAttr.den) (x12 : Int) (x13 : Int) : L_attr_Same_0 n (m1 + 1) x0 x1 x12 x13 =
  (bcond (decide ((x13 : Int) < x12))
   (if 0 ≤ (x13 : Int) ∧ (x13 : Int) < (List.length x0 : Int) then
    (if 0 ≤ (x13 : Int) ∧ (x13 : Int) < (List.length x1 : Int) then
     (bcond (!((((at_ (e := YAttr) x0 x13).1 : List UInt8) == (at_ (e := YAttr) x1 x13).1) && ((((at_ (e := YAttr) x0 x13).2 : List UInt8) == (at_ (e := YAttr) x1 x13).2) && true)))
      (some (ret_attr_Same false))
      (L_attr_Same_0 n m1 x0 x1 x12 (IntKind.i64.wrap (x13 + 1))))
    else none)
   else none)
   (some (ret_attr_Same true))) := by kernel_rfl
theorem ok_attr_Same : fnOk os_attr_Same sig_attr_Same Try.f134 = true := by kernel_rfl
theorem fn_attr_Same : P.funcs[134]? = some Try.f134 := by kernel_rfl
noncomputable def F_attr_Same : sig_attr_Same.Fn := fun x y => run T (env_attr_Same) os_attr_Same sig_attr_Same Try.f134 hs_attr_Same big x y
theorem S_attr_Same : Sound P 134 ⟨sig_attr_Same, F_attr_Same⟩ := sound_of (os := os_attr_Same) (hs := hs_attr_Same) (env_nil) fn_attr_Same ok_attr_Same (fun x y out h => ⟨big, h⟩)
theorem e_attr_Same (a0 : List YAttr.den) (a1 : List YAttr.den) : C_attr_Same F_attr_Same a0 a1 =
  (bcond (((List.length a0 : Int) : Int) != (List.length a1 : Int))
   (some (ret_attr_Same false))
   (L_attr_Same_0 big big a0 a1 (List.length a0 : Int) 0)) := by kernel_rfl
def sig_attr_Raw_c1 : Sig := ⟨[.v true YAttr, .v true YAttr, .p 0], [[.ow 123 YAttr]], []⟩
def C_attr_Raw_c1 (F : sig_attr_Raw_c1.Fn) (a0 : YAttr.den) (a1 : YAttr.den) (b0_0 : List YAttr.den) : Option sig_attr_Raw_c1.Out := F (a0, a1, ()) ((b0_0, ()), ())
def ret_attr_Raw_c1 (v0 : List YAttr.den) : sig_attr_Raw_c1.Out := ((), ((v0, ()), ()))
def res_attr_Raw_c1_0 (r : sig_attr_Raw_c1.Out) : List YAttr.den := r.2.1.1
@[simp] theorem res_attr_Raw_c1_0_ret (v0 : List YAttr.den) : res_attr_Raw_c1_0 (ret_attr_Raw_c1 v0) = v0 := rfl
def os_attr_Raw_c1 : RegT := ⟨[], [], false⟩
def hs_attr_Raw_c1 : List Keep := []
@[reducible] noncomputable def env_attr_Raw_c1 : Env := []
theorem ok_attr_Raw_c1 : fnOk os_attr_Raw_c1 sig_attr_Raw_c1 Try.f138 = true := by kernel_rfl
theorem fn_attr_Raw_c1 : P.funcs[138]? = some Try.f138 := by kernel_rfl
noncomputable def F_attr_Raw_c1 : sig_attr_Raw_c1.Fn := fun x y => run T (env_attr_Raw_c1) os_attr_Raw_c1 sig_attr_Raw_c1 Try.f138 hs_attr_Raw_c1 big x y
theorem S_attr_Raw_c1 : Sound P 138 ⟨sig_attr_Raw_c1, F_attr_Raw_c1⟩ := sound_of (os := os_attr_Raw_c1) (hs := hs_attr_Raw_c1) (env_nil) fn_attr_Raw_c1 ok_attr_Raw_c1 (fun x y out h => ⟨big, h⟩)
theorem e_attr_Raw_c1 (a0 : YAttr.den) (a1 : YAttr.den) (b0_0 : List YAttr.den) : C_attr_Raw_c1 F_attr_Raw_c1 a0 a1 b0_0 =
  (bcond ((a1.1 : List UInt8) == [])
   (if (List.length (b0_0 : List YAttr.den) + List.length ([a0] : List YAttr.den)) * 32 ≤ 140737488355328 then
    (some (ret_attr_Raw_c1 (b0_0 ++ [a0])))
   else none)
   (bcond (!((a1.2 : List UInt8) == []))
    (if (List.length (b0_0 : List YAttr.den) + List.length ([a1] : List YAttr.den)) * 32 ≤ 140737488355328 then
     (some (ret_attr_Raw_c1 (b0_0 ++ [a1])))
    else none)
    (some (ret_attr_Raw_c1 b0_0)))) := by kernel_rfl
def sig_attr_both_attr_Raw_c1 : Sig := ⟨[.v false (.list YAttr), .v false (.list YAttr), .f 138 [0]], [[.ow 123 YAttr]], []⟩
def C_attr_both_attr_Raw_c1 (F : sig_attr_both_attr_Raw_c1.Fn) (a0 : List YAttr.den) (a1 : List YAttr.den) (b0_0 : List YAttr.den) : Option sig_attr_both_attr_Raw_c1.Out := F (a0, a1, ()) ((b0_0, ()), ())
def ret_attr_both_attr_Raw_c1 (v0 : List YAttr.den) : sig_attr_both_attr_Raw_c1.Out := ((), ((v0, ()), ()))
def res_attr_both_attr_Raw_c1_0 (r : sig_attr_both_attr_Raw_c1.Out) : List YAttr.den := r.2.1.1
@[simp] theorem res_attr_both_attr_Raw_c1_0_ret (v0 : List YAttr.den) : res_attr_both_attr_Raw_c1_0 (ret_attr_both_attr_Raw_c1 v0) = v0 := rfl
def os_attr_both_attr_Raw_c1 : RegT := ⟨[(2, .st 0 (.st 1 (.st 2 (.st 3 (.st 5 (.st 6 (.st 7 (.st 4 (.st 8 (.st 9 (.nil))))))))))), (4, .st 0 (.st 1 (.st 2 (.st 3 (.st 4 (.st 5 (.st 6 (.st 7 (.st 8 (.st 9 (.st 10 (.st 11 (.st 12 (.st 13 (.st 15 (.st 16 (.st 17 (.st 18 (.st 14 (.st 19 (.st 20 (.st 21 (.st 22 (.st 23 (.nil))))))))))))))))))))))))), (7, .st 0 (.st 1 (.st 2 (.st 3 (.st 4 (.st 5 (.st 6 (.st 7 (.st 8 (.st 10 (.st 11 (.st 12 (.st 13 (.st 9 (.st 14 (.st 15 (.st 16 (.st 17 (.nil)))))))))))))))))))], [], false⟩
def hs_attr_both_attr_Raw_c1 : List Keep := [[(0, []), (1, []), (2, []), (6, []), (7, []), (92, [(0, 123, YAttr)])]]
@[reducible] noncomputable def env_attr_both_attr_Raw_c1 : Env := [(138, ⟨sig_attr_Raw_c1, F_attr_Raw_c1⟩)]
noncomputable def L_attr_both_attr_Raw_c1_0 (n m1 : Nat) (x0 : List YAttr.den) (x1 : List YAttr.den) (x6 : Int) (x7 : Int) (x92 : List YAttr.den) : Option sig_attr_both_attr_Raw_c1.Out :=
  loopAt T (env_attr_both_attr_Raw_c1) os_attr_both_attr_Raw_c1 sig_attr_both_attr_Raw_c1 Try.f136 hs_attr_both_attr_Raw_c1 n [.sr, .bl] m1 (mk 93 [(0, .cs false [.val (.list YAttr) x0]), (1, .cs false [.val (.list YAttr) x1]), (2, .cs false [.clo 138 [92]]), (6, .cs false [.val (.int .i64) x6]), (7, .cs false [.val (.int .i64) x7]), (92, .box [.own 123 YAttr x92])])
theorem L_attr_both_attr_Raw_c1_0_step (n m1 : Nat) (x0 : List YAttr.den) (x1 : List YAttr.den) (x6 : Int) (x7 : Int) (x92 : List YAttr.den) : L_attr_both_attr_Raw_c1_0 n (m1 + 1) x0 x1 x6 x7 x92 =
  (bcond ((decide ((x6 : Int) < (List.length x0 : Int))) == false)
   (bcond (decide ((x7 : Int) < (List.length x1 : Int)))
    (bcond (((x7 : Int) == (List.length x1 : Int)) == false)
     (bcond ((decide ((x6 : Int) < (List.length x0 : Int))) == true)
      (if 0 ≤ (x6 : Int) ∧ (x6 : Int) < (List.length x0 : Int) then
       (if 0 ≤ (x7 : Int) ∧ (x7 : Int) < (List.length x1 : Int) then
        (bcond (strLess (at_ (e := YAttr) x0 x6).1 (at_ (e := YAttr) x1 x7).1)
         (if 0 ≤ (x6 : Int) ∧ (x6 : Int) < (List.length x0 : Int) then
          ((C_attr_Raw_c1 F_attr_Raw_c1 (at_ (e := YAttr) x0 x6) ([], []) x92).bind fun r1 =>
           (L_attr_both_attr_Raw_c1_0 n m1 x0 x1 (IntKind.i64.wrap (x6 + 1)) x7 (res_attr_Raw_c1_0 r1)))
         else none)
         (bcond (((x6 : Int) == (List.length x0 : Int)) == false)
          (if 0 ≤ (x7 : Int) ∧ (x7 : Int) < (List.length x1 : Int) then
           (if 0 ≤ (x6 : Int) ∧ (x6 : Int) < (List.length x0 : Int) then
            (bcond (strLess (at_ (e := YAttr) x1 x7).1 (at_ (e := YAttr) x0 x6).1)
             (if 0 ≤ (x7 : Int) ∧ (x7 : Int) < (List.length x1 : Int) then
              ((C_attr_Raw_c1 F_attr_Raw_c1 ([], []) (at_ (e := YAttr) x1 x7) x92).bind fun r1 =>
               (L_attr_both_attr_Raw_c1_0 n m1 x0 x1 x6 (IntKind.i64.wrap (x7 + 1)) (res_attr_Raw_c1_0 r1)))
             else none)
             (if 0 ≤ (x6 : Int) ∧ (x6 : Int) < (List.length x0 : Int) then
              (if 0 ≤ (x7 : Int) ∧ (x7 : Int) < (List.length x1 : Int) then
               ((C_attr_Raw_c1 F_attr_Raw_c1 (at_ (e := YAttr) x0 x6) (at_ (e := YAttr) x1 x7) x92).bind fun r1 =>
                (L_attr_both_attr_Raw_c1_0 n m1 x0 x1 (IntKind.i64.wrap (x6 + 1)) (IntKind.i64.wrap (x7 + 1)) (res_attr_Raw_c1_0 r1)))
              else none)
             else none))
           else none)
          else none)
          (if 0 ≤ (x7 : Int) ∧ (x7 : Int) < (List.length x1 : Int) then
           ((C_attr_Raw_c1 F_attr_Raw_c1 ([], []) (at_ (e := YAttr) x1 x7) x92).bind fun r1 =>
            (L_attr_both_attr_Raw_c1_0 n m1 x0 x1 x6 (IntKind.i64.wrap (x7 + 1)) (res_attr_Raw_c1_0 r1)))
          else none)))
       else none)
      else none)
      (bcond (((x6 : Int) == (List.length x0 : Int)) == false)
       (if 0 ≤ (x7 : Int) ∧ (x7 : Int) < (List.length x1 : Int) then
        (if 0 ≤ (x6 : Int) ∧ (x6 : Int) < (List.length x0 : Int) then
         (bcond (strLess (at_ (e := YAttr) x1 x7).1 (at_ (e := YAttr) x0 x6).1)
          (if 0 ≤ (x7 : Int) ∧ (x7 : Int) < (List.length x1 : Int) then
           ((C_attr_Raw_c1 F_attr_Raw_c1 ([], []) (at_ (e := YAttr) x1 x7) x92).bind fun r1 =>
            (L_attr_both_attr_Raw_c1_0 n m1 x0 x1 x6 (IntKind.i64.wrap (x7 + 1)) (res_attr_Raw_c1_0 r1)))
          else none)
          (if 0 ≤ (x6 : Int) ∧ (x6 : Int) < (List.length x0 : Int) then
           (if 0 ≤ (x7 : Int) ∧ (x7 : Int) < (List.length x1 : Int) then
            ((C_attr_Raw_c1 F_attr_Raw_c1 (at_ (e := YAttr) x0 x6) (at_ (e := YAttr) x1 x7) x92).bind fun r1 =>
             (L_attr_both_attr_Raw_c1_0 n m1 x0 x1 (IntKind.i64.wrap (x6 + 1)) (IntKind.i64.wrap (x7 + 1)) (res_attr_Raw_c1_0 r1)))
           else none)
          else none))
        else none)
       else none)
       (if 0 ≤ (x7 : Int) ∧ (x7 : Int) < (List.length x1 : Int) then
        ((C_attr_Raw_c1 F_attr_Raw_c1 ([], []) (at_ (e := YAttr) x1 x7) x92).bind fun r1 =>
         (L_attr_both_attr_Raw_c1_0 n m1 x0 x1 x6 (IntKind.i64.wrap (x7 + 1)) (res_attr_Raw_c1_0 r1)))
       else none)))
     (if 0 ≤ (x6 : Int) ∧ (x6 : Int) < (List.length x0 : Int) then
      ((C_attr_Raw_c1 F_attr_Raw_c1 (at_ (e := YAttr) x0 x6) ([], []) x92).bind fun r1 =>
       (L_attr_both_attr_Raw_c1_0 n m1 x0 x1 (IntKind.i64.wrap (x6 + 1)) x7 (res_attr_Raw_c1_0 r1)))
     else none))
    (some (ret_attr_both_attr_Raw_c1 x92)))
   (bcond (((x7 : Int) == (List.length x1 : Int)) == false)
    (bcond ((decide ((x6 : Int) < (List.length x0 : Int))) == true)
     (if 0 ≤ (x6 : Int) ∧ (x6 : Int) < (List.length x0 : Int) then
      (if 0 ≤ (x7 : Int) ∧ (x7 : Int) < (List.length x1 : Int) then
       (bcond (strLess (at_ (e := YAttr) x0 x6).1 (at_ (e := YAttr) x1 x7).1)
        (if 0 ≤ (x6 : Int) ∧ (x6 : Int) < (List.length x0 : Int) then
         ((C_attr_Raw_c1 F_attr_Raw_c1 (at_ (e := YAttr) x0 x6) ([], []) x92).bind fun r1 =>
          (L_attr_both_attr_Raw_c1_0 n m1 x0 x1 (IntKind.i64.wrap (x6 + 1)) x7 (res_attr_Raw_c1_0 r1)))
        else none)
        (bcond (((x6 : Int) == (List.length x0 : Int)) == false)
         (if 0 ≤ (x7 : Int) ∧ (x7 : Int) < (List.length x1 : Int) then
          (if 0 ≤ (x6 : Int) ∧ (x6 : Int) < (List.length x0 : Int) then
           (bcond (strLess (at_ (e := YAttr) x1 x7).1 (at_ (e := YAttr) x0 x6).1)
            (if 0 ≤ (x7 : Int) ∧ (x7 : Int) < (List.length x1 : Int) then
             ((C_attr_Raw_c1 F_attr_Raw_c1 ([], []) (at_ (e := YAttr) x1 x7) x92).bind fun r1 =>
              (L_attr_both_attr_Raw_c1_0 n m1 x0 x1 x6 (IntKind.i64.wrap (x7 + 1)) (res_attr_Raw_c1_0 r1)))
            else none)
            (if 0 ≤ (x6 : Int) ∧ (x6 : Int) < (List.length x0 : Int) then
             (if 0 ≤ (x7 : Int) ∧ (x7 : Int) < (List.length x1 : Int) then
              ((C_attr_Raw_c1 F_attr_Raw_c1 (at_ (e := YAttr) x0 x6) (at_ (e := YAttr) x1 x7) x92).bind fun r1 =>
               (L_attr_both_attr_Raw_c1_0 n m1 x0 x1 (IntKind.i64.wrap (x6 + 1)) (IntKind.i64.wrap (x7 + 1)) (res_attr_Raw_c1_0 r1)))
             else none)
            else none))
          else none)
         else none)
         (if 0 ≤ (x7 : Int) ∧ (x7 : Int) < (List.length x1 : Int) then
          ((C_attr_Raw_c1 F_attr_Raw_c1 ([], []) (at_ (e := YAttr) x1 x7) x92).bind fun r1 =>
           (L_attr_both_attr_Raw_c1_0 n m1 x0 x1 x6 (IntKind.i64.wrap (x7 + 1)) (res_attr_Raw_c1_0 r1)))
         else none)))
      else none)
     else none)
     (bcond (((x6 : Int) == (List.length x0 : Int)) == false)
      (if 0 ≤ (x7 : Int) ∧ (x7 : Int) < (List.length x1 : Int) then
       (if 0 ≤ (x6 : Int) ∧ (x6 : Int) < (List.length x0 : Int) then
        (bcond (strLess (at_ (e := YAttr) x1 x7).1 (at_ (e := YAttr) x0 x6).1)
         (if 0 ≤ (x7 : Int) ∧ (x7 : Int) < (List.length x1 : Int) then
          ((C_attr_Raw_c1 F_attr_Raw_c1 ([], []) (at_ (e := YAttr) x1 x7) x92).bind fun r1 =>
           (L_attr_both_attr_Raw_c1_0 n m1 x0 x1 x6 (IntKind.i64.wrap (x7 + 1)) (res_attr_Raw_c1_0 r1)))
         else none)
         (if 0 ≤ (x6 : Int) ∧ (x6 : Int) < (List.length x0 : Int) then
          (if 0 ≤ (x7 : Int) ∧ (x7 : Int) < (List.length x1 : Int) then
           ((C_attr_Raw_c1 F_attr_Raw_c1 (at_ (e := YAttr) x0 x6) (at_ (e := YAttr) x1 x7) x92).bind fun r1 =>
            (L_attr_both_attr_Raw_c1_0 n m1 x0 x1 (IntKind.i64.wrap (x6 + 1)) (IntKind.i64.wrap (x7 + 1)) (res_attr_Raw_c1_0 r1)))
          else none)
         else none))
       else none)
      else none)
      (if 0 ≤ (x7 : Int) ∧ (x7 : Int) < (List.length x1 : Int) then
       ((C_attr_Raw_c1 F_attr_Raw_c1 ([], []) (at_ (e := YAttr) x1 x7) x92).bind fun r1 =>
        (L_attr_both_attr_Raw_c1_0 n m1 x0 x1 x6 (IntKind.i64.wrap (x7 + 1)) (res_attr_Raw_c1_0 r1)))
      else none)))
    (if 0 ≤ (x6 : Int) ∧ (x6 : Int) < (List.length x0 : Int) then
     ((C_attr_Raw_c1 F_attr_Raw_c1 (at_ (e := YAttr) x0 x6) ([], []) x92).bind fun r1 =>
      (L_attr_both_attr_Raw_c1_0 n m1 x0 x1 (IntKind.i64.wrap (x6 + 1)) x7 (res_attr_Raw_c1_0 r1)))
    else none))) := by kernel_rfl
theorem ok_attr_both_attr_Raw_c1 : fnOk os_attr_both_attr_Raw_c1 sig_attr_both_attr_Raw_c1 Try.f136 = true := by kernel_rfl
theorem fn_attr_both_attr_Raw_c1 : P.funcs[136]? = some Try.f136 := by kernel_rfl
noncomputable def F_attr_both_attr_Raw_c1 : sig_attr_both_attr_Raw_c1.Fn := fun x y => run T (env_attr_both_attr_Raw_c1) os_attr_both_attr_Raw_c1 sig_attr_both_attr_Raw_c1 Try.f136 hs_attr_both_attr_Raw_c1 big x y
theorem S_attr_both_attr_Raw_c1 : Sound P 136 ⟨sig_attr_both_attr_Raw_c1, F_attr_both_attr_Raw_c1⟩ := sound_of (os := os_attr_both_attr_Raw_c1) (hs := hs_attr_both_attr_Raw_c1) (env_cons S_attr_Raw_c1 (env_nil)) fn_attr_both_attr_Raw_c1 ok_attr_both_attr_Raw_c1 (fun x y out h => ⟨big, h⟩)
theorem e_attr_both_attr_Raw_c1 (a0 : List YAttr.den) (a1 : List YAttr.den) (b0_0 : List YAttr.den) : C_attr_both_attr_Raw_c1 F_attr_both_attr_Raw_c1 a0 a1 b0_0 =
  (L_attr_both_attr_Raw_c1_0 big big a0 a1 0 0 b0_0) := by kernel_rfl
def sig_attr_Raw : Sig := ⟨[.v false (.list YAttr), .v false (.list YAttr)], [], [(false, [.fr (.list YAttr)])]⟩
def C_attr_Raw (F : sig_attr_Raw.Fn) (a0 : List YAttr.den) (a1 : List YAttr.den) : Option sig_attr_Raw.Out := F (a0, a1, ()) ()
def ret_attr_Raw (v0 : List YAttr.den) : sig_attr_Raw.Out := (((v0, ()), ()), ())
def res_attr_Raw_0 (r : sig_attr_Raw.Out) : List YAttr.den := r.1.1.1
@[simp] theorem res_attr_Raw_0_ret (v0 : List YAttr.den) : res_attr_Raw_0 (ret_attr_Raw v0) = v0 := rfl
def os_attr_Raw : RegT := ⟨[], [], false⟩
def hs_attr_Raw : List Keep := []
@[reducible] noncomputable def env_attr_Raw : Env := [(136, ⟨sig_attr_both_attr_Raw_c1, F_attr_both_attr_Raw_c1⟩)]
theorem ok_attr_Raw : fnOk os_attr_Raw sig_attr_Raw Try.f88 = true := by kernel_rfl
theorem fn_attr_Raw : P.funcs[88]? = some Try.f88 := by kernel_rfl
noncomputable def F_attr_Raw : sig_attr_Raw.Fn := fun x y => run T (env_attr_Raw) os_attr_Raw sig_attr_Raw Try.f88 hs_attr_Raw big x y
theorem S_attr_Raw : Sound P 88 ⟨sig_attr_Raw, F_attr_Raw⟩ := sound_of (os := os_attr_Raw) (hs := hs_attr_Raw) (env_cons S_attr_both_attr_Raw_c1 (env_nil)) fn_attr_Raw ok_attr_Raw (fun x y out h => ⟨big, h⟩)
theorem e_attr_Raw (a0 : List YAttr.den) (a1 : List YAttr.den) : C_attr_Raw F_attr_Raw a0 a1 =
  ((C_attr_both_attr_Raw_c1 F_attr_both_attr_Raw_c1 a0 a1 []).bind fun r1 =>
   (some (ret_attr_Raw (res_attr_both_attr_Raw_c1_0 r1)))) := by kernel_rfl
def sig_attr_Change_c1 : Sig := ⟨[.v true YAttr, .v true YAttr, .p 0], [[.ow 123 YAttr]], []⟩
def C_attr_Change_c1 (F : sig_attr_Change_c1.Fn) (a0 : YAttr.den) (a1 : YAttr.den) (b0_0 : List YAttr.den) : Option sig_attr_Change_c1.Out := F (a0, a1, ()) ((b0_0, ()), ())
def ret_attr_Change_c1 (v0 : List YAttr.den) : sig_attr_Change_c1.Out := ((), ((v0, ()), ()))
def res_attr_Change_c1_0 (r : sig_attr_Change_c1.Out) : List YAttr.den := r.2.1.1
@[simp] theorem res_attr_Change_c1_0_ret (v0 : List YAttr.den) : res_attr_Change_c1_0 (ret_attr_Change_c1 v0) = v0 := rfl
def os_attr_Change_c1 : RegT := ⟨[], [], false⟩
def hs_attr_Change_c1 : List Keep := []
@[reducible] noncomputable def env_attr_Change_c1 : Env := []
theorem ok_attr_Change_c1 : fnOk os_attr_Change_c1 sig_attr_Change_c1 Try.f137 = true := by kernel_rfl
theorem fn_attr_Change_c1 : P.funcs[137]? = some Try.f137 := by kernel_rfl
noncomputable def F_attr_Change_c1 : sig_attr_Change_c1.Fn := fun x y => run T (env_attr_Change_c1) os_attr_Change_c1 sig_attr_Change_c1 Try.f137 hs_attr_Change_c1 big x y
theorem S_attr_Change_c1 : Sound P 137 ⟨sig_attr_Change_c1, F_attr_Change_c1⟩ := sound_of (os := os_attr_Change_c1) (hs := hs_attr_Change_c1) (env_nil) fn_attr_Change_c1 ok_attr_Change_c1 (fun x y out h => ⟨big, h⟩)
theorem e_attr_Change_c1 (a0 : YAttr.den) (a1 : YAttr.den) (b0_0 : List YAttr.den) : C_attr_Change_c1 F_attr_Change_c1 a0 a1 b0_0 =
  (bcond ((a1.1 : List UInt8) == [])
   (if (List.length (b0_0 : List YAttr.den) + List.length ([(a0.1, [])] : List YAttr.den)) * 32 ≤ 140737488355328 then
    (some (ret_attr_Change_c1 (b0_0 ++ [(a0.1, [])])))
   else none)
   (bcond (!(((a0.1 : List UInt8) == a1.1) && (((a0.2 : List UInt8) == a1.2) && true)))
    (if (List.length (b0_0 : List YAttr.den) + List.length ([a1] : List YAttr.den)) * 32 ≤ 140737488355328 then
     (some (ret_attr_Change_c1 (b0_0 ++ [a1])))
    else none)
    (some (ret_attr_Change_c1 b0_0)))) := by kernel_rfl
def sig_attr_both_attr_Change_c1 : Sig := ⟨[.v false (.list YAttr), .v false (.list YAttr), .f 137 [0]], [[.ow 123 YAttr]], []⟩
def C_attr_both_attr_Change_c1 (F : sig_attr_both_attr_Change_c1.Fn) (a0 : List YAttr.den) (a1 : List YAttr.den) (b0_0 : List YAttr.den) : Option sig_attr_both_attr_Change_c1.Out := F (a0, a1, ()) ((b0_0, ()), ())
def ret_attr_both_attr_Change_c1 (v0 : List YAttr.den) : sig_attr_both_attr_Change_c1.Out := ((), ((v0, ()), ()))
def res_attr_both_attr_Change_c1_0 (r : sig_attr_both_attr_Change_c1.Out) : List YAttr.den := r.2.1.1
@[simp] theorem res_attr_both_attr_Change_c1_0_ret (v0 : List YAttr.den) : res_attr_both_attr_Change_c1_0 (ret_attr_both_attr_Change_c1 v0) = v0 := rfl
def os_attr_both_attr_Change_c1 : RegT := ⟨[(2, .st 0 (.st 1 (.st 2 (.st 3 (.st 5 (.st 6 (.st 7 (.st 4 (.st 8 (.st 9 (.nil))))))))))), (4, .st 0 (.st 1 (.st 2 (.st 3 (.st 4 (.st 5 (.st 6 (.st 7 (.st 8 (.st 9 (.st 10 (.st 11 (.st 12 (.st 13 (.st 15 (.st 16 (.st 17 (.st 18 (.st 14 (.st 19 (.st 20 (.st 21 (.st 22 (.st 23 (.nil))))))))))))))))))))))))), (7, .st 0 (.st 1 (.st 2 (.st 3 (.st 4 (.st 5 (.st 6 (.st 7 (.st 8 (.st 10 (.st 11 (.st 12 (.st 13 (.st 9 (.st 14 (.st 15 (.st 16 (.st 17 (.nil)))))))))))))))))))], [], false⟩
def hs_attr_both_attr_Change_c1 : List Keep := [[(0, []), (1, []), (2, []), (6, []), (7, []), (92, [(0, 123, YAttr)])]]
@[reducible] noncomputable def env_attr_both_attr_Change_c1 : Env := [(137, ⟨sig_attr_Change_c1, F_attr_Change_c1⟩)]
noncomputable def L_attr_both_attr_Change_c1_0 (n m1 : Nat) (x0 : List YAttr.den) (x1 : List YAttr.den) (x6 : Int) (x7 : Int) (x92 : List YAttr.den) : Option sig_attr_both_attr_Change_c1.Out :=
  loopAt T (env_attr_both_attr_Change_c1) os_attr_both_attr_Change_c1 sig_attr_both_attr_Change_c1 Try.f136 hs_attr_both_attr_Change_c1 n [.sr, .bl] m1 (mk 93 [(0, .cs false [.val (.list YAttr) x0]), (1, .cs false [.val (.list YAttr) x1]), (2, .cs false [.clo 137 [92]]), (6, .cs false [.val (.int .i64) x6]), (7, .cs false [.val (.int .i64) x7]), (92, .box [.own 123 YAttr x92])])
theorem L_attr_both_attr_Change_c1_0_step (n m1 : Nat) (x0 : List YAttr.den) (x1 : List YAttr.den) (x6 : Int) (x7 : Int) (x92 : List YAttr.den) : L_attr_both_attr_Change_c1_0 n (m1 + 1) x0 x1 x6 x7 x92 =
  (bcond ((decide ((x6 : Int) < (List.length x0 : Int))) == false)
   (bcond (decide ((x7 : Int) < (List.length x1 : Int)))
    (bcond (((x7 : Int) == (List.length x1 : Int)) == false)
     (bcond ((decide ((x6 : Int) < (List.length x0 : Int))) == true)
      (if 0 ≤ (x6 : Int) ∧ (x6 : Int) < (List.length x0 : Int) then
       (if 0 ≤ (x7 : Int) ∧ (x7 : Int) < (List.length x1 : Int) then
        (bcond (strLess (at_ (e := YAttr) x0 x6).1 (at_ (e := YAttr) x1 x7).1)
         (if 0 ≤ (x6 : Int) ∧ (x6 : Int) < (List.length x0 : Int) then
          ((C_attr_Change_c1 F_attr_Change_c1 (at_ (e := YAttr) x0 x6) ([], []) x92).bind fun r1 =>
           (L_attr_both_attr_Change_c1_0 n m1 x0 x1 (IntKind.i64.wrap (x6 + 1)) x7 (res_attr_Change_c1_0 r1)))
         else none)
         (bcond (((x6 : Int) == (List.length x0 : Int)) == false)
          (if 0 ≤ (x7 : Int) ∧ (x7 : Int) < (List.length x1 : Int) then
           (if 0 ≤ (x6 : Int) ∧ (x6 : Int) < (List.length x0 : Int) then
            (bcond (strLess (at_ (e := YAttr) x1 x7).1 (at_ (e := YAttr) x0 x6).1)
             (if 0 ≤ (x7 : Int) ∧ (x7 : Int) < (List.length x1 : Int) then
              ((C_attr_Change_c1 F_attr_Change_c1 ([], []) (at_ (e := YAttr) x1 x7) x92).bind fun r1 =>
               (L_attr_both_attr_Change_c1_0 n m1 x0 x1 x6 (IntKind.i64.wrap (x7 + 1)) (res_attr_Change_c1_0 r1)))
             else none)
             (if 0 ≤ (x6 : Int) ∧ (x6 : Int) < (List.length x0 : Int) then
              (if 0 ≤ (x7 : Int) ∧ (x7 : Int) < (List.length x1 : Int) then
               ((C_attr_Change_c1 F_attr_Change_c1 (at_ (e := YAttr) x0 x6) (at_ (e := YAttr) x1 x7) x92).bind fun r1 =>
                (L_attr_both_attr_Change_c1_0 n m1 x0 x1 (IntKind.i64.wrap (x6 + 1)) (IntKind.i64.wrap (x7 + 1)) (res_attr_Change_c1_0 r1)))
              else none)
             else none))
           else none)
          else none)
          (if 0 ≤ (x7 : Int) ∧ (x7 : Int) < (List.length x1 : Int) then
           ((C_attr_Change_c1 F_attr_Change_c1 ([], []) (at_ (e := YAttr) x1 x7) x92).bind fun r1 =>
            (L_attr_both_attr_Change_c1_0 n m1 x0 x1 x6 (IntKind.i64.wrap (x7 + 1)) (res_attr_Change_c1_0 r1)))
          else none)))
       else none)
      else none)
      (bcond (((x6 : Int) == (List.length x0 : Int)) == false)
       (if 0 ≤ (x7 : Int) ∧ (x7 : Int) < (List.length x1 : Int) then
        (if 0 ≤ (x6 : Int) ∧ (x6 : Int) < (List.length x0 : Int) then
         (bcond (strLess (at_ (e := YAttr) x1 x7).1 (at_ (e := YAttr) x0 x6).1)
          (if 0 ≤ (x7 : Int) ∧ (x7 : Int) < (List.length x1 : Int) then
           ((C_attr_Change_c1 F_attr_Change_c1 ([], []) (at_ (e := YAttr) x1 x7) x92).bind fun r1 =>
            (L_attr_both_attr_Change_c1_0 n m1 x0 x1 x6 (IntKind.i64.wrap (x7 + 1)) (res_attr_Change_c1_0 r1)))
          else none)
          (if 0 ≤ (x6 : Int) ∧ (x6 : Int) < (List.length x0 : Int) then
           (if 0 ≤ (x7 : Int) ∧ (x7 : Int) < (List.length x1 : Int) then
            ((C_attr_Change_c1 F_attr_Change_c1 (at_ (e := YAttr) x0 x6) (at_ (e := YAttr) x1 x7) x92).bind fun r1 =>
             (L_attr_both_attr_Change_c1_0 n m1 x0 x1 (IntKind.i64.wrap (x6 + 1)) (IntKind.i64.wrap (x7 + 1)) (res_attr_Change_c1_0 r1)))
           else none)
          else none))
        else none)
       else none)
       (if 0 ≤ (x7 : Int) ∧ (x7 : Int) < (List.length x1 : Int) then
        ((C_attr_Change_c1 F_attr_Change_c1 ([], []) (at_ (e := YAttr) x1 x7) x92).bind fun r1 =>
         (L_attr_both_attr_Change_c1_0 n m1 x0 x1 x6 (IntKind.i64.wrap (x7 + 1)) (res_attr_Change_c1_0 r1)))
       else none)))
     (if 0 ≤ (x6 : Int) ∧ (x6 : Int) < (List.length x0 : Int) then
      ((C_attr_Change_c1 F_attr_Change_c1 (at_ (e := YAttr) x0 x6) ([], []) x92).bind fun r1 =>
       (L_attr_both_attr_Change_c1_0 n m1 x0 x1 (IntKind.i64.wrap (x6 + 1)) x7 (res_attr_Change_c1_0 r1)))
     else none))
    (some (ret_attr_both_attr_Change_c1 x92)))
   (bcond (((x7 : Int) == (List.length x1 : Int)) == false)
    (bcond ((decide ((x6 : Int) < (List.length x0 : Int))) == true)
     (if 0 ≤ (x6 : Int) ∧ (x6 : Int) < (List.length x0 : Int) then
      (if 0 ≤ (x7 : Int) ∧ (x7 : Int) < (List.length x1 : Int) then
       (bcond (strLess (at_ (e := YAttr) x0 x6).1 (at_ (e := YAttr) x1 x7).1)
        (if 0 ≤ (x6 : Int) ∧ (x6 : Int) < (List.length x0 : Int) then
         ((C_attr_Change_c1 F_attr_Change_c1 (at_ (e := YAttr) x0 x6) ([], []) x92).bind fun r1 =>
          (L_attr_both_attr_Change_c1_0 n m1 x0 x1 (IntKind.i64.wrap (x6 + 1)) x7 (res_attr_Change_c1_0 r1)))
        else none)
        (bcond (((x6 : Int) == (List.length x0 : Int)) == false)
         (if 0 ≤ (x7 : Int) ∧ (x7 : Int) < (List.length x1 : Int) then
          (if 0 ≤ (x6 : Int) ∧ (x6 : Int) < (List.length x0 : Int) then
           (bcond (strLess (at_ (e := YAttr) x1 x7).1 (at_ (e := YAttr) x0 x6).1)
            (if 0 ≤ (x7 : Int) ∧ (x7 : Int) < (List.length x1 : Int) then
             ((C_attr_Change_c1 F_attr_Change_c1 ([], []) (at_ (e := YAttr) x1 x7) x92).bind fun r1 =>
              (L_attr_both_attr_Change_c1_0 n m1 x0 x1 x6 (IntKind.i64.wrap (x7 + 1)) (res_attr_Change_c1_0 r1)))
            else none)
            (if 0 ≤ (x6 : Int) ∧ (x6 : Int) < (List.length x0 : Int) then
             (if 0 ≤ (x7 : Int) ∧ (x7 : Int) < (List.length x1 : Int) then
              ((C_attr_Change_c1 F_attr_Change_c1 (at_ (e := YAttr) x0 x6) (at_ (e := YAttr) x1 x7) x92).bind fun r1 =>
               (L_attr_both_attr_Change_c1_0 n m1 x0 x1 (IntKind.i64.wrap (x6 + 1)) (IntKind.i64.wrap (x7 + 1)) (res_attr_Change_c1_0 r1)))
             else none)
            else none))
          else none)
         else none)
         (if 0 ≤ (x7 : Int) ∧ (x7 : Int) < (List.length x1 : Int) then
          ((C_attr_Change_c1 F_attr_Change_c1 ([], []) (at_ (e := YAttr) x1 x7) x92).bind fun r1 =>
           (L_attr_both_attr_Change_c1_0 n m1 x0 x1 x6 (IntKind.i64.wrap (x7 + 1)) (res_attr_Change_c1_0 r1)))
         else none)))
      else none)
     else none)
     (bcond (((x6 : Int) == (List.length x0 : Int)) == false)
      (if 0 ≤ (x7 : Int) ∧ (x7 : Int) < (List.length x1 : Int) then
       (if 0 ≤ (x6 : Int) ∧ (x6 : Int) < (List.length x0 : Int) then
        (bcond (strLess (at_ (e := YAttr) x1 x7).1 (at_ (e := YAttr) x0 x6).1)
         (if 0 ≤ (x7 : Int) ∧ (x7 : Int) < (List.length x1 : Int) then
          ((C_attr_Change_c1 F_attr_Change_c1 ([], []) (at_ (e := YAttr) x1 x7) x92).bind fun r1 =>
           (L_attr_both_attr_Change_c1_0 n m1 x0 x1 x6 (IntKind.i64.wrap (x7 + 1)) (res_attr_Change_c1_0 r1)))
         else none)
         (if 0 ≤ (x6 : Int) ∧ (x6 : Int) < (List.length x0 : Int) then
          (if 0 ≤ (x7 : Int) ∧ (x7 : Int) < (List.length x1 : Int) then
           ((C_attr_Change_c1 F_attr_Change_c1 (at_ (e := YAttr) x0 x6) (at_ (e := YAttr) x1 x7) x92).bind fun r1 =>
            (L_attr_both_attr_Change_c1_0 n m1 x0 x1 (IntKind.i64.wrap (x6 + 1)) (IntKind.i64.wrap (x7 + 1)) (res_attr_Change_c1_0 r1)))
          else none)
         else none))
       else none)
      else none)
      (if 0 ≤ (x7 : Int) ∧ (x7 : Int) < (List.length x1 : Int) then
       ((C_attr_Change_c1 F_attr_Change_c1 ([], []) (at_ (e := YAttr) x1 x7) x92).bind fun r1 =>
        (L_attr_both_attr_Change_c1_0 n m1 x0 x1 x6 (IntKind.i64.wrap (x7 + 1)) (res_attr_Change_c1_0 r1)))
      else none)))
    (if 0 ≤ (x6 : Int) ∧ (x6 : Int) < (List.length x0 : Int) then
     ((C_attr_Change_c1 F_attr_Change_c1 (at_ (e := YAttr) x0 x6) ([], []) x92).bind fun r1 =>
      (L_attr_both_attr_Change_c1_0 n m1 x0 x1 (IntKind.i64.wrap (x6 + 1)) x7 (res_attr_Change_c1_0 r1)))
    else none))) := by kernel_rfl
theorem ok_attr_both_attr_Change_c1 : fnOk os_attr_both_attr_Change_c1 sig_attr_both_attr_Change_c1 Try.f136 = true := by kernel_rfl
theorem fn_attr_both_attr_Change_c1 : P.funcs[136]? = some Try.f136 := by kernel_rfl
noncomputable def F_attr_both_attr_Change_c1 : sig_attr_both_attr_Change_c1.Fn := fun x y => run T (env_attr_both_attr_Change_c1) os_attr_both_attr_Change_c1 sig_attr_both_attr_Change_c1 Try.f136 hs_attr_both_attr_Change_c1 big x y
theorem S_attr_both_attr_Change_c1 : Sound P 136 ⟨sig_attr_both_attr_Change_c1, F_attr_both_attr_Change_c1⟩ := sound_of (os := os_attr_both_attr_Change_c1) (hs := hs_attr_both_attr_Change_c1) (env_cons S_attr_Change_c1 (env_nil)) fn_attr_both_attr_Change_c1 ok_attr_both_attr_Change_c1 (fun x y out h => ⟨big, h⟩)
theorem e_attr_both_attr_Change_c1 (a0 : List YAttr.den) (a1 : List YAttr.den) (b0_0 : List YAttr.den) : C_attr_both_attr_Change_c1 F_attr_both_attr_Change_c1 a0 a1 b0_0 =
  (L_attr_both_attr_Change_c1_0 big big a0 a1 0 0 b0_0) := by kernel_rfl
def sig_attr_Change : Sig := ⟨[.v false (.list YAttr), .v false (.list YAttr)], [], [(false, [.fr (.list YAttr)])]⟩
def C_attr_Change (F : sig_attr_Change.Fn) (a0 : List YAttr.den) (a1 : List YAttr.den) : Option sig_attr_Change.Out := F (a0, a1, ()) ()
def ret_attr_Change (v0 : List YAttr.den) : sig_attr_Change.Out := (((v0, ()), ()), ())
def res_attr_Change_0 (r : sig_attr_Change.Out) : List YAttr.den := r.1.1.1
@[simp] theorem res_attr_Change_0_ret (v0 : List YAttr.den) : res_attr_Change_0 (ret_attr_Change v0) = v0 := rfl
def os_attr_Change : RegT := ⟨[], [], false⟩
def hs_attr_Change : List Keep := []
@[reducible] noncomputable def env_attr_Change : Env := [(136, ⟨sig_attr_both_attr_Change_c1, F_attr_both_attr_Change_c1⟩)]
theorem ok_attr_Change : fnOk os_attr_Change sig_attr_Change Try.f87 = true := by kernel_rfl
theorem fn_attr_Change : P.funcs[87]? = some Try.f87 := by kernel_rfl
noncomputable def F_attr_Change : sig_attr_Change.Fn := fun x y => run T (env_attr_Change) os_attr_Change sig_attr_Change Try.f87 hs_attr_Change big x y
theorem S_attr_Change : Sound P 87 ⟨sig_attr_Change, F_attr_Change⟩ := sound_of (os := os_attr_Change) (hs := hs_attr_Change) (env_cons S_attr_both_attr_Change_c1 (env_nil)) fn_attr_Change ok_attr_Change (fun x y out h => ⟨big, h⟩)
theorem e_attr_Change (a0 : List YAttr.den) (a1 : List YAttr.den) : C_attr_Change F_attr_Change a0 a1 =
  ((C_attr_both_attr_Change_c1 F_attr_both_attr_Change_c1 a0 a1 []).bind fun r1 =>
   (some (ret_attr_Change (res_attr_both_attr_Change_c1_0 r1)))) := by kernel_rfl
def sig_R_Name : Sig := ⟨[.v false .str], [], [(false, [.fr .bool])]⟩
def C_R_Name (F : sig_R_Name.Fn) (a0 : List UInt8) : Option sig_R_Name.Out := F (a0, ()) ()
def ret_R_Name (v0 : Bool) : sig_R_Name.Out := (((v0, ()), ()), ())
def res_R_Name_0 (r : sig_R_Name.Out) : Bool := r.1.1.1
@[simp] theorem res_R_Name_0_ret (v0 : Bool) : res_R_Name_0 (ret_R_Name v0) = v0 := rfl
def os_R_Name : RegT := ⟨[], [], false⟩
def hs_R_Name : List Keep := [[(0, []), (6, []), (7, [])]]
@[reducible] noncomputable def env_R_Name : Env := []
noncomputable def L_R_Name_0 (n m1 : Nat) (x0 : List UInt8) (x6 : Int) (x7 : Int) : Option sig_R_Name.Out :=
  loopAt T (env_R_Name) os_R_Name sig_R_Name Try.f83 hs_R_Name n [.sr, .sl, .sr, .bl] m1 (mk 59 [(0, .cs false [.val .str x0]), (6, .cs false [.val (.int .i64) x6]), (7, .cs false [.val (.int .i64) x7])])
theorem L_R_Name_0_step (n m1 : Nat) (x0 : List UInt8) (x6 : Int) (x7 : Int) : L_R_Name_0 n (m1 + 1) x0 x6 x7 =
  (bcond (decide ((x7 : Int) < x6))
   (if 0 ≤ (x7 : Int) ∧ (x7 : Int) < (List.length x0 : Int) then
    (bcond ((decide ((((List.getD (x0 : List UInt8) (Int.toNat x7) 0).toNat : Int) : Int) ≥ 97)) == true)
     (if 0 ≤ (x7 : Int) ∧ (x7 : Int) < (List.length x0 : Int) then
      (bcond ((!(decide ((((List.getD (x0 : List UInt8) (Int.toNat x7) 0).toNat : Int) : Int) ≤ 122))) == true)
       (bcond (((x7 : Int) == 0) == false)
        (if 0 ≤ (x7 : Int) ∧ (x7 : Int) < (List.length x0 : Int) then
         (bcond (((((List.getD (x0 : List UInt8) (Int.toNat x7) 0).toNat : Int) : Int) != 46) == true)
          (if 0 ≤ (x7 : Int) ∧ (x7 : Int) < (List.length x0 : Int) then
           (bcond (((((List.getD (x0 : List UInt8) (Int.toNat x7) 0).toNat : Int) : Int) != 45) == true)
            (if 0 ≤ (x7 : Int) ∧ (x7 : Int) < (List.length x0 : Int) then
             (bcond ((decide ((((List.getD (x0 : List UInt8) (Int.toNat x7) 0).toNat : Int) : Int) < 48)) == false)
              (if 0 ≤ (x7 : Int) ∧ (x7 : Int) < (List.length x0 : Int) then
               (bcond (decide ((((List.getD (x0 : List UInt8) (Int.toNat x7) 0).toNat : Int) : Int) > 57))
                (some (ret_R_Name false))
                (L_R_Name_0 n m1 x0 x6 (IntKind.i64.wrap (x7 + 1))))
              else none)
              (some (ret_R_Name false)))
            else none)
            (L_R_Name_0 n m1 x0 x6 (IntKind.i64.wrap (x7 + 1))))
          else none)
          (L_R_Name_0 n m1 x0 x6 (IntKind.i64.wrap (x7 + 1))))
        else none)
        (some (ret_R_Name false)))
       (L_R_Name_0 n m1 x0 x6 (IntKind.i64.wrap (x7 + 1))))
     else none)
     (bcond (((x7 : Int) == 0) == false)
      (if 0 ≤ (x7 : Int) ∧ (x7 : Int) < (List.length x0 : Int) then
       (bcond (((((List.getD (x0 : List UInt8) (Int.toNat x7) 0).toNat : Int) : Int) != 46) == true)
        (if 0 ≤ (x7 : Int) ∧ (x7 : Int) < (List.length x0 : Int) then
         (bcond (((((List.getD (x0 : List UInt8) (Int.toNat x7) 0).toNat : Int) : Int) != 45) == true)
          (if 0 ≤ (x7 : Int) ∧ (x7 : Int) < (List.length x0 : Int) then
           (bcond ((decide ((((List.getD (x0 : List UInt8) (Int.toNat x7) 0).toNat : Int) : Int) < 48)) == false)
            (if 0 ≤ (x7 : Int) ∧ (x7 : Int) < (List.length x0 : Int) then
             (bcond (decide ((((List.getD (x0 : List UInt8) (Int.toNat x7) 0).toNat : Int) : Int) > 57))
              (some (ret_R_Name false))
              (L_R_Name_0 n m1 x0 x6 (IntKind.i64.wrap (x7 + 1))))
            else none)
            (some (ret_R_Name false)))
          else none)
          (L_R_Name_0 n m1 x0 x6 (IntKind.i64.wrap (x7 + 1))))
        else none)
        (L_R_Name_0 n m1 x0 x6 (IntKind.i64.wrap (x7 + 1))))
      else none)
      (some (ret_R_Name false))))
   else none)
   (bcond ((decide (((List.length x0 : Int) : Int) ≥ 1)) == true)
    (some (ret_R_Name (decide (((List.length x0 : Int) : Int) ≤ 24))))
    (some (ret_R_Name false)))) := by kernel_rfl
theorem ok_R_Name : fnOk os_R_Name sig_R_Name Try.f83 = true := by kernel_rfl
theorem fn_R_Name : P.funcs[83]? = some Try.f83 := by kernel_rfl
noncomputable def F_R_Name : sig_R_Name.Fn := fun x y => run T (env_R_Name) os_R_Name sig_R_Name Try.f83 hs_R_Name big x y
theorem S_R_Name : Sound P 83 ⟨sig_R_Name, F_R_Name⟩ := sound_of (os := os_R_Name) (hs := hs_R_Name) (env_nil) fn_R_Name ok_R_Name (fun x y out h => ⟨big, h⟩)
theorem e_R_Name (a0 : List UInt8) : C_R_Name F_R_Name a0 =
  (L_R_Name_0 big big a0 (List.length a0 : Int) 0) := by kernel_rfl
def sig_R_Value : Sig := ⟨[.v false .str], [], [(false, [.fr .bool])]⟩
def C_R_Value (F : sig_R_Value.Fn) (a0 : List UInt8) : Option sig_R_Value.Out := F (a0, ()) ()
def ret_R_Value (v0 : Bool) : sig_R_Value.Out := (((v0, ()), ()), ())
def res_R_Value_0 (r : sig_R_Value.Out) : Bool := r.1.1.1
@[simp] theorem res_R_Value_0_ret (v0 : Bool) : res_R_Value_0 (ret_R_Value v0) = v0 := rfl
def os_R_Value : RegT := ⟨[], [], false⟩
def hs_R_Value : List Keep := [[(0, []), (5, []), (6, [])]]
@[reducible] noncomputable def env_R_Value : Env := []
noncomputable def L_R_Value_0 (n m1 : Nat) (x0 : List UInt8) (x5 : Int) (x6 : Int) : Option sig_R_Value.Out :=
  loopAt T (env_R_Value) os_R_Value sig_R_Value Try.f84 hs_R_Value n [.sr, .sl, .sr, .bl] m1 (mk 28 [(0, .cs false [.val .str x0]), (5, .cs false [.val (.int .i64) x5]), (6, .cs false [.val (.int .i64) x6])])
theorem L_R_Value_0_step (n m1 : Nat) (x0 : List UInt8) (x5 : Int) (x6 : Int) : L_R_Value_0 n (m1 + 1) x0 x5 x6 =
  (bcond (decide ((x6 : Int) < x5))
   (if 0 ≤ (x6 : Int) ∧ (x6 : Int) < (List.length x0 : Int) then
    (bcond ((decide ((((List.getD (x0 : List UInt8) (Int.toNat x6) 0).toNat : Int) : Int) < 32)) == false)
     (if 0 ≤ (x6 : Int) ∧ (x6 : Int) < (List.length x0 : Int) then
      (bcond (decide ((((List.getD (x0 : List UInt8) (Int.toNat x6) 0).toNat : Int) : Int) > 126))
       (some (ret_R_Value false))
       (L_R_Value_0 n m1 x0 x5 (IntKind.i64.wrap (x6 + 1))))
     else none)
     (some (ret_R_Value false)))
   else none)
   (bcond ((decide (((List.length x0 : Int) : Int) ≥ 1)) == true)
    (some (ret_R_Value (decide (((List.length x0 : Int) : Int) ≤ 200))))
    (some (ret_R_Value false)))) := by kernel_rfl
theorem ok_R_Value : fnOk os_R_Value sig_R_Value Try.f84 = true := by kernel_rfl
theorem fn_R_Value : P.funcs[84]? = some Try.f84 := by kernel_rfl
noncomputable def F_R_Value : sig_R_Value.Fn := fun x y => run T (env_R_Value) os_R_Value sig_R_Value Try.f84 hs_R_Value big x y
theorem S_R_Value : Sound P 84 ⟨sig_R_Value, F_R_Value⟩ := sound_of (os := os_R_Value) (hs := hs_R_Value) (env_nil) fn_R_Value ok_R_Value (fun x y out h => ⟨big, h⟩)
theorem e_R_Value (a0 : List UInt8) : C_R_Value F_R_Value a0 =
  (L_R_Value_0 big big a0 (List.length a0 : Int) 0) := by kernel_rfl
def sig_R_AttrsError : Sig := ⟨[.v false (.list YAttr), .v false .bool], [], [(false, [.fr (.int .i64)])]⟩
def C_R_AttrsError (F : sig_R_AttrsError.Fn) (a0 : List YAttr.den) (a1 : Bool) : Option sig_R_AttrsError.Out := F (a0, a1, ()) ()
def ret_R_AttrsError (v0 : Int) : sig_R_AttrsError.Out := (((v0, ()), ()), ())
def res_R_AttrsError_0 (r : sig_R_AttrsError.Out) : Int := r.1.1.1
@[simp] theorem res_R_AttrsError_0_ret (v0 : Int) : res_R_AttrsError_0 (ret_R_AttrsError v0) = v0 := rfl
def os_R_AttrsError : RegT := ⟨[(8, .st 0 (.st 1 (.st 2 (.st 3 (.st 4 (.st 5 (.st 6 (.st 7 (.st 9 (.st 10 (.st 11 (.st 12 (.st 8 (.st 13 (.st 14 (.st 15 (.nil)))))))))))))))))], [], false⟩
def hs_R_AttrsError : List Keep := [[(0, []), (1, []), (7, []), (8, [])]]
@[reducible] noncomputable def env_R_AttrsError : Env := [(83, ⟨sig_R_Name, F_R_Name⟩), (84, ⟨sig_R_Value, F_R_Value⟩)]
noncomputable def L_R_AttrsError_0 (n m1 : Nat) (x0 : List YAttr.den) (x1 : Bool) (x7 : Int) (x8 : Int) : Option sig_R_AttrsError.Out :=
  loopAt T (env_R_AttrsError) os_R_AttrsError sig_R_AttrsError Try.f18 hs_R_AttrsError n [.sr, .sl, .sr, .bl] m1 (mk 54 [(0, .cs false [.val (.list YAttr) x0]), (1, .cs false [.val .bool x1]), (7, .cs false [.val (.int .i64) x7]), (8, .cs false [.val (.int .i64) x8])])
theorem L_R_AttrsError_0_step (n m1 : Nat) (x0 : List YAttr.den) (x1 : Bool) (x7 : Int) (x8 : Int) : L_R_AttrsError_0 n (m1 + 1) x0 x1 x7 x8 =
  (bcond (decide ((x8 : Int) < x7))
   (if 0 ≤ (x8 : Int) ∧ (x8 : Int) < (List.length x0 : Int) then
    ((C_R_Name F_R_Name (at_ (e := YAttr) x0 x8).1).bind fun r1 =>
     (bcond (!(res_R_Name_0 r1))
      (some (ret_R_AttrsError 9))
      (if 0 ≤ (x8 : Int) ∧ (x8 : Int) < (List.length x0 : Int) then
       ((C_R_Value F_R_Value (at_ (e := YAttr) x0 x8).2).bind fun r2 =>
        (bcond ((!(res_R_Value_0 r2)) == true)
         (if 0 ≤ (x8 : Int) ∧ (x8 : Int) < (List.length x0 : Int) then
          (bcond ((!(((at_ (e := YAttr) x0 x8).2 : List UInt8) == [])) == false)
           (bcond (!x1)
            (some (ret_R_AttrsError 23))
            (bcond ((decide ((x8 : Int) > 0)) == true)
             (if 0 ≤ ((IntKind.i64.wrap (x8 - 1)) : Int) ∧ ((IntKind.i64.wrap (x8 - 1)) : Int) < (List.length x0 : Int) then
              (if 0 ≤ (x8 : Int) ∧ (x8 : Int) < (List.length x0 : Int) then
               (bcond (!strLess (at_ (e := YAttr) x0 (IntKind.i64.wrap (x8 - 1))).1 (at_ (e := YAttr) x0 x8).1)
                (some (ret_R_AttrsError 5))
                (L_R_AttrsError_0 n m1 x0 x1 x7 (IntKind.i64.wrap (x8 + 1))))
              else none)
             else none)
             (L_R_AttrsError_0 n m1 x0 x1 x7 (IntKind.i64.wrap (x8 + 1)))))
           (some (ret_R_AttrsError 23)))
         else none)
         (bcond ((decide ((x8 : Int) > 0)) == true)
          (if 0 ≤ ((IntKind.i64.wrap (x8 - 1)) : Int) ∧ ((IntKind.i64.wrap (x8 - 1)) : Int) < (List.length x0 : Int) then
           (if 0 ≤ (x8 : Int) ∧ (x8 : Int) < (List.length x0 : Int) then
            (bcond (!strLess (at_ (e := YAttr) x0 (IntKind.i64.wrap (x8 - 1))).1 (at_ (e := YAttr) x0 x8).1)
             (some (ret_R_AttrsError 5))
             (L_R_AttrsError_0 n m1 x0 x1 x7 (IntKind.i64.wrap (x8 + 1))))
           else none)
          else none)
          (L_R_AttrsError_0 n m1 x0 x1 x7 (IntKind.i64.wrap (x8 + 1))))))
      else none)))
   else none)
   (some (ret_R_AttrsError 0))) := by kernel_rfl
theorem ok_R_AttrsError : fnOk os_R_AttrsError sig_R_AttrsError Try.f18 = true := by kernel_rfl
theorem fn_R_AttrsError : P.funcs[18]? = some Try.f18 := by kernel_rfl
noncomputable def F_R_AttrsError : sig_R_AttrsError.Fn := fun x y => run T (env_R_AttrsError) os_R_AttrsError sig_R_AttrsError Try.f18 hs_R_AttrsError big x y
theorem S_R_AttrsError : Sound P 18 ⟨sig_R_AttrsError, F_R_AttrsError⟩ := sound_of (os := os_R_AttrsError) (hs := hs_R_AttrsError) (env_cons S_R_Name (env_cons S_R_Value (env_nil))) fn_R_AttrsError ok_R_AttrsError (fun x y out h => ⟨big, h⟩)
theorem e_R_AttrsError (a0 : List YAttr.den) (a1 : Bool) : C_R_AttrsError F_R_AttrsError a0 a1 =
  (L_R_AttrsError_0 big big a0 a1 (List.length a0 : Int) 0) := by kernel_rfl
def sig_R_Get : Sig := ⟨[.v false (.list YAttr), .v false .str], [], [(false, [.fr .str])]⟩
def C_R_Get (F : sig_R_Get.Fn) (a0 : List YAttr.den) (a1 : List UInt8) : Option sig_R_Get.Out := F (a0, a1, ()) ()
def ret_R_Get (v0 : List UInt8) : sig_R_Get.Out := (((v0, ()), ()), ())
def res_R_Get_0 (r : sig_R_Get.Out) : List UInt8 := r.1.1.1
@[simp] theorem res_R_Get_0_ret (v0 : List UInt8) : res_R_Get_0 (ret_R_Get v0) = v0 := rfl
def os_R_Get : RegT := ⟨[], [], false⟩
def hs_R_Get : List Keep := [[(0, []), (1, []), (7, []), (8, [])]]
@[reducible] noncomputable def env_R_Get : Env := []
noncomputable def L_R_Get_0 (n m1 : Nat) (x0 : List YAttr.den) (x1 : List UInt8) (x7 : Int) (x8 : Int) : Option sig_R_Get.Out :=
  loopAt T (env_R_Get) os_R_Get sig_R_Get Try.f131 hs_R_Get n [.sr, .sl, .sr, .bl] m1 (mk 24 [(0, .cs false [.val (.list YAttr) x0]), (1, .cs false [.val .str x1]), (7, .cs false [.val (.int .i64) x7]), (8, .cs false [.val (.int .i64) x8])])
theorem L_R_Get_0_step (n m1 : Nat) (x0 : List YAttr.den) (x1 : List UInt8) (x7 : Int) (x8 : Int) : L_R_Get_0 n (m1 + 1) x0 x1 x7 x8 =
  (bcond (decide ((x8 : Int) < x7))
   (if 0 ≤ (x8 : Int) ∧ (x8 : Int) < (List.length x0 : Int) then
    (bcond (((at_ (e := YAttr) x0 x8).1 : List UInt8) == x1)
     (if 0 ≤ (x8 : Int) ∧ (x8 : Int) < (List.length x0 : Int) then
      (some (ret_R_Get (at_ (e := YAttr) x0 x8).2))
     else none)
     (L_R_Get_0 n m1 x0 x1 x7 (IntKind.i64.wrap (x8 + 1))))
   else none)
   (some (ret_R_Get []))) := by kernel_rfl
theorem ok_R_Get : fnOk os_R_Get sig_R_Get Try.f131 = true := by kernel_rfl
theorem fn_R_Get : P.funcs[131]? = some Try.f131 := by kernel_rfl
noncomputable def F_R_Get : sig_R_Get.Fn := fun x y => run T (env_R_Get) os_R_Get sig_R_Get Try.f131 hs_R_Get big x y
theorem S_R_Get : Sound P 131 ⟨sig_R_Get, F_R_Get⟩ := sound_of (os := os_R_Get) (hs := hs_R_Get) (env_nil) fn_R_Get ok_R_Get (fun x y out h => ⟨big, h⟩)
theorem e_R_Get (a0 : List YAttr.den) (a1 : List UInt8) : C_R_Get F_R_Get a0 a1 =
  (L_R_Get_0 big big a0 a1 (List.length a0 : Int) 0) := by kernel_rfl
def sig_R_Has : Sig := ⟨[.v false (.list YAttr), .v false .str], [], [(false, [.fr .bool])]⟩
def C_R_Has (F : sig_R_Has.Fn) (a0 : List YAttr.den) (a1 : List UInt8) : Option sig_R_Has.Out := F (a0, a1, ()) ()
def ret_R_Has (v0 : Bool) : sig_R_Has.Out := (((v0, ()), ()), ())
def res_R_Has_0 (r : sig_R_Has.Out) : Bool := r.1.1.1
@[simp] theorem res_R_Has_0_ret (v0 : Bool) : res_R_Has_0 (ret_R_Has v0) = v0 := rfl
def os_R_Has : RegT := ⟨[], [], false⟩
def hs_R_Has : List Keep := [[(0, []), (1, []), (7, []), (8, [])]]
@[reducible] noncomputable def env_R_Has : Env := []
noncomputable def L_R_Has_0 (n m1 : Nat) (x0 : List YAttr.den) (x1 : List UInt8) (x7 : Int) (x8 : Int) : Option sig_R_Has.Out :=
  loopAt T (env_R_Has) os_R_Has sig_R_Has Try.f119 hs_R_Has n [.sr, .sl, .sr, .bl] m1 (mk 19 [(0, .cs false [.val (.list YAttr) x0]), (1, .cs false [.val .str x1]), (7, .cs false [.val (.int .i64) x7]), (8, .cs false [.val (.int .i64) x8])])
theorem L_R_Has_0_step (n m1 : Nat) (x0 : List YAttr.den) (x1 : List UInt8) (x7 : Int) (x8 : Int) : L_R_Has_0 n (m1 + 1) x0 x1 x7 x8 =
  (bcond (decide ((x8 : Int) < x7))
   (if 0 ≤ (x8 : Int) ∧ (x8 : Int) < (List.length x0 : Int) then
    (bcond (((at_ (e := YAttr) x0 x8).1 : List UInt8) == x1)
     (some (ret_R_Has true))
     (L_R_Has_0 n m1 x0 x1 x7 (IntKind.i64.wrap (x8 + 1))))
   else none)
   (some (ret_R_Has false))) := by kernel_rfl
theorem ok_R_Has : fnOk os_R_Has sig_R_Has Try.f119 = true := by kernel_rfl
theorem fn_R_Has : P.funcs[119]? = some Try.f119 := by kernel_rfl
noncomputable def F_R_Has : sig_R_Has.Fn := fun x y => run T (env_R_Has) os_R_Has sig_R_Has Try.f119 hs_R_Has big x y
theorem S_R_Has : Sound P 119 ⟨sig_R_Has, F_R_Has⟩ := sound_of (os := os_R_Has) (hs := hs_R_Has) (env_nil) fn_R_Has ok_R_Has (fun x y out h => ⟨big, h⟩)
theorem e_R_Has (a0 : List YAttr.den) (a1 : List UInt8) : C_R_Has F_R_Has a0 a1 =
  (L_R_Has_0 big big a0 a1 (List.length a0 : Int) 0) := by kernel_rfl
def sig_R_put : Sig := ⟨[.v false (.list YAttr), .v true YAttr], [], [(false, [.fr (.list YAttr)])]⟩
def C_R_put (F : sig_R_put.Fn) (a0 : List YAttr.den) (a1 : YAttr.den) : Option sig_R_put.Out := F (a0, a1, ()) ()
def ret_R_put (v0 : List YAttr.den) : sig_R_put.Out := (((v0, ()), ()), ())
def res_R_put_0 (r : sig_R_put.Out) : List YAttr.den := r.1.1.1
@[simp] theorem res_R_put_0_ret (v0 : List YAttr.den) : res_R_put_0 (ret_R_put v0) = v0 := rfl
def os_R_put : RegT := ⟨[(6, .st 0 (.st 1 (.st 2 (.st 3 (.st 4 (.st 5 (.st 6 (.st 8 (.st 7 (.st 9 (.st 10 (.st 11 (.nil))))))))))))), (9, .st 0 (.st 1 (.st 2 (.st 3 (.st 5 (.st 4 (.st 6 (.st 7 (.nil)))))))))], [], false⟩
def hs_R_put : List Keep := [[(0, []), (3, []), (5, [(0, 123, YAttr)]), (6, []), (9, []), (10, [])]]
@[reducible] noncomputable def env_R_put : Env := []
noncomputable def L_R_put_0 (n m1 : Nat) (x0 : List YAttr.den) (x3_0 : List UInt8) (x3_1 : List UInt8) (x5 : List YAttr.den) (x6 : Bool) (x9 : Int) (x10 : Int) : Option sig_R_put.Out :=
  loopAt T (env_R_put) os_R_put sig_R_put Try.f139 hs_R_put n [.sr, .sr, .sr, .sl, .sr, .bl] m1 (mk 52 [(0, .cs false [.val (.list YAttr) x0]), (3, .box [.val .str x3_0, .val .str x3_1]), (5, .cs false [.own 123 YAttr x5]), (6, .cs false [.val .bool x6]), (9, .cs false [.val (.int .i64) x9]), (10, .cs false [.val (.int .i64) x10])])
theorem L_R_put_0_step (n m1 : Nat) (x0 : List YAttr.den) (x3_0 : List UInt8) (x3_1 : List UInt8) (x5 : List YAttr.den) (x6 : Bool) (x9 : Int) (x10 : Int) : L_R_put_0 n (m1 + 1) x0 x3_0 x3_1 x5 x6 x9 x10 =
  (bcond (decide ((x10 : Int) < x9))
   (bcond ((!x6) == true)
    (if 0 ≤ (x10 : Int) ∧ (x10 : Int) < (List.length x0 : Int) then
     (bcond (!strLess (at_ (e := YAttr) x0 x10).1 x3_0)
      (if (List.length (x5 : List YAttr.den) + List.length ([(x3_0, x3_1)] : List YAttr.den)) * 32 ≤ 140737488355328 then
       (if 0 ≤ (x10 : Int) ∧ (x10 : Int) < (List.length x0 : Int) then
        (bcond (!(((at_ (e := YAttr) x0 x10).1 : List UInt8) == x3_0))
         (if 0 ≤ (x10 : Int) ∧ (x10 : Int) < (List.length x0 : Int) then
          (if (List.length ((x5 ++ [(x3_0, x3_1)]) : List YAttr.den) + List.length ([(at_ (e := YAttr) x0 x10)] : List YAttr.den)) * 32 ≤ 140737488355328 then
           (L_R_put_0 n m1 x0 x3_0 x3_1 ((x5 ++ [(x3_0, x3_1)]) ++ [(at_ (e := YAttr) x0 x10)]) true x9 (IntKind.i64.wrap (x10 + 1)))
          else none)
         else none)
         (L_R_put_0 n m1 x0 x3_0 x3_1 (x5 ++ [(x3_0, x3_1)]) true x9 (IntKind.i64.wrap (x10 + 1))))
       else none)
      else none)
      (if 0 ≤ (x10 : Int) ∧ (x10 : Int) < (List.length x0 : Int) then
       (bcond (!(((at_ (e := YAttr) x0 x10).1 : List UInt8) == x3_0))
        (if 0 ≤ (x10 : Int) ∧ (x10 : Int) < (List.length x0 : Int) then
         (if (List.length (x5 : List YAttr.den) + List.length ([(at_ (e := YAttr) x0 x10)] : List YAttr.den)) * 32 ≤ 140737488355328 then
          (L_R_put_0 n m1 x0 x3_0 x3_1 (x5 ++ [(at_ (e := YAttr) x0 x10)]) x6 x9 (IntKind.i64.wrap (x10 + 1)))
         else none)
        else none)
        (L_R_put_0 n m1 x0 x3_0 x3_1 x5 x6 x9 (IntKind.i64.wrap (x10 + 1))))
      else none))
    else none)
    (if 0 ≤ (x10 : Int) ∧ (x10 : Int) < (List.length x0 : Int) then
     (bcond (!(((at_ (e := YAttr) x0 x10).1 : List UInt8) == x3_0))
      (if 0 ≤ (x10 : Int) ∧ (x10 : Int) < (List.length x0 : Int) then
       (if (List.length (x5 : List YAttr.den) + List.length ([(at_ (e := YAttr) x0 x10)] : List YAttr.den)) * 32 ≤ 140737488355328 then
        (L_R_put_0 n m1 x0 x3_0 x3_1 (x5 ++ [(at_ (e := YAttr) x0 x10)]) x6 x9 (IntKind.i64.wrap (x10 + 1)))
       else none)
      else none)
      (L_R_put_0 n m1 x0 x3_0 x3_1 x5 x6 x9 (IntKind.i64.wrap (x10 + 1))))
    else none))
   (bcond (!x6)
    (if (List.length (x5 : List YAttr.den) + List.length ([(x3_0, x3_1)] : List YAttr.den)) * 32 ≤ 140737488355328 then
     (some (ret_R_put (x5 ++ [(x3_0, x3_1)])))
    else none)
    (some (ret_R_put x5)))) := by kernel_rfl
theorem ok_R_put : fnOk os_R_put sig_R_put Try.f139 = true := by kernel_rfl
theorem fn_R_put : P.funcs[139]? = some Try.f139 := by kernel_rfl
noncomputable def F_R_put : sig_R_put.Fn := fun x y => run T (env_R_put) os_R_put sig_R_put Try.f139 hs_R_put big x y
theorem S_R_put : Sound P 139 ⟨sig_R_put, F_R_put⟩ := sound_of (os := os_R_put) (hs := hs_R_put) (env_nil) fn_R_put ok_R_put (fun x y out h => ⟨big, h⟩)
theorem e_R_put (a0 : List YAttr.den) (a1 : YAttr.den) : C_R_put F_R_put a0 a1 =
  (L_R_put_0 big big a0 a1.1 a1.2 [] false (List.length a0 : Int) 0) := by kernel_rfl
def sig_R_SameAttrs : Sig := ⟨[.v false (.list YAttr), .v false (.list YAttr)], [], [(false, [.fr .bool])]⟩
def C_R_SameAttrs (F : sig_R_SameAttrs.Fn) (a0 : List YAttr.den) (a1 : List YAttr.den) : Option sig_R_SameAttrs.Out := F (a0, a1, ()) ()
def ret_R_SameAttrs (v0 : Bool) : sig_R_SameAttrs.Out := (((v0, ()), ()), ())
def res_R_SameAttrs_0 (r : sig_R_SameAttrs.Out) : Bool := r.1.1.1
@[simp] theorem res_R_SameAttrs_0_ret (v0 : Bool) : res_R_SameAttrs_0 (ret_R_SameAttrs v0) = v0 := rfl
def os_R_SameAttrs : RegT := ⟨[(6, .st 0 (.st 1 (.st 2 (.st 4 (.st 5 (.st 6 (.st 3 (.st 7 (.st 8 (.nil))))))))))], [], false⟩
def hs_R_SameAttrs : List Keep := [[(0, []), (1, []), (12, []), (13, [])]]
@[reducible] noncomputable def env_R_SameAttrs : Env := []
noncomputable def L_R_SameAttrs_0 (n m1 : Nat) (x0 : List YAttr.den) (x1 : List YAttr.den) (x12 : Int) (x13 : Int) : Option sig_R_SameAttrs.Out :=
  loopAt T (env_R_SameAttrs) os_R_SameAttrs sig_R_SameAttrs Try.f77 hs_R_SameAttrs n [.sr, .sr, .sl, .sr, .bl] m1 (mk 26 [(0, .cs false [.val (.list YAttr) x0]), (1, .cs false [.val (.list YAttr) x1]), (12, .cs false [.val (.int .i64) x12]), (13, .cs false [.val (.int .i64) x13])])
theorem L_R_SameAttrs_0_step (n m1 : Nat) (x0 : List YAttr.den) (x1 : List YAttr.den) (x12 : Int) (x13 : Int) : L_R_SameAttrs_0 n (m1 + 1) x0 x1 x12 x13 =
  (bcond (decide ((x13 : Int) < x12))
   (if 0 ≤ (x13 : Int) ∧ (x13 : Int) < (List.length x0 : Int) then
    (if 0 ≤ (x13 : Int) ∧ (x13 : Int) < (List.length x1 : Int) then
     (bcond (!((((at_ (e := YAttr) x0 x13).1 : List UInt8) == (at_ (e := YAttr) x1 x13).1) && ((((at_ (e := YAttr) x0 x13).2 : List UInt8) == (at_ (e := YAttr) x1 x13).2) && true)))
      (some (ret_R_SameAttrs false))
      (L_R_SameAttrs_0 n m1 x0 x1 x12 (IntKind.i64.wrap (x13 + 1))))
    else none)
   else none)
   (some (ret_R_SameAttrs true))) := by kernel_rfl
theorem ok_R_SameAttrs : fnOk os_R_SameAttrs sig_R_SameAttrs Try.f77 = true := by kernel_rfl
theorem fn_R_SameAttrs : P.funcs[77]? = some Try.f77 := by kernel_rfl
noncomputable def F_R_SameAttrs : sig_R_SameAttrs.Fn := fun x y => run T (env_R_SameAttrs) os_R_SameAttrs sig_R_SameAttrs Try.f77 hs_R_SameAttrs big x y
theorem S_R_SameAttrs : Sound P 77 ⟨sig_R_SameAttrs, F_R_SameAttrs⟩ := sound_of (os := os_R_SameAttrs) (hs := hs_R_SameAttrs) (env_nil) fn_R_SameAttrs ok_R_SameAttrs (fun x y out h => ⟨big, h⟩)
theorem e_R_SameAttrs (a0 : List YAttr.den) (a1 : List YAttr.den) : C_R_SameAttrs F_R_SameAttrs a0 a1 =
  (bcond (((List.length a0 : Int) : Int) != (List.length a1 : Int))
   (some (ret_R_SameAttrs false))
   (L_R_SameAttrs_0 big big a0 a1 (List.length a0 : Int) 0)) := by kernel_rfl
def sig_R_Changed : Sig := ⟨[.v false (.list YAttr), .v false (.list YAttr)], [], [(false, [.fr (.list YAttr)])]⟩
def C_R_Changed (F : sig_R_Changed.Fn) (a0 : List YAttr.den) (a1 : List YAttr.den) : Option sig_R_Changed.Out := F (a0, a1, ()) ()
def ret_R_Changed (v0 : List YAttr.den) : sig_R_Changed.Out := (((v0, ()), ()), ())
def res_R_Changed_0 (r : sig_R_Changed.Out) : List YAttr.den := r.1.1.1
@[simp] theorem res_R_Changed_0_ret (v0 : List YAttr.den) : res_R_Changed_0 (ret_R_Changed v0) = v0 := rfl
def os_R_Changed : RegT := ⟨[], [], false⟩
def hs_R_Changed : List Keep := [[(0, []), (1, []), (5, []), (11, []), (12, [])], [(1, []), (5, []), (23, []), (24, [])], [(5, []), (8, [(0, 123, YAttr)]), (35, []), (36, [])]]
@[reducible] noncomputable def env_R_Changed : Env := [(139, ⟨sig_R_put, F_R_put⟩)]
noncomputable def L_R_Changed_0 (n m1 : Nat) (x0 : List YAttr.den) (x1 : List YAttr.den) (x11 : Int) (x12 : Int) : Option sig_R_Changed.Out :=
  loopAt T (env_R_Changed) os_R_Changed sig_R_Changed Try.f90 hs_R_Changed n [.sr, .sr, .sl, .sr, .bl] m1 (mk 54 [(0, .cs false [.val (.list YAttr) x0]), (1, .cs false [.val (.list YAttr) x1]), (5, .cs false [.nils]), (11, .cs false [.val (.int .i64) x11]), (12, .cs false [.val (.int .i64) x12])])
noncomputable def L_R_Changed_0a (n m1 : Nat) (x0 : List YAttr.den) (x1 : List YAttr.den) (x5 : List YAttr.den) (x11 : Int) (x12 : Int) : Option sig_R_Changed.Out :=
  loopAt T (env_R_Changed) os_R_Changed sig_R_Changed Try.f90 hs_R_Changed n [.sr, .sr, .sl, .sr, .bl] m1 (mk 54 [(0, .cs false [.val (.list YAttr) x0]), (1, .cs false [.val (.list YAttr) x1]), (5, .cs false [.val (.list YAttr) x5]), (11, .cs false [.val (.int .i64) x11]), (12, .cs false [.val (.int .i64) x12])])
noncomputable def L_R_Changed_1 (n m1 : Nat) (x1 : List YAttr.den) (x23 : Int) (x24 : Int) : Option sig_R_Changed.Out :=
  loopAt T (env_R_Changed) os_R_Changed sig_R_Changed Try.f90 hs_R_Changed n [.sr, .sr, .sr, .sl, .sr, .bl] m1 (mk 54 [(1, .cs false [.val (.list YAttr) x1]), (5, .cs false [.nils]), (23, .cs false [.val (.int .i64) x23]), (24, .cs false [.val (.int .i64) x24])])
noncomputable def L_R_Changed_1a (n m1 : Nat) (x1 : List YAttr.den) (x5 : List YAttr.den) (x23 : Int) (x24 : Int) : Option sig_R_Changed.Out :=
  loopAt T (env_R_Changed) os_R_Changed sig_R_Changed Try.f90 hs_R_Changed n [.sr, .sr, .sr, .sl, .sr, .bl] m1 (mk 54 [(1, .cs false [.val (.list YAttr) x1]), (5, .cs false [.val (.list YAttr) x5]), (23, .cs false [.val (.int .i64) x23]), (24, .cs false [.val (.int .i64) x24])])
noncomputable def L_R_Changed_2 (n m1 : Nat) (x8 : List YAttr.den) (x35 : Int) (x36 : Int) : Option sig_R_Changed.Out :=
  loopAt T (env_R_Changed) os_R_Changed sig_R_Changed Try.f90 hs_R_Changed n [.sr, .sr, .sr, .sr, .sr, .sl, .sr, .bl] m1 (mk 54 [(5, .cs false [.nils]), (8, .cs false [.own 123 YAttr x8]), (35, .cs false [.val (.int .i64) x35]), (36, .cs false [.val (.int .i64) x36])])
noncomputable def L_R_Changed_2a (n m1 : Nat) (x5 : List YAttr.den) (x8 : List YAttr.den) (x35 : Int) (x36 : Int) : Option sig_R_Changed.Out :=
  loopAt T (env_R_Changed) os_R_Changed sig_R_Changed Try.f90 hs_R_Changed n [.sr, .sr, .sr, .sr, .sr, .sl, .sr, .bl] m1 (mk 54 [(5, .cs false [.val (.list YAttr) x5]), (8, .cs false [.own 123 YAttr x8]), (35, .cs false [.val (.int .i64) x35]), (36, .cs false [.val (.int .i64) x36])])
theorem L_R_Changed_0_step (n m1 : Nat) (x0 : List YAttr.den) (x1 : List YAttr.den) (x11 : Int) (x12 : Int) : L_R_Changed_0 n (m1 + 1) x0 x1 x11 x12 =
  (bcond (decide ((x12 : Int) < x11))
   (if 0 ≤ (x12 : Int) ∧ (x12 : Int) < (List.length x0 : Int) then
    ((C_R_put F_R_put [] (at_ (e := YAttr) x0 x12)).bind fun r1 =>
     (L_R_Changed_0a n m1 x0 x1 (res_R_put_0 r1) x11 (IntKind.i64.wrap (x12 + 1))))
   else none)
   (L_R_Changed_1 n n x1 (List.length x1 : Int) 0)) := by kernel_rfl
theorem L_R_Changed_0a_step (n m1 : Nat) (x0 : List YAttr.den) (x1 : List YAttr.den) (x5 : List YAttr.den) (x11 : Int) (x12 : Int) : L_R_Changed_0a n (m1 + 1) x0 x1 x5 x11 x12 =
  (bcond (decide ((x12 : Int) < x11))
   (if 0 ≤ (x12 : Int) ∧ (x12 : Int) < (List.length x0 : Int) then
    ((C_R_put F_R_put x5 (at_ (e := YAttr) x0 x12)).bind fun r1 =>
     (L_R_Changed_0a n m1 x0 x1 (res_R_put_0 r1) x11 (IntKind.i64.wrap (x12 + 1))))
   else none)
   (L_R_Changed_1a n n x1 x5 (List.length x1 : Int) 0)) := by kernel_rfl
theorem L_R_Changed_1_step (n m1 : Nat) (x1 : List YAttr.den) (x23 : Int) (x24 : Int) : L_R_Changed_1 n (m1 + 1) x1 x23 x24 =
  (bcond (decide ((x24 : Int) < x23))
   (if 0 ≤ (x24 : Int) ∧ (x24 : Int) < (List.length x1 : Int) then
    ((C_R_put F_R_put [] (at_ (e := YAttr) x1 x24)).bind fun r1 =>
     (L_R_Changed_1a n m1 x1 (res_R_put_0 r1) x23 (IntKind.i64.wrap (x24 + 1))))
   else none)
   (L_R_Changed_2 n n [] 0 0)) := by kernel_rfl
theorem L_R_Changed_1a_step (n m1 : Nat) (x1 : List YAttr.den) (x5 : List YAttr.den) (x23 : Int) (x24 : Int) : L_R_Changed_1a n (m1 + 1) x1 x5 x23 x24 =
  (bcond (decide ((x24 : Int) < x23))
   (if 0 ≤ (x24 : Int) ∧ (x24 : Int) < (List.length x1 : Int) then
    ((C_R_put F_R_put x5 (at_ (e := YAttr) x1 x24)).bind fun r1 =>
     (L_R_Changed_1a n m1 x1 (res_R_put_0 r1) x23 (IntKind.i64.wrap (x24 + 1))))
   else none)
   (L_R_Changed_2a n n x5 [] (List.length x5 : Int) 0)) := by kernel_rfl
theorem L_R_Changed_2_step (n m1 : Nat) (x8 : List YAttr.den) (x35 : Int) (x36 : Int) : L_R_Changed_2 n (m1 + 1) x8 x35 x36 =
  (bcond (decide ((x36 : Int) < x35))
   none
   (some (ret_R_Changed x8))) := by kernel_rfl
theorem L_R_Changed_2a_step (n m1 : Nat) (x5 : List YAttr.den) (x8 : List YAttr.den) (x35 : Int) (x36 : Int) : L_R_Changed_2a n (m1 + 1) x5 x8 x35 x36 =
  (bcond (decide ((x36 : Int) < x35))
   (if 0 ≤ (x36 : Int) ∧ (x36 : Int) < (List.length x5 : Int) then
    (bcond (!(((at_ (e := YAttr) x5 x36).2 : List UInt8) == []))
     (if 0 ≤ (x36 : Int) ∧ (x36 : Int) < (List.length x5 : Int) then
      (if (List.length (x8 : List YAttr.den) + List.length ([(at_ (e := YAttr) x5 x36)] : List YAttr.den)) * 32 ≤ 140737488355328 then
       (L_R_Changed_2a n m1 x5 (x8 ++ [(at_ (e := YAttr) x5 x36)]) x35 (IntKind.i64.wrap (x36 + 1)))
      else none)
     else none)
     (L_R_Changed_2a n m1 x5 x8 x35 (IntKind.i64.wrap (x36 + 1))))
   else none)
   (some (ret_R_Changed x8))) := by kernel_rfl
theorem ok_R_Changed : fnOk os_R_Changed sig_R_Changed Try.f90 = true := by kernel_rfl
theorem fn_R_Changed : P.funcs[90]? = some Try.f90 := by kernel_rfl
noncomputable def F_R_Changed : sig_R_Changed.Fn := fun x y => run T (env_R_Changed) os_R_Changed sig_R_Changed Try.f90 hs_R_Changed big x y
theorem S_R_Changed : Sound P 90 ⟨sig_R_Changed, F_R_Changed⟩ := sound_of (os := os_R_Changed) (hs := hs_R_Changed) (env_cons S_R_put (env_nil)) fn_R_Changed ok_R_Changed (fun x y out h => ⟨big, h⟩)
theorem e_R_Changed (a0 : List YAttr.den) (a1 : List YAttr.den) : C_R_Changed F_R_Changed a0 a1 =
  (L_R_Changed_0 big big a0 a1 (List.length a0 : Int) 0) := by kernel_rfl
def sig_R_Between : Sig := ⟨[.v false (.list YAttr), .v false (.list YAttr)], [], [(false, [.fr (.list YAttr)])]⟩
def C_R_Between (F : sig_R_Between.Fn) (a0 : List YAttr.den) (a1 : List YAttr.den) : Option sig_R_Between.Out := F (a0, a1, ()) ()
def ret_R_Between (v0 : List YAttr.den) : sig_R_Between.Out := (((v0, ()), ()), ())
def res_R_Between_0 (r : sig_R_Between.Out) : List YAttr.den := r.1.1.1
@[simp] theorem res_R_Between_0_ret (v0 : List YAttr.den) : res_R_Between_0 (ret_R_Between v0) = v0 := rfl
def os_R_Between : RegT := ⟨[(5, .st 0 (.st 1 (.st 2 (.st 3 (.st 4 (.st 7 (.st 8 (.st 9 (.st 10 (.st 5 (.grp [11, 6] (.st 12 (.nil)))))))))))))], [], false⟩
def hs_R_Between : List Keep := [[(0, []), (1, []), (5, []), (9, []), (10, [])], [(0, []), (1, []), (5, []), (34, []), (35, [])]]
@[reducible] noncomputable def env_R_Between : Env := [(131, ⟨sig_R_Get, F_R_Get⟩), (139, ⟨sig_R_put, F_R_put⟩)]
noncomputable def L_R_Between_0 (n m1 : Nat) (x0 : List YAttr.den) (x1 : List YAttr.den) (x9 : Int) (x10 : Int) : Option sig_R_Between.Out :=
  loopAt T (env_R_Between) os_R_Between sig_R_Between Try.f91 hs_R_Between n [.sr, .sr, .sl, .sr, .bl] m1 (mk 56 [(0, .cs false [.val (.list YAttr) x0]), (1, .cs false [.val (.list YAttr) x1]), (5, .cs false [.nils]), (9, .cs false [.val (.int .i64) x9]), (10, .cs false [.val (.int .i64) x10])])
noncomputable def L_R_Between_0a (n m1 : Nat) (x0 : List YAttr.den) (x1 : List YAttr.den) (x5 : List YAttr.den) (x9 : Int) (x10 : Int) : Option sig_R_Between.Out :=
  loopAt T (env_R_Between) os_R_Between sig_R_Between Try.f91 hs_R_Between n [.sr, .sr, .sl, .sr, .bl] m1 (mk 56 [(0, .cs false [.val (.list YAttr) x0]), (1, .cs false [.val (.list YAttr) x1]), (5, .cs false [.val (.list YAttr) x5]), (9, .cs false [.val (.int .i64) x9]), (10, .cs false [.val (.int .i64) x10])])
noncomputable def L_R_Between_1 (n m1 : Nat) (x0 : List YAttr.den) (x1 : List YAttr.den) (x34 : Int) (x35 : Int) : Option sig_R_Between.Out :=
  loopAt T (env_R_Between) os_R_Between sig_R_Between Try.f91 hs_R_Between n [.sr, .sr, .sr, .sl, .sr, .bl] m1 (mk 56 [(0, .cs false [.val (.list YAttr) x0]), (1, .cs false [.val (.list YAttr) x1]), (5, .cs false [.nils]), (34, .cs false [.val (.int .i64) x34]), (35, .cs false [.val (.int .i64) x35])])
noncomputable def L_R_Between_1a (n m1 : Nat) (x0 : List YAttr.den) (x1 : List YAttr.den) (x5 : List YAttr.den) (x34 : Int) (x35 : Int) : Option sig_R_Between.Out :=
  loopAt T (env_R_Between) os_R_Between sig_R_Between Try.f91 hs_R_Between n [.sr, .sr, .sr, .sl, .sr, .bl] m1 (mk 56 [(0, .cs false [.val (.list YAttr) x0]), (1, .cs false [.val (.list YAttr) x1]), (5, .cs false [.val (.list YAttr) x5]), (34, .cs false [.val (.int .i64) x34]), (35, .cs false [.val (.int .i64) x35])])
theorem L_R_Between_0_step (n m1 : Nat) (x0 : List YAttr.den) (x1 : List YAttr.den) (x9 : Int) (x10 : Int) : L_R_Between_0 n (m1 + 1) x0 x1 x9 x10 =
  (bcond (decide ((x10 : Int) < x9))
   (if 0 ≤ (x10 : Int) ∧ (x10 : Int) < (List.length x1 : Int) then
    (if 0 ≤ (x10 : Int) ∧ (x10 : Int) < (List.length x1 : Int) then
     ((C_R_Get F_R_Get x0 (at_ (e := YAttr) x1 x10).1).bind fun r1 =>
      (bcond (!(((res_R_Get_0 r1) : List UInt8) == (at_ (e := YAttr) x1 x10).2))
       (if 0 ≤ (x10 : Int) ∧ (x10 : Int) < (List.length x1 : Int) then
        ((C_R_put F_R_put [] (at_ (e := YAttr) x1 x10)).bind fun r2 =>
         (L_R_Between_0a n m1 x0 x1 (res_R_put_0 r2) x9 (IntKind.i64.wrap (x10 + 1))))
       else none)
       (L_R_Between_0 n m1 x0 x1 x9 (IntKind.i64.wrap (x10 + 1)))))
    else none)
   else none)
   (L_R_Between_1 n n x0 x1 (List.length x0 : Int) 0)) := by kernel_rfl
theorem L_R_Between_0a_step (n m1 : Nat) (x0 : List YAttr.den) (x1 : List YAttr.den) (x5 : List YAttr.den) (x9 : Int) (x10 : Int) : L_R_Between_0a n (m1 + 1) x0 x1 x5 x9 x10 =
  (bcond (decide ((x10 : Int) < x9))
   (if 0 ≤ (x10 : Int) ∧ (x10 : Int) < (List.length x1 : Int) then
    (if 0 ≤ (x10 : Int) ∧ (x10 : Int) < (List.length x1 : Int) then
     ((C_R_Get F_R_Get x0 (at_ (e := YAttr) x1 x10).1).bind fun r1 =>
      (bcond (!(((res_R_Get_0 r1) : List UInt8) == (at_ (e := YAttr) x1 x10).2))
       (if 0 ≤ (x10 : Int) ∧ (x10 : Int) < (List.length x1 : Int) then
        ((C_R_put F_R_put x5 (at_ (e := YAttr) x1 x10)).bind fun r2 =>
         (L_R_Between_0a n m1 x0 x1 (res_R_put_0 r2) x9 (IntKind.i64.wrap (x10 + 1))))
       else none)
       (L_R_Between_0a n m1 x0 x1 x5 x9 (IntKind.i64.wrap (x10 + 1)))))
    else none)
   else none)
   (L_R_Between_1a n n x0 x1 x5 (List.length x0 : Int) 0)) := by kernel_rfl
theorem L_R_Between_1_step (n m1 : Nat) (x0 : List YAttr.den) (x1 : List YAttr.den) (x34 : Int) (x35 : Int) : L_R_Between_1 n (m1 + 1) x0 x1 x34 x35 =
  (bcond (decide ((x35 : Int) < x34))
   (if 0 ≤ (x35 : Int) ∧ (x35 : Int) < (List.length x0 : Int) then
    ((C_R_Get F_R_Get x1 (at_ (e := YAttr) x0 x35).1).bind fun r1 =>
     (bcond (((res_R_Get_0 r1) : List UInt8) == [])
      (if 0 ≤ (x35 : Int) ∧ (x35 : Int) < (List.length x0 : Int) then
       ((C_R_put F_R_put [] ((at_ (e := YAttr) x0 x35).1, [])).bind fun r2 =>
        (L_R_Between_1a n m1 x0 x1 (res_R_put_0 r2) x34 (IntKind.i64.wrap (x35 + 1))))
      else none)
      (L_R_Between_1 n m1 x0 x1 x34 (IntKind.i64.wrap (x35 + 1)))))
   else none)
   (some (ret_R_Between []))) := by kernel_rfl
theorem L_R_Between_1a_step (n m1 : Nat) (x0 : List YAttr.den) (x1 : List YAttr.den) (x5 : List YAttr.den) (x34 : Int) (x35 : Int) : L_R_Between_1a n (m1 + 1) x0 x1 x5 x34 x35 =
  (bcond (decide ((x35 : Int) < x34))
   (if 0 ≤ (x35 : Int) ∧ (x35 : Int) < (List.length x0 : Int) then
    ((C_R_Get F_R_Get x1 (at_ (e := YAttr) x0 x35).1).bind fun r1 =>
     (bcond (((res_R_Get_0 r1) : List UInt8) == [])
      (if 0 ≤ (x35 : Int) ∧ (x35 : Int) < (List.length x0 : Int) then
       ((C_R_put F_R_put x5 ((at_ (e := YAttr) x0 x35).1, [])).bind fun r2 =>
        (L_R_Between_1a n m1 x0 x1 (res_R_put_0 r2) x34 (IntKind.i64.wrap (x35 + 1))))
      else none)
      (L_R_Between_1a n m1 x0 x1 x5 x34 (IntKind.i64.wrap (x35 + 1)))))
   else none)
   (some (ret_R_Between x5))) := by kernel_rfl
theorem ok_R_Between : fnOk os_R_Between sig_R_Between Try.f91 = true := by kernel_rfl
theorem fn_R_Between : P.funcs[91]? = some Try.f91 := by kernel_rfl
noncomputable def F_R_Between : sig_R_Between.Fn := fun x y => run T (env_R_Between) os_R_Between sig_R_Between Try.f91 hs_R_Between big x y
theorem S_R_Between : Sound P 91 ⟨sig_R_Between, F_R_Between⟩ := sound_of (os := os_R_Between) (hs := hs_R_Between) (env_cons S_R_Get (env_cons S_R_put (env_nil))) fn_R_Between ok_R_Between (fun x y out h => ⟨big, h⟩)
theorem e_R_Between (a0 : List YAttr.den) (a1 : List YAttr.den) : C_R_Between F_R_Between a0 a1 =
  (L_R_Between_0 big big a0 a1 (List.length a1 : Int) 0) := by kernel_rfl
end Go.Ev
