/- Functions, step by step. -/
import Derived.Test.YtpmeeopafdgbpaaDoorGTab
namespace Go.Ev
set_option linter.unusedVariables false
set_option maxRecDepth 100000
open Go.Proofs
def sig_R_In : Sig := ⟨[.v false (.int .i64), .v false (.int .i64), .v false (.int .i64)], [], [(false, [.fr .bool])]⟩
def C_R_In (F : sig_R_In.Fn) (a0 : Int) (a1 : Int) (a2 : Int) : Option sig_R_In.Out := F (a0, a1, a2, ()) ()
def ret_R_In (v0 : Bool) : sig_R_In.Out := (((v0, ()), ()), ())
def res_R_In_0 (r : sig_R_In.Out) : Bool := r.1.1.1
@[simp] theorem res_R_In_0_ret (v0 : Bool) : res_R_In_0 (ret_R_In v0) = v0 := rfl
def os_R_In : RegT := ⟨[], [], false⟩
def hs_R_In : List Keep := []
@[reducible] noncomputable def env_R_In : Env := []
theorem ok_R_In : fnOk os_R_In sig_R_In Tryd.f24 = true := by kernel_rfl
theorem fn_R_In : P.funcs[24]? = some Tryd.f24 := by kernel_rfl
noncomputable def F_R_In : sig_R_In.Fn := fun x y => run T (env_R_In) os_R_In sig_R_In Tryd.f24 hs_R_In big x y
theorem S_R_In : Sound P 24 ⟨sig_R_In, F_R_In⟩ := sound_of (os := os_R_In) (hs := hs_R_In) (env_nil) fn_R_In ok_R_In (fun x y out h => ⟨big, h⟩)
theorem e_R_In (a0 : Int) (a1 : Int) (a2 : Int) : C_R_In F_R_In a0 a1 a2 =
  (bcond ((decide ((a0 : Int) ≥ a1)) == true)
   (some (ret_R_In (decide ((a0 : Int) ≤ a2))))
   (some (ret_R_In false))) := by kernel_rfl
def sig_attr_Name : Sig := ⟨[.v false .str], [], [(false, [.fr .bool])]⟩
def C_attr_Name (F : sig_attr_Name.Fn) (a0 : List UInt8) : Option sig_attr_Name.Out := F (a0, ()) ()
def ret_attr_Name (v0 : Bool) : sig_attr_Name.Out := (((v0, ()), ()), ())
def res_attr_Name_0 (r : sig_attr_Name.Out) : Bool := r.1.1.1
@[simp] theorem res_attr_Name_0_ret (v0 : Bool) : res_attr_Name_0 (ret_attr_Name v0) = v0 := rfl
def os_attr_Name : RegT := ⟨[], [], false⟩
def hs_attr_Name : List Keep := [[(0, []), (23, []), (24, [])]]
@[reducible] noncomputable def env_attr_Name : Env := []
noncomputable def L_attr_Name_0 (n m1 : Nat) (x0 : List UInt8) (x23 : Int) (x24 : Int) : Option sig_attr_Name.Out :=
  loopAt T (env_attr_Name) os_attr_Name sig_attr_Name Tryd.f96 hs_attr_Name n [.sr, .sr, .sl, .sr, .bl] m1 (mk 53 [(0, .cs false [.val .str x0]), (23, .cs false [.val (.int .i64) x23]), (24, .cs false [.val (.int .i64) x24])])
theorem L_attr_Name_0_step (n m1 : Nat) (x0 : List UInt8) (x23 : Int) (x24 : Int) : L_attr_Name_0 n (m1 + 1) x0 x23 x24 =
  (bcond (decide ((x24 : Int) < x23))
   (if 0 ≤ (x24 : Int) ∧ (x24 : Int) < (List.length x0 : Int) then
    (bcond ((decide ((((List.getD (x0 : List UInt8) (Int.toNat x24) 0).toNat : Int) : Int) < 97)) == false)
     (bcond ((decide ((((List.getD (x0 : List UInt8) (Int.toNat x24) 0).toNat : Int) : Int) > 122)) == true)
      (bcond ((decide ((((List.getD (x0 : List UInt8) (Int.toNat x24) 0).toNat : Int) : Int) < 48)) == false)
       (bcond ((decide ((((List.getD (x0 : List UInt8) (Int.toNat x24) 0).toNat : Int) : Int) > 57)) == true)
        (bcond (((((List.getD (x0 : List UInt8) (Int.toNat x24) 0).toNat : Int) : Int) != 46) == true)
         (bcond ((((List.getD (x0 : List UInt8) (Int.toNat x24) 0).toNat : Int) : Int) != 45)
          (some (ret_attr_Name false))
          (L_attr_Name_0 n m1 x0 x23 (IntKind.i64.wrap (x24 + 1))))
         (L_attr_Name_0 n m1 x0 x23 (IntKind.i64.wrap (x24 + 1))))
        (L_attr_Name_0 n m1 x0 x23 (IntKind.i64.wrap (x24 + 1))))
       (bcond (((((List.getD (x0 : List UInt8) (Int.toNat x24) 0).toNat : Int) : Int) != 46) == true)
        (bcond ((((List.getD (x0 : List UInt8) (Int.toNat x24) 0).toNat : Int) : Int) != 45)
         (some (ret_attr_Name false))
         (L_attr_Name_0 n m1 x0 x23 (IntKind.i64.wrap (x24 + 1))))
        (L_attr_Name_0 n m1 x0 x23 (IntKind.i64.wrap (x24 + 1)))))
      (L_attr_Name_0 n m1 x0 x23 (IntKind.i64.wrap (x24 + 1))))
     (bcond ((decide ((((List.getD (x0 : List UInt8) (Int.toNat x24) 0).toNat : Int) : Int) < 48)) == false)
      (bcond ((decide ((((List.getD (x0 : List UInt8) (Int.toNat x24) 0).toNat : Int) : Int) > 57)) == true)
       (bcond (((((List.getD (x0 : List UInt8) (Int.toNat x24) 0).toNat : Int) : Int) != 46) == true)
        (bcond ((((List.getD (x0 : List UInt8) (Int.toNat x24) 0).toNat : Int) : Int) != 45)
         (some (ret_attr_Name false))
         (L_attr_Name_0 n m1 x0 x23 (IntKind.i64.wrap (x24 + 1))))
        (L_attr_Name_0 n m1 x0 x23 (IntKind.i64.wrap (x24 + 1))))
       (L_attr_Name_0 n m1 x0 x23 (IntKind.i64.wrap (x24 + 1))))
      (bcond (((((List.getD (x0 : List UInt8) (Int.toNat x24) 0).toNat : Int) : Int) != 46) == true)
       (bcond ((((List.getD (x0 : List UInt8) (Int.toNat x24) 0).toNat : Int) : Int) != 45)
        (some (ret_attr_Name false))
        (L_attr_Name_0 n m1 x0 x23 (IntKind.i64.wrap (x24 + 1))))
       (L_attr_Name_0 n m1 x0 x23 (IntKind.i64.wrap (x24 + 1))))))
   else none)
   (some (ret_attr_Name true))) := by kernel_rfl
theorem ok_attr_Name : fnOk os_attr_Name sig_attr_Name Tryd.f96 = true := by kernel_rfl
theorem fn_attr_Name : P.funcs[96]? = some Tryd.f96 := by kernel_rfl
noncomputable def F_attr_Name : sig_attr_Name.Fn := fun x y => run T (env_attr_Name) os_attr_Name sig_attr_Name Tryd.f96 hs_attr_Name big x y
theorem S_attr_Name : Sound P 96 ⟨sig_attr_Name, F_attr_Name⟩ := sound_of (os := os_attr_Name) (hs := hs_attr_Name) (env_nil) fn_attr_Name ok_attr_Name (fun x y out h => ⟨big, h⟩)
theorem e_attr_Name (a0 : List UInt8) : C_attr_Name F_attr_Name a0 =
  (bcond (((a0 : List UInt8) == []) == false)
   (bcond ((decide (((List.length a0 : Int) : Int) > 24)) == false)
    (if 0 ≤ (0 : Int) ∧ (0 : Int) < (List.length a0 : Int) then
     (bcond ((decide ((((List.getD (a0 : List UInt8) (Int.toNat 0) 0).toNat : Int) : Int) < 97)) == false)
      (if 0 ≤ (0 : Int) ∧ (0 : Int) < (List.length a0 : Int) then
       (bcond (decide ((((List.getD (a0 : List UInt8) (Int.toNat 0) 0).toNat : Int) : Int) > 122))
        (some (ret_attr_Name false))
        (L_attr_Name_0 big big a0 (List.length a0 : Int) 0))
      else none)
      (some (ret_attr_Name false)))
    else none)
    (some (ret_attr_Name false)))
   (some (ret_attr_Name false))) := by kernel_rfl
def sig_attr_Value : Sig := ⟨[.v false .str], [], [(false, [.fr .bool])]⟩
def C_attr_Value (F : sig_attr_Value.Fn) (a0 : List UInt8) : Option sig_attr_Value.Out := F (a0, ()) ()
def ret_attr_Value (v0 : Bool) : sig_attr_Value.Out := (((v0, ()), ()), ())
def res_attr_Value_0 (r : sig_attr_Value.Out) : Bool := r.1.1.1
@[simp] theorem res_attr_Value_0_ret (v0 : Bool) : res_attr_Value_0 (ret_attr_Value v0) = v0 := rfl
def os_attr_Value : RegT := ⟨[], [], false⟩
def hs_attr_Value : List Keep := [[(0, []), (12, []), (13, [])]]
@[reducible] noncomputable def env_attr_Value : Env := []
noncomputable def L_attr_Value_0 (n m1 : Nat) (x0 : List UInt8) (x12 : Int) (x13 : Int) : Option sig_attr_Value.Out :=
  loopAt T (env_attr_Value) os_attr_Value sig_attr_Value Tryd.f97 hs_attr_Value n [.sr, .sr, .sl, .sr, .bl] m1 (mk 27 [(0, .cs false [.val .str x0]), (12, .cs false [.val (.int .i64) x12]), (13, .cs false [.val (.int .i64) x13])])
theorem L_attr_Value_0_step (n m1 : Nat) (x0 : List UInt8) (x12 : Int) (x13 : Int) : L_attr_Value_0 n (m1 + 1) x0 x12 x13 =
  (bcond (decide ((x13 : Int) < x12))
   (if 0 ≤ (x13 : Int) ∧ (x13 : Int) < (List.length x0 : Int) then
    (bcond ((decide ((((List.getD (x0 : List UInt8) (Int.toNat x13) 0).toNat : Int) : Int) < 32)) == false)
     (if 0 ≤ (x13 : Int) ∧ (x13 : Int) < (List.length x0 : Int) then
      (bcond (decide ((((List.getD (x0 : List UInt8) (Int.toNat x13) 0).toNat : Int) : Int) > 126))
       (some (ret_attr_Value false))
       (L_attr_Value_0 n m1 x0 x12 (IntKind.i64.wrap (x13 + 1))))
     else none)
     (some (ret_attr_Value false)))
   else none)
   (some (ret_attr_Value true))) := by kernel_rfl
theorem ok_attr_Value : fnOk os_attr_Value sig_attr_Value Tryd.f97 = true := by kernel_rfl
theorem fn_attr_Value : P.funcs[97]? = some Tryd.f97 := by kernel_rfl
noncomputable def F_attr_Value : sig_attr_Value.Fn := fun x y => run T (env_attr_Value) os_attr_Value sig_attr_Value Tryd.f97 hs_attr_Value big x y
theorem S_attr_Value : Sound P 97 ⟨sig_attr_Value, F_attr_Value⟩ := sound_of (os := os_attr_Value) (hs := hs_attr_Value) (env_nil) fn_attr_Value ok_attr_Value (fun x y out h => ⟨big, h⟩)
theorem e_attr_Value (a0 : List UInt8) : C_attr_Value F_attr_Value a0 =
  (bcond (((a0 : List UInt8) == []) == false)
   (bcond (decide (((List.length a0 : Int) : Int) > 200))
    (some (ret_attr_Value false))
    (L_attr_Value_0 big big a0 (List.length a0 : Int) 0))
   (some (ret_attr_Value false))) := by kernel_rfl
def sig_attr_check : Sig := ⟨[.v false (.list YAttr), .v false .bool], [], [(false, [.fr (.int .i64)])]⟩
def C_attr_check (F : sig_attr_check.Fn) (a0 : List YAttr.den) (a1 : Bool) : Option sig_attr_check.Out := F (a0, a1, ()) ()
def ret_attr_check (v0 : Int) : sig_attr_check.Out := (((v0, ()), ()), ())
def res_attr_check_0 (r : sig_attr_check.Out) : Int := r.1.1.1
@[simp] theorem res_attr_check_0_ret (v0 : Int) : res_attr_check_0 (ret_attr_check v0) = v0 := rfl
def os_attr_check : RegT := ⟨[(8, .st 0 (.st 1 (.st 2 (.st 3 (.st 5 (.st 6 (.st 7 (.st 8 (.st 9 (.st 4 (.st 10 (.st 11 (.st 12 (.st 13 (.nil)))))))))))))))], [], false⟩
def hs_attr_check : List Keep := [[(0, []), (1, []), (7, []), (8, []), (9, [])]]
@[reducible] noncomputable def env_attr_check : Env := [(96, ⟨sig_attr_Name, F_attr_Name⟩), (97, ⟨sig_attr_Value, F_attr_Value⟩)]
noncomputable def L_attr_check_0 (n m1 : Nat) (x0 : List YAttr.den) (x1 : Bool) (x7 : List YAttr.den) (x8 : Int) (x9 : Int) : Option sig_attr_check.Out :=
  loopAt T (env_attr_check) os_attr_check sig_attr_check Tryd.f83 hs_attr_check n [.sr, .sl, .sr, .bl] m1 (mk 48 [(0, .cs false [.val (.list YAttr) x0]), (1, .cs false [.val .bool x1]), (7, .cs false [.val (.list YAttr) x7]), (8, .cs false [.val (.int .i64) x8]), (9, .cs false [.val (.int .i64) x9])])
theorem L_attr_check_0_step (n m1 : Nat) (x0 : List YAttr.den) (x1 : Bool) (x7 : List YAttr.den) (x8 : Int) (x9 : Int) : L_attr_check_0 n (m1 + 1) x0 x1 x7 x8 x9 =
  (bcond (decide ((x9 : Int) < x8))
   (if 0 ≤ (x9 : Int) ∧ (x9 : Int) < (List.length x7 : Int) then
    ((C_attr_Name F_attr_Name (at_ (e := YAttr) x7 x9).1).bind fun r1 =>
     (bcond (!(res_attr_Name_0 r1))
      (some (ret_attr_check 9))
      ((C_attr_Value F_attr_Value (at_ (e := YAttr) x7 x9).2).bind fun r2 =>
       (bcond ((!(res_attr_Value_0 r2)) == true)
        (bcond (x1 == true)
         (bcond (!(((at_ (e := YAttr) x7 x9).2 : List UInt8) == []))
          (some (ret_attr_check 23))
          (bcond ((decide ((x9 : Int) > 0)) == true)
           (if 0 ≤ ((IntKind.i64.wrap (x9 - 1)) : Int) ∧ ((IntKind.i64.wrap (x9 - 1)) : Int) < (List.length x0 : Int) then
            (bcond (strLess (at_ (e := YAttr) x7 x9).1 (at_ (e := YAttr) x0 (IntKind.i64.wrap (x9 - 1))).1 || ((at_ (e := YAttr) x7 x9).1 : List UInt8) == (at_ (e := YAttr) x0 (IntKind.i64.wrap (x9 - 1))).1)
             (some (ret_attr_check 5))
             (L_attr_check_0 n m1 x0 x1 x7 x8 (IntKind.i64.wrap (x9 + 1))))
           else none)
           (L_attr_check_0 n m1 x0 x1 x7 x8 (IntKind.i64.wrap (x9 + 1)))))
         (some (ret_attr_check 23)))
        (bcond ((decide ((x9 : Int) > 0)) == true)
         (if 0 ≤ ((IntKind.i64.wrap (x9 - 1)) : Int) ∧ ((IntKind.i64.wrap (x9 - 1)) : Int) < (List.length x0 : Int) then
          (bcond (strLess (at_ (e := YAttr) x7 x9).1 (at_ (e := YAttr) x0 (IntKind.i64.wrap (x9 - 1))).1 || ((at_ (e := YAttr) x7 x9).1 : List UInt8) == (at_ (e := YAttr) x0 (IntKind.i64.wrap (x9 - 1))).1)
           (some (ret_attr_check 5))
           (L_attr_check_0 n m1 x0 x1 x7 x8 (IntKind.i64.wrap (x9 + 1))))
         else none)
         (L_attr_check_0 n m1 x0 x1 x7 x8 (IntKind.i64.wrap (x9 + 1))))))))
   else none)
   (some (ret_attr_check 0))) := by kernel_rfl
theorem ok_attr_check : fnOk os_attr_check sig_attr_check Tryd.f83 = true := by kernel_rfl
theorem fn_attr_check : P.funcs[83]? = some Tryd.f83 := by kernel_rfl
noncomputable def F_attr_check : sig_attr_check.Fn := fun x y => run T (env_attr_check) os_attr_check sig_attr_check Tryd.f83 hs_attr_check big x y
theorem S_attr_check : Sound P 83 ⟨sig_attr_check, F_attr_check⟩ := sound_of (os := os_attr_check) (hs := hs_attr_check) (env_cons S_attr_Name (env_cons S_attr_Value (env_nil))) fn_attr_check ok_attr_check (fun x y out h => ⟨big, h⟩)
theorem e_attr_check (a0 : List YAttr.den) (a1 : Bool) : C_attr_check F_attr_check a0 a1 =
  (L_attr_check_0 big big a0 a1 a0 (List.length a0 : Int) 0) := by kernel_rfl
def sig_attr_Check : Sig := ⟨[.v false (.list YAttr)], [], [(false, [.fr (.int .i64)])]⟩
def C_attr_Check (F : sig_attr_Check.Fn) (a0 : List YAttr.den) : Option sig_attr_Check.Out := F (a0, ()) ()
def ret_attr_Check (v0 : Int) : sig_attr_Check.Out := (((v0, ()), ()), ())
def res_attr_Check_0 (r : sig_attr_Check.Out) : Int := r.1.1.1
@[simp] theorem res_attr_Check_0_ret (v0 : Int) : res_attr_Check_0 (ret_attr_Check v0) = v0 := rfl
def os_attr_Check : RegT := ⟨[], [], false⟩
def hs_attr_Check : List Keep := []
@[reducible] noncomputable def env_attr_Check : Env := [(83, ⟨sig_attr_check, F_attr_check⟩)]
theorem ok_attr_Check : fnOk os_attr_Check sig_attr_Check Tryd.f68 = true := by kernel_rfl
theorem fn_attr_Check : P.funcs[68]? = some Tryd.f68 := by kernel_rfl
noncomputable def F_attr_Check : sig_attr_Check.Fn := fun x y => run T (env_attr_Check) os_attr_Check sig_attr_Check Tryd.f68 hs_attr_Check big x y
theorem S_attr_Check : Sound P 68 ⟨sig_attr_Check, F_attr_Check⟩ := sound_of (os := os_attr_Check) (hs := hs_attr_Check) (env_cons S_attr_check (env_nil)) fn_attr_Check ok_attr_Check (fun x y out h => ⟨big, h⟩)
theorem e_attr_Check (a0 : List YAttr.den) : C_attr_Check F_attr_Check a0 =
  ((C_attr_check F_attr_check a0 false).bind fun r1 =>
   (some (ret_attr_Check (res_attr_check_0 r1)))) := by kernel_rfl
def sig_R_Name : Sig := ⟨[.v false .str], [], [(false, [.fr .bool])]⟩
def C_R_Name (F : sig_R_Name.Fn) (a0 : List UInt8) : Option sig_R_Name.Out := F (a0, ()) ()
def ret_R_Name (v0 : Bool) : sig_R_Name.Out := (((v0, ()), ()), ())
def res_R_Name_0 (r : sig_R_Name.Out) : Bool := r.1.1.1
@[simp] theorem res_R_Name_0_ret (v0 : Bool) : res_R_Name_0 (ret_R_Name v0) = v0 := rfl
def os_R_Name : RegT := ⟨[], [], false⟩
def hs_R_Name : List Keep := [[(0, []), (6, []), (7, [])]]
@[reducible] noncomputable def env_R_Name : Env := []
noncomputable def L_R_Name_0 (n m1 : Nat) (x0 : List UInt8) (x6 : Int) (x7 : Int) : Option sig_R_Name.Out :=
  loopAt T (env_R_Name) os_R_Name sig_R_Name Tryd.f80 hs_R_Name n [.sr, .sl, .sr, .bl] m1 (mk 59 [(0, .cs false [.val .str x0]), (6, .cs false [.val (.int .i64) x6]), (7, .cs false [.val (.int .i64) x7])])
theorem L_R_Name_0_step (n m1 : Nat) (x0 : List UInt8) (x6 : Int) (x7 : Int) : L_R_Name_0 n (m1 + 1) x0 x6 x7 =
  (bcond (decide ((x7 : Int) < x6))
   (if 0 ≤ (x7 : Int) ∧ (x7 : Int) < (List.length x0 : Int) then
    (bcond ((decide ((((List.getD (x0 : List UInt8) (Int.toNat x7) 0).toNat : Int) : Int) ≥ 97)) == true)
     (if 0 ≤ (x7 : Int) ∧ (x7 : Int) < (List.length x0 : Int) then
      (bcond ((!(decide ((((List.getD (x0 : List UInt8) (Int.toNat x7) 0).toNat : Int) : Int) ≤ 122))) == true)
       (bcond (((x7 : Int) == 0) == false)
        (if 0 ≤ (x7 : Int) ∧ (x7 : Int) < (List.length x0 : Int) then
         (bcond (((((List.getD (x0 : List UInt8) (Int.toNat x7) 0).toNat : Int) : Int) != 46) == true)
          (if 0 ≤ (x7 : Int) ∧ (x7 : Int) < (List.length x0 : Int) then
           (bcond (((((List.getD (x0 : List UInt8) (Int.toNat x7) 0).toNat : Int) : Int) != 45) == true)
            (if 0 ≤ (x7 : Int) ∧ (x7 : Int) < (List.length x0 : Int) then
             (bcond ((decide ((((List.getD (x0 : List UInt8) (Int.toNat x7) 0).toNat : Int) : Int) < 48)) == false)
              (if 0 ≤ (x7 : Int) ∧ (x7 : Int) < (List.length x0 : Int) then
               (bcond (decide ((((List.getD (x0 : List UInt8) (Int.toNat x7) 0).toNat : Int) : Int) > 57))
                (some (ret_R_Name false))
                (L_R_Name_0 n m1 x0 x6 (IntKind.i64.wrap (x7 + 1))))
              else none)
              (some (ret_R_Name false)))
            else none)
            (L_R_Name_0 n m1 x0 x6 (IntKind.i64.wrap (x7 + 1))))
          else none)
          (L_R_Name_0 n m1 x0 x6 (IntKind.i64.wrap (x7 + 1))))
        else none)
        (some (ret_R_Name false)))
       (L_R_Name_0 n m1 x0 x6 (IntKind.i64.wrap (x7 + 1))))
     else none)
     (bcond (((x7 : Int) == 0) == false)
      (if 0 ≤ (x7 : Int) ∧ (x7 : Int) < (List.length x0 : Int) then
       (bcond (((((List.getD (x0 : List UInt8) (Int.toNat x7) 0).toNat : Int) : Int) != 46) == true)
        (if 0 ≤ (x7 : Int) ∧ (x7 : Int) < (List.length x0 : Int) then
         (bcond (((((List.getD (x0 : List UInt8) (Int.toNat x7) 0).toNat : Int) : Int) != 45) == true)
          (if 0 ≤ (x7 : Int) ∧ (x7 : Int) < (List.length x0 : Int) then
           (bcond ((decide ((((List.getD (x0 : List UInt8) (Int.toNat x7) 0).toNat : Int) : Int) < 48)) == false)
            (if 0 ≤ (x7 : Int) ∧ (x7 : Int) < (List.length x0 : Int) then
             (bcond (decide ((((List.getD (x0 : List UInt8) (Int.toNat x7) 0).toNat : Int) : Int) > 57))
              (some (ret_R_Name false))
              (L_R_Name_0 n m1 x0 x6 (IntKind.i64.wrap (x7 + 1))))
            else none)
            (some (ret_R_Name false)))
          else none)
          (L_R_Name_0 n m1 x0 x6 (IntKind.i64.wrap (x7 + 1))))
        else none)
        (L_R_Name_0 n m1 x0 x6 (IntKind.i64.wrap (x7 + 1))))
      else none)
      (some (ret_R_Name false))))
   else none)
   (bcond ((decide (((List.length x0 : Int) : Int) ≥ 1)) == true)
    (some (ret_R_Name (decide (((List.length x0 : Int) : Int) ≤ 24))))
    (some (ret_R_Name false)))) := by kernel_rfl
theorem ok_R_Name : fnOk os_R_Name sig_R_Name Tryd.f80 = true := by kernel_rfl
theorem fn_R_Name : P.funcs[80]? = some Tryd.f80 := by kernel_rfl
noncomputable def F_R_Name : sig_R_Name.Fn := fun x y => run T (env_R_Name) os_R_Name sig_R_Name Tryd.f80 hs_R_Name big x y
theorem S_R_Name : Sound P 80 ⟨sig_R_Name, F_R_Name⟩ := sound_of (os := os_R_Name) (hs := hs_R_Name) (env_nil) fn_R_Name ok_R_Name (fun x y out h => ⟨big, h⟩)
theorem e_R_Name (a0 : List UInt8) : C_R_Name F_R_Name a0 =
  (L_R_Name_0 big big a0 (List.length a0 : Int) 0) := by kernel_rfl
def sig_R_Value : Sig := ⟨[.v false .str], [], [(false, [.fr .bool])]⟩
def C_R_Value (F : sig_R_Value.Fn) (a0 : List UInt8) : Option sig_R_Value.Out := F (a0, ()) ()
def ret_R_Value (v0 : Bool) : sig_R_Value.Out := (((v0, ()), ()), ())
def res_R_Value_0 (r : sig_R_Value.Out) : Bool := r.1.1.1
@[simp] theorem res_R_Value_0_ret (v0 : Bool) : res_R_Value_0 (ret_R_Value v0) = v0 := rfl
def os_R_Value : RegT := ⟨[], [], false⟩
def hs_R_Value : List Keep := [[(0, []), (5, []), (6, [])]]
@[reducible] noncomputable def env_R_Value : Env := []
noncomputable def L_R_Value_0 (n m1 : Nat) (x0 : List UInt8) (x5 : Int) (x6 : Int) : Option sig_R_Value.Out :=
  loopAt T (env_R_Value) os_R_Value sig_R_Value Tryd.f81 hs_R_Value n [.sr, .sl, .sr, .bl] m1 (mk 28 [(0, .cs false [.val .str x0]), (5, .cs false [.val (.int .i64) x5]), (6, .cs false [.val (.int .i64) x6])])
theorem L_R_Value_0_step (n m1 : Nat) (x0 : List UInt8) (x5 : Int) (x6 : Int) : L_R_Value_0 n (m1 + 1) x0 x5 x6 =
  (bcond (decide ((x6 : Int) < x5))
   (if 0 ≤ (x6 : Int) ∧ (x6 : Int) < (List.length x0 : Int) then
    (bcond ((decide ((((List.getD (x0 : List UInt8) (Int.toNat x6) 0).toNat : Int) : Int) < 32)) == false)
     (if 0 ≤ (x6 : Int) ∧ (x6 : Int) < (List.length x0 : Int) then
      (bcond (decide ((((List.getD (x0 : List UInt8) (Int.toNat x6) 0).toNat : Int) : Int) > 126))
       (some (ret_R_Value false))
       (L_R_Value_0 n m1 x0 x5 (IntKind.i64.wrap (x6 + 1))))
     else none)
     (some (ret_R_Value false)))
   else none)
   (bcond ((decide (((List.length x0 : Int) : Int) ≥ 1)) == true)
    (some (ret_R_Value (decide (((List.length x0 : Int) : Int) ≤ 200))))
    (some (ret_R_Value false)))) := by kernel_rfl
theorem ok_R_Value : fnOk os_R_Value sig_R_Value Tryd.f81 = true := by kernel_rfl
theorem fn_R_Value : P.funcs[81]? = some Tryd.f81 := by kernel_rfl
noncomputable def F_R_Value : sig_R_Value.Fn := fun x y => run T (env_R_Value) os_R_Value sig_R_Value Tryd.f81 hs_R_Value big x y
theorem S_R_Value : Sound P 81 ⟨sig_R_Value, F_R_Value⟩ := sound_of (os := os_R_Value) (hs := hs_R_Value) (env_nil) fn_R_Value ok_R_Value (fun x y out h => ⟨big, h⟩)
theorem e_R_Value (a0 : List UInt8) : C_R_Value F_R_Value a0 =
  (L_R_Value_0 big big a0 (List.length a0 : Int) 0) := by kernel_rfl
def sig_R_AttrsError : Sig := ⟨[.v false (.list YAttr), .v false .bool], [], [(false, [.fr (.int .i64)])]⟩
def C_R_AttrsError (F : sig_R_AttrsError.Fn) (a0 : List YAttr.den) (a1 : Bool) : Option sig_R_AttrsError.Out := F (a0, a1, ()) ()
def ret_R_AttrsError (v0 : Int) : sig_R_AttrsError.Out := (((v0, ()), ()), ())
def res_R_AttrsError_0 (r : sig_R_AttrsError.Out) : Int := r.1.1.1
@[simp] theorem res_R_AttrsError_0_ret (v0 : Int) : res_R_AttrsError_0 (ret_R_AttrsError v0) = v0 := rfl
def os_R_AttrsError : RegT := ⟨[(8, .st 0 (.st 1 (.st 2 (.st 3 (.st 4 (.st 5 (.st 6 (.st 7 (.st 9 (.st 10 (.st 11 (.st 12 (.st 8 (.st 13 (.st 14 (.st 15 (.nil)))))))))))))))))], [], false⟩
def hs_R_AttrsError : List Keep := [[(0, []), (1, []), (7, []), (8, [])]]
@[reducible] noncomputable def env_R_AttrsError : Env := [(80, ⟨sig_R_Name, F_R_Name⟩), (81, ⟨sig_R_Value, F_R_Value⟩)]
noncomputable def L_R_AttrsError_0 (n m1 : Nat) (x0 : List YAttr.den) (x1 : Bool) (x7 : Int) (x8 : Int) : Option sig_R_AttrsError.Out :=
  loopAt T (env_R_AttrsError) os_R_AttrsError sig_R_AttrsError Tryd.f63 hs_R_AttrsError n [.sr, .sl, .sr, .bl] m1 (mk 54 [(0, .cs false [.val (.list YAttr) x0]), (1, .cs false [.val .bool x1]), (7, .cs false [.val (.int .i64) x7]), (8, .cs false [.val (.int .i64) x8])])
theorem L_R_AttrsError_0_step (n m1 : Nat) (x0 : List YAttr.den) (x1 : Bool) (x7 : Int) (x8 : Int) : L_R_AttrsError_0 n (m1 + 1) x0 x1 x7 x8 =
  (bcond (decide ((x8 : Int) < x7))
   (if 0 ≤ (x8 : Int) ∧ (x8 : Int) < (List.length x0 : Int) then
    ((C_R_Name F_R_Name (at_ (e := YAttr) x0 x8).1).bind fun r1 =>
     (bcond (!(res_R_Name_0 r1))
      (some (ret_R_AttrsError 9))
      (if 0 ≤ (x8 : Int) ∧ (x8 : Int) < (List.length x0 : Int) then
       ((C_R_Value F_R_Value (at_ (e := YAttr) x0 x8).2).bind fun r2 =>
        (bcond ((!(res_R_Value_0 r2)) == true)
         (if 0 ≤ (x8 : Int) ∧ (x8 : Int) < (List.length x0 : Int) then
          (bcond ((!(((at_ (e := YAttr) x0 x8).2 : List UInt8) == [])) == false)
           (bcond (!x1)
            (some (ret_R_AttrsError 23))
            (bcond ((decide ((x8 : Int) > 0)) == true)
             (if 0 ≤ ((IntKind.i64.wrap (x8 - 1)) : Int) ∧ ((IntKind.i64.wrap (x8 - 1)) : Int) < (List.length x0 : Int) then
              (if 0 ≤ (x8 : Int) ∧ (x8 : Int) < (List.length x0 : Int) then
               (bcond (!strLess (at_ (e := YAttr) x0 (IntKind.i64.wrap (x8 - 1))).1 (at_ (e := YAttr) x0 x8).1)
                (some (ret_R_AttrsError 5))
                (L_R_AttrsError_0 n m1 x0 x1 x7 (IntKind.i64.wrap (x8 + 1))))
              else none)
             else none)
             (L_R_AttrsError_0 n m1 x0 x1 x7 (IntKind.i64.wrap (x8 + 1)))))
           (some (ret_R_AttrsError 23)))
         else none)
         (bcond ((decide ((x8 : Int) > 0)) == true)
          (if 0 ≤ ((IntKind.i64.wrap (x8 - 1)) : Int) ∧ ((IntKind.i64.wrap (x8 - 1)) : Int) < (List.length x0 : Int) then
           (if 0 ≤ (x8 : Int) ∧ (x8 : Int) < (List.length x0 : Int) then
            (bcond (!strLess (at_ (e := YAttr) x0 (IntKind.i64.wrap (x8 - 1))).1 (at_ (e := YAttr) x0 x8).1)
             (some (ret_R_AttrsError 5))
             (L_R_AttrsError_0 n m1 x0 x1 x7 (IntKind.i64.wrap (x8 + 1))))
           else none)
          else none)
          (L_R_AttrsError_0 n m1 x0 x1 x7 (IntKind.i64.wrap (x8 + 1))))))
      else none)))
   else none)
   (some (ret_R_AttrsError 0))) := by kernel_rfl
theorem ok_R_AttrsError : fnOk os_R_AttrsError sig_R_AttrsError Tryd.f63 = true := by kernel_rfl
theorem fn_R_AttrsError : P.funcs[63]? = some Tryd.f63 := by kernel_rfl
noncomputable def F_R_AttrsError : sig_R_AttrsError.Fn := fun x y => run T (env_R_AttrsError) os_R_AttrsError sig_R_AttrsError Tryd.f63 hs_R_AttrsError big x y
theorem S_R_AttrsError : Sound P 63 ⟨sig_R_AttrsError, F_R_AttrsError⟩ := sound_of (os := os_R_AttrsError) (hs := hs_R_AttrsError) (env_cons S_R_Name (env_cons S_R_Value (env_nil))) fn_R_AttrsError ok_R_AttrsError (fun x y out h => ⟨big, h⟩)
theorem e_R_AttrsError (a0 : List YAttr.den) (a1 : Bool) : C_R_AttrsError F_R_AttrsError a0 a1 =
  (L_R_AttrsError_0 big big a0 a1 (List.length a0 : Int) 0) := by kernel_rfl
def sig_R_SameAttrs : Sig := ⟨[.v false (.list YAttr), .v false (.list YAttr)], [], [(false, [.fr .bool])]⟩
def C_R_SameAttrs (F : sig_R_SameAttrs.Fn) (a0 : List YAttr.den) (a1 : List YAttr.den) : Option sig_R_SameAttrs.Out := F (a0, a1, ()) ()
def ret_R_SameAttrs (v0 : Bool) : sig_R_SameAttrs.Out := (((v0, ()), ()), ())
def res_R_SameAttrs_0 (r : sig_R_SameAttrs.Out) : Bool := r.1.1.1
@[simp] theorem res_R_SameAttrs_0_ret (v0 : Bool) : res_R_SameAttrs_0 (ret_R_SameAttrs v0) = v0 := rfl
def os_R_SameAttrs : RegT := ⟨[(6, .st 0 (.st 1 (.st 2 (.st 4 (.st 5 (.st 6 (.st 3 (.st 7 (.st 8 (.nil))))))))))], [], false⟩
def hs_R_SameAttrs : List Keep := [[(0, []), (1, []), (12, []), (13, [])]]
@[reducible] noncomputable def env_R_SameAttrs : Env := []
noncomputable def L_R_SameAttrs_0 (n m1 : Nat) (x0 : List YAttr.den) (x1 : List YAttr.den) (x12 : Int) (x13 : Int) : Option sig_R_SameAttrs.Out :=
  loopAt T (env_R_SameAttrs) os_R_SameAttrs sig_R_SameAttrs Tryd.f49 hs_R_SameAttrs n [.sr, .sr, .sl, .sr, .bl] m1 (mk 26 [(0, .cs false [.val (.list YAttr) x0]), (1, .cs false [.val (.list YAttr) x1]), (12, .cs false [.val (.int .i64) x12]), (13, .cs false [.val (.int .i64) x13])])
theorem L_R_SameAttrs_0_step (n m1 : Nat) (x0 : List YAttr.den) (x1 : List YAttr.den) (x12 : Int) (x13 : Int) : L_R_SameAttrs_0 n (m1 + 1) x0 x1 x12 x13 =
  (bcond (decide ((x13 : Int) < x12))
   (if 0 ≤ (x13 : Int) ∧ (x13 : Int) < (List.length x0 : Int) then
    (if 0 ≤ (x13 : Int) ∧ (x13 : Int) < (List.length x1 : Int) then
     (bcond (!((((at_ (e := YAttr) x0 x13).1 : List UInt8) == (at_ (e := YAttr) x1 x13).1) && ((((at_ (e := YAttr) x0 x13).2 : List UInt8) == (at_ (e := YAttr) x1 x13).2) && true)))
      (some (ret_R_SameAttrs false))
      (L_R_SameAttrs_0 n m1 x0 x1 x12 (IntKind.i64.wrap (x13 + 1))))
    else none)
   else none)
   (some (ret_R_SameAttrs true))) := by kernel_rfl
theorem ok_R_SameAttrs : fnOk os_R_SameAttrs sig_R_SameAttrs Tryd.f49 = true := by kernel_rfl
theorem fn_R_SameAttrs : P.funcs[49]? = some Tryd.f49 := by kernel_rfl
noncomputable def F_R_SameAttrs : sig_R_SameAttrs.Fn := fun x y => run T (env_R_SameAttrs) os_R_SameAttrs sig_R_SameAttrs Tryd.f49 hs_R_SameAttrs big x y
theorem S_R_SameAttrs : Sound P 49 ⟨sig_R_SameAttrs, F_R_SameAttrs⟩ := sound_of (os := os_R_SameAttrs) (hs := hs_R_SameAttrs) (env_nil) fn_R_SameAttrs ok_R_SameAttrs (fun x y out h => ⟨big, h⟩)
theorem e_R_SameAttrs (a0 : List YAttr.den) (a1 : List YAttr.den) : C_R_SameAttrs F_R_SameAttrs a0 a1 =
  (bcond (((List.length a0 : Int) : Int) != (List.length a1 : Int))
   (some (ret_R_SameAttrs false))
   (L_R_SameAttrs_0 big big a0 a1 (List.length a0 : Int) 0)) := by kernel_rfl
end Go.Ev
