/- Functions, step by step. -/
import Derived.Test.YteojfhgljknmiaaDoorGAttr
namespace Go.Ev
set_option linter.unusedVariables false
set_option maxRecDepth 100000
open Go.Proofs
def sig_flow_Char : Sig := ⟨[.v false (.int .i64)], [], [(false, [.fr .bool])]⟩
def C_flow_Char (F : sig_flow_Char.Fn) (a0 : Int) : Option sig_flow_Char.Out := F (a0, ()) ()
def ret_flow_Char (v0 : Bool) : sig_flow_Char.Out := (((v0, ()), ()), ())
def res_flow_Char_0 (r : sig_flow_Char.Out) : Bool := r.1.1.1
@[simp] theorem res_flow_Char_0_ret (v0 : Bool) : res_flow_Char_0 (ret_flow_Char v0) = v0 := rfl
def os_flow_Char : RegT := ⟨[], [], false⟩
def hs_flow_Char : List Keep := []
@[reducible] noncomputable def env_flow_Char : Env := []
theorem ok_flow_Char : fnOk os_flow_Char sig_flow_Char Tryd.f13 = true := by kernel_rfl
theorem fn_flow_Char : P.funcs[13]? = some Tryd.f13 := by kernel_rfl
noncomputable def F_flow_Char : sig_flow_Char.Fn := fun x y => run T (env_flow_Char) os_flow_Char sig_flow_Char Tryd.f13 hs_flow_Char big x y
theorem S_flow_Char : Sound P 13 ⟨sig_flow_Char, F_flow_Char⟩ := sound_of (os := os_flow_Char) (hs := hs_flow_Char) (env_nil) fn_flow_Char ok_flow_Char (fun x y out h => ⟨big, h⟩)
theorem e_flow_Char (a0 : Int) : C_flow_Char F_flow_Char a0 =
  (bcond (((a0 : Int) == 9) == false)
   (bcond (((a0 : Int) == 10) == false)
    (bcond ((decide ((a0 : Int) ≥ 32)) == true)
     (bcond ((decide ((a0 : Int) < 127)) == false)
      (bcond ((decide ((a0 : Int) ≥ 160)) == true)
       (bcond ((decide ((a0 : Int) < 55296)) == false)
        (bcond ((decide ((a0 : Int) > 57343)) == true)
         (some (ret_flow_Char (decide ((a0 : Int) ≤ 1114111))))
         (some (ret_flow_Char false)))
        (some (ret_flow_Char true)))
       (bcond ((decide ((a0 : Int) > 57343)) == true)
        (some (ret_flow_Char (decide ((a0 : Int) ≤ 1114111))))
        (some (ret_flow_Char false))))
      (some (ret_flow_Char true)))
     (bcond ((decide ((a0 : Int) ≥ 160)) == true)
      (bcond ((decide ((a0 : Int) < 55296)) == false)
       (bcond ((decide ((a0 : Int) > 57343)) == true)
        (some (ret_flow_Char (decide ((a0 : Int) ≤ 1114111))))
        (some (ret_flow_Char false)))
       (some (ret_flow_Char true)))
      (bcond ((decide ((a0 : Int) > 57343)) == true)
       (some (ret_flow_Char (decide ((a0 : Int) ≤ 1114111))))
       (some (ret_flow_Char false)))))
    (some (ret_flow_Char true)))
   (some (ret_flow_Char true))) := by kernel_rfl
def sig_flow_elem : Sig := ⟨[.v true YElem], [], [(false, [.fr (.int .i64)])]⟩
def C_flow_elem (F : sig_flow_elem.Fn) (a0 : YElem.den) : Option sig_flow_elem.Out := F (a0, ()) ()
def ret_flow_elem (v0 : Int) : sig_flow_elem.Out := (((v0, ()), ()), ())
def res_flow_elem_0 (r : sig_flow_elem.Out) : Int := r.1.1.1
@[simp] theorem res_flow_elem_0_ret (v0 : Int) : res_flow_elem_0 (ret_flow_elem v0) = v0 := rfl
def os_flow_elem : RegT := ⟨[], [], false⟩
def hs_flow_elem : List Keep := []
@[reducible] noncomputable def env_flow_elem : Env := [(13, ⟨sig_flow_Char, F_flow_Char⟩), (43, ⟨sig_attr_Check, F_attr_Check⟩)]
theorem ok_flow_elem : fnOk os_flow_elem sig_flow_elem Tryd.f48 = true := by kernel_rfl
theorem fn_flow_elem : P.funcs[48]? = some Tryd.f48 := by kernel_rfl
noncomputable def F_flow_elem : sig_flow_elem.Fn := fun x y => run T (env_flow_elem) os_flow_elem sig_flow_elem Tryd.f48 hs_flow_elem big x y
theorem S_flow_elem : Sound P 48 ⟨sig_flow_elem, F_flow_elem⟩ := sound_of (os := os_flow_elem) (hs := hs_flow_elem) (env_cons S_flow_Char (env_cons S_attr_Check (env_nil))) fn_flow_elem ok_flow_elem (fun x y out h => ⟨big, h⟩)
theorem e_flow_elem (a0 : YElem.den) : C_flow_elem F_flow_elem a0 =
  (bcond ((((a0.1 : Int) != 0) : Bool) == ((a0.2.1 : Int) != 0))
   (some (ret_flow_elem 4))
   (bcond (((a0.2.1 : Int) == 0) == true)
    ((C_flow_Char F_flow_Char a0.1).bind fun r1 =>
     (bcond (!(res_flow_Char_0 r1))
      (some (ret_flow_elem 2))
      (bcond (((a0.2.1 : Int) != 0) == true)
       (bcond ((decide ((a0.2.1 : Int) < 1)) == false)
        (bcond (decide ((a0.2.1 : Int) > 1073741824))
         (some (ret_flow_elem 2))
         ((C_attr_Check F_attr_Check a0.2.2).bind fun r2 =>
          (some (ret_flow_elem (res_attr_Check_0 r2)))))
        (some (ret_flow_elem 2)))
       ((C_attr_Check F_attr_Check a0.2.2).bind fun r2 =>
        (some (ret_flow_elem (res_attr_Check_0 r2)))))))
    (bcond (((a0.2.1 : Int) != 0) == true)
     (bcond ((decide ((a0.2.1 : Int) < 1)) == false)
      (bcond (decide ((a0.2.1 : Int) > 1073741824))
       (some (ret_flow_elem 2))
       ((C_attr_Check F_attr_Check a0.2.2).bind fun r1 =>
        (some (ret_flow_elem (res_attr_Check_0 r1)))))
      (some (ret_flow_elem 2)))
     ((C_attr_Check F_attr_Check a0.2.2).bind fun r1 =>
      (some (ret_flow_elem (res_attr_Check_0 r1))))))) := by kernel_rfl
def sig_flow_Check : Sig := ⟨[.v false (.list YElem), .v false .bool], [], [(false, [.fr (.int .i64)])]⟩
def C_flow_Check (F : sig_flow_Check.Fn) (a0 : List YElem.den) (a1 : Bool) : Option sig_flow_Check.Out := F (a0, a1, ()) ()
def ret_flow_Check (v0 : Int) : sig_flow_Check.Out := (((v0, ()), ()), ())
def res_flow_Check_0 (r : sig_flow_Check.Out) : Int := r.1.1.1
@[simp] theorem res_flow_Check_0_ret (v0 : Int) : res_flow_Check_0 (ret_flow_Check v0) = v0 := rfl
def os_flow_Check : RegT := ⟨[], [], false⟩
def hs_flow_Check : List Keep := [[(0, []), (1, []), (8, []), (9, []), (10, [])]]
@[reducible] noncomputable def env_flow_Check : Env := [(48, ⟨sig_flow_elem, F_flow_elem⟩)]
noncomputable def L_flow_Check_0 (n m1 : Nat) (x0 : List YElem.den) (x1 : Bool) (x8 : List YElem.den) (x9 : Int) (x10 : Int) : Option sig_flow_Check.Out :=
  loopAt T (env_flow_Check) os_flow_Check sig_flow_Check Tryd.f17 hs_flow_Check n [.sr, .sl, .sr, .bl] m1 (mk 43 [(0, .cs false [.val (.list YElem) x0]), (1, .cs false [.val .bool x1]), (8, .cs false [.val (.list YElem) x8]), (9, .cs false [.val (.int .i64) x9]), (10, .cs false [.val (.int .i64) x10])])
theorem L_flow_Check_0_step (n m1 : Nat) (x0 : List YElem.den) (x1 : Bool) (x8 : List YElem.den) (x9 : Int) (x10 : Int) : L_flow_Check_0 n (m1 + 1) x0 x1 x8 x9 x10 =
  (bcond (decide ((x10 : Int) < x9))
   (if 0 ≤ (x10 : Int) ∧ (x10 : Int) < (List.length x8 : Int) then
    ((C_flow_elem F_flow_elem (at_ (e := YElem) x8 x10)).bind fun r1 =>
     (bcond (((res_flow_elem_0 r1) : Int) != 0)
      (some (ret_flow_Check (res_flow_elem_0 r1)))
      (bcond ((!x1) == true)
       (bcond (((at_ (e := YElem) x8 x10).2.1 : Int) == 0)
        (some (ret_flow_Check 8))
        (L_flow_Check_0 n m1 x0 x1 x8 x9 (IntKind.i64.wrap (x10 + 1))))
       (L_flow_Check_0 n m1 x0 x1 x8 x9 (IntKind.i64.wrap (x10 + 1))))))
   else none)
   (bcond (x1 == true)
    (bcond ((((List.length x0 : Int) : Int) == 0) == false)
     (if 0 ≤ ((IntKind.i64.wrap ((List.length x0 : Int) - 1)) : Int) ∧ ((IntKind.i64.wrap ((List.length x0 : Int) - 1)) : Int) < (List.length x0 : Int) then
      (bcond (((at_ (e := YElem) x0 (IntKind.i64.wrap ((List.length x0 : Int) - 1))).1 : Int) != 10)
       (some (ret_flow_Check 11))
       (some (ret_flow_Check 0)))
     else none)
     (some (ret_flow_Check 11)))
    (some (ret_flow_Check 0)))) := by kernel_rfl
theorem ok_flow_Check : fnOk os_flow_Check sig_flow_Check Tryd.f17 = true := by kernel_rfl
theorem fn_flow_Check : P.funcs[17]? = some Tryd.f17 := by kernel_rfl
noncomputable def F_flow_Check : sig_flow_Check.Fn := fun x y => run T (env_flow_Check) os_flow_Check sig_flow_Check Tryd.f17 hs_flow_Check big x y
theorem S_flow_Check : Sound P 17 ⟨sig_flow_Check, F_flow_Check⟩ := sound_of (os := os_flow_Check) (hs := hs_flow_Check) (env_cons S_flow_elem (env_nil)) fn_flow_Check ok_flow_Check (fun x y out h => ⟨big, h⟩)
theorem e_flow_Check (a0 : List YElem.den) (a1 : Bool) : C_flow_Check F_flow_Check a0 a1 =
  (L_flow_Check_0 big big a0 a1 a0 (List.length a0 : Int) 0) := by kernel_rfl
def sig_R_Char : Sig := ⟨[.v false (.int .i64)], [], [(false, [.fr .bool])]⟩
def C_R_Char (F : sig_R_Char.Fn) (a0 : Int) : Option sig_R_Char.Out := F (a0, ()) ()
def ret_R_Char (v0 : Bool) : sig_R_Char.Out := (((v0, ()), ()), ())
def res_R_Char_0 (r : sig_R_Char.Out) : Bool := r.1.1.1
@[simp] theorem res_R_Char_0_ret (v0 : Bool) : res_R_Char_0 (ret_R_Char v0) = v0 := rfl
def os_R_Char : RegT := ⟨[], [], false⟩
def hs_R_Char : List Keep := []
@[reducible] noncomputable def env_R_Char : Env := [(47, ⟨sig_R_In, F_R_In⟩)]
theorem ok_R_Char : fnOk os_R_Char sig_R_Char Tryd.f14 = true := by kernel_rfl
theorem fn_R_Char : P.funcs[14]? = some Tryd.f14 := by kernel_rfl
noncomputable def F_R_Char : sig_R_Char.Fn := fun x y => run T (env_R_Char) os_R_Char sig_R_Char Tryd.f14 hs_R_Char big x y
theorem S_R_Char : Sound P 14 ⟨sig_R_Char, F_R_Char⟩ := sound_of (os := os_R_Char) (hs := hs_R_Char) (env_cons S_R_In (env_nil)) fn_R_Char ok_R_Char (fun x y out h => ⟨big, h⟩)
theorem e_R_Char (a0 : Int) : C_R_Char F_R_Char a0 =
  (bcond (((a0 : Int) == 9) == false)
   (bcond (((a0 : Int) == 10) == false)
    ((C_R_In F_R_In a0 32 126).bind fun r1 =>
     (bcond ((res_R_In_0 r1) == false)
      ((C_R_In F_R_In a0 160 55295).bind fun r2 =>
       (bcond ((res_R_In_0 r2) == false)
        ((C_R_In F_R_In a0 57344 1114111).bind fun r3 =>
         (some (ret_R_Char (res_R_In_0 r3))))
        (some (ret_R_Char true))))
      (some (ret_R_Char true))))
    (some (ret_R_Char true)))
   (some (ret_R_Char true))) := by kernel_rfl
def sig_R_ElemError : Sig := ⟨[.v true YElem], [], [(false, [.fr (.int .i64)])]⟩
def C_R_ElemError (F : sig_R_ElemError.Fn) (a0 : YElem.den) : Option sig_R_ElemError.Out := F (a0, ()) ()
def ret_R_ElemError (v0 : Int) : sig_R_ElemError.Out := (((v0, ()), ()), ())
def res_R_ElemError_0 (r : sig_R_ElemError.Out) : Int := r.1.1.1
@[simp] theorem res_R_ElemError_0_ret (v0 : Int) : res_R_ElemError_0 (ret_R_ElemError v0) = v0 := rfl
def os_R_ElemError : RegT := ⟨[], [], false⟩
def hs_R_ElemError : List Keep := []
@[reducible] noncomputable def env_R_ElemError : Env := [(14, ⟨sig_R_Char, F_R_Char⟩), (47, ⟨sig_R_In, F_R_In⟩), (45, ⟨sig_R_AttrsError, F_R_AttrsError⟩)]
theorem ok_R_ElemError : fnOk os_R_ElemError sig_R_ElemError Tryd.f49 = true := by kernel_rfl
theorem fn_R_ElemError : P.funcs[49]? = some Tryd.f49 := by kernel_rfl
noncomputable def F_R_ElemError : sig_R_ElemError.Fn := fun x y => run T (env_R_ElemError) os_R_ElemError sig_R_ElemError Tryd.f49 hs_R_ElemError big x y
theorem S_R_ElemError : Sound P 49 ⟨sig_R_ElemError, F_R_ElemError⟩ := sound_of (os := os_R_ElemError) (hs := hs_R_ElemError) (env_cons S_R_Char (env_cons S_R_In (env_cons S_R_AttrsError (env_nil)))) fn_R_ElemError ok_R_ElemError (fun x y out h => ⟨big, h⟩)
theorem e_R_ElemError (a0 : YElem.den) : C_R_ElemError F_R_ElemError a0 =
  (bcond (((a0.1 : Int) == 0) == true)
   (bcond (((a0.2.1 : Int) == 0) == false)
    (bcond (((a0.1 : Int) != 0) == true)
     (bcond ((a0.2.1 : Int) != 0)
      (some (ret_R_ElemError 4))
      (bcond (((a0.1 : Int) != 0) == true)
       ((C_R_Char F_R_Char a0.1).bind fun r1 =>
        (bcond ((!(res_R_Char_0 r1)) == false)
         (bcond (((a0.2.1 : Int) != 0) == true)
          ((C_R_In F_R_In a0.2.1 1 1073741824).bind fun r2 =>
           (bcond (!(res_R_In_0 r2))
            (some (ret_R_ElemError 2))
            ((C_R_AttrsError F_R_AttrsError a0.2.2 false).bind fun r3 =>
             (some (ret_R_ElemError (res_R_AttrsError_0 r3))))))
          ((C_R_AttrsError F_R_AttrsError a0.2.2 false).bind fun r2 =>
           (some (ret_R_ElemError (res_R_AttrsError_0 r2)))))
         (some (ret_R_ElemError 2))))
       (bcond (((a0.2.1 : Int) != 0) == true)
        ((C_R_In F_R_In a0.2.1 1 1073741824).bind fun r1 =>
         (bcond (!(res_R_In_0 r1))
          (some (ret_R_ElemError 2))
          ((C_R_AttrsError F_R_AttrsError a0.2.2 false).bind fun r2 =>
           (some (ret_R_ElemError (res_R_AttrsError_0 r2))))))
        ((C_R_AttrsError F_R_AttrsError a0.2.2 false).bind fun r1 =>
         (some (ret_R_ElemError (res_R_AttrsError_0 r1)))))))
     (bcond (((a0.1 : Int) != 0) == true)
      ((C_R_Char F_R_Char a0.1).bind fun r1 =>
       (bcond ((!(res_R_Char_0 r1)) == false)
        (bcond (((a0.2.1 : Int) != 0) == true)
         ((C_R_In F_R_In a0.2.1 1 1073741824).bind fun r2 =>
          (bcond (!(res_R_In_0 r2))
           (some (ret_R_ElemError 2))
           ((C_R_AttrsError F_R_AttrsError a0.2.2 false).bind fun r3 =>
            (some (ret_R_ElemError (res_R_AttrsError_0 r3))))))
         ((C_R_AttrsError F_R_AttrsError a0.2.2 false).bind fun r2 =>
          (some (ret_R_ElemError (res_R_AttrsError_0 r2)))))
        (some (ret_R_ElemError 2))))
      (bcond (((a0.2.1 : Int) != 0) == true)
       ((C_R_In F_R_In a0.2.1 1 1073741824).bind fun r1 =>
        (bcond (!(res_R_In_0 r1))
         (some (ret_R_ElemError 2))
         ((C_R_AttrsError F_R_AttrsError a0.2.2 false).bind fun r2 =>
          (some (ret_R_ElemError (res_R_AttrsError_0 r2))))))
       ((C_R_AttrsError F_R_AttrsError a0.2.2 false).bind fun r1 =>
        (some (ret_R_ElemError (res_R_AttrsError_0 r1)))))))
    (some (ret_R_ElemError 4)))
   (bcond (((a0.1 : Int) != 0) == true)
    (bcond ((a0.2.1 : Int) != 0)
     (some (ret_R_ElemError 4))
     (bcond (((a0.1 : Int) != 0) == true)
      ((C_R_Char F_R_Char a0.1).bind fun r1 =>
       (bcond ((!(res_R_Char_0 r1)) == false)
        (bcond (((a0.2.1 : Int) != 0) == true)
         ((C_R_In F_R_In a0.2.1 1 1073741824).bind fun r2 =>
          (bcond (!(res_R_In_0 r2))
           (some (ret_R_ElemError 2))
           ((C_R_AttrsError F_R_AttrsError a0.2.2 false).bind fun r3 =>
            (some (ret_R_ElemError (res_R_AttrsError_0 r3))))))
         ((C_R_AttrsError F_R_AttrsError a0.2.2 false).bind fun r2 =>
          (some (ret_R_ElemError (res_R_AttrsError_0 r2)))))
        (some (ret_R_ElemError 2))))
      (bcond (((a0.2.1 : Int) != 0) == true)
       ((C_R_In F_R_In a0.2.1 1 1073741824).bind fun r1 =>
        (bcond (!(res_R_In_0 r1))
         (some (ret_R_ElemError 2))
         ((C_R_AttrsError F_R_AttrsError a0.2.2 false).bind fun r2 =>
          (some (ret_R_ElemError (res_R_AttrsError_0 r2))))))
       ((C_R_AttrsError F_R_AttrsError a0.2.2 false).bind fun r1 =>
        (some (ret_R_ElemError (res_R_AttrsError_0 r1)))))))
    (bcond (((a0.1 : Int) != 0) == true)
     ((C_R_Char F_R_Char a0.1).bind fun r1 =>
      (bcond ((!(res_R_Char_0 r1)) == false)
       (bcond (((a0.2.1 : Int) != 0) == true)
        ((C_R_In F_R_In a0.2.1 1 1073741824).bind fun r2 =>
         (bcond (!(res_R_In_0 r2))
          (some (ret_R_ElemError 2))
          ((C_R_AttrsError F_R_AttrsError a0.2.2 false).bind fun r3 =>
           (some (ret_R_ElemError (res_R_AttrsError_0 r3))))))
        ((C_R_AttrsError F_R_AttrsError a0.2.2 false).bind fun r2 =>
         (some (ret_R_ElemError (res_R_AttrsError_0 r2)))))
       (some (ret_R_ElemError 2))))
     (bcond (((a0.2.1 : Int) != 0) == true)
      ((C_R_In F_R_In a0.2.1 1 1073741824).bind fun r1 =>
       (bcond (!(res_R_In_0 r1))
        (some (ret_R_ElemError 2))
        ((C_R_AttrsError F_R_AttrsError a0.2.2 false).bind fun r2 =>
         (some (ret_R_ElemError (res_R_AttrsError_0 r2))))))
      ((C_R_AttrsError F_R_AttrsError a0.2.2 false).bind fun r1 =>
       (some (ret_R_ElemError (res_R_AttrsError_0 r1)))))))) := by kernel_rfl
def sig_R_SameElem : Sig := ⟨[.v true YElem, .v true YElem], [], [(false, [.fr .bool])]⟩
def C_R_SameElem (F : sig_R_SameElem.Fn) (a0 : YElem.den) (a1 : YElem.den) : Option sig_R_SameElem.Out := F (a0, a1, ()) ()
def ret_R_SameElem (v0 : Bool) : sig_R_SameElem.Out := (((v0, ()), ()), ())
def res_R_SameElem_0 (r : sig_R_SameElem.Out) : Bool := r.1.1.1
@[simp] theorem res_R_SameElem_0_ret (v0 : Bool) : res_R_SameElem_0 (ret_R_SameElem v0) = v0 := rfl
def os_R_SameElem : RegT := ⟨[], [], false⟩
def hs_R_SameElem : List Keep := []
@[reducible] noncomputable def env_R_SameElem : Env := [(42, ⟨sig_R_SameAttrs, F_R_SameAttrs⟩)]
theorem ok_R_SameElem : fnOk os_R_SameElem sig_R_SameElem Tryd.f46 = true := by kernel_rfl
theorem fn_R_SameElem : P.funcs[46]? = some Tryd.f46 := by kernel_rfl
noncomputable def F_R_SameElem : sig_R_SameElem.Fn := fun x y => run T (env_R_SameElem) os_R_SameElem sig_R_SameElem Tryd.f46 hs_R_SameElem big x y
theorem S_R_SameElem : Sound P 46 ⟨sig_R_SameElem, F_R_SameElem⟩ := sound_of (os := os_R_SameElem) (hs := hs_R_SameElem) (env_cons S_R_SameAttrs (env_nil)) fn_R_SameElem ok_R_SameElem (fun x y out h => ⟨big, h⟩)
theorem e_R_SameElem (a0 : YElem.den) (a1 : YElem.den) : C_R_SameElem F_R_SameElem a0 a1 =
  (bcond (((a0.1 : Int) == a1.1) == true)
   (bcond (((a0.2.1 : Int) == a1.2.1) == true)
    ((C_R_SameAttrs F_R_SameAttrs a0.2.2 a1.2.2).bind fun r1 =>
     (some (ret_R_SameElem (res_R_SameAttrs_0 r1))))
    (some (ret_R_SameElem false)))
   (some (ret_R_SameElem false))) := by kernel_rfl
def sig_R_SameFlow : Sig := ⟨[.v false (.list YElem), .v false (.list YElem)], [], [(false, [.fr .bool])]⟩
def C_R_SameFlow (F : sig_R_SameFlow.Fn) (a0 : List YElem.den) (a1 : List YElem.den) : Option sig_R_SameFlow.Out := F (a0, a1, ()) ()
def ret_R_SameFlow (v0 : Bool) : sig_R_SameFlow.Out := (((v0, ()), ()), ())
def res_R_SameFlow_0 (r : sig_R_SameFlow.Out) : Bool := r.1.1.1
@[simp] theorem res_R_SameFlow_0_ret (v0 : Bool) : res_R_SameFlow_0 (ret_R_SameFlow v0) = v0 := rfl
def os_R_SameFlow : RegT := ⟨[(6, .st 0 (.st 1 (.st 2 (.st 4 (.st 5 (.st 6 (.st 3 (.st 7 (.st 8 (.st 9 (.nil)))))))))))], [], false⟩
def hs_R_SameFlow : List Keep := [[(0, []), (1, []), (12, []), (13, [])]]
@[reducible] noncomputable def env_R_SameFlow : Env := [(46, ⟨sig_R_SameElem, F_R_SameElem⟩)]
noncomputable def L_R_SameFlow_0 (n m1 : Nat) (x0 : List YElem.den) (x1 : List YElem.den) (x12 : Int) (x13 : Int) : Option sig_R_SameFlow.Out :=
  loopAt T (env_R_SameFlow) os_R_SameFlow sig_R_SameFlow Tryd.f12 hs_R_SameFlow n [.sr, .sr, .sl, .sr, .bl] m1 (mk 27 [(0, .cs false [.val (.list YElem) x0]), (1, .cs false [.val (.list YElem) x1]), (12, .cs false [.val (.int .i64) x12]), (13, .cs false [.val (.int .i64) x13])])
theorem L_R_SameFlow_0_step (n m1 : Nat) (x0 : List YElem.den) (x1 : List YElem.den) (x12 : Int) (x13 : Int) : L_R_SameFlow_0 n (m1 + 1) x0 x1 x12 x13 =
  (bcond (decide ((x13 : Int) < x12))
   (if 0 ≤ (x13 : Int) ∧ (x13 : Int) < (List.length x0 : Int) then
    (if 0 ≤ (x13 : Int) ∧ (x13 : Int) < (List.length x1 : Int) then
     ((C_R_SameElem F_R_SameElem (at_ (e := YElem) x0 x13) (at_ (e := YElem) x1 x13)).bind fun r1 =>
      (bcond (!(res_R_SameElem_0 r1))
       (some (ret_R_SameFlow false))
       (L_R_SameFlow_0 n m1 x0 x1 x12 (IntKind.i64.wrap (x13 + 1)))))
    else none)
   else none)
   (some (ret_R_SameFlow true))) := by kernel_rfl
theorem ok_R_SameFlow : fnOk os_R_SameFlow sig_R_SameFlow Tryd.f12 = true := by kernel_rfl
theorem fn_R_SameFlow : P.funcs[12]? = some Tryd.f12 := by kernel_rfl
noncomputable def F_R_SameFlow : sig_R_SameFlow.Fn := fun x y => run T (env_R_SameFlow) os_R_SameFlow sig_R_SameFlow Tryd.f12 hs_R_SameFlow big x y
theorem S_R_SameFlow : Sound P 12 ⟨sig_R_SameFlow, F_R_SameFlow⟩ := sound_of (os := os_R_SameFlow) (hs := hs_R_SameFlow) (env_cons S_R_SameElem (env_nil)) fn_R_SameFlow ok_R_SameFlow (fun x y out h => ⟨big, h⟩)
theorem e_R_SameFlow (a0 : List YElem.den) (a1 : List YElem.den) : C_R_SameFlow F_R_SameFlow a0 a1 =
  (bcond (((List.length a0 : Int) : Int) != (List.length a1 : Int))
   (some (ret_R_SameFlow false))
   (L_R_SameFlow_0 big big a0 a1 (List.length a0 : Int) 0)) := by kernel_rfl
def sig_R_FlowError : Sig := ⟨[.v false (.list YElem), .v false .bool], [], [(false, [.fr (.int .i64)])]⟩
def C_R_FlowError (F : sig_R_FlowError.Fn) (a0 : List YElem.den) (a1 : Bool) : Option sig_R_FlowError.Out := F (a0, a1, ()) ()
def ret_R_FlowError (v0 : Int) : sig_R_FlowError.Out := (((v0, ()), ()), ())
def res_R_FlowError_0 (r : sig_R_FlowError.Out) : Int := r.1.1.1
@[simp] theorem res_R_FlowError_0_ret (v0 : Int) : res_R_FlowError_0 (ret_R_FlowError v0) = v0 := rfl
def os_R_FlowError : RegT := ⟨[], [], false⟩
def hs_R_FlowError : List Keep := [[(0, []), (1, []), (8, []), (9, [])]]
@[reducible] noncomputable def env_R_FlowError : Env := [(49, ⟨sig_R_ElemError, F_R_ElemError⟩)]
noncomputable def L_R_FlowError_0 (n m1 : Nat) (x0 : List YElem.den) (x1 : Bool) (x8 : Int) (x9 : Int) : Option sig_R_FlowError.Out :=
  loopAt T (env_R_FlowError) os_R_FlowError sig_R_FlowError Tryd.f18 hs_R_FlowError n [.sr, .sl, .sr, .bl] m1 (mk 47 [(0, .cs false [.val (.list YElem) x0]), (1, .cs false [.val .bool x1]), (8, .cs false [.val (.int .i64) x8]), (9, .cs false [.val (.int .i64) x9])])
theorem L_R_FlowError_0_step (n m1 : Nat) (x0 : List YElem.den) (x1 : Bool) (x8 : Int) (x9 : Int) : L_R_FlowError_0 n (m1 + 1) x0 x1 x8 x9 =
  (bcond (decide ((x9 : Int) < x8))
   (if 0 ≤ (x9 : Int) ∧ (x9 : Int) < (List.length x0 : Int) then
    ((C_R_ElemError F_R_ElemError (at_ (e := YElem) x0 x9)).bind fun r1 =>
     (bcond (((res_R_ElemError_0 r1) : Int) != 0)
      (some (ret_R_FlowError (res_R_ElemError_0 r1)))
      (bcond ((!x1) == true)
       (if 0 ≤ (x9 : Int) ∧ (x9 : Int) < (List.length x0 : Int) then
        (bcond (((at_ (e := YElem) x0 x9).1 : Int) != 0)
         (some (ret_R_FlowError 8))
         (L_R_FlowError_0 n m1 x0 x1 x8 (IntKind.i64.wrap (x9 + 1))))
       else none)
       (L_R_FlowError_0 n m1 x0 x1 x8 (IntKind.i64.wrap (x9 + 1))))))
   else none)
   (bcond (x1 == true)
    (bcond ((((List.length x0 : Int) : Int) == 0) == false)
     (if 0 ≤ ((IntKind.i64.wrap ((List.length x0 : Int) - 1)) : Int) ∧ ((IntKind.i64.wrap ((List.length x0 : Int) - 1)) : Int) < (List.length x0 : Int) then
      (bcond (((at_ (e := YElem) x0 (IntKind.i64.wrap ((List.length x0 : Int) - 1))).1 : Int) != 10)
       (some (ret_R_FlowError 11))
       (some (ret_R_FlowError 0)))
     else none)
     (some (ret_R_FlowError 11)))
    (some (ret_R_FlowError 0)))) := by kernel_rfl
theorem ok_R_FlowError : fnOk os_R_FlowError sig_R_FlowError Tryd.f18 = true := by kernel_rfl
theorem fn_R_FlowError : P.funcs[18]? = some Tryd.f18 := by kernel_rfl
noncomputable def F_R_FlowError : sig_R_FlowError.Fn := fun x y => run T (env_R_FlowError) os_R_FlowError sig_R_FlowError Tryd.f18 hs_R_FlowError big x y
theorem S_R_FlowError : Sound P 18 ⟨sig_R_FlowError, F_R_FlowError⟩ := sound_of (os := os_R_FlowError) (hs := hs_R_FlowError) (env_cons S_R_ElemError (env_nil)) fn_R_FlowError ok_R_FlowError (fun x y out h => ⟨big, h⟩)
theorem e_R_FlowError (a0 : List YElem.den) (a1 : Bool) : C_R_FlowError F_R_FlowError a0 a1 =
  (L_R_FlowError_0 big big a0 a1 (List.length a0 : Int) 0) := by kernel_rfl
end Go.Ev
