/- Functions, step by step. -/
import Derived.Test.YteojfhgljknmiaaDoorGUtf
namespace Go.Ev
set_option linter.unusedVariables false
set_option maxRecDepth 100000
open Go.Proofs
def sig_flow_Of : Sig := ⟨[.v false .str, .v false (.list YAttr)], [], [(false, [.fr (.list YElem)]), (false, [.fr (.int .i64)])]⟩
def C_flow_Of (F : sig_flow_Of.Fn) (a0 : List UInt8) (a1 : List YAttr.den) : Option sig_flow_Of.Out := F (a0, a1, ()) ()
def ret_flow_Of (v0 : List YElem.den) (v1 : Int) : sig_flow_Of.Out := (((v0, ()), (v1, ()), ()), ())
def res_flow_Of_0 (r : sig_flow_Of.Out) : List YElem.den := r.1.1.1
@[simp] theorem res_flow_Of_0_ret (v0 : List YElem.den) (v1 : Int) : res_flow_Of_0 (ret_flow_Of v0 v1) = v0 := rfl
def res_flow_Of_1 (r : sig_flow_Of.Out) : Int := r.1.2.1.1
@[simp] theorem res_flow_Of_1_ret (v0 : List YElem.den) (v1 : Int) : res_flow_Of_1 (ret_flow_Of v0 v1) = v1 := rfl
def os_flow_Of : RegT := ⟨[], [], false⟩
def hs_flow_Of : List Keep := [[(0, []), (1, []), (7, [(0, 35, YElem)])]]
@[reducible] noncomputable def env_flow_Of : Env := [(43, ⟨sig_attr_Check, F_attr_Check⟩), (44, ⟨sig_unicode_utf8_DecodeRuneInString, F_unicode_utf8_DecodeRuneInString⟩), (13, ⟨sig_flow_Char, F_flow_Char⟩)]
noncomputable def L_flow_Of_0 (n m1 : Nat) (x0 : List UInt8) (x1 : List YAttr.den) (x7 : List YElem.den) : Option sig_flow_Of.Out :=
  loopAt T (env_flow_Of) os_flow_Of sig_flow_Of Tryd.f10 hs_flow_Of n [.sr, .sr, .sr, .sl, .bl] m1 (mk 44 [(0, .cs false [.val .str x0]), (1, .cs false [.val (.list YAttr) x1]), (7, .cs false [.own 35 YElem x7])])
theorem L_flow_Of_0_step (n m1 : Nat) (x0 : List UInt8) (x1 : List YAttr.den) (x7 : List YElem.den) : L_flow_Of_0 n (m1 + 1) x0 x1 x7 =
  (bcond (!((x0 : List UInt8) == []))
   ((C_unicode_utf8_DecodeRuneInString F_unicode_utf8_DecodeRuneInString x0).bind fun r1 =>
    (bcond ((((res_unicode_utf8_DecodeRuneInString_0 r1) : Int) == 65533) == true)
     (bcond (((res_unicode_utf8_DecodeRuneInString_1 r1) : Int) == 1)
      (some (ret_flow_Of [] 10))
      ((C_flow_Char F_flow_Char (IntKind.i64.wrap (res_unicode_utf8_DecodeRuneInString_0 r1))).bind fun r2 =>
       (bcond (!(res_flow_Char_0 r2))
        (some (ret_flow_Of [] 2))
        (if List.length (x1 : List YAttr.den) * 32 ≤ 140737488355328 then
         (if (List.length (x7 : List YElem.den) + List.length ([((IntKind.i64.wrap (res_unicode_utf8_DecodeRuneInString_0 r1)), (0, x1))] : List YElem.den)) * 40 ≤ 140737488355328 then
          (if 0 ≤ ((List.length x0 : Int) : Int) ∧ ((List.length x0 : Int) : Int) ≤ (List.length x0 : Int) ∧ 0 ≤ ((res_unicode_utf8_DecodeRuneInString_1 r1) : Int) ∧ ((res_unicode_utf8_DecodeRuneInString_1 r1) : Int) ≤ (List.length x0 : Int) then
           (L_flow_Of_0 n m1 (List.drop (Int.toNat (res_unicode_utf8_DecodeRuneInString_1 r1)) (List.take (Int.toNat (List.length x0 : Int)) x0)) x1 (x7 ++ [((IntKind.i64.wrap (res_unicode_utf8_DecodeRuneInString_0 r1)), (0, x1))]))
          else none)
         else none)
        else none))))
     ((C_flow_Char F_flow_Char (IntKind.i64.wrap (res_unicode_utf8_DecodeRuneInString_0 r1))).bind fun r2 =>
      (bcond (!(res_flow_Char_0 r2))
       (some (ret_flow_Of [] 2))
       (if List.length (x1 : List YAttr.den) * 32 ≤ 140737488355328 then
        (if (List.length (x7 : List YElem.den) + List.length ([((IntKind.i64.wrap (res_unicode_utf8_DecodeRuneInString_0 r1)), (0, x1))] : List YElem.den)) * 40 ≤ 140737488355328 then
         (if 0 ≤ ((List.length x0 : Int) : Int) ∧ ((List.length x0 : Int) : Int) ≤ (List.length x0 : Int) ∧ 0 ≤ ((res_unicode_utf8_DecodeRuneInString_1 r1) : Int) ∧ ((res_unicode_utf8_DecodeRuneInString_1 r1) : Int) ≤ (List.length x0 : Int) then
          (L_flow_Of_0 n m1 (List.drop (Int.toNat (res_unicode_utf8_DecodeRuneInString_1 r1)) (List.take (Int.toNat (List.length x0 : Int)) x0)) x1 (x7 ++ [((IntKind.i64.wrap (res_unicode_utf8_DecodeRuneInString_0 r1)), (0, x1))]))
         else none)
        else none)
       else none)))))
   (some (ret_flow_Of x7 0))) := by kernel_rfl
theorem ok_flow_Of : fnOk os_flow_Of sig_flow_Of Tryd.f10 = true := by kernel_rfl
theorem fn_flow_Of : P.funcs[10]? = some Tryd.f10 := by kernel_rfl
noncomputable def F_flow_Of : sig_flow_Of.Fn := fun x y => run T (env_flow_Of) os_flow_Of sig_flow_Of Tryd.f10 hs_flow_Of big x y
theorem S_flow_Of : Sound P 10 ⟨sig_flow_Of, F_flow_Of⟩ := sound_of (os := os_flow_Of) (hs := hs_flow_Of) (env_cons S_attr_Check (env_cons S_unicode_utf8_DecodeRuneInString (env_cons S_flow_Char (env_nil)))) fn_flow_Of ok_flow_Of (fun x y out h => ⟨big, h⟩)
theorem e_flow_Of (a0 : List UInt8) (a1 : List YAttr.den) : C_flow_Of F_flow_Of a0 a1 =
  ((C_attr_Check F_attr_Check a1).bind fun r1 =>
   (bcond (((res_attr_Check_0 r1) : Int) != 0)
    (some (ret_flow_Of [] (res_attr_Check_0 r1)))
    (L_flow_Of_0 big big a0 a1 []))) := by kernel_rfl
def sig_law_flows : Sig := ⟨[], [], [(false, [.fr .bool])]⟩
def C_law_flows (F : sig_law_flows.Fn) : Option sig_law_flows.Out := F () ()
def ret_law_flows (v0 : Bool) : sig_law_flows.Out := (((v0, ()), ()), ())
def res_law_flows_0 (r : sig_law_flows.Out) : Bool := r.1.1.1
@[simp] theorem res_law_flows_0_ret (v0 : Bool) : res_law_flows_0 (ret_law_flows v0) = v0 := rfl
def os_law_flows : RegT := ⟨[(2, .st 0 (.st 1 (.st 2 (.st 3 (.st 4 (.st 5 (.st 6 (.st 7 (.st 8 (.st 9 (.st 10 (.st 11 (.st 12 (.st 13 (.st 14 (.st 15 (.st 16 (.st 17 (.grp [18, 19] (.st 20 (.st 21 (.st 22 (.st 23 (.st 24 (.st 25 (.st 26 (.nil)))))))))))))))))))))))))))], [], false⟩
def hs_law_flows : List Keep := []
@[reducible] noncomputable def env_law_flows : Env := [(41, ⟨sig_law_on, F_law_on⟩), (10, ⟨sig_flow_Of, F_flow_Of⟩), (42, ⟨sig_R_SameAttrs, F_R_SameAttrs⟩), (17, ⟨sig_flow_Check, F_flow_Check⟩)]
theorem ok_law_flows : fnOk os_law_flows sig_law_flows Tryd.f9 = true := by kernel_rfl
theorem fn_law_flows : P.funcs[9]? = some Tryd.f9 := by kernel_rfl
noncomputable def F_law_flows : sig_law_flows.Fn := fun x y => run T (env_law_flows) os_law_flows sig_law_flows Tryd.f9 hs_law_flows big x y
theorem S_law_flows : Sound P 9 ⟨sig_law_flows, F_law_flows⟩ := sound_of (os := os_law_flows) (hs := hs_law_flows) (env_cons S_law_on (env_cons S_flow_Of (env_cons S_R_SameAttrs (env_cons S_flow_Check (env_nil))))) fn_law_flows ok_law_flows (fun x y out h => ⟨big, h⟩)
theorem e_law_flows : C_law_flows F_law_flows =
  ((C_law_on F_law_on [98, 111, 108, 100]).bind fun r1 =>
   ((C_flow_Of F_flow_Of [97, 98] (res_law_on_0 r1)).bind fun r2 =>
    (bcond ((((res_flow_Of_1 r2) : Int) == 0) == true)
     (bcond ((((List.length (res_flow_Of_0 r2) : Int) : Int) == 2) == true)
      (if 0 ≤ (1 : Int) ∧ (1 : Int) < (List.length (res_flow_Of_0 r2) : Int) then
       (bcond ((((at_ (e := YElem) (res_flow_Of_0 r2) 1).1 : Int) == 98) == true)
        (if 0 ≤ (0 : Int) ∧ (0 : Int) < (List.length (res_flow_Of_0 r2) : Int) then
         ((C_law_on F_law_on [98, 111, 108, 100]).bind fun r3 =>
          ((C_R_SameAttrs F_R_SameAttrs (at_ (e := YElem) (res_flow_Of_0 r2) 0).2.2 (res_law_on_0 r3)).bind fun r4 =>
           (bcond ((res_R_SameAttrs_0 r4) == true)
            ((C_flow_Check F_flow_Check [] true).bind fun r5 =>
             (some (ret_law_flows (((res_flow_Check_0 r5) : Int) == 11))))
            (some (ret_law_flows false)))))
        else none)
        (some (ret_law_flows false)))
      else none)
      (some (ret_law_flows false)))
     (some (ret_law_flows false))))) := by kernel_rfl
end Go.Ev
