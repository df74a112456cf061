/- Functions, step by step. -/
import Derived.Test.YteojfhgljknmiaaDoorGFlows
namespace Go.Ev
set_option linter.unusedVariables false
set_option maxRecDepth 100000
open Go.Proofs
def sig_R_Texted : Sig := ⟨[.v false .str, .v false (.list YAttr)], [], [(false, [.fr (.list YElem)]), (false, [.fr (.int .i64)])]⟩
def C_R_Texted (F : sig_R_Texted.Fn) (a0 : List UInt8) (a1 : List YAttr.den) : Option sig_R_Texted.Out := F (a0, a1, ()) ()
def ret_R_Texted (v0 : List YElem.den) (v1 : Int) : sig_R_Texted.Out := (((v0, ()), (v1, ()), ()), ())
def res_R_Texted_0 (r : sig_R_Texted.Out) : List YElem.den := r.1.1.1
@[simp] theorem res_R_Texted_0_ret (v0 : List YElem.den) (v1 : Int) : res_R_Texted_0 (ret_R_Texted v0 v1) = v0 := rfl
def res_R_Texted_1 (r : sig_R_Texted.Out) : Int := r.1.2.1.1
@[simp] theorem res_R_Texted_1_ret (v0 : List YElem.den) (v1 : Int) : res_R_Texted_1 (ret_R_Texted v0 v1) = v1 := rfl
def os_R_Texted : RegT := ⟨[], [], false⟩
def hs_R_Texted : List Keep := [[(0, []), (1, []), (7, [(0, 35, YElem)]), (8, [])]]
@[reducible] noncomputable def env_R_Texted : Env := [(45, ⟨sig_R_AttrsError, F_R_AttrsError⟩), (44, ⟨sig_unicode_utf8_DecodeRuneInString, F_unicode_utf8_DecodeRuneInString⟩), (14, ⟨sig_R_Char, F_R_Char⟩)]
noncomputable def L_R_Texted_0 (n m1 : Nat) (x0 : List UInt8) (x1 : List YAttr.den) (x7 : List YElem.den) (x8 : Int) : Option sig_R_Texted.Out :=
  loopAt T (env_R_Texted) os_R_Texted sig_R_Texted Tryd.f11 hs_R_Texted n [.sr, .sr, .sr, .sl, .sr, .bl] m1 (mk 48 [(0, .cs false [.val .str x0]), (1, .cs false [.val (.list YAttr) x1]), (7, .cs false [.own 35 YElem x7]), (8, .cs false [.val (.int .i64) x8])])
theorem L_R_Texted_0_step (n m1 : Nat) (x0 : List UInt8) (x1 : List YAttr.den) (x7 : List YElem.den) (x8 : Int) : L_R_Texted_0 n (m1 + 1) x0 x1 x7 x8 =
  (bcond (decide ((x8 : Int) < (List.length x0 : Int)))
   (if 0 ≤ ((List.length x0 : Int) : Int) ∧ ((List.length x0 : Int) : Int) ≤ (List.length x0 : Int) ∧ 0 ≤ (x8 : Int) ∧ (x8 : Int) ≤ (List.length x0 : Int) then
    ((C_unicode_utf8_DecodeRuneInString F_unicode_utf8_DecodeRuneInString (List.drop (Int.toNat x8) (List.take (Int.toNat (List.length x0 : Int)) x0))).bind fun r1 =>
     (bcond ((((res_unicode_utf8_DecodeRuneInString_0 r1) : Int) == 65533) == true)
      (bcond (decide (((res_unicode_utf8_DecodeRuneInString_1 r1) : Int) < 2))
       (some (ret_R_Texted [] 10))
       ((C_R_Char F_R_Char (IntKind.i64.wrap (res_unicode_utf8_DecodeRuneInString_0 r1))).bind fun r2 =>
        (bcond (!(res_R_Char_0 r2))
         (some (ret_R_Texted [] 2))
         (if (List.length (x7 : List YElem.den) + List.length ([((IntKind.i64.wrap (res_unicode_utf8_DecodeRuneInString_0 r1)), (0, x1))] : List YElem.den)) * 40 ≤ 140737488355328 then
          (L_R_Texted_0 n m1 x0 x1 (x7 ++ [((IntKind.i64.wrap (res_unicode_utf8_DecodeRuneInString_0 r1)), (0, x1))]) (IntKind.i64.wrap (x8 + (res_unicode_utf8_DecodeRuneInString_1 r1))))
         else none))))
      ((C_R_Char F_R_Char (IntKind.i64.wrap (res_unicode_utf8_DecodeRuneInString_0 r1))).bind fun r2 =>
       (bcond (!(res_R_Char_0 r2))
        (some (ret_R_Texted [] 2))
        (if (List.length (x7 : List YElem.den) + List.length ([((IntKind.i64.wrap (res_unicode_utf8_DecodeRuneInString_0 r1)), (0, x1))] : List YElem.den)) * 40 ≤ 140737488355328 then
         (L_R_Texted_0 n m1 x0 x1 (x7 ++ [((IntKind.i64.wrap (res_unicode_utf8_DecodeRuneInString_0 r1)), (0, x1))]) (IntKind.i64.wrap (x8 + (res_unicode_utf8_DecodeRuneInString_1 r1))))
        else none)))))
   else none)
   (some (ret_R_Texted x7 0))) := by kernel_rfl
theorem ok_R_Texted : fnOk os_R_Texted sig_R_Texted Tryd.f11 = true := by kernel_rfl
theorem fn_R_Texted : P.funcs[11]? = some Tryd.f11 := by kernel_rfl
noncomputable def F_R_Texted : sig_R_Texted.Fn := fun x y => run T (env_R_Texted) os_R_Texted sig_R_Texted Tryd.f11 hs_R_Texted big x y
theorem S_R_Texted : Sound P 11 ⟨sig_R_Texted, F_R_Texted⟩ := sound_of (os := os_R_Texted) (hs := hs_R_Texted) (env_cons S_R_AttrsError (env_cons S_unicode_utf8_DecodeRuneInString (env_cons S_R_Char (env_nil)))) fn_R_Texted ok_R_Texted (fun x y out h => ⟨big, h⟩)
theorem e_R_Texted (a0 : List UInt8) (a1 : List YAttr.den) : C_R_Texted F_R_Texted a0 a1 =
  ((C_R_AttrsError F_R_AttrsError a1 false).bind fun r1 =>
   (bcond (((res_R_AttrsError_0 r1) : Int) != 0)
    (some (ret_R_Texted [] (res_R_AttrsError_0 r1)))
    (L_R_Texted_0 big big a0 a1 [] 0))) := by kernel_rfl
def sig_law_FlowOfMatches : Sig := ⟨[.v false .str, .v false (.list YAttr)], [], [(false, [.fr .bool])]⟩
def C_law_FlowOfMatches (F : sig_law_FlowOfMatches.Fn) (a0 : List UInt8) (a1 : List YAttr.den) : Option sig_law_FlowOfMatches.Out := F (a0, a1, ()) ()
def ret_law_FlowOfMatches (v0 : Bool) : sig_law_FlowOfMatches.Out := (((v0, ()), ()), ())
def os_law_FlowOfMatches : RegT := ⟨[], [], false⟩
def hs_law_FlowOfMatches : List Keep := []
@[reducible] noncomputable def env_law_FlowOfMatches : Env := [(9, ⟨sig_law_flows, F_law_flows⟩), (10, ⟨sig_flow_Of, F_flow_Of⟩), (11, ⟨sig_R_Texted, F_R_Texted⟩), (12, ⟨sig_R_SameFlow, F_R_SameFlow⟩)]
theorem ok_law_FlowOfMatches : fnOk os_law_FlowOfMatches sig_law_FlowOfMatches Tryd.f3 = true := by kernel_rfl
theorem fn_law_FlowOfMatches : P.funcs[3]? = some Tryd.f3 := by kernel_rfl
noncomputable def F_law_FlowOfMatches : sig_law_FlowOfMatches.Fn := fun x y => run T (env_law_FlowOfMatches) os_law_FlowOfMatches sig_law_FlowOfMatches Tryd.f3 hs_law_FlowOfMatches big x y
theorem S_law_FlowOfMatches : Sound P 3 ⟨sig_law_FlowOfMatches, F_law_FlowOfMatches⟩ := sound_of (os := os_law_FlowOfMatches) (hs := hs_law_FlowOfMatches) (env_cons S_law_flows (env_cons S_flow_Of (env_cons S_R_Texted (env_cons S_R_SameFlow (env_nil))))) fn_law_FlowOfMatches ok_law_FlowOfMatches (fun x y out h => ⟨big, h⟩)
theorem e_law_FlowOfMatches (a0 : List UInt8) (a1 : List YAttr.den) : C_law_FlowOfMatches F_law_FlowOfMatches a0 a1 =
  ((C_law_flows F_law_flows ).bind fun r1 =>
   (bcond (!(res_law_flows_0 r1))
    (some (ret_law_FlowOfMatches false))
    ((C_flow_Of F_flow_Of a0 a1).bind fun r2 =>
     ((C_R_Texted F_R_Texted a0 a1).bind fun r3 =>
      (bcond ((((res_flow_Of_1 r2) : Int) == (res_R_Texted_1 r3)) == true)
       ((C_R_SameFlow F_R_SameFlow (res_flow_Of_0 r2) (res_R_Texted_0 r3)).bind fun r4 =>
        (some (ret_law_FlowOfMatches (res_R_SameFlow_0 r4))))
       (some (ret_law_FlowOfMatches false))))))) := by kernel_rfl
end Go.Ev
