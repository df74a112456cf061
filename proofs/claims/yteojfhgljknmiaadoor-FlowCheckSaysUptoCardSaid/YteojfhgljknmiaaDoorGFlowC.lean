/- Functions, step by step. -/
import Derived.Test.YteojfhgljknmiaaDoorGFlows
import Derived.Test.YteojfhgljknmiaaDoorGInts
namespace Go.Ev
set_option linter.unusedVariables false
set_option maxRecDepth 100000
open Go.Proofs
def sig_flow_Refs : Sig := ⟨[.v false (.list YElem)], [], [(false, [.fr (.list (.int .i64))])]⟩
def C_flow_Refs (F : sig_flow_Refs.Fn) (a0 : List YElem.den) : Option sig_flow_Refs.Out := F (a0, ()) ()
def ret_flow_Refs (v0 : List (Int)) : sig_flow_Refs.Out := (((v0, ()), ()), ())
def res_flow_Refs_0 (r : sig_flow_Refs.Out) : List (Int) := r.1.1.1
@[simp] theorem res_flow_Refs_0_ret (v0 : List (Int)) : res_flow_Refs_0 (ret_flow_Refs v0) = v0 := rfl
def os_flow_Refs : RegT := ⟨[], [], false⟩
def hs_flow_Refs : List Keep := [[(3, [(0, 3, (.int .i64))]), (6, []), (7, []), (8, [])]]
@[reducible] noncomputable def env_flow_Refs : Env := []
noncomputable def L_flow_Refs_0 (n m1 : Nat) (x3 : List (Int)) (x6 : List YElem.den) (x7 : Int) (x8 : Int) : Option sig_flow_Refs.Out :=
  loopAt T (env_flow_Refs) os_flow_Refs sig_flow_Refs Tryd.f21 hs_flow_Refs n [.sr, .sr, .sl, .sr, .bl] m1 (mk 22 [(3, .cs false [.own 3 (.int .i64) x3]), (6, .cs false [.val (.list YElem) x6]), (7, .cs false [.val (.int .i64) x7]), (8, .cs false [.val (.int .i64) x8])])
theorem L_flow_Refs_0_step (n m1 : Nat) (x3 : List (Int)) (x6 : List YElem.den) (x7 : Int) (x8 : Int) : L_flow_Refs_0 n (m1 + 1) x3 x6 x7 x8 =
  (bcond (decide ((x8 : Int) < x7))
   (if 0 ≤ (x8 : Int) ∧ (x8 : Int) < (List.length x6 : Int) then
    (bcond (((at_ (e := YElem) x6 x8).2.1 : Int) != 0)
     (if (List.length (x3 : List Int) + List.length ([(at_ (e := YElem) x6 x8).2.1] : List Int)) * 8 ≤ 140737488355328 then
      (L_flow_Refs_0 n m1 (x3 ++ [(at_ (e := YElem) x6 x8).2.1]) x6 x7 (IntKind.i64.wrap (x8 + 1)))
     else none)
     (L_flow_Refs_0 n m1 x3 x6 x7 (IntKind.i64.wrap (x8 + 1))))
   else none)
   (some (ret_flow_Refs x3))) := by kernel_rfl
theorem ok_flow_Refs : fnOk os_flow_Refs sig_flow_Refs Tryd.f21 = true := by kernel_rfl
theorem fn_flow_Refs : P.funcs[21]? = some Tryd.f21 := by kernel_rfl
noncomputable def F_flow_Refs : sig_flow_Refs.Fn := fun x y => run T (env_flow_Refs) os_flow_Refs sig_flow_Refs Tryd.f21 hs_flow_Refs big x y
theorem S_flow_Refs : Sound P 21 ⟨sig_flow_Refs, F_flow_Refs⟩ := sound_of (os := os_flow_Refs) (hs := hs_flow_Refs) (env_nil) fn_flow_Refs ok_flow_Refs (fun x y out h => ⟨big, h⟩)
theorem e_flow_Refs (a0 : List YElem.den) : C_flow_Refs F_flow_Refs a0 =
  (L_flow_Refs_0 big big [] a0 (List.length a0 : Int) 0) := by kernel_rfl
def sig_law_FlowCheckSays : Sig := ⟨[.v false (.int .i64), .v false (.list YElem), .v false (.list YElem), .v false .bool], [], [(false, [.fr .bool])]⟩
def C_law_FlowCheckSays (F : sig_law_FlowCheckSays.Fn) (a0 : Int) (a1 : List YElem.den) (a2 : List YElem.den) (a3 : Bool) : Option sig_law_FlowCheckSays.Out := F (a0, a1, a2, a3, ()) ()
def ret_law_FlowCheckSays (v0 : Bool) : sig_law_FlowCheckSays.Out := (((v0, ()), ()), ())
def os_law_FlowCheckSays : RegT := ⟨[], [], false⟩
def hs_law_FlowCheckSays : List Keep := [[(1, []), (9, [(0, 3, (.int .i64))]), (46, []), (47, [])]]
@[reducible] noncomputable def env_law_FlowCheckSays : Env := [(9, ⟨sig_law_flows, F_law_flows⟩), (13, ⟨sig_flow_Char, F_flow_Char⟩), (14, ⟨sig_R_Char, F_R_Char⟩), (15, ⟨sig_flow_CheckPart, F_flow_CheckPart⟩), (16, ⟨sig_R_PartError, F_R_PartError⟩), (17, ⟨sig_flow_Check, F_flow_Check⟩), (18, ⟨sig_R_FlowError, F_R_FlowError⟩), (19, ⟨sig_flow_Same, F_flow_Same⟩), (12, ⟨sig_R_SameFlow, F_R_SameFlow⟩), (21, ⟨sig_flow_Refs, F_flow_Refs⟩), (20, ⟨sig_R_SameInts, F_R_SameInts⟩)]
noncomputable def L_law_FlowCheckSays_0 (n m1 : Nat) (x1 : List YElem.den) (x9 : List (Int)) (x46 : Int) (x47 : Int) : Option sig_law_FlowCheckSays.Out :=
  loopAt T (env_law_FlowCheckSays) os_law_FlowCheckSays sig_law_FlowCheckSays Tryd.f4 hs_law_FlowCheckSays n [.sr, .sr, .sr, .sl, .sr, .bl] m1 (mk 69 [(1, .cs false [.val (.list YElem) x1]), (9, .cs false [.own 3 (.int .i64) x9]), (46, .cs false [.val (.int .i64) x46]), (47, .cs false [.val (.int .i64) x47])])
theorem L_law_FlowCheckSays_0_step (n m1 : Nat) (x1 : List YElem.den) (x9 : List (Int)) (x46 : Int) (x47 : Int) : L_law_FlowCheckSays_0 n (m1 + 1) x1 x9 x46 x47 =
  (bcond (decide ((x47 : Int) < x46))
   (if 0 ≤ (x47 : Int) ∧ (x47 : Int) < (List.length x1 : Int) then
    (bcond (((at_ (e := YElem) x1 x47).2.1 : Int) != 0)
     (if 0 ≤ (x47 : Int) ∧ (x47 : Int) < (List.length x1 : Int) then
      (if (List.length (x9 : List Int) + List.length ([(at_ (e := YElem) x1 x47).2.1] : List Int)) * 8 ≤ 140737488355328 then
       (L_law_FlowCheckSays_0 n m1 x1 (x9 ++ [(at_ (e := YElem) x1 x47).2.1]) x46 (IntKind.i64.wrap (x47 + 1)))
      else none)
     else none)
     (L_law_FlowCheckSays_0 n m1 x1 x9 x46 (IntKind.i64.wrap (x47 + 1))))
   else none)
   ((C_flow_Refs F_flow_Refs x1).bind fun r1 =>
    ((C_R_SameInts F_R_SameInts (res_flow_Refs_0 r1) x9).bind fun r2 =>
     (some (ret_law_FlowCheckSays (res_R_SameInts_0 r2)))))) := by kernel_rfl
theorem ok_law_FlowCheckSays : fnOk os_law_FlowCheckSays sig_law_FlowCheckSays Tryd.f4 = true := by kernel_rfl
theorem fn_law_FlowCheckSays : P.funcs[4]? = some Tryd.f4 := by kernel_rfl
noncomputable def F_law_FlowCheckSays : sig_law_FlowCheckSays.Fn := fun x y => run T (env_law_FlowCheckSays) os_law_FlowCheckSays sig_law_FlowCheckSays Tryd.f4 hs_law_FlowCheckSays big x y
theorem S_law_FlowCheckSays : Sound P 4 ⟨sig_law_FlowCheckSays, F_law_FlowCheckSays⟩ := sound_of (os := os_law_FlowCheckSays) (hs := hs_law_FlowCheckSays) (env_cons S_law_flows (env_cons S_flow_Char (env_cons S_R_Char (env_cons S_flow_CheckPart (env_cons S_R_PartError (env_cons S_flow_Check (env_cons S_R_FlowError (env_cons S_flow_Same (env_cons S_R_SameFlow (env_cons S_flow_Refs (env_cons S_R_SameInts (env_nil)))))))))))) fn_law_FlowCheckSays ok_law_FlowCheckSays (fun x y out h => ⟨big, h⟩)
theorem e_law_FlowCheckSays (a0 : Int) (a1 : List YElem.den) (a2 : List YElem.den) (a3 : Bool) : C_law_FlowCheckSays F_law_FlowCheckSays a0 a1 a2 a3 =
  ((C_law_flows F_law_flows ).bind fun r1 =>
   (bcond ((!(res_law_flows_0 r1)) == false)
    ((C_flow_Char F_flow_Char a0).bind fun r2 =>
     ((C_R_Char F_R_Char a0).bind fun r3 =>
      (bcond ((((res_flow_Char_0 r2) : Bool) != (res_R_Char_0 r3)) == false)
       ((C_flow_CheckPart F_flow_CheckPart a1).bind fun r4 =>
        ((C_R_PartError F_R_PartError a1).bind fun r5 =>
         (bcond ((((res_flow_CheckPart_0 r4) : Int) != (res_R_PartError_0 r5)) == false)
          ((C_flow_Check F_flow_Check a1 a3).bind fun r6 =>
           ((C_R_FlowError F_R_FlowError a1 a3).bind fun r7 =>
            (bcond ((((res_flow_Check_0 r6) : Int) != (res_R_FlowError_0 r7)) == false)
             ((C_flow_Same F_flow_Same a1 a2).bind fun r8 =>
              ((C_R_SameFlow F_R_SameFlow a1 a2).bind fun r9 =>
               (bcond (((res_flow_Same_0 r8) : Bool) != (res_R_SameFlow_0 r9))
                (some (ret_law_FlowCheckSays false))
                (L_law_FlowCheckSays_0 big big a1 [] (List.length a1 : Int) 0))))
             (some (ret_law_FlowCheckSays false)))))
          (some (ret_law_FlowCheckSays false)))))
       (some (ret_law_FlowCheckSays false)))))
    (some (ret_law_FlowCheckSays false)))) := by kernel_rfl
end Go.Ev
