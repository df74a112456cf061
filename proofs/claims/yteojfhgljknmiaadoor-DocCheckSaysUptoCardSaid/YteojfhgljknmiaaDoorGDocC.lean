/- Functions, step by step. -/
import Derived.Test.YteojfhgljknmiaaDoorGDocR
namespace Go.Ev
set_option linter.unusedVariables false
set_option maxRecDepth 100000
open Go.Proofs
def sig_law_DocCheckSays : Sig := ⟨[.v true YDoc, .v false (.int .i64), .v false (.int .i64)], [], [(false, [.fr .bool])]⟩
def C_law_DocCheckSays (F : sig_law_DocCheckSays.Fn) (a0 : List YNode.den) (a1 : Int) (a2 : Int) : Option sig_law_DocCheckSays.Out := F (a0, a1, a2, ()) ()
def ret_law_DocCheckSays (v0 : Bool) : sig_law_DocCheckSays.Out := (((v0, ()), ()), ())
def os_law_DocCheckSays : RegT := ⟨[(1, .st 0 (.st 1 (.st 2 (.st 3 (.st 4 (.st 6 (.st 7 (.st 5 (.st 8 (.st 9 (.st 10 (.st 11 (.st 12 (.grp [14, 13] (.st 15 (.st 16 (.st 17 (.nil)))))))))))))))))), (6, .st 0 (.st 2 (.st 6 (.st 8 (.grp [1, 7, 3, 4, 9, 10, 5] (.st 11 (.st 12 (.nil))))))))], [], false⟩
def hs_law_DocCheckSays : List Keep := [[(3, []), (28, []), (29, [])]]
@[reducible] noncomputable def env_law_DocCheckSays : Env := [(28, ⟨sig_law_docs, F_law_docs⟩), (35, ⟨sig_doc_Permitted, F_doc_Permitted⟩), (36, ⟨sig_R_Permitted, F_R_Permitted⟩), (37, ⟨sig_doc_Check, F_doc_Check⟩), (38, ⟨sig_R_DocError, F_R_DocError⟩), (39, ⟨sig_doc_CheckNode, F_doc_CheckNode⟩), (40, ⟨sig_R_NodeError, F_R_NodeError⟩)]
noncomputable def L_law_DocCheckSays_0 (n m1 : Nat) (x3 : List YNode.den) (x28 : Int) (x29 : Int) : Option sig_law_DocCheckSays.Out :=
  loopAt T (env_law_DocCheckSays) os_law_DocCheckSays sig_law_DocCheckSays Tryd.f8 hs_law_DocCheckSays n [.sr, .sr, .sl, .sr, .bl] m1 (mk 46 [(3, .box [.val YDoc x3]), (28, .cs false [.val (.int .i64) x28]), (29, .cs false [.val (.int .i64) x29])])
theorem L_law_DocCheckSays_0_step (n m1 : Nat) (x3 : List YNode.den) (x28 : Int) (x29 : Int) : L_law_DocCheckSays_0 n (m1 + 1) x3 x28 x29 =
  (bcond (decide ((x29 : Int) < x28))
   (if 0 ≤ (x29 : Int) ∧ (x29 : Int) < (List.length x3 : Int) then
    (if 0 ≤ (x29 : Int) ∧ (x29 : Int) < (List.length x3 : Int) then
     ((C_doc_CheckNode F_doc_CheckNode (at_ (e := YNode) x3 x29)).bind fun r1 =>
      ((C_R_NodeError F_R_NodeError (at_ (e := YNode) x3 x29)).bind fun r2 =>
       (bcond (((res_doc_CheckNode_0 r1) : Int) != (res_R_NodeError_0 r2))
        (some (ret_law_DocCheckSays false))
        (L_law_DocCheckSays_0 n m1 x3 x28 (IntKind.i64.wrap (x29 + 1))))))
    else none)
   else none)
   (some (ret_law_DocCheckSays true))) := by kernel_rfl
theorem ok_law_DocCheckSays : fnOk os_law_DocCheckSays sig_law_DocCheckSays Tryd.f8 = true := by kernel_rfl
theorem fn_law_DocCheckSays : P.funcs[8]? = some Tryd.f8 := by kernel_rfl
noncomputable def F_law_DocCheckSays : sig_law_DocCheckSays.Fn := fun x y => run T (env_law_DocCheckSays) os_law_DocCheckSays sig_law_DocCheckSays Tryd.f8 hs_law_DocCheckSays big x y
theorem S_law_DocCheckSays : Sound P 8 ⟨sig_law_DocCheckSays, F_law_DocCheckSays⟩ := sound_of (os := os_law_DocCheckSays) (hs := hs_law_DocCheckSays) (env_cons S_law_docs (env_cons S_doc_Permitted (env_cons S_R_Permitted (env_cons S_doc_Check (env_cons S_R_DocError (env_cons S_doc_CheckNode (env_cons S_R_NodeError (env_nil)))))))) fn_law_DocCheckSays ok_law_DocCheckSays (fun x y out h => ⟨big, h⟩)
theorem e_law_DocCheckSays (a0 : List YNode.den) (a1 : Int) (a2 : Int) : C_law_DocCheckSays F_law_DocCheckSays a0 a1 a2 =
  ((C_law_docs F_law_docs ).bind fun r1 =>
   (bcond ((!(res_law_docs_0 r1)) == false)
    ((C_doc_Permitted F_doc_Permitted a1 a2).bind fun r2 =>
     ((C_R_Permitted F_R_Permitted a1 a2).bind fun r3 =>
      (bcond ((((res_doc_Permitted_0 r2) : Bool) != (res_R_Permitted_0 r3)) == false)
       ((C_doc_Check F_doc_Check a0).bind fun r4 =>
        ((C_R_DocError F_R_DocError a0).bind fun r5 =>
         (bcond (((res_doc_Check_0 r4) : Int) != (res_R_DocError_0 r5))
          (some (ret_law_DocCheckSays false))
          (L_law_DocCheckSays_0 big big a0 (List.length a0 : Int) 0))))
       (some (ret_law_DocCheckSays false)))))
    (some (ret_law_DocCheckSays false)))) := by kernel_rfl
end Go.Ev
