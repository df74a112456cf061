/- Functions, step by step. -/
import Derived.Test.YteojfhgljknmiaaDoorGFlows
import Derived.Test.YteojfhgljknmiaaDoorGInts
namespace Go.Ev
set_option linter.unusedVariables false
set_option maxRecDepth 100000
open Go.Proofs
def sig_flow_Refs : Sig := ⟨[.v false (.list YElem)], [], [(false, [.ow 3 (.int .i64)])]⟩
def C_flow_Refs (F : sig_flow_Refs.Fn) (a0 : List YElem.den) : Option sig_flow_Refs.Out := F (a0, ()) ()
def ret_flow_Refs (v0 : List (Int)) : sig_flow_Refs.Out := (((v0, ()), ()), ())
def res_flow_Refs_0 (r : sig_flow_Refs.Out) : List (Int) := r.1.1.1
@[simp] theorem res_flow_Refs_0_ret (v0 : List (Int)) : res_flow_Refs_0 (ret_flow_Refs v0) = v0 := rfl
def os_flow_Refs : RegT := ⟨[], [], false⟩
def hs_flow_Refs : List Keep := [[(3, [(0, 3, (.int .i64))]), (6, []), (7, []), (8, [])]]
@[reducible] noncomputable def env_flow_Refs : Env := []
noncomputable def L_flow_Refs_0 (n m1 : Nat) (x3 : List (Int)) (x6 : List YElem.den) (x7 : Int) (x8 : Int) : Option sig_flow_Refs.Out :=
  loopAt T (env_flow_Refs) os_flow_Refs sig_flow_Refs Tryd.f21 hs_flow_Refs n [.sr, .sr, .sl, .sr, .bl] m1 (mk 22 [(3, .cs false [.own 3 (.int .i64) x3]), (6, .cs false [.val (.list YElem) x6]), (7, .cs false [.val (.int .i64) x7]), (8, .cs false [.val (.int .i64) x8])])
theorem L_flow_Refs_0_step (n m1 : Nat) (x3 : List (Int)) (x6 : List YElem.den) (x7 : Int) (x8 : Int) : L_flow_Refs_0 n (m1 + 1) x3 x6 x7 x8 =
  (bcond (decide ((x8 : Int) < x7))
   (if 0 ≤ (x8 : Int) ∧ (x8 : Int) < (List.length x6 : Int) then
    (bcond (((at_ (e := YElem) x6 x8).2.1 : Int) != 0)
     (if (List.length (x3 : List Int) + List.length ([(at_ (e := YElem) x6 x8).2.1] : List Int)) * 8 ≤ 140737488355328 then
      (L_flow_Refs_0 n m1 (x3 ++ [(at_ (e := YElem) x6 x8).2.1]) x6 x7 (IntKind.i64.wrap (x8 + 1)))
     else none)
     (L_flow_Refs_0 n m1 x3 x6 x7 (IntKind.i64.wrap (x8 + 1))))
   else none)
   (some (ret_flow_Refs x3))) := by kernel_rfl
theorem ok_flow_Refs : fnOk os_flow_Refs sig_flow_Refs Tryd.f21 = true := by kernel_rfl
theorem fn_flow_Refs : P.funcs[21]? = some Tryd.f21 := by kernel_rfl
noncomputable def F_flow_Refs : sig_flow_Refs.Fn := fun x y => run T (env_flow_Refs) os_flow_Refs sig_flow_Refs Tryd.f21 hs_flow_Refs big x y
theorem S_flow_Refs : Sound P 21 ⟨sig_flow_Refs, F_flow_Refs⟩ := sound_of (os := os_flow_Refs) (hs := hs_flow_Refs) (env_nil) fn_flow_Refs ok_flow_Refs (fun x y out h => ⟨big, h⟩)
theorem e_flow_Refs (a0 : List YElem.den) : C_flow_Refs F_flow_Refs a0 =
  (L_flow_Refs_0 big big [] a0 (List.length a0 : Int) 0) := by kernel_rfl
end Go.Ev
