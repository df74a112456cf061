/- Functions, step by step. -/
import Derived.Test.YteojfhgljknmiaaDoorGGridS
namespace Go.Ev
set_option linter.unusedVariables false
set_option maxRecDepth 100000
open Go.Proofs
def sig_R_SameOps : Sig := ⟨[.v false (.list YDrawOp), .v false (.list YDrawOp)], [], [(false, [.fr .bool])]⟩
def C_R_SameOps (F : sig_R_SameOps.Fn) (a0 : List YDrawOp.den) (a1 : List YDrawOp.den) : Option sig_R_SameOps.Out := F (a0, a1, ()) ()
def ret_R_SameOps (v0 : Bool) : sig_R_SameOps.Out := (((v0, ()), ()), ())
def res_R_SameOps_0 (r : sig_R_SameOps.Out) : Bool := r.1.1.1
@[simp] theorem res_R_SameOps_0_ret (v0 : Bool) : res_R_SameOps_0 (ret_R_SameOps v0) = v0 := rfl
def os_R_SameOps : RegT := ⟨[(6, .st 0 (.st 1 (.st 2 (.st 4 (.st 5 (.st 6 (.st 3 (.st 7 (.st 8 (.nil))))))))))], [], false⟩
def hs_R_SameOps : List Keep := [[(0, []), (1, []), (12, []), (13, [])]]
@[reducible] noncomputable def env_R_SameOps : Env := []
noncomputable def L_R_SameOps_0 (n m1 : Nat) (x0 : List YDrawOp.den) (x1 : List YDrawOp.den) (x12 : Int) (x13 : Int) : Option sig_R_SameOps.Out :=
  loopAt T (env_R_SameOps) os_R_SameOps sig_R_SameOps Tryd.f65 hs_R_SameOps n [.sr, .sr, .sl, .sr, .bl] m1 (mk 26 [(0, .cs false [.val (.list YDrawOp) x0]), (1, .cs false [.val (.list YDrawOp) x1]), (12, .cs false [.val (.int .i64) x12]), (13, .cs false [.val (.int .i64) x13])])
theorem L_R_SameOps_0_step (n m1 : Nat) (x0 : List YDrawOp.den) (x1 : List YDrawOp.den) (x12 : Int) (x13 : Int) : L_R_SameOps_0 n (m1 + 1) x0 x1 x12 x13 =
  (bcond (decide ((x13 : Int) < x12))
   (if 0 ≤ (x13 : Int) ∧ (x13 : Int) < (List.length x0 : Int) then
    (if 0 ≤ (x13 : Int) ∧ (x13 : Int) < (List.length x1 : Int) then
     (bcond (!((((at_ (e := YDrawOp) x0 x13).1 : Int) == (at_ (e := YDrawOp) x1 x13).1) && ((((at_ (e := YDrawOp) x0 x13).2.1 : Int) == (at_ (e := YDrawOp) x1 x13).2.1) && ((((at_ (e := YDrawOp) x0 x13).2.2.1 : Int) == (at_ (e := YDrawOp) x1 x13).2.2.1) && ((((at_ (e := YDrawOp) x0 x13).2.2.2.1 : Int) == (at_ (e := YDrawOp) x1 x13).2.2.2.1) && ((((at_ (e := YDrawOp) x0 x13).2.2.2.2.1 : Int) == (at_ (e := YDrawOp) x1 x13).2.2.2.2.1) && ((((at_ (e := YDrawOp) x0 x13).2.2.2.2.2.1 : List UInt8) == (at_ (e := YDrawOp) x1 x13).2.2.2.2.2.1) && ((((at_ (e := YDrawOp) x0 x13).2.2.2.2.2.2.1 : List UInt8) == (at_ (e := YDrawOp) x1 x13).2.2.2.2.2.2.1) && ((((at_ (e := YDrawOp) x0 x13).2.2.2.2.2.2.2 : List UInt8) == (at_ (e := YDrawOp) x1 x13).2.2.2.2.2.2.2) && true)))))))))
      (some (ret_R_SameOps false))
      (L_R_SameOps_0 n m1 x0 x1 x12 (IntKind.i64.wrap (x13 + 1))))
    else none)
   else none)
   (some (ret_R_SameOps true))) := by kernel_rfl
theorem ok_R_SameOps : fnOk os_R_SameOps sig_R_SameOps Tryd.f65 = true := by kernel_rfl
theorem fn_R_SameOps : P.funcs[65]? = some Tryd.f65 := by kernel_rfl
noncomputable def F_R_SameOps : sig_R_SameOps.Fn := fun x y => run T (env_R_SameOps) os_R_SameOps sig_R_SameOps Tryd.f65 hs_R_SameOps big x y
theorem S_R_SameOps : Sound P 65 ⟨sig_R_SameOps, F_R_SameOps⟩ := sound_of (os := os_R_SameOps) (hs := hs_R_SameOps) (env_nil) fn_R_SameOps ok_R_SameOps (fun x y out h => ⟨big, h⟩)
theorem e_R_SameOps (a0 : List YDrawOp.den) (a1 : List YDrawOp.den) : C_R_SameOps F_R_SameOps a0 a1 =
  (bcond (((List.length a0 : Int) : Int) != (List.length a1 : Int))
   (some (ret_R_SameOps false))
   (L_R_SameOps_0 big big a0 a1 (List.length a0 : Int) 0)) := by kernel_rfl
def sig_R_SameNode : Sig := ⟨[.v true YNode, .v true YNode], [], [(false, [.fr .bool])]⟩
def C_R_SameNode (F : sig_R_SameNode.Fn) (a0 : YNode.den) (a1 : YNode.den) : Option sig_R_SameNode.Out := F (a0, a1, ()) ()
def ret_R_SameNode (v0 : Bool) : sig_R_SameNode.Out := (((v0, ()), ()), ())
def res_R_SameNode_0 (r : sig_R_SameNode.Out) : Bool := r.1.1.1
@[simp] theorem res_R_SameNode_0_ret (v0 : Bool) : res_R_SameNode_0 (ret_R_SameNode v0) = v0 := rfl
def os_R_SameNode : RegT := ⟨[], [], false⟩
def hs_R_SameNode : List Keep := []
@[reducible] noncomputable def env_R_SameNode : Env := [(42, ⟨sig_R_SameAttrs, F_R_SameAttrs⟩), (12, ⟨sig_R_SameFlow, F_R_SameFlow⟩), (64, ⟨sig_R_SameGrid, F_R_SameGrid⟩), (65, ⟨sig_R_SameOps, F_R_SameOps⟩)]
theorem ok_R_SameNode : fnOk os_R_SameNode sig_R_SameNode Tryd.f33 = true := by kernel_rfl
theorem fn_R_SameNode : P.funcs[33]? = some Tryd.f33 := by kernel_rfl
noncomputable def F_R_SameNode : sig_R_SameNode.Fn := fun x y => run T (env_R_SameNode) os_R_SameNode sig_R_SameNode Tryd.f33 hs_R_SameNode big x y
theorem S_R_SameNode : Sound P 33 ⟨sig_R_SameNode, F_R_SameNode⟩ := sound_of (os := os_R_SameNode) (hs := hs_R_SameNode) (env_cons S_R_SameAttrs (env_cons S_R_SameFlow (env_cons S_R_SameGrid (env_cons S_R_SameOps (env_nil))))) fn_R_SameNode ok_R_SameNode (fun x y out h => ⟨big, h⟩)
theorem e_R_SameNode (a0 : YNode.den) (a1 : YNode.den) : C_R_SameNode F_R_SameNode a0 a1 =
  (bcond (((a0.1 : Int) == a1.1) == true)
   (bcond (((a0.2.1 : Int) == a1.2.1) == true)
    ((C_R_SameAttrs F_R_SameAttrs a0.2.2.1 a1.2.2.1).bind fun r1 =>
     (bcond ((res_R_SameAttrs_0 r1) == true)
      ((C_R_SameFlow F_R_SameFlow a0.2.2.2.1 a1.2.2.2.1).bind fun r2 =>
       (bcond ((res_R_SameFlow_0 r2) == true)
        ((C_R_SameGrid F_R_SameGrid a0.2.2.2.2.1 a1.2.2.2.2.1).bind fun r3 =>
         (bcond ((res_R_SameGrid_0 r3) == true)
          ((C_R_SameOps F_R_SameOps a0.2.2.2.2.2 a1.2.2.2.2.2).bind fun r4 =>
           (some (ret_R_SameNode (res_R_SameOps_0 r4))))
          (some (ret_R_SameNode false))))
        (some (ret_R_SameNode false))))
      (some (ret_R_SameNode false))))
    (some (ret_R_SameNode false)))
   (some (ret_R_SameNode false))) := by kernel_rfl
def sig_R_SameDoc : Sig := ⟨[.v true YDoc, .v true YDoc], [], [(false, [.fr .bool])]⟩
def C_R_SameDoc (F : sig_R_SameDoc.Fn) (a0 : List YNode.den) (a1 : List YNode.den) : Option sig_R_SameDoc.Out := F (a0, a1, ()) ()
def ret_R_SameDoc (v0 : Bool) : sig_R_SameDoc.Out := (((v0, ()), ()), ())
def res_R_SameDoc_0 (r : sig_R_SameDoc.Out) : Bool := r.1.1.1
@[simp] theorem res_R_SameDoc_0_ret (v0 : Bool) : res_R_SameDoc_0 (ret_R_SameDoc v0) = v0 := rfl
def os_R_SameDoc : RegT := ⟨[(6, .st 0 (.st 2 (.st 5 (.st 7 (.grp [1, 6, 3, 4, 8, 9] (.st 10 (.st 11 (.nil))))))))], [], false⟩
def hs_R_SameDoc : List Keep := [[(2, []), (3, []), (15, []), (16, [])]]
@[reducible] noncomputable def env_R_SameDoc : Env := [(33, ⟨sig_R_SameNode, F_R_SameNode⟩)]
noncomputable def L_R_SameDoc_0 (n m1 : Nat) (x2 : List YNode.den) (x3 : List YNode.den) (x15 : Int) (x16 : Int) : Option sig_R_SameDoc.Out :=
  loopAt T (env_R_SameDoc) os_R_SameDoc sig_R_SameDoc Tryd.f30 hs_R_SameDoc n [.sr, .sr, .sl, .sr, .bl] m1 (mk 32 [(2, .box [.val YDoc x2]), (3, .box [.val YDoc x3]), (15, .cs false [.val (.int .i64) x15]), (16, .cs false [.val (.int .i64) x16])])
theorem L_R_SameDoc_0_step (n m1 : Nat) (x2 : List YNode.den) (x3 : List YNode.den) (x15 : Int) (x16 : Int) : L_R_SameDoc_0 n (m1 + 1) x2 x3 x15 x16 =
  (bcond (decide ((x16 : Int) < x15))
   (if 0 ≤ (x16 : Int) ∧ (x16 : Int) < (List.length x2 : Int) then
    (if 0 ≤ (x16 : Int) ∧ (x16 : Int) < (List.length x3 : Int) then
     ((C_R_SameNode F_R_SameNode (at_ (e := YNode) x2 x16) (at_ (e := YNode) x3 x16)).bind fun r1 =>
      (bcond (!(res_R_SameNode_0 r1))
       (some (ret_R_SameDoc false))
       (L_R_SameDoc_0 n m1 x2 x3 x15 (IntKind.i64.wrap (x16 + 1)))))
    else none)
   else none)
   (some (ret_R_SameDoc true))) := by kernel_rfl
theorem ok_R_SameDoc : fnOk os_R_SameDoc sig_R_SameDoc Tryd.f30 = true := by kernel_rfl
theorem fn_R_SameDoc : P.funcs[30]? = some Tryd.f30 := by kernel_rfl
noncomputable def F_R_SameDoc : sig_R_SameDoc.Fn := fun x y => run T (env_R_SameDoc) os_R_SameDoc sig_R_SameDoc Tryd.f30 hs_R_SameDoc big x y
theorem S_R_SameDoc : Sound P 30 ⟨sig_R_SameDoc, F_R_SameDoc⟩ := sound_of (os := os_R_SameDoc) (hs := hs_R_SameDoc) (env_cons S_R_SameNode (env_nil)) fn_R_SameDoc ok_R_SameDoc (fun x y out h => ⟨big, h⟩)
theorem e_R_SameDoc (a0 : List YNode.den) (a1 : List YNode.den) : C_R_SameDoc F_R_SameDoc a0 a1 =
  (bcond (((List.length a0 : Int) : Int) != (List.length a1 : Int))
   (some (ret_R_SameDoc false))
   (L_R_SameDoc_0 big big a0 a1 (List.length a0 : Int) 0)) := by kernel_rfl
end Go.Ev
