/- Functions, step by step. -/
import Derived.Test.YteojfhgljknmiaaDoorGGridS
namespace Go.Ev
set_option linter.unusedVariables false
set_option maxRecDepth 100000
open Go.Proofs
def sig_slices_Equal_DrawOp : Sig := ⟨[.v false (.list YDrawOp), .v false (.list YDrawOp)], [], [(false, [.fr .bool])]⟩
def C_slices_Equal_DrawOp (F : sig_slices_Equal_DrawOp.Fn) (a0 : List YDrawOp.den) (a1 : List YDrawOp.den) : Option sig_slices_Equal_DrawOp.Out := F (a0, a1, ()) ()
def ret_slices_Equal_DrawOp (v0 : Bool) : sig_slices_Equal_DrawOp.Out := (((v0, ()), ()), ())
def res_slices_Equal_DrawOp_0 (r : sig_slices_Equal_DrawOp.Out) : Bool := r.1.1.1
@[simp] theorem res_slices_Equal_DrawOp_0_ret (v0 : Bool) : res_slices_Equal_DrawOp_0 (ret_slices_Equal_DrawOp v0) = v0 := rfl
def os_slices_Equal_DrawOp : RegT := ⟨[(6, .st 0 (.st 1 (.st 2 (.st 4 (.st 5 (.st 6 (.st 3 (.st 7 (.st 8 (.nil))))))))))], [], false⟩
def hs_slices_Equal_DrawOp : List Keep := [[(0, []), (1, []), (12, []), (13, [])]]
@[reducible] noncomputable def env_slices_Equal_DrawOp : Env := []
noncomputable def L_slices_Equal_DrawOp_0 (n m1 : Nat) (x0 : List YDrawOp.den) (x1 : List YDrawOp.den) (x12 : Int) (x13 : Int) : Option sig_slices_Equal_DrawOp.Out :=
  loopAt T (env_slices_Equal_DrawOp) os_slices_Equal_DrawOp sig_slices_Equal_DrawOp Tryd.f93 hs_slices_Equal_DrawOp n [.sr, .sr, .sl, .sr, .bl] m1 (mk 26 [(0, .cs false [.val (.list YDrawOp) x0]), (1, .cs false [.val (.list YDrawOp) x1]), (12, .cs false [.val (.int .i64) x12]), (13, .cs false [.val (.int .i64) x13])])
theorem L_slices_Equal_DrawOp_0_step (n m1 : Nat) (x0 : List YDrawOp.den) (x1 : List YDrawOp.den) (x12 : Int) (x13 : Int) : L_slices_Equal_DrawOp_0 n (m1 + 1) x0 x1 x12 x13 =
  (bcond (decide ((x13 : Int) < x12))
   (if 0 ≤ (x13 : Int) ∧ (x13 : Int) < (List.length x0 : Int) then
    (if 0 ≤ (x13 : Int) ∧ (x13 : Int) < (List.length x1 : Int) then
     (bcond (!((((at_ (e := YDrawOp) x0 x13).1 : Int) == (at_ (e := YDrawOp) x1 x13).1) && ((((at_ (e := YDrawOp) x0 x13).2.1 : Int) == (at_ (e := YDrawOp) x1 x13).2.1) && ((((at_ (e := YDrawOp) x0 x13).2.2.1 : Int) == (at_ (e := YDrawOp) x1 x13).2.2.1) && ((((at_ (e := YDrawOp) x0 x13).2.2.2.1 : Int) == (at_ (e := YDrawOp) x1 x13).2.2.2.1) && ((((at_ (e := YDrawOp) x0 x13).2.2.2.2.1 : Int) == (at_ (e := YDrawOp) x1 x13).2.2.2.2.1) && ((((at_ (e := YDrawOp) x0 x13).2.2.2.2.2.1 : List UInt8) == (at_ (e := YDrawOp) x1 x13).2.2.2.2.2.1) && ((((at_ (e := YDrawOp) x0 x13).2.2.2.2.2.2.1 : List UInt8) == (at_ (e := YDrawOp) x1 x13).2.2.2.2.2.2.1) && ((((at_ (e := YDrawOp) x0 x13).2.2.2.2.2.2.2 : List UInt8) == (at_ (e := YDrawOp) x1 x13).2.2.2.2.2.2.2) && true)))))))))
      (some (ret_slices_Equal_DrawOp false))
      (L_slices_Equal_DrawOp_0 n m1 x0 x1 x12 (IntKind.i64.wrap (x13 + 1))))
    else none)
   else none)
   (some (ret_slices_Equal_DrawOp true))) := by kernel_rfl
theorem ok_slices_Equal_DrawOp : fnOk os_slices_Equal_DrawOp sig_slices_Equal_DrawOp Tryd.f93 = true := by kernel_rfl
theorem fn_slices_Equal_DrawOp : P.funcs[93]? = some Tryd.f93 := by kernel_rfl
noncomputable def F_slices_Equal_DrawOp : sig_slices_Equal_DrawOp.Fn := fun x y => run T (env_slices_Equal_DrawOp) os_slices_Equal_DrawOp sig_slices_Equal_DrawOp Tryd.f93 hs_slices_Equal_DrawOp big x y
theorem S_slices_Equal_DrawOp : Sound P 93 ⟨sig_slices_Equal_DrawOp, F_slices_Equal_DrawOp⟩ := sound_of (os := os_slices_Equal_DrawOp) (hs := hs_slices_Equal_DrawOp) (env_nil) fn_slices_Equal_DrawOp ok_slices_Equal_DrawOp (fun x y out h => ⟨big, h⟩)
theorem e_slices_Equal_DrawOp (a0 : List YDrawOp.den) (a1 : List YDrawOp.den) : C_slices_Equal_DrawOp F_slices_Equal_DrawOp a0 a1 =
  (bcond (((List.length a0 : Int) : Int) != (List.length a1 : Int))
   (some (ret_slices_Equal_DrawOp false))
   (L_slices_Equal_DrawOp_0 big big a0 a1 (List.length a0 : Int) 0)) := by kernel_rfl
def sig_doc_SameNode : Sig := ⟨[.v true YNode, .v true YNode], [], [(false, [.fr .bool])]⟩
def C_doc_SameNode (F : sig_doc_SameNode.Fn) (a0 : YNode.den) (a1 : YNode.den) : Option sig_doc_SameNode.Out := F (a0, a1, ()) ()
def ret_doc_SameNode (v0 : Bool) : sig_doc_SameNode.Out := (((v0, ()), ()), ())
def res_doc_SameNode_0 (r : sig_doc_SameNode.Out) : Bool := r.1.1.1
@[simp] theorem res_doc_SameNode_0_ret (v0 : Bool) : res_doc_SameNode_0 (ret_doc_SameNode v0) = v0 := rfl
def os_doc_SameNode : RegT := ⟨[], [], false⟩
def hs_doc_SameNode : List Keep := []
@[reducible] noncomputable def env_doc_SameNode : Env := [(50, ⟨sig_attr_Same, F_attr_Same⟩), (19, ⟨sig_flow_Same, F_flow_Same⟩), (75, ⟨sig_grid_Same, F_grid_Same⟩), (93, ⟨sig_slices_Equal_DrawOp, F_slices_Equal_DrawOp⟩)]
theorem ok_doc_SameNode : fnOk os_doc_SameNode sig_doc_SameNode Tryd.f62 = true := by kernel_rfl
theorem fn_doc_SameNode : P.funcs[62]? = some Tryd.f62 := by kernel_rfl
noncomputable def F_doc_SameNode : sig_doc_SameNode.Fn := fun x y => run T (env_doc_SameNode) os_doc_SameNode sig_doc_SameNode Tryd.f62 hs_doc_SameNode big x y
theorem S_doc_SameNode : Sound P 62 ⟨sig_doc_SameNode, F_doc_SameNode⟩ := sound_of (os := os_doc_SameNode) (hs := hs_doc_SameNode) (env_cons S_attr_Same (env_cons S_flow_Same (env_cons S_grid_Same (env_cons S_slices_Equal_DrawOp (env_nil))))) fn_doc_SameNode ok_doc_SameNode (fun x y out h => ⟨big, h⟩)
theorem e_doc_SameNode (a0 : YNode.den) (a1 : YNode.den) : C_doc_SameNode F_doc_SameNode a0 a1 =
  (bcond (((a0.1 : Int) == a1.1) == true)
   (bcond (((a0.2.1 : Int) == a1.2.1) == true)
    ((C_attr_Same F_attr_Same a0.2.2.1 a1.2.2.1).bind fun r1 =>
     (bcond ((res_attr_Same_0 r1) == true)
      ((C_flow_Same F_flow_Same a0.2.2.2.1 a1.2.2.2.1).bind fun r2 =>
       (bcond ((res_flow_Same_0 r2) == true)
        ((C_grid_Same F_grid_Same a0.2.2.2.2.1 a1.2.2.2.2.1).bind fun r3 =>
         (bcond ((res_grid_Same_0 r3) == true)
          ((C_slices_Equal_DrawOp F_slices_Equal_DrawOp a0.2.2.2.2.2 a1.2.2.2.2.2).bind fun r4 =>
           (some (ret_doc_SameNode (res_slices_Equal_DrawOp_0 r4))))
          (some (ret_doc_SameNode false))))
        (some (ret_doc_SameNode false))))
      (some (ret_doc_SameNode false))))
    (some (ret_doc_SameNode false)))
   (some (ret_doc_SameNode false))) := by kernel_rfl
def sig_slices_EqualFunc_Node_doc_SameNode : Sig := ⟨[.v false YDoc, .v false YDoc, .f 62 []], [], [(false, [.fr .bool])]⟩
def C_slices_EqualFunc_Node_doc_SameNode (F : sig_slices_EqualFunc_Node_doc_SameNode.Fn) (a0 : List YNode.den) (a1 : List YNode.den) : Option sig_slices_EqualFunc_Node_doc_SameNode.Out := F (a0, a1, ()) ()
def ret_slices_EqualFunc_Node_doc_SameNode (v0 : Bool) : sig_slices_EqualFunc_Node_doc_SameNode.Out := (((v0, ()), ()), ())
def res_slices_EqualFunc_Node_doc_SameNode_0 (r : sig_slices_EqualFunc_Node_doc_SameNode.Out) : Bool := r.1.1.1
@[simp] theorem res_slices_EqualFunc_Node_doc_SameNode_0_ret (v0 : Bool) : res_slices_EqualFunc_Node_doc_SameNode_0 (ret_slices_EqualFunc_Node_doc_SameNode v0) = v0 := rfl
def os_slices_EqualFunc_Node_doc_SameNode : RegT := ⟨[], [], false⟩
def hs_slices_EqualFunc_Node_doc_SameNode : List Keep := [[(1, []), (2, []), (15, []), (16, []), (17, [])]]
@[reducible] noncomputable def env_slices_EqualFunc_Node_doc_SameNode : Env := [(62, ⟨sig_doc_SameNode, F_doc_SameNode⟩)]
noncomputable def L_slices_EqualFunc_Node_doc_SameNode_0 (n m1 : Nat) (x1 : List YNode.den) (x15 : List YNode.den) (x16 : Int) (x17 : Int) : Option sig_slices_EqualFunc_Node_doc_SameNode.Out :=
  loopAt T (env_slices_EqualFunc_Node_doc_SameNode) os_slices_EqualFunc_Node_doc_SameNode sig_slices_EqualFunc_Node_doc_SameNode Tryd.f61 hs_slices_EqualFunc_Node_doc_SameNode n [.sr, .sr, .sl, .sr, .bl] m1 (mk 32 [(1, .cs false [.val YDoc x1]), (2, .cs false [.clo 62 []]), (15, .cs false [.val YDoc x15]), (16, .cs false [.val (.int .i64) x16]), (17, .cs false [.val (.int .i64) x17])])
theorem L_slices_EqualFunc_Node_doc_SameNode_0_step (n m1 : Nat) (x1 : List YNode.den) (x15 : List YNode.den) (x16 : Int) (x17 : Int) : L_slices_EqualFunc_Node_doc_SameNode_0 n (m1 + 1) x1 x15 x16 x17 =
  (bcond (decide ((x17 : Int) < x16))
   (if 0 ≤ (x17 : Int) ∧ (x17 : Int) < (List.length x15 : Int) then
    (if 0 ≤ (x17 : Int) ∧ (x17 : Int) < (List.length x1 : Int) then
     ((C_doc_SameNode F_doc_SameNode (at_ (e := YNode) x15 x17) (at_ (e := YNode) x1 x17)).bind fun r1 =>
      (bcond (!(res_doc_SameNode_0 r1))
       (some (ret_slices_EqualFunc_Node_doc_SameNode false))
       (L_slices_EqualFunc_Node_doc_SameNode_0 n m1 x1 x15 x16 (IntKind.i64.wrap (x17 + 1)))))
    else none)
   else none)
   (some (ret_slices_EqualFunc_Node_doc_SameNode true))) := by kernel_rfl
theorem ok_slices_EqualFunc_Node_doc_SameNode : fnOk os_slices_EqualFunc_Node_doc_SameNode sig_slices_EqualFunc_Node_doc_SameNode Tryd.f61 = true := by kernel_rfl
theorem fn_slices_EqualFunc_Node_doc_SameNode : P.funcs[61]? = some Tryd.f61 := by kernel_rfl
noncomputable def F_slices_EqualFunc_Node_doc_SameNode : sig_slices_EqualFunc_Node_doc_SameNode.Fn := fun x y => run T (env_slices_EqualFunc_Node_doc_SameNode) os_slices_EqualFunc_Node_doc_SameNode sig_slices_EqualFunc_Node_doc_SameNode Tryd.f61 hs_slices_EqualFunc_Node_doc_SameNode big x y
theorem S_slices_EqualFunc_Node_doc_SameNode : Sound P 61 ⟨sig_slices_EqualFunc_Node_doc_SameNode, F_slices_EqualFunc_Node_doc_SameNode⟩ := sound_of (os := os_slices_EqualFunc_Node_doc_SameNode) (hs := hs_slices_EqualFunc_Node_doc_SameNode) (env_cons S_doc_SameNode (env_nil)) fn_slices_EqualFunc_Node_doc_SameNode ok_slices_EqualFunc_Node_doc_SameNode (fun x y out h => ⟨big, h⟩)
theorem e_slices_EqualFunc_Node_doc_SameNode (a0 : List YNode.den) (a1 : List YNode.den) : C_slices_EqualFunc_Node_doc_SameNode F_slices_EqualFunc_Node_doc_SameNode a0 a1 =
  (bcond (((List.length a0 : Int) : Int) != (List.length a1 : Int))
   (some (ret_slices_EqualFunc_Node_doc_SameNode false))
   (L_slices_EqualFunc_Node_doc_SameNode_0 big big a1 a0 (List.length a0 : Int) 0)) := by kernel_rfl
def sig_doc_Same : Sig := ⟨[.v true YDoc, .v true YDoc], [], [(false, [.fr .bool])]⟩
def C_doc_Same (F : sig_doc_Same.Fn) (a0 : List YNode.den) (a1 : List YNode.den) : Option sig_doc_Same.Out := F (a0, a1, ()) ()
def ret_doc_Same (v0 : Bool) : sig_doc_Same.Out := (((v0, ()), ()), ())
def res_doc_Same_0 (r : sig_doc_Same.Out) : Bool := r.1.1.1
@[simp] theorem res_doc_Same_0_ret (v0 : Bool) : res_doc_Same_0 (ret_doc_Same v0) = v0 := rfl
def os_doc_Same : RegT := ⟨[], [], false⟩
def hs_doc_Same : List Keep := []
@[reducible] noncomputable def env_doc_Same : Env := [(61, ⟨sig_slices_EqualFunc_Node_doc_SameNode, F_slices_EqualFunc_Node_doc_SameNode⟩)]
theorem ok_doc_Same : fnOk os_doc_Same sig_doc_Same Tryd.f29 = true := by kernel_rfl
theorem fn_doc_Same : P.funcs[29]? = some Tryd.f29 := by kernel_rfl
noncomputable def F_doc_Same : sig_doc_Same.Fn := fun x y => run T (env_doc_Same) os_doc_Same sig_doc_Same Tryd.f29 hs_doc_Same big x y
theorem S_doc_Same : Sound P 29 ⟨sig_doc_Same, F_doc_Same⟩ := sound_of (os := os_doc_Same) (hs := hs_doc_Same) (env_cons S_slices_EqualFunc_Node_doc_SameNode (env_nil)) fn_doc_Same ok_doc_Same (fun x y out h => ⟨big, h⟩)
theorem e_doc_Same (a0 : List YNode.den) (a1 : List YNode.den) : C_doc_Same F_doc_Same a0 a1 =
  ((C_slices_EqualFunc_Node_doc_SameNode F_slices_EqualFunc_Node_doc_SameNode a0 a1).bind fun r1 =>
   (some (ret_doc_Same (res_slices_EqualFunc_Node_doc_SameNode_0 r1)))) := by kernel_rfl
def sig_R_SameOps : Sig := ⟨[.v false (.list YDrawOp), .v false (.list YDrawOp)], [], [(false, [.fr .bool])]⟩
def C_R_SameOps (F : sig_R_SameOps.Fn) (a0 : List YDrawOp.den) (a1 : List YDrawOp.den) : Option sig_R_SameOps.Out := F (a0, a1, ()) ()
def ret_R_SameOps (v0 : Bool) : sig_R_SameOps.Out := (((v0, ()), ()), ())
def res_R_SameOps_0 (r : sig_R_SameOps.Out) : Bool := r.1.1.1
@[simp] theorem res_R_SameOps_0_ret (v0 : Bool) : res_R_SameOps_0 (ret_R_SameOps v0) = v0 := rfl
def os_R_SameOps : RegT := ⟨[(6, .st 0 (.st 1 (.st 2 (.st 4 (.st 5 (.st 6 (.st 3 (.st 7 (.st 8 (.nil))))))))))], [], false⟩
def hs_R_SameOps : List Keep := [[(0, []), (1, []), (12, []), (13, [])]]
@[reducible] noncomputable def env_R_SameOps : Env := []
noncomputable def L_R_SameOps_0 (n m1 : Nat) (x0 : List YDrawOp.den) (x1 : List YDrawOp.den) (x12 : Int) (x13 : Int) : Option sig_R_SameOps.Out :=
  loopAt T (env_R_SameOps) os_R_SameOps sig_R_SameOps Tryd.f65 hs_R_SameOps n [.sr, .sr, .sl, .sr, .bl] m1 (mk 26 [(0, .cs false [.val (.list YDrawOp) x0]), (1, .cs false [.val (.list YDrawOp) x1]), (12, .cs false [.val (.int .i64) x12]), (13, .cs false [.val (.int .i64) x13])])
theorem L_R_SameOps_0_step (n m1 : Nat) (x0 : List YDrawOp.den) (x1 : List YDrawOp.den) (x12 : Int) (x13 : Int) : L_R_SameOps_0 n (m1 + 1) x0 x1 x12 x13 =
  (bcond (decide ((x13 : Int) < x12))
   (if 0 ≤ (x13 : Int) ∧ (x13 : Int) < (List.length x0 : Int) then
    (if 0 ≤ (x13 : Int) ∧ (x13 : Int) < (List.length x1 : Int) then
     (bcond (!((((at_ (e := YDrawOp) x0 x13).1 : Int) == (at_ (e := YDrawOp) x1 x13).1) && ((((at_ (e := YDrawOp) x0 x13).2.1 : Int) == (at_ (e := YDrawOp) x1 x13).2.1) && ((((at_ (e := YDrawOp) x0 x13).2.2.1 : Int) == (at_ (e := YDrawOp) x1 x13).2.2.1) && ((((at_ (e := YDrawOp) x0 x13).2.2.2.1 : Int) == (at_ (e := YDrawOp) x1 x13).2.2.2.1) && ((((at_ (e := YDrawOp) x0 x13).2.2.2.2.1 : Int) == (at_ (e := YDrawOp) x1 x13).2.2.2.2.1) && ((((at_ (e := YDrawOp) x0 x13).2.2.2.2.2.1 : List UInt8) == (at_ (e := YDrawOp) x1 x13).2.2.2.2.2.1) && ((((at_ (e := YDrawOp) x0 x13).2.2.2.2.2.2.1 : List UInt8) == (at_ (e := YDrawOp) x1 x13).2.2.2.2.2.2.1) && ((((at_ (e := YDrawOp) x0 x13).2.2.2.2.2.2.2 : List UInt8) == (at_ (e := YDrawOp) x1 x13).2.2.2.2.2.2.2) && true)))))))))
      (some (ret_R_SameOps false))
      (L_R_SameOps_0 n m1 x0 x1 x12 (IntKind.i64.wrap (x13 + 1))))
    else none)
   else none)
   (some (ret_R_SameOps true))) := by kernel_rfl
theorem ok_R_SameOps : fnOk os_R_SameOps sig_R_SameOps Tryd.f65 = true := by kernel_rfl
theorem fn_R_SameOps : P.funcs[65]? = some Tryd.f65 := by kernel_rfl
noncomputable def F_R_SameOps : sig_R_SameOps.Fn := fun x y => run T (env_R_SameOps) os_R_SameOps sig_R_SameOps Tryd.f65 hs_R_SameOps big x y
theorem S_R_SameOps : Sound P 65 ⟨sig_R_SameOps, F_R_SameOps⟩ := sound_of (os := os_R_SameOps) (hs := hs_R_SameOps) (env_nil) fn_R_SameOps ok_R_SameOps (fun x y out h => ⟨big, h⟩)
theorem e_R_SameOps (a0 : List YDrawOp.den) (a1 : List YDrawOp.den) : C_R_SameOps F_R_SameOps a0 a1 =
  (bcond (((List.length a0 : Int) : Int) != (List.length a1 : Int))
   (some (ret_R_SameOps false))
   (L_R_SameOps_0 big big a0 a1 (List.length a0 : Int) 0)) := by kernel_rfl
def sig_R_SameNode : Sig := ⟨[.v true YNode, .v true YNode], [], [(false, [.fr .bool])]⟩
def C_R_SameNode (F : sig_R_SameNode.Fn) (a0 : YNode.den) (a1 : YNode.den) : Option sig_R_SameNode.Out := F (a0, a1, ()) ()
def ret_R_SameNode (v0 : Bool) : sig_R_SameNode.Out := (((v0, ()), ()), ())
def res_R_SameNode_0 (r : sig_R_SameNode.Out) : Bool := r.1.1.1
@[simp] theorem res_R_SameNode_0_ret (v0 : Bool) : res_R_SameNode_0 (ret_R_SameNode v0) = v0 := rfl
def os_R_SameNode : RegT := ⟨[], [], false⟩
def hs_R_SameNode : List Keep := []
@[reducible] noncomputable def env_R_SameNode : Env := [(42, ⟨sig_R_SameAttrs, F_R_SameAttrs⟩), (12, ⟨sig_R_SameFlow, F_R_SameFlow⟩), (64, ⟨sig_R_SameGrid, F_R_SameGrid⟩), (65, ⟨sig_R_SameOps, F_R_SameOps⟩)]
theorem ok_R_SameNode : fnOk os_R_SameNode sig_R_SameNode Tryd.f33 = true := by kernel_rfl
theorem fn_R_SameNode : P.funcs[33]? = some Tryd.f33 := by kernel_rfl
noncomputable def F_R_SameNode : sig_R_SameNode.Fn := fun x y => run T (env_R_SameNode) os_R_SameNode sig_R_SameNode Tryd.f33 hs_R_SameNode big x y
theorem S_R_SameNode : Sound P 33 ⟨sig_R_SameNode, F_R_SameNode⟩ := sound_of (os := os_R_SameNode) (hs := hs_R_SameNode) (env_cons S_R_SameAttrs (env_cons S_R_SameFlow (env_cons S_R_SameGrid (env_cons S_R_SameOps (env_nil))))) fn_R_SameNode ok_R_SameNode (fun x y out h => ⟨big, h⟩)
theorem e_R_SameNode (a0 : YNode.den) (a1 : YNode.den) : C_R_SameNode F_R_SameNode a0 a1 =
  (bcond (((a0.1 : Int) == a1.1) == true)
   (bcond (((a0.2.1 : Int) == a1.2.1) == true)
    ((C_R_SameAttrs F_R_SameAttrs a0.2.2.1 a1.2.2.1).bind fun r1 =>
     (bcond ((res_R_SameAttrs_0 r1) == true)
      ((C_R_SameFlow F_R_SameFlow a0.2.2.2.1 a1.2.2.2.1).bind fun r2 =>
       (bcond ((res_R_SameFlow_0 r2) == true)
        ((C_R_SameGrid F_R_SameGrid a0.2.2.2.2.1 a1.2.2.2.2.1).bind fun r3 =>
         (bcond ((res_R_SameGrid_0 r3) == true)
          ((C_R_SameOps F_R_SameOps a0.2.2.2.2.2 a1.2.2.2.2.2).bind fun r4 =>
           (some (ret_R_SameNode (res_R_SameOps_0 r4))))
          (some (ret_R_SameNode false))))
        (some (ret_R_SameNode false))))
      (some (ret_R_SameNode false))))
    (some (ret_R_SameNode false)))
   (some (ret_R_SameNode false))) := by kernel_rfl
def sig_R_SameDoc : Sig := ⟨[.v true YDoc, .v true YDoc], [], [(false, [.fr .bool])]⟩
def C_R_SameDoc (F : sig_R_SameDoc.Fn) (a0 : List YNode.den) (a1 : List YNode.den) : Option sig_R_SameDoc.Out := F (a0, a1, ()) ()
def ret_R_SameDoc (v0 : Bool) : sig_R_SameDoc.Out := (((v0, ()), ()), ())
def res_R_SameDoc_0 (r : sig_R_SameDoc.Out) : Bool := r.1.1.1
@[simp] theorem res_R_SameDoc_0_ret (v0 : Bool) : res_R_SameDoc_0 (ret_R_SameDoc v0) = v0 := rfl
def os_R_SameDoc : RegT := ⟨[(6, .st 0 (.st 2 (.st 5 (.st 7 (.grp [1, 6, 3, 4, 8, 9] (.st 10 (.st 11 (.nil))))))))], [], false⟩
def hs_R_SameDoc : List Keep := [[(2, []), (3, []), (15, []), (16, [])]]
@[reducible] noncomputable def env_R_SameDoc : Env := [(33, ⟨sig_R_SameNode, F_R_SameNode⟩)]
noncomputable def L_R_SameDoc_0 (n m1 : Nat) (x2 : List YNode.den) (x3 : List YNode.den) (x15 : Int) (x16 : Int) : Option sig_R_SameDoc.Out :=
  loopAt T (env_R_SameDoc) os_R_SameDoc sig_R_SameDoc Tryd.f30 hs_R_SameDoc n [.sr, .sr, .sl, .sr, .bl] m1 (mk 32 [(2, .box [.val YDoc x2]), (3, .box [.val YDoc x3]), (15, .cs false [.val (.int .i64) x15]), (16, .cs false [.val (.int .i64) x16])])
theorem L_R_SameDoc_0_step (n m1 : Nat) (x2 : List YNode.den) (x3 : List YNode.den) (x15 : Int) (x16 : Int) : L_R_SameDoc_0 n (m1 + 1) x2 x3 x15 x16 =
  (bcond (decide ((x16 : Int) < x15))
   (if 0 ≤ (x16 : Int) ∧ (x16 : Int) < (List.length x2 : Int) then
    (if 0 ≤ (x16 : Int) ∧ (x16 : Int) < (List.length x3 : Int) then
     ((C_R_SameNode F_R_SameNode (at_ (e := YNode) x2 x16) (at_ (e := YNode) x3 x16)).bind fun r1 =>
      (bcond (!(res_R_SameNode_0 r1))
       (some (ret_R_SameDoc false))
       (L_R_SameDoc_0 n m1 x2 x3 x15 (IntKind.i64.wrap (x16 + 1)))))
    else none)
   else none)
   (some (ret_R_SameDoc true))) := by kernel_rfl
theorem ok_R_SameDoc : fnOk os_R_SameDoc sig_R_SameDoc Tryd.f30 = true := by kernel_rfl
theorem fn_R_SameDoc : P.funcs[30]? = some Tryd.f30 := by kernel_rfl
noncomputable def F_R_SameDoc : sig_R_SameDoc.Fn := fun x y => run T (env_R_SameDoc) os_R_SameDoc sig_R_SameDoc Tryd.f30 hs_R_SameDoc big x y
theorem S_R_SameDoc : Sound P 30 ⟨sig_R_SameDoc, F_R_SameDoc⟩ := sound_of (os := os_R_SameDoc) (hs := hs_R_SameDoc) (env_cons S_R_SameNode (env_nil)) fn_R_SameDoc ok_R_SameDoc (fun x y out h => ⟨big, h⟩)
theorem e_R_SameDoc (a0 : List YNode.den) (a1 : List YNode.den) : C_R_SameDoc F_R_SameDoc a0 a1 =
  (bcond (((List.length a0 : Int) : Int) != (List.length a1 : Int))
   (some (ret_R_SameDoc false))
   (L_R_SameDoc_0 big big a0 a1 (List.length a0 : Int) 0)) := by kernel_rfl
end Go.Ev
