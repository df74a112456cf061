/- Functions, step by step. -/
import Derived.Test.YteojfhgljknmiaaDoorGDocK
namespace Go.Ev
set_option linter.unusedVariables false
set_option maxRecDepth 100000
open Go.Proofs
def sig_doc_CopyNode : Sig := ⟨[.v true YNode], [], [(true, [.fr YNode])]⟩
def C_doc_CopyNode (F : sig_doc_CopyNode.Fn) (a0 : YNode.den) : Option sig_doc_CopyNode.Out := F (a0, ()) ()
def ret_doc_CopyNode (v0 : YNode.den) : sig_doc_CopyNode.Out := (((v0, ()), ()), ())
def res_doc_CopyNode_0 (r : sig_doc_CopyNode.Out) : YNode.den := r.1.1.1
@[simp] theorem res_doc_CopyNode_0_ret (v0 : YNode.den) : res_doc_CopyNode_0 (ret_doc_CopyNode v0) = v0 := rfl
def os_doc_CopyNode : RegT := ⟨[(10, .st 0 (.st 2 (.st 3 (.st 4 (.grp [1, 5] (.st 6 (.st 7 (.st 8 (.nil)))))))))], [], false⟩
def hs_doc_CopyNode : List Keep := [[(1, [(2, 100, YAttr), (8, 107, YDrawOp)]), (2, []), (3, [(2, 109, YCell), (3, 116, YRect)]), (29, []), (30, []), (31, [])]]
@[reducible] noncomputable def env_doc_CopyNode : Env := [(52, ⟨sig_flow_Copy, F_flow_Copy⟩)]
noncomputable def L_doc_CopyNode_0 (n m1 : Nat) (x1_0 : Int) (x1_1 : Int) (x1_2 : List YAttr.den) (x1_3 : List YElem.den) (x1_4 : Int) (x1_5 : Int) (x1_6 : List YCell.den) (x1_7 : List YRect.den) (x1_8 : List YDrawOp.den) (x2_0 : Int) (x2_1 : Int) (x2_4 : Int) (x2_5 : Int) (x3_0 : Int) (x3_1 : Int) (x3_2 : List YCell.den) (x3_3 : List YRect.den) (x30 : Int) (x31 : Int) : Option sig_doc_CopyNode.Out :=
  loopAt T (env_doc_CopyNode) os_doc_CopyNode sig_doc_CopyNode Tryd.f63 hs_doc_CopyNode n [.sr, .sr, .sr, .sr, .sr, .sr, .sr, .sl, .sr, .bl] m1 (mk 48 [(1, .box [.val (.int .i64) x1_0, .val (.int .i64) x1_1, .own 100 YAttr x1_2, .val (.list YElem) x1_3, .val (.int .i64) x1_4, .val (.int .i64) x1_5, .val (.list YCell) x1_6, .val (.list YRect) x1_7, .own 107 YDrawOp x1_8]), (2, .box [.val (.int .i64) x2_0, .val (.int .i64) x2_1, .nils, .nils, .val (.int .i64) x2_4, .val (.int .i64) x2_5, .nils, .nils, .nils]), (3, .box [.val (.int .i64) x3_0, .val (.int .i64) x3_1, .own 109 YCell x3_2, .own 116 YRect x3_3]), (29, .cs false [.al ⟨3, 2⟩]), (30, .cs false [.val (.int .i64) x30]), (31, .cs false [.val (.int .i64) x31])])
theorem L_doc_CopyNode_0_step (n m1 : Nat) (x1_0 : Int) (x1_1 : Int) (x1_2 : List YAttr.den) (x1_3 : List YElem.den) (x1_4 : Int) (x1_5 : Int) (x1_6 : List YCell.den) (x1_7 : List YRect.den) (x1_8 : List YDrawOp.den) (x2_0 : Int) (x2_1 : Int) (x2_4 : Int) (x2_5 : Int) (x3_0 : Int) (x3_1 : Int) (x3_2 : List YCell.den) (x3_3 : List YRect.den) (x30 : Int) (x31 : Int) : L_doc_CopyNode_0 n (m1 + 1) x1_0 x1_1 x1_2 x1_3 x1_4 x1_5 x1_6 x1_7 x1_8 x2_0 x2_1 x2_4 x2_5 x3_0 x3_1 x3_2 x3_3 x30 x31 =
  (bcond (decide ((x31 : Int) < x30))
   (if 0 ≤ (x31 : Int) ∧ (x31 : Int) < (List.length x3_2 : Int) then
    (if List.length ((at_ (e := YCell) x3_2 x31).2.2.2.2 : List YAttr.den) * 32 ≤ 140737488355328 then
     (if 0 ≤ (x31 : Int) ∧ (x31 : Int) < (List.length x3_2 : Int) then
      (L_doc_CopyNode_0 n m1 x1_0 x1_1 x1_2 x1_3 x1_4 x1_5 x1_6 x1_7 x1_8 x2_0 x2_1 x2_4 x2_5 x3_0 x3_1 (List.set x3_2 (Int.toNat x31) (at_ (e := YCell) x3_2 x31)) x3_3 x30 (IntKind.i64.wrap (x31 + 1)))
     else none)
    else none)
   else none)
   (some (ret_doc_CopyNode (x1_0, (x1_1, (x1_2, (x1_3, ((x3_0, (x3_1, (x3_2, x3_3))), x1_8)))))))) := by kernel_rfl
theorem ok_doc_CopyNode : fnOk os_doc_CopyNode sig_doc_CopyNode Tryd.f63 = true := by kernel_rfl
theorem fn_doc_CopyNode : P.funcs[63]? = some Tryd.f63 := by kernel_rfl
noncomputable def F_doc_CopyNode : sig_doc_CopyNode.Fn := fun x y => run T (env_doc_CopyNode) os_doc_CopyNode sig_doc_CopyNode Tryd.f63 hs_doc_CopyNode big x y
theorem S_doc_CopyNode : Sound P 63 ⟨sig_doc_CopyNode, F_doc_CopyNode⟩ := sound_of (os := os_doc_CopyNode) (hs := hs_doc_CopyNode) (env_cons S_flow_Copy (env_nil)) fn_doc_CopyNode ok_doc_CopyNode (fun x y out h => ⟨big, h⟩)
theorem e_doc_CopyNode (a0 : YNode.den) : C_doc_CopyNode F_doc_CopyNode a0 =
  (if List.length (a0.2.2.1 : List YAttr.den) * 32 ≤ 140737488355328 then
   ((C_flow_Copy F_flow_Copy a0.2.2.2.1).bind fun r1 =>
    (if List.length (a0.2.2.2.2.2 : List YDrawOp.den) * 88 ≤ 140737488355328 then
     (if List.length (a0.2.2.2.2.1.2.2.2 : List YRect.den) * 32 ≤ 140737488355328 then
      (if List.length (a0.2.2.2.2.1.2.2.1 : List YCell.den) * 64 ≤ 140737488355328 then
       (L_doc_CopyNode_0 big big a0.1 a0.2.1 a0.2.2.1 (res_flow_Copy_0 r1) a0.2.2.2.2.1.1 a0.2.2.2.2.1.2.1 a0.2.2.2.2.1.2.2.1 a0.2.2.2.2.1.2.2.2 a0.2.2.2.2.2 0 0 0 0 a0.2.2.2.2.1.1 a0.2.2.2.2.1.2.1 a0.2.2.2.2.1.2.2.1 a0.2.2.2.2.1.2.2.2 (List.length a0.2.2.2.2.1.2.2.1 : Int) 0)
      else none)
     else none)
    else none))
  else none) := by kernel_rfl
def sig_doc_Node : Sig := ⟨[.v true YDoc, .v false (.int .i64)], [], [(true, [.fr YNode]), (false, [.fr .bool])]⟩
def C_doc_Node (F : sig_doc_Node.Fn) (a0 : List YNode.den) (a1 : Int) : Option sig_doc_Node.Out := F (a0, a1, ()) ()
def ret_doc_Node (v0 : YNode.den) (v1 : Bool) : sig_doc_Node.Out := (((v0, ()), (v1, ()), ()), ())
def res_doc_Node_0 (r : sig_doc_Node.Out) : YNode.den := r.1.1.1
@[simp] theorem res_doc_Node_0_ret (v0 : YNode.den) (v1 : Bool) : res_doc_Node_0 (ret_doc_Node v0 v1) = v0 := rfl
def res_doc_Node_1 (r : sig_doc_Node.Out) : Bool := r.1.2.1.1
@[simp] theorem res_doc_Node_1_ret (v0 : YNode.den) (v1 : Bool) : res_doc_Node_1 (ret_doc_Node v0 v1) = v1 := rfl
def os_doc_Node : RegT := ⟨[], [], false⟩
def hs_doc_Node : List Keep := [[(1, []), (4, []), (9, []), (10, []), (11, [])]]
@[reducible] noncomputable def env_doc_Node : Env := [(63, ⟨sig_doc_CopyNode, F_doc_CopyNode⟩)]
noncomputable def L_doc_Node_0 (n m1 : Nat) (x1 : Int) (x4_0 : Int) (x4_1 : Int) (x4_4 : Int) (x4_5 : Int) (x9 : List YNode.den) (x10 : Int) (x11 : Int) : Option sig_doc_Node.Out :=
  loopAt T (env_doc_Node) os_doc_Node sig_doc_Node Tryd.f31 hs_doc_Node n [.sr, .sl, .sr, .bl] m1 (mk 23 [(1, .cs false [.val (.int .i64) x1]), (4, .box [.val (.int .i64) x4_0, .val (.int .i64) x4_1, .nils, .nils, .val (.int .i64) x4_4, .val (.int .i64) x4_5, .nils, .nils, .nils]), (9, .cs false [.val YDoc x9]), (10, .cs false [.val (.int .i64) x10]), (11, .cs false [.val (.int .i64) x11])])
theorem L_doc_Node_0_step (n m1 : Nat) (x1 : Int) (x4_0 : Int) (x4_1 : Int) (x4_4 : Int) (x4_5 : Int) (x9 : List YNode.den) (x10 : Int) (x11 : Int) : L_doc_Node_0 n (m1 + 1) x1 x4_0 x4_1 x4_4 x4_5 x9 x10 x11 =
  (bcond (decide ((x11 : Int) < x10))
   (if 0 ≤ (x11 : Int) ∧ (x11 : Int) < (List.length x9 : Int) then
    (bcond (((at_ (e := YNode) x9 x11).1 : Int) == x1)
     ((C_doc_CopyNode F_doc_CopyNode (at_ (e := YNode) x9 x11)).bind fun r1 =>
      (some (ret_doc_Node (res_doc_CopyNode_0 r1) true)))
     (L_doc_Node_0 n m1 x1 x4_0 x4_1 x4_4 x4_5 x9 x10 (IntKind.i64.wrap (x11 + 1))))
   else none)
   (some (ret_doc_Node (0, (0, ([], ([], ((0, (0, ([], []))), []))))) false))) := by kernel_rfl
theorem ok_doc_Node : fnOk os_doc_Node sig_doc_Node Tryd.f31 = true := by kernel_rfl
theorem fn_doc_Node : P.funcs[31]? = some Tryd.f31 := by kernel_rfl
noncomputable def F_doc_Node : sig_doc_Node.Fn := fun x y => run T (env_doc_Node) os_doc_Node sig_doc_Node Tryd.f31 hs_doc_Node big x y
theorem S_doc_Node : Sound P 31 ⟨sig_doc_Node, F_doc_Node⟩ := sound_of (os := os_doc_Node) (hs := hs_doc_Node) (env_cons S_doc_CopyNode (env_nil)) fn_doc_Node ok_doc_Node (fun x y out h => ⟨big, h⟩)
theorem e_doc_Node (a0 : List YNode.den) (a1 : Int) : C_doc_Node F_doc_Node a0 a1 =
  (L_doc_Node_0 big big a1 0 0 0 0 a0 (List.length a0 : Int) 0) := by kernel_rfl
def sig_R_Find : Sig := ⟨[.v true YDoc, .v false (.int .i64)], [], [(false, [.fr (.int .i64)])]⟩
def C_R_Find (F : sig_R_Find.Fn) (a0 : List YNode.den) (a1 : Int) : Option sig_R_Find.Out := F (a0, a1, ()) ()
def ret_R_Find (v0 : Int) : sig_R_Find.Out := (((v0, ()), ()), ())
def res_R_Find_0 (r : sig_R_Find.Out) : Int := r.1.1.1
@[simp] theorem res_R_Find_0_ret (v0 : Int) : res_R_Find_0 (ret_R_Find v0) = v0 := rfl
def os_R_Find : RegT := ⟨[], [], false⟩
def hs_R_Find : List Keep := [[(1, []), (2, []), (8, []), (9, [])]]
@[reducible] noncomputable def env_R_Find : Env := []
noncomputable def L_R_Find_0 (n m1 : Nat) (x1 : Int) (x2 : List YNode.den) (x8 : Int) (x9 : Int) : Option sig_R_Find.Out :=
  loopAt T (env_R_Find) os_R_Find sig_R_Find Tryd.f32 hs_R_Find n [.sr, .sl, .sr, .bl] m1 (mk 22 [(1, .cs false [.val (.int .i64) x1]), (2, .box [.val YDoc x2]), (8, .cs false [.val (.int .i64) x8]), (9, .cs false [.val (.int .i64) x9])])
theorem L_R_Find_0_step (n m1 : Nat) (x1 : Int) (x2 : List YNode.den) (x8 : Int) (x9 : Int) : L_R_Find_0 n (m1 + 1) x1 x2 x8 x9 =
  (bcond (decide ((x9 : Int) < x8))
   (if 0 ≤ (x9 : Int) ∧ (x9 : Int) < (List.length x2 : Int) then
    (bcond (((at_ (e := YNode) x2 x9).1 : Int) == x1)
     (some (ret_R_Find x9))
     (L_R_Find_0 n m1 x1 x2 x8 (IntKind.i64.wrap (x9 + 1))))
   else none)
   (some (ret_R_Find (-1)))) := by kernel_rfl
theorem ok_R_Find : fnOk os_R_Find sig_R_Find Tryd.f32 = true := by kernel_rfl
theorem fn_R_Find : P.funcs[32]? = some Tryd.f32 := by kernel_rfl
noncomputable def F_R_Find : sig_R_Find.Fn := fun x y => run T (env_R_Find) os_R_Find sig_R_Find Tryd.f32 hs_R_Find big x y
theorem S_R_Find : Sound P 32 ⟨sig_R_Find, F_R_Find⟩ := sound_of (os := os_R_Find) (hs := hs_R_Find) (env_nil) fn_R_Find ok_R_Find (fun x y out h => ⟨big, h⟩)
theorem e_R_Find (a0 : List YNode.den) (a1 : Int) : C_R_Find F_R_Find a0 a1 =
  (L_R_Find_0 big big a1 a0 (List.length a0 : Int) 0) := by kernel_rfl
def sig_doc_Site : Sig := ⟨[.v false (.int .i64)], [], [(false, [.fr (.int .i64)])]⟩
def C_doc_Site (F : sig_doc_Site.Fn) (a0 : Int) : Option sig_doc_Site.Out := F (a0, ()) ()
def ret_doc_Site (v0 : Int) : sig_doc_Site.Out := (((v0, ()), ()), ())
def res_doc_Site_0 (r : sig_doc_Site.Out) : Int := r.1.1.1
@[simp] theorem res_doc_Site_0_ret (v0 : Int) : res_doc_Site_0 (ret_doc_Site v0) = v0 := rfl
def os_doc_Site : RegT := ⟨[], [], false⟩
def hs_doc_Site : List Keep := []
@[reducible] noncomputable def env_doc_Site : Env := []
theorem ok_doc_Site : fnOk os_doc_Site sig_doc_Site Tryd.f34 = true := by kernel_rfl
theorem fn_doc_Site : P.funcs[34]? = some Tryd.f34 := by kernel_rfl
noncomputable def F_doc_Site : sig_doc_Site.Fn := fun x y => run T (env_doc_Site) os_doc_Site sig_doc_Site Tryd.f34 hs_doc_Site big x y
theorem S_doc_Site : Sound P 34 ⟨sig_doc_Site, F_doc_Site⟩ := sound_of (os := os_doc_Site) (hs := hs_doc_Site) (env_nil) fn_doc_Site ok_doc_Site (fun x y out h => ⟨big, h⟩)
theorem e_doc_Site (a0 : Int) : C_doc_Site F_doc_Site a0 =
  (some (ret_doc_Site (shrI .i64 a0 16))) := by kernel_rfl
def sig_law_DocNodeMatches : Sig := ⟨[.v true YDoc, .v true YDoc, .v false (.int .i64)], [], [(false, [.fr .bool])]⟩
def C_law_DocNodeMatches (F : sig_law_DocNodeMatches.Fn) (a0 : List YNode.den) (a1 : List YNode.den) (a2 : Int) : Option sig_law_DocNodeMatches.Out := F (a0, a1, a2, ()) ()
def ret_law_DocNodeMatches (v0 : Bool) : sig_law_DocNodeMatches.Out := (((v0, ()), ()), ())
def os_law_DocNodeMatches : RegT := ⟨[(1, .st 0 (.st 1 (.st 2 (.st 3 (.st 4 (.grp [6, 7, 5] (.st 8 (.st 9 (.st 10 (.nil)))))))))), (8, .st 0 (.st 1 (.st 2 (.st 4 (.st 6 (.st 5 (.st 7 (.st 3 (.st 8 (.st 9 (.st 10 (.st 11 (.nil)))))))))))))], [], false⟩
def hs_law_DocNodeMatches : List Keep := []
@[reducible] noncomputable def env_law_DocNodeMatches : Env := [(28, ⟨sig_law_docs, F_law_docs⟩), (29, ⟨sig_doc_Same, F_doc_Same⟩), (30, ⟨sig_R_SameDoc, F_R_SameDoc⟩), (31, ⟨sig_doc_Node, F_doc_Node⟩), (32, ⟨sig_R_Find, F_R_Find⟩), (33, ⟨sig_R_SameNode, F_R_SameNode⟩), (34, ⟨sig_doc_Site, F_doc_Site⟩)]
theorem ok_law_DocNodeMatches : fnOk os_law_DocNodeMatches sig_law_DocNodeMatches Tryd.f7 = true := by kernel_rfl
theorem fn_law_DocNodeMatches : P.funcs[7]? = some Tryd.f7 := by kernel_rfl
noncomputable def F_law_DocNodeMatches : sig_law_DocNodeMatches.Fn := fun x y => run T (env_law_DocNodeMatches) os_law_DocNodeMatches sig_law_DocNodeMatches Tryd.f7 hs_law_DocNodeMatches big x y
theorem S_law_DocNodeMatches : Sound P 7 ⟨sig_law_DocNodeMatches, F_law_DocNodeMatches⟩ := sound_of (os := os_law_DocNodeMatches) (hs := hs_law_DocNodeMatches) (env_cons S_law_docs (env_cons S_doc_Same (env_cons S_R_SameDoc (env_cons S_doc_Node (env_cons S_R_Find (env_cons S_R_SameNode (env_cons S_doc_Site (env_nil)))))))) fn_law_DocNodeMatches ok_law_DocNodeMatches (fun x y out h => ⟨big, h⟩)
theorem e_law_DocNodeMatches (a0 : List YNode.den) (a1 : List YNode.den) (a2 : Int) : C_law_DocNodeMatches F_law_DocNodeMatches a0 a1 a2 =
  ((C_law_docs F_law_docs ).bind fun r1 =>
   (bcond ((!(res_law_docs_0 r1)) == false)
    ((C_doc_Same F_doc_Same a0 a1).bind fun r2 =>
     ((C_R_SameDoc F_R_SameDoc a0 a1).bind fun r3 =>
      (bcond (((res_doc_Same_0 r2) : Bool) != (res_R_SameDoc_0 r3))
       (some (ret_law_DocNodeMatches false))
       ((C_doc_Node F_doc_Node a0 a2).bind fun r4 =>
        ((C_R_Find F_R_Find a0 a2).bind fun r5 =>
         (bcond (decide (((res_R_Find_0 r5) : Int) < 0))
          (bcond ((res_doc_Node_1 r4) == false)
           ((C_R_SameNode F_R_SameNode (res_doc_Node_0 r4) (0, (0, ([], ([], ((0, (0, ([], []))), [])))))).bind fun r6 =>
            (bcond (!(res_R_SameNode_0 r6))
             (some (ret_law_DocNodeMatches false))
             (bcond ((decide ((a2 : Int) < 0)) == false)
              ((C_doc_Site F_doc_Site a2).bind fun r7 =>
               (if 65536 = 0 then none else
                (some (ret_law_DocNodeMatches (((res_doc_Site_0 r7) : Int) == (IntKind.i64.wrap (Int.tdiv a2 65536)))))))
              (some (ret_law_DocNodeMatches true)))))
           (some (ret_law_DocNodeMatches false)))
          (bcond ((!(res_doc_Node_1 r4)) == false)
           (if 0 ≤ ((res_R_Find_0 r5) : Int) ∧ ((res_R_Find_0 r5) : Int) < (List.length a0 : Int) then
            ((C_R_SameNode F_R_SameNode (res_doc_Node_0 r4) (at_ (e := YNode) a0 (res_R_Find_0 r5))).bind fun r6 =>
             (bcond (!(res_R_SameNode_0 r6))
              (some (ret_law_DocNodeMatches false))
              (bcond ((decide ((a2 : Int) < 0)) == false)
               ((C_doc_Site F_doc_Site a2).bind fun r7 =>
                (if 65536 = 0 then none else
                 (some (ret_law_DocNodeMatches (((res_doc_Site_0 r7) : Int) == (IntKind.i64.wrap (Int.tdiv a2 65536)))))))
               (some (ret_law_DocNodeMatches true)))))
           else none)
           (some (ret_law_DocNodeMatches false)))))))))
    (some (ret_law_DocNodeMatches false)))) := by kernel_rfl
end Go.Ev
