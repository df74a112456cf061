/- Functions, step by step. -/
import Derived.Test.YtlgjdgebmiegeaaGSteps
import Derived.Test.YtlgjdgebmiegeaaGDaxis
namespace Go.Ev
set_option linter.unusedVariables false
set_option maxRecDepth 100000
open Go.Proofs
def sig_delta_bounds : Sig := ⟨[.v false (.int .i64), .v false (.int .i64), .v false (.int .i64)], [], [(false, [.fr (.int .i64)])]⟩
def C_delta_bounds (F : sig_delta_bounds.Fn) (a0 : Int) (a1 : Int) (a2 : Int) : Option sig_delta_bounds.Out := F (a0, a1, a2, ()) ()
def ret_delta_bounds (v0 : Int) : sig_delta_bounds.Out := (((v0, ()), ()), ())
def res_delta_bounds_0 (r : sig_delta_bounds.Out) : Int := r.1.1.1
@[simp] theorem res_delta_bounds_0_ret (v0 : Int) : res_delta_bounds_0 (ret_delta_bounds v0) = v0 := rfl
def os_delta_bounds : RegT := ⟨[], []⟩
def hs_delta_bounds : List Keep := []
@[reducible] noncomputable def env_delta_bounds : Env := []
theorem ok_delta_bounds : fnOk os_delta_bounds sig_delta_bounds Try.f92 = true := by kernel_rfl
theorem fn_delta_bounds : P.funcs[92]? = some Try.f92 := by kernel_rfl
noncomputable def F_delta_bounds : sig_delta_bounds.Fn := fun x y => run T (env_delta_bounds) os_delta_bounds sig_delta_bounds Try.f92 hs_delta_bounds big x y
theorem S_delta_bounds : Sound P 92 ⟨sig_delta_bounds, F_delta_bounds⟩ := sound_of (os := os_delta_bounds) (hs := hs_delta_bounds) (env_nil) fn_delta_bounds ok_delta_bounds (fun x y out h => ⟨big, h⟩)
theorem e_delta_bounds (a0 : Int) (a1 : Int) (a2 : Int) : C_delta_bounds F_delta_bounds a0 a1 a2 =
  (bcond ((decide ((a0 : Int) < 0)) == false)
   (bcond ((decide ((a0 : Int) > 2147483647)) == false)
    (bcond ((decide ((a1 : Int) < 0)) == false)
     (bcond ((decide ((a2 : Int) < a1)) == false)
      (bcond (decide ((a2 : Int) > a0))
       (some (ret_delta_bounds 2))
       (some (ret_delta_bounds 0)))
      (some (ret_delta_bounds 2)))
     (some (ret_delta_bounds 2)))
    (some (ret_delta_bounds 2)))
   (some (ret_delta_bounds 2))) := by kernel_rfl
def sig_delta_Replace : Sig := ⟨[.v false (.int .i64), .v false (.int .i64), .v false (.int .i64), .v false (.list YElem)], [], [(false, [.fr (.list YStep)]), (false, [.fr (.int .i64)])]⟩
def C_delta_Replace (F : sig_delta_Replace.Fn) (a0 : Int) (a1 : Int) (a2 : Int) (a3 : List YElem.den) : Option sig_delta_Replace.Out := F (a0, a1, a2, a3, ()) ()
def ret_delta_Replace (v0 : List YStep.den) (v1 : Int) : sig_delta_Replace.Out := (((v0, ()), (v1, ()), ()), ())
def res_delta_Replace_0 (r : sig_delta_Replace.Out) : List YStep.den := r.1.1.1
@[simp] theorem res_delta_Replace_0_ret (v0 : List YStep.den) (v1 : Int) : res_delta_Replace_0 (ret_delta_Replace v0 v1) = v0 := rfl
def res_delta_Replace_1 (r : sig_delta_Replace.Out) : Int := r.1.2.1.1
@[simp] theorem res_delta_Replace_1_ret (v0 : List YStep.den) (v1 : Int) : res_delta_Replace_1 (ret_delta_Replace v0 v1) = v1 := rfl
def os_delta_Replace : RegT := ⟨[], []⟩
def hs_delta_Replace : List Keep := []
@[reducible] noncomputable def env_delta_Replace : Env := [(92, ⟨sig_delta_bounds, F_delta_bounds⟩), (93, ⟨sig_flow_CheckPart, F_flow_CheckPart⟩), (80, ⟨sig_delta_writer_keep, F_delta_writer_keep⟩), (81, ⟨sig_delta_writer_elems, F_delta_writer_elems⟩), (82, ⟨sig_delta_writer_done, F_delta_writer_done⟩)]
theorem ok_delta_Replace : fnOk os_delta_Replace sig_delta_Replace Try.f28 = true := by kernel_rfl
theorem fn_delta_Replace : P.funcs[28]? = some Try.f28 := by kernel_rfl
noncomputable def F_delta_Replace : sig_delta_Replace.Fn := fun x y => run T (env_delta_Replace) os_delta_Replace sig_delta_Replace Try.f28 hs_delta_Replace big x y
theorem S_delta_Replace : Sound P 28 ⟨sig_delta_Replace, F_delta_Replace⟩ := sound_of (os := os_delta_Replace) (hs := hs_delta_Replace) (env_cons S_delta_bounds (env_cons S_flow_CheckPart (env_cons S_delta_writer_keep (env_cons S_delta_writer_elems (env_cons S_delta_writer_done (env_nil)))))) fn_delta_Replace ok_delta_Replace (fun x y out h => ⟨big, h⟩)
theorem e_delta_Replace (a0 : Int) (a1 : Int) (a2 : Int) (a3 : List YElem.den) : C_delta_Replace F_delta_Replace a0 a1 a2 a3 =
  ((C_delta_bounds F_delta_bounds a0 a1 a2).bind fun r1 =>
   (bcond (((res_delta_bounds_0 r1) : Int) != 0)
    (some (ret_delta_Replace [] (res_delta_bounds_0 r1)))
    ((C_flow_CheckPart F_flow_CheckPart a3).bind fun r2 =>
     (bcond (((res_flow_CheckPart_0 r2) : Int) != 0)
      (some (ret_delta_Replace [] (res_flow_CheckPart_0 r2)))
      ((C_delta_writer_keep F_delta_writer_keep a1 [] [] [] 0).bind fun r3 =>
       ((C_delta_writer_elems F_delta_writer_elems a3 (res_delta_writer_keep_0 r3) (res_delta_writer_keep_1 r3) (res_delta_writer_keep_2 r3)).bind fun r4 =>
        ((C_delta_writer_keep F_delta_writer_keep (IntKind.i64.wrap (a0 - a2)) [] (res_delta_writer_elems_0 r4) (res_delta_writer_elems_1 r4) (IntKind.i64.wrap (a2 - a1))).bind fun r5 =>
         ((C_delta_writer_done F_delta_writer_done (res_delta_writer_keep_0 r5) (res_delta_writer_keep_1 r5) (res_delta_writer_keep_2 r5)).bind fun r6 =>
          (some (ret_delta_Replace (res_delta_writer_done_0 r6) (res_delta_writer_done_1 r6))))))))))) := by kernel_rfl
def sig_delta_Restyle : Sig := ⟨[.v false (.int .i64), .v false (.int .i64), .v false (.int .i64), .v false (.list YAttr)], [], [(false, [.fr (.list YStep)]), (false, [.fr (.int .i64)])]⟩
def C_delta_Restyle (F : sig_delta_Restyle.Fn) (a0 : Int) (a1 : Int) (a2 : Int) (a3 : List YAttr.den) : Option sig_delta_Restyle.Out := F (a0, a1, a2, a3, ()) ()
def ret_delta_Restyle (v0 : List YStep.den) (v1 : Int) : sig_delta_Restyle.Out := (((v0, ()), (v1, ()), ()), ())
def res_delta_Restyle_0 (r : sig_delta_Restyle.Out) : List YStep.den := r.1.1.1
@[simp] theorem res_delta_Restyle_0_ret (v0 : List YStep.den) (v1 : Int) : res_delta_Restyle_0 (ret_delta_Restyle v0 v1) = v0 := rfl
def res_delta_Restyle_1 (r : sig_delta_Restyle.Out) : Int := r.1.2.1.1
@[simp] theorem res_delta_Restyle_1_ret (v0 : List YStep.den) (v1 : Int) : res_delta_Restyle_1 (ret_delta_Restyle v0 v1) = v1 := rfl
def os_delta_Restyle : RegT := ⟨[], []⟩
def hs_delta_Restyle : List Keep := []
@[reducible] noncomputable def env_delta_Restyle : Env := [(92, ⟨sig_delta_bounds, F_delta_bounds⟩), (79, ⟨sig_attr_CheckChange, F_attr_CheckChange⟩), (80, ⟨sig_delta_writer_keep, F_delta_writer_keep⟩), (82, ⟨sig_delta_writer_done, F_delta_writer_done⟩)]
theorem ok_delta_Restyle : fnOk os_delta_Restyle sig_delta_Restyle Try.f29 = true := by kernel_rfl
theorem fn_delta_Restyle : P.funcs[29]? = some Try.f29 := by kernel_rfl
noncomputable def F_delta_Restyle : sig_delta_Restyle.Fn := fun x y => run T (env_delta_Restyle) os_delta_Restyle sig_delta_Restyle Try.f29 hs_delta_Restyle big x y
theorem S_delta_Restyle : Sound P 29 ⟨sig_delta_Restyle, F_delta_Restyle⟩ := sound_of (os := os_delta_Restyle) (hs := hs_delta_Restyle) (env_cons S_delta_bounds (env_cons S_attr_CheckChange (env_cons S_delta_writer_keep (env_cons S_delta_writer_done (env_nil))))) fn_delta_Restyle ok_delta_Restyle (fun x y out h => ⟨big, h⟩)
theorem e_delta_Restyle (a0 : Int) (a1 : Int) (a2 : Int) (a3 : List YAttr.den) : C_delta_Restyle F_delta_Restyle a0 a1 a2 a3 =
  ((C_delta_bounds F_delta_bounds a0 a1 a2).bind fun r1 =>
   (bcond (((res_delta_bounds_0 r1) : Int) != 0)
    (some (ret_delta_Restyle [] (res_delta_bounds_0 r1)))
    ((C_attr_CheckChange F_attr_CheckChange a3).bind fun r2 =>
     (bcond (((res_attr_CheckChange_0 r2) : Int) != 0)
      (some (ret_delta_Restyle [] (res_attr_CheckChange_0 r2)))
      ((C_delta_writer_keep F_delta_writer_keep a1 [] [] [] 0).bind fun r3 =>
       ((C_delta_writer_keep F_delta_writer_keep (IntKind.i64.wrap (a2 - a1)) a3 (res_delta_writer_keep_0 r3) (res_delta_writer_keep_1 r3) (res_delta_writer_keep_2 r3)).bind fun r4 =>
        ((C_delta_writer_keep F_delta_writer_keep (IntKind.i64.wrap (a0 - a2)) [] (res_delta_writer_keep_0 r4) (res_delta_writer_keep_1 r4) (res_delta_writer_keep_2 r4)).bind fun r5 =>
         ((C_delta_writer_done F_delta_writer_done (res_delta_writer_keep_0 r5) (res_delta_writer_keep_1 r5) (res_delta_writer_keep_2 r5)).bind fun r6 =>
          (some (ret_delta_Restyle (res_delta_writer_done_0 r6) (res_delta_writer_done_1 r6))))))))))) := by kernel_rfl
def sig_law_DeltaMakersMatch : Sig := ⟨[.v false (.int .i64), .v false (.int .i64), .v false (.int .i64), .v false (.list YElem), .v false (.list YAttr), .v false (.list YStep)], [], [(false, [.fr .bool])]⟩
def C_law_DeltaMakersMatch (F : sig_law_DeltaMakersMatch.Fn) (a0 : Int) (a1 : Int) (a2 : Int) (a3 : List YElem.den) (a4 : List YAttr.den) (a5 : List YStep.den) : Option sig_law_DeltaMakersMatch.Out := F (a0, a1, a2, a3, a4, a5, ()) ()
def ret_law_DeltaMakersMatch (v0 : Bool) : sig_law_DeltaMakersMatch.Out := (((v0, ()), ()), ())
def os_law_DeltaMakersMatch : RegT := ⟨[(19, .st 0 (.st 1 (.st 3 (.st 5 (.alt 2 (.alt 4 (.alt 6 (.st 7 (.st 8 (.st 9 (.nil)))) (.st 8 (.st 6 (.st 7 (.st 9 (.nil)))))) (.alt 6 (.alt 4 (.st 7 (.st 8 (.st 9 (.nil)))) (.st 8 (.st 4 (.st 7 (.st 9 (.nil)))))) (.st 8 (.grp [4, 6] (.st 7 (.st 9 (.nil))))))) (.alt 4 (.alt 2 (.alt 6 (.st 7 (.st 8 (.st 9 (.nil)))) (.st 8 (.st 6 (.st 7 (.st 9 (.nil)))))) (.alt 6 (.alt 2 (.st 7 (.st 8 (.st 9 (.nil)))) (.st 8 (.st 2 (.st 7 (.st 9 (.nil)))))) (.st 8 (.grp [2, 6] (.st 7 (.st 9 (.nil))))))) (.alt 6 (.alt 2 (.alt 4 (.st 7 (.st 8 (.st 9 (.nil)))) (.st 8 (.st 4 (.st 7 (.st 9 (.nil)))))) (.alt 4 (.alt 2 (.st 7 (.st 8 (.st 9 (.nil)))) (.st 8 (.st 2 (.st 7 (.st 9 (.nil)))))) (.st 8 (.grp [2, 4] (.st 7 (.st 9 (.nil))))))) (.st 8 (.grp [2, 4, 6] (.st 7 (.st 9 (.nil)))))))))))), (20, .st 0 (.st 1 (.st 3 (.st 5 (.alt 2 (.alt 4 (.alt 6 (.st 7 (.st 8 (.st 9 (.nil)))) (.st 8 (.st 6 (.st 7 (.st 9 (.nil)))))) (.alt 6 (.alt 4 (.st 7 (.st 8 (.st 9 (.nil)))) (.st 8 (.st 4 (.st 7 (.st 9 (.nil)))))) (.st 8 (.grp [4, 6] (.st 7 (.st 9 (.nil))))))) (.alt 4 (.alt 2 (.alt 6 (.st 7 (.st 8 (.st 9 (.nil)))) (.st 8 (.st 6 (.st 7 (.st 9 (.nil)))))) (.alt 6 (.alt 2 (.st 7 (.st 8 (.st 9 (.nil)))) (.st 8 (.st 2 (.st 7 (.st 9 (.nil)))))) (.st 8 (.grp [2, 6] (.st 7 (.st 9 (.nil))))))) (.alt 6 (.alt 2 (.alt 4 (.st 7 (.st 8 (.st 9 (.nil)))) (.st 8 (.st 4 (.st 7 (.st 9 (.nil)))))) (.alt 4 (.alt 2 (.st 7 (.st 8 (.st 9 (.nil)))) (.st 8 (.st 2 (.st 7 (.st 9 (.nil)))))) (.st 8 (.grp [2, 4] (.st 7 (.st 9 (.nil))))))) (.st 8 (.grp [2, 4, 6] (.st 7 (.st 9 (.nil)))))))))))), (25, .st 0 (.st 2 (.st 3 (.st 5 (.st 6 (.st 1 (.st 7 (.alt 4 (.st 8 (.st 9 (.st 10 (.nil)))) (.st 8 (.st 4 (.st 9 (.st 10 (.nil)))))))))))))], [(12, [(0, []), (1, []), (2, []), (3, []), (4, []), (13, []), (14, []), (15, []), (16, [])]), (14, [(0, []), (1, []), (2, []), (3, []), (4, []), (13, []), (14, []), (15, []), (16, [])]), (17, [(0, []), (1, []), (2, []), (3, []), (4, []), (13, []), (14, []), (15, []), (16, []), (20, []), (21, [])]), (19, [(0, []), (1, []), (2, []), (3, []), (4, []), (13, []), (14, []), (15, []), (16, []), (20, []), (21, [])]), (20, [(0, []), (1, []), (2, []), (3, []), (4, []), (13, []), (14, []), (15, []), (16, []), (20, []), (21, []), (22, [(0, 28, (.list YElem)), (1, 4, .bool), (2, 27, (.list YAttr))])])]⟩
def hs_law_DeltaMakersMatch : List Keep := [[(2, []), (4, []), (13, []), (14, []), (15, []), (16, []), (20, []), (21, []), (22, [(0, 28, (.list YElem)), (1, 4, .bool), (2, 27, (.list YAttr))]), (23, [(0, 28, (.list YElem)), (1, 4, .bool), (2, 27, (.list YAttr))]), (24, [])]]
@[reducible] noncomputable def env_law_DeltaMakersMatch : Env := [(15, ⟨sig_law_deltas, F_law_deltas⟩), (28, ⟨sig_delta_Replace, F_delta_Replace⟩), (29, ⟨sig_delta_Restyle, F_delta_Restyle⟩), (30, ⟨sig_delta_Axis, F_delta_Axis⟩), (31, ⟨sig_R_DeltaError, F_R_DeltaError⟩), (36, ⟨sig_R_In, F_R_In⟩), (37, ⟨sig_R_PartError, F_R_PartError⟩), (18, ⟨sig_R_AttrsError, F_R_AttrsError⟩), (32, ⟨sig_law_short, F_law_short⟩), (21, ⟨sig_R_ActOf, F_R_ActOf⟩), (35, ⟨sig_law_plain, F_law_plain⟩), (34, ⟨sig_law_steps, F_law_steps⟩), (33, ⟨sig_R_SameSteps, F_R_SameSteps⟩), (20, ⟨sig_R_DeltaOf, F_R_DeltaOf⟩), (19, ⟨sig_R_SameDelta, F_R_SameDelta⟩)]
noncomputable def L_law_DeltaMakersMatch_0 (n m1 : Nat) (x2 : Int) (x4 : List YAttr.den) (x13 : List YStep.den) (x14 : Int) (x15 : List YStep.den) (x16 : Int) (x20 : Int) (x21 : Int) (x22_0 : List (List YElem.den)) (x22_1 : List (Bool)) (x22_2 : List (List YAttr.den)) (x23_0 : List (List YElem.den)) (x23_1 : List (Bool)) (x23_2 : List (List YAttr.den)) (x24 : Int) : Option sig_law_DeltaMakersMatch.Out :=
  loopAt T (env_law_DeltaMakersMatch) os_law_DeltaMakersMatch sig_law_DeltaMakersMatch Try.f5 hs_law_DeltaMakersMatch n [.sr, .sr, .sr, .sr, .sr, .sr, .sr, .sr, .sr, .sr, .sr, .sr, .sr, .sl, .sr, .bl] m1 (mk 200 [(2, .cs false [.val (.int .i64) x2]), (4, .cs false [.val (.list YAttr) x4]), (13, .cs false [.val (.list YStep) x13]), (14, .cs false [.val (.int .i64) x14]), (15, .cs false [.val (.list YStep) x15]), (16, .cs false [.val (.int .i64) x16]), (20, .cs false [.val (.int .i64) x20]), (21, .cs false [.val (.int .i64) x21]), (22, .box [.own 28 (.list YElem) x22_0, .own 4 .bool x22_1, .own 27 (.list YAttr) x22_2]), (23, .box [.own 28 (.list YElem) x23_0, .own 4 .bool x23_1, .own 27 (.list YAttr) x23_2]), (24, .cs false [.val (.int .i64) x24])])
noncomputable def K_law_DeltaMakersMatch_0 (n : Nat) (y0 : Int) (y1 : Int) (y2 : Int) (y3 : List YElem.den) (y4 : List YAttr.den) (y13 : List YStep.den) (y14 : Int) (y15 : List YStep.den) (y16 : Int) (y20 : Int) (y21 : Int) (y22_0 : List (List YElem.den)) (y22_1 : List (Bool)) (y22_2 : List (List YAttr.den)) : Option sig_law_DeltaMakersMatch.Out :=
  joinAt T (env_law_DeltaMakersMatch) os_law_DeltaMakersMatch sig_law_DeltaMakersMatch Try.f5 hs_law_DeltaMakersMatch n [.sr, .sr, .sr, .sr, .sr, .sr, .sr, .sr, .sr, .sr, .sr, .sl] (mk 200 [(0, .cs false [.val (.int .i64) y0]), (1, .cs false [.val (.int .i64) y1]), (2, .cs false [.val (.int .i64) y2]), (3, .cs false [.val (.list YElem) y3]), (4, .cs false [.val (.list YAttr) y4]), (13, .cs false [.val (.list YStep) y13]), (14, .cs false [.val (.int .i64) y14]), (15, .cs false [.val (.list YStep) y15]), (16, .cs false [.val (.int .i64) y16]), (20, .cs false [.val (.int .i64) y20]), (21, .cs false [.val (.int .i64) y21]), (22, .box [.own 28 (.list YElem) y22_0, .own 4 .bool y22_1, .own 27 (.list YAttr) y22_2])])
noncomputable def K_law_DeltaMakersMatch_1 (n : Nat) (y0 : Int) (y1 : Int) (y2 : Int) (y3 : List YElem.den) (y4 : List YAttr.den) (y13 : List YStep.den) (y14 : Int) (y15 : List YStep.den) (y16 : Int) (y20 : Int) (y21 : Int) : Option sig_law_DeltaMakersMatch.Out :=
  joinAt T (env_law_DeltaMakersMatch) os_law_DeltaMakersMatch sig_law_DeltaMakersMatch Try.f5 hs_law_DeltaMakersMatch n [.sr, .sr, .sr, .sr, .sr, .sr, .sr, .sr, .sr, .sr, .sl] (mk 200 [(0, .cs false [.val (.int .i64) y0]), (1, .cs false [.val (.int .i64) y1]), (2, .cs false [.val (.int .i64) y2]), (3, .cs false [.val (.list YElem) y3]), (4, .cs false [.val (.list YAttr) y4]), (13, .cs false [.val (.list YStep) y13]), (14, .cs false [.val (.int .i64) y14]), (15, .cs false [.val (.list YStep) y15]), (16, .cs false [.val (.int .i64) y16]), (20, .cs false [.val (.int .i64) y20]), (21, .cs false [.val (.int .i64) y21])])
noncomputable def K_law_DeltaMakersMatch_2 (n : Nat) (y0 : Int) (y1 : Int) (y2 : Int) (y3 : List YElem.den) (y4 : List YAttr.den) (y13 : List YStep.den) (y14 : Int) (y15 : List YStep.den) (y16 : Int) (y20 : Int) (y21 : Int) : Option sig_law_DeltaMakersMatch.Out :=
  joinAt T (env_law_DeltaMakersMatch) os_law_DeltaMakersMatch sig_law_DeltaMakersMatch Try.f5 hs_law_DeltaMakersMatch n [.sr, .sr, .sr, .sr, .sr, .sr, .sr, .sr, .sr, .sl, .sl] (mk 200 [(0, .cs false [.val (.int .i64) y0]), (1, .cs false [.val (.int .i64) y1]), (2, .cs false [.val (.int .i64) y2]), (3, .cs false [.val (.list YElem) y3]), (4, .cs false [.val (.list YAttr) y4]), (13, .cs false [.val (.list YStep) y13]), (14, .cs false [.val (.int .i64) y14]), (15, .cs false [.val (.list YStep) y15]), (16, .cs false [.val (.int .i64) y16]), (20, .cs false [.val (.int .i64) y20]), (21, .cs false [.val (.int .i64) y21])])
noncomputable def K_law_DeltaMakersMatch_3 (n : Nat) (y0 : Int) (y1 : Int) (y2 : Int) (y3 : List YElem.den) (y4 : List YAttr.den) (y13 : List YStep.den) (y14 : Int) (y15 : List YStep.den) (y16 : Int) : Option sig_law_DeltaMakersMatch.Out :=
  joinAt T (env_law_DeltaMakersMatch) os_law_DeltaMakersMatch sig_law_DeltaMakersMatch Try.f5 hs_law_DeltaMakersMatch n [.sr, .sr, .sr, .sr, .sr, .sr, .sr, .sl] (mk 200 [(0, .cs false [.val (.int .i64) y0]), (1, .cs false [.val (.int .i64) y1]), (2, .cs false [.val (.int .i64) y2]), (3, .cs false [.val (.list YElem) y3]), (4, .cs false [.val (.list YAttr) y4]), (13, .cs false [.val (.list YStep) y13]), (14, .cs false [.val (.int .i64) y14]), (15, .cs false [.val (.list YStep) y15]), (16, .cs false [.val (.int .i64) y16])])
noncomputable def K_law_DeltaMakersMatch_4 (n : Nat) (y0 : Int) (y1 : Int) (y2 : Int) (y3 : List YElem.den) (y4 : List YAttr.den) (y13 : List YStep.den) (y14 : Int) (y15 : List YStep.den) (y16 : Int) : Option sig_law_DeltaMakersMatch.Out :=
  joinAt T (env_law_DeltaMakersMatch) os_law_DeltaMakersMatch sig_law_DeltaMakersMatch Try.f5 hs_law_DeltaMakersMatch n [.sr, .sr, .sr, .sr, .sr, .sr, .sl, .sl] (mk 200 [(0, .cs false [.val (.int .i64) y0]), (1, .cs false [.val (.int .i64) y1]), (2, .cs false [.val (.int .i64) y2]), (3, .cs false [.val (.list YElem) y3]), (4, .cs false [.val (.list YAttr) y4]), (13, .cs false [.val (.list YStep) y13]), (14, .cs false [.val (.int .i64) y14]), (15, .cs false [.val (.list YStep) y15]), (16, .cs false [.val (.int .i64) y16])])
set_option maxHeartbeats 8000000 in
theorem K_law_DeltaMakersMatch_0_raw (n : Nat) (y0 : Int) (y1 : Int) (y2 : Int) (y3 : List YElem.den) (y4 : List YAttr.den) (y13 : List YStep.den) (y14 : Int) (y15 : List YStep.den) (y16 : Int) (y20 : Int) (y21 : Int) (y22_0 : List (List YElem.den)) (y22_1 : List (Bool)) (y22_2 : List (List YAttr.den)) : K_law_DeltaMakersMatch_0 n y0 y1 y2 y3 y4 y13 y14 y15 y16 y20 y21 y22_0 y22_1 y22_2 =
  (agree
   (if 0 ≤ ((IntKind.i64.wrap (y0 + 1)) : Int) ∧ ((IntKind.i64.wrap (y0 + 1)) : Int) = (IntKind.i64.wrap (y0 + 1)) ∧ ((IntKind.i64.wrap (y0 + 1)) : Int) * 24 ≤ 140737488355328 ∧ ((IntKind.i64.wrap (y0 + 1)) : Int) ≤ 140737488355328 then
    (agree
     (if 0 ≤ (y0 : Int) ∧ (y0 : Int) = y0 ∧ (y0 : Int) * 1 ≤ 140737488355328 ∧ (y0 : Int) ≤ 140737488355328 then
      (agree
       (if 0 ≤ (y0 : Int) ∧ (y0 : Int) = y0 ∧ (y0 : Int) * 24 ≤ 140737488355328 ∧ (y0 : Int) ≤ 140737488355328 then
        (if 0 ≤ (y1 : Int) ∧ (y1 : Int) < (List.length y22_0 : Int) then
         (L_law_DeltaMakersMatch_0 n n y2 y4 y13 y14 y15 y16 y20 y21 (List.set y22_0 (Int.toNat y1) y3) y22_1 y22_2 (List.replicate (Int.toNat (IntKind.i64.wrap (y0 + 1))) ([] : List YElem.den)) (List.replicate (Int.toNat y0) false) (List.replicate (Int.toNat y0) ([] : List YAttr.den)) y1)
        else none)
       else none)
       (if 0 ≤ (y0 : Int) ∧ (y0 : Int) = y0 ∧ (y0 : Int) * 24 ≤ 140737488355328 ∧ (y0 : Int) ≤ 140737488355328 then
        (if 0 ≤ (y1 : Int) ∧ (y1 : Int) < (List.length y22_0 : Int) then
         (L_law_DeltaMakersMatch_0 n n y2 y4 y13 y14 y15 y16 y20 y21 (List.set y22_0 (Int.toNat y1) y3) y22_1 y22_2 (List.replicate (Int.toNat (IntKind.i64.wrap (y0 + 1))) ([] : List YElem.den)) (List.replicate (Int.toNat y0) false) (List.replicate (Int.toNat y0) ([] : List YAttr.den)) y1)
        else none)
       else none))
     else none)
    (agree
     (if 0 ≤ (y0 : Int) ∧ (y0 : Int) = y0 ∧ (y0 : Int) * 24 ≤ 140737488355328 ∧ (y0 : Int) ≤ 140737488355328 then
      (agree
       (if 0 ≤ (y0 : Int) ∧ (y0 : Int) = y0 ∧ (y0 : Int) * 1 ≤ 140737488355328 ∧ (y0 : Int) ≤ 140737488355328 then
        (if 0 ≤ (y1 : Int) ∧ (y1 : Int) < (List.length y22_0 : Int) then
         (L_law_DeltaMakersMatch_0 n n y2 y4 y13 y14 y15 y16 y20 y21 (List.set y22_0 (Int.toNat y1) y3) y22_1 y22_2 (List.replicate (Int.toNat (IntKind.i64.wrap (y0 + 1))) ([] : List YElem.den)) (List.replicate (Int.toNat y0) false) (List.replicate (Int.toNat y0) ([] : List YAttr.den)) y1)
        else none)
       else none)
       (if 0 ≤ (y0 : Int) ∧ (y0 : Int) = y0 ∧ (y0 : Int) * 1 ≤ 140737488355328 ∧ (y0 : Int) ≤ 140737488355328 then
        (if 0 ≤ (y1 : Int) ∧ (y1 : Int) < (List.length y22_0 : Int) then
         (L_law_DeltaMakersMatch_0 n n y2 y4 y13 y14 y15 y16 y20 y21 (List.set y22_0 (Int.toNat y1) y3) y22_1 y22_2 (List.replicate (Int.toNat (IntKind.i64.wrap (y0 + 1))) ([] : List YElem.den)) (List.replicate (Int.toNat y0) false) (List.replicate (Int.toNat y0) ([] : List YAttr.den)) y1)
        else none)
       else none))
     else none)
     (if 0 ≤ (y0 : Int) ∧ (y0 : Int) = y0 ∧ (y0 : Int) * 1 ≤ 140737488355328 ∧ (y0 : Int) ≤ 140737488355328 then
      (if 0 ≤ (y0 : Int) ∧ (y0 : Int) = y0 ∧ (y0 : Int) * 24 ≤ 140737488355328 ∧ (y0 : Int) ≤ 140737488355328 then
       (if 0 ≤ (y1 : Int) ∧ (y1 : Int) < (List.length y22_0 : Int) then
        (L_law_DeltaMakersMatch_0 n n y2 y4 y13 y14 y15 y16 y20 y21 (List.set y22_0 (Int.toNat y1) y3) y22_1 y22_2 (List.replicate (Int.toNat (IntKind.i64.wrap (y0 + 1))) ([] : List YElem.den)) (List.replicate (Int.toNat y0) false) (List.replicate (Int.toNat y0) ([] : List YAttr.den)) y1)
       else none)
      else none)
     else none)))
   else none)
  (agree
   (if 0 ≤ (y0 : Int) ∧ (y0 : Int) = y0 ∧ (y0 : Int) * 1 ≤ 140737488355328 ∧ (y0 : Int) ≤ 140737488355328 then
    (agree
     (if 0 ≤ ((IntKind.i64.wrap (y0 + 1)) : Int) ∧ ((IntKind.i64.wrap (y0 + 1)) : Int) = (IntKind.i64.wrap (y0 + 1)) ∧ ((IntKind.i64.wrap (y0 + 1)) : Int) * 24 ≤ 140737488355328 ∧ ((IntKind.i64.wrap (y0 + 1)) : Int) ≤ 140737488355328 then
      (agree
       (if 0 ≤ (y0 : Int) ∧ (y0 : Int) = y0 ∧ (y0 : Int) * 24 ≤ 140737488355328 ∧ (y0 : Int) ≤ 140737488355328 then
        (if 0 ≤ (y1 : Int) ∧ (y1 : Int) < (List.length y22_0 : Int) then
         (L_law_DeltaMakersMatch_0 n n y2 y4 y13 y14 y15 y16 y20 y21 (List.set y22_0 (Int.toNat y1) y3) y22_1 y22_2 (List.replicate (Int.toNat (IntKind.i64.wrap (y0 + 1))) ([] : List YElem.den)) (List.replicate (Int.toNat y0) false) (List.replicate (Int.toNat y0) ([] : List YAttr.den)) y1)
        else none)
       else none)
       (if 0 ≤ (y0 : Int) ∧ (y0 : Int) = y0 ∧ (y0 : Int) * 24 ≤ 140737488355328 ∧ (y0 : Int) ≤ 140737488355328 then
        (if 0 ≤ (y1 : Int) ∧ (y1 : Int) < (List.length y22_0 : Int) then
         (L_law_DeltaMakersMatch_0 n n y2 y4 y13 y14 y15 y16 y20 y21 (List.set y22_0 (Int.toNat y1) y3) y22_1 y22_2 (List.replicate (Int.toNat (IntKind.i64.wrap (y0 + 1))) ([] : List YElem.den)) (List.replicate (Int.toNat y0) false) (List.replicate (Int.toNat y0) ([] : List YAttr.den)) y1)
        else none)
       else none))
     else none)
    (agree
     (if 0 ≤ (y0 : Int) ∧ (y0 : Int) = y0 ∧ (y0 : Int) * 24 ≤ 140737488355328 ∧ (y0 : Int) ≤ 140737488355328 then
      (agree
       (if 0 ≤ ((IntKind.i64.wrap (y0 + 1)) : Int) ∧ ((IntKind.i64.wrap (y0 + 1)) : Int) = (IntKind.i64.wrap (y0 + 1)) ∧ ((IntKind.i64.wrap (y0 + 1)) : Int) * 24 ≤ 140737488355328 ∧ ((IntKind.i64.wrap (y0 + 1)) : Int) ≤ 140737488355328 then
        (if 0 ≤ (y1 : Int) ∧ (y1 : Int) < (List.length y22_0 : Int) then
         (L_law_DeltaMakersMatch_0 n n y2 y4 y13 y14 y15 y16 y20 y21 (List.set y22_0 (Int.toNat y1) y3) y22_1 y22_2 (List.replicate (Int.toNat (IntKind.i64.wrap (y0 + 1))) ([] : List YElem.den)) (List.replicate (Int.toNat y0) false) (List.replicate (Int.toNat y0) ([] : List YAttr.den)) y1)
        else none)
       else none)
       (if 0 ≤ ((IntKind.i64.wrap (y0 + 1)) : Int) ∧ ((IntKind.i64.wrap (y0 + 1)) : Int) = (IntKind.i64.wrap (y0 + 1)) ∧ ((IntKind.i64.wrap (y0 + 1)) : Int) * 24 ≤ 140737488355328 ∧ ((IntKind.i64.wrap (y0 + 1)) : Int) ≤ 140737488355328 then
        (if 0 ≤ (y1 : Int) ∧ (y1 : Int) < (List.length y22_0 : Int) then
         (L_law_DeltaMakersMatch_0 n n y2 y4 y13 y14 y15 y16 y20 y21 (List.set y22_0 (Int.toNat y1) y3) y22_1 y22_2 (List.replicate (Int.toNat (IntKind.i64.wrap (y0 + 1))) ([] : List YElem.den)) (List.replicate (Int.toNat y0) false) (List.replicate (Int.toNat y0) ([] : List YAttr.den)) y1)
        else none)
       else none))
     else none)
     (if 0 ≤ ((IntKind.i64.wrap (y0 + 1)) : Int) ∧ ((IntKind.i64.wrap (y0 + 1)) : Int) = (IntKind.i64.wrap (y0 + 1)) ∧ ((IntKind.i64.wrap (y0 + 1)) : Int) * 24 ≤ 140737488355328 ∧ ((IntKind.i64.wrap (y0 + 1)) : Int) ≤ 140737488355328 then
      (if 0 ≤ (y0 : Int) ∧ (y0 : Int) = y0 ∧ (y0 : Int) * 24 ≤ 140737488355328 ∧ (y0 : Int) ≤ 140737488355328 then
       (if 0 ≤ (y1 : Int) ∧ (y1 : Int) < (List.length y22_0 : Int) then
        (L_law_DeltaMakersMatch_0 n n y2 y4 y13 y14 y15 y16 y20 y21 (List.set y22_0 (Int.toNat y1) y3) y22_1 y22_2 (List.replicate (Int.toNat (IntKind.i64.wrap (y0 + 1))) ([] : List YElem.den)) (List.replicate (Int.toNat y0) false) (List.replicate (Int.toNat y0) ([] : List YAttr.den)) y1)
       else none)
      else none)
     else none)))
   else none)
  (agree
   (if 0 ≤ (y0 : Int) ∧ (y0 : Int) = y0 ∧ (y0 : Int) * 24 ≤ 140737488355328 ∧ (y0 : Int) ≤ 140737488355328 then
    (agree
     (if 0 ≤ ((IntKind.i64.wrap (y0 + 1)) : Int) ∧ ((IntKind.i64.wrap (y0 + 1)) : Int) = (IntKind.i64.wrap (y0 + 1)) ∧ ((IntKind.i64.wrap (y0 + 1)) : Int) * 24 ≤ 140737488355328 ∧ ((IntKind.i64.wrap (y0 + 1)) : Int) ≤ 140737488355328 then
      (agree
       (if 0 ≤ (y0 : Int) ∧ (y0 : Int) = y0 ∧ (y0 : Int) * 1 ≤ 140737488355328 ∧ (y0 : Int) ≤ 140737488355328 then
        (if 0 ≤ (y1 : Int) ∧ (y1 : Int) < (List.length y22_0 : Int) then
         (L_law_DeltaMakersMatch_0 n n y2 y4 y13 y14 y15 y16 y20 y21 (List.set y22_0 (Int.toNat y1) y3) y22_1 y22_2 (List.replicate (Int.toNat (IntKind.i64.wrap (y0 + 1))) ([] : List YElem.den)) (List.replicate (Int.toNat y0) false) (List.replicate (Int.toNat y0) ([] : List YAttr.den)) y1)
        else none)
       else none)
       (if 0 ≤ (y0 : Int) ∧ (y0 : Int) = y0 ∧ (y0 : Int) * 1 ≤ 140737488355328 ∧ (y0 : Int) ≤ 140737488355328 then
        (if 0 ≤ (y1 : Int) ∧ (y1 : Int) < (List.length y22_0 : Int) then
         (L_law_DeltaMakersMatch_0 n n y2 y4 y13 y14 y15 y16 y20 y21 (List.set y22_0 (Int.toNat y1) y3) y22_1 y22_2 (List.replicate (Int.toNat (IntKind.i64.wrap (y0 + 1))) ([] : List YElem.den)) (List.replicate (Int.toNat y0) false) (List.replicate (Int.toNat y0) ([] : List YAttr.den)) y1)
        else none)
       else none))
     else none)
    (agree
     (if 0 ≤ (y0 : Int) ∧ (y0 : Int) = y0 ∧ (y0 : Int) * 1 ≤ 140737488355328 ∧ (y0 : Int) ≤ 140737488355328 then
      (agree
       (if 0 ≤ ((IntKind.i64.wrap (y0 + 1)) : Int) ∧ ((IntKind.i64.wrap (y0 + 1)) : Int) = (IntKind.i64.wrap (y0 + 1)) ∧ ((IntKind.i64.wrap (y0 + 1)) : Int) * 24 ≤ 140737488355328 ∧ ((IntKind.i64.wrap (y0 + 1)) : Int) ≤ 140737488355328 then
        (if 0 ≤ (y1 : Int) ∧ (y1 : Int) < (List.length y22_0 : Int) then
         (L_law_DeltaMakersMatch_0 n n y2 y4 y13 y14 y15 y16 y20 y21 (List.set y22_0 (Int.toNat y1) y3) y22_1 y22_2 (List.replicate (Int.toNat (IntKind.i64.wrap (y0 + 1))) ([] : List YElem.den)) (List.replicate (Int.toNat y0) false) (List.replicate (Int.toNat y0) ([] : List YAttr.den)) y1)
        else none)
       else none)
       (if 0 ≤ ((IntKind.i64.wrap (y0 + 1)) : Int) ∧ ((IntKind.i64.wrap (y0 + 1)) : Int) = (IntKind.i64.wrap (y0 + 1)) ∧ ((IntKind.i64.wrap (y0 + 1)) : Int) * 24 ≤ 140737488355328 ∧ ((IntKind.i64.wrap (y0 + 1)) : Int) ≤ 140737488355328 then
        (if 0 ≤ (y1 : Int) ∧ (y1 : Int) < (List.length y22_0 : Int) then
         (L_law_DeltaMakersMatch_0 n n y2 y4 y13 y14 y15 y16 y20 y21 (List.set y22_0 (Int.toNat y1) y3) y22_1 y22_2 (List.replicate (Int.toNat (IntKind.i64.wrap (y0 + 1))) ([] : List YElem.den)) (List.replicate (Int.toNat y0) false) (List.replicate (Int.toNat y0) ([] : List YAttr.den)) y1)
        else none)
       else none))
     else none)
     (if 0 ≤ ((IntKind.i64.wrap (y0 + 1)) : Int) ∧ ((IntKind.i64.wrap (y0 + 1)) : Int) = (IntKind.i64.wrap (y0 + 1)) ∧ ((IntKind.i64.wrap (y0 + 1)) : Int) * 24 ≤ 140737488355328 ∧ ((IntKind.i64.wrap (y0 + 1)) : Int) ≤ 140737488355328 then
      (if 0 ≤ (y0 : Int) ∧ (y0 : Int) = y0 ∧ (y0 : Int) * 1 ≤ 140737488355328 ∧ (y0 : Int) ≤ 140737488355328 then
       (if 0 ≤ (y1 : Int) ∧ (y1 : Int) < (List.length y22_0 : Int) then
        (L_law_DeltaMakersMatch_0 n n y2 y4 y13 y14 y15 y16 y20 y21 (List.set y22_0 (Int.toNat y1) y3) y22_1 y22_2 (List.replicate (Int.toNat (IntKind.i64.wrap (y0 + 1))) ([] : List YElem.den)) (List.replicate (Int.toNat y0) false) (List.replicate (Int.toNat y0) ([] : List YAttr.den)) y1)
       else none)
      else none)
     else none)))
   else none)
   (if 0 ≤ ((IntKind.i64.wrap (y0 + 1)) : Int) ∧ ((IntKind.i64.wrap (y0 + 1)) : Int) = (IntKind.i64.wrap (y0 + 1)) ∧ ((IntKind.i64.wrap (y0 + 1)) : Int) * 24 ≤ 140737488355328 ∧ ((IntKind.i64.wrap (y0 + 1)) : Int) ≤ 140737488355328 then
    (if 0 ≤ (y0 : Int) ∧ (y0 : Int) = y0 ∧ (y0 : Int) * 1 ≤ 140737488355328 ∧ (y0 : Int) ≤ 140737488355328 then
     (if 0 ≤ (y0 : Int) ∧ (y0 : Int) = y0 ∧ (y0 : Int) * 24 ≤ 140737488355328 ∧ (y0 : Int) ≤ 140737488355328 then
      (if 0 ≤ (y1 : Int) ∧ (y1 : Int) < (List.length y22_0 : Int) then
       (L_law_DeltaMakersMatch_0 n n y2 y4 y13 y14 y15 y16 y20 y21 (List.set y22_0 (Int.toNat y1) y3) y22_1 y22_2 (List.replicate (Int.toNat (IntKind.i64.wrap (y0 + 1))) ([] : List YElem.den)) (List.replicate (Int.toNat y0) false) (List.replicate (Int.toNat y0) ([] : List YAttr.den)) y1)
      else none)
     else none)
    else none)
   else none)))) := by kernel_rfl
theorem K_law_DeltaMakersMatch_0_step (n : Nat) (y0 : Int) (y1 : Int) (y2 : Int) (y3 : List YElem.den) (y4 : List YAttr.den) (y13 : List YStep.den) (y14 : Int) (y15 : List YStep.den) (y16 : Int) (y20 : Int) (y21 : Int) (y22_0 : List (List YElem.den)) (y22_1 : List (Bool)) (y22_2 : List (List YAttr.den)) : K_law_DeltaMakersMatch_0 n y0 y1 y2 y3 y4 y13 y14 y15 y16 y20 y21 y22_0 y22_1 y22_2 =
  (if 0 ≤ ((IntKind.i64.wrap (y0 + 1)) : Int) ∧ ((IntKind.i64.wrap (y0 + 1)) : Int) = (IntKind.i64.wrap (y0 + 1)) ∧ ((IntKind.i64.wrap (y0 + 1)) : Int) * 24 ≤ 140737488355328 ∧ ((IntKind.i64.wrap (y0 + 1)) : Int) ≤ 140737488355328 then
   (if 0 ≤ (y0 : Int) ∧ (y0 : Int) = y0 ∧ (y0 : Int) * 1 ≤ 140737488355328 ∧ (y0 : Int) ≤ 140737488355328 then
    (if 0 ≤ (y0 : Int) ∧ (y0 : Int) = y0 ∧ (y0 : Int) * 24 ≤ 140737488355328 ∧ (y0 : Int) ≤ 140737488355328 then
     (if 0 ≤ (y1 : Int) ∧ (y1 : Int) < (List.length y22_0 : Int) then
      (L_law_DeltaMakersMatch_0 n n y2 y4 y13 y14 y15 y16 y20 y21 (List.set y22_0 (Int.toNat y1) y3) y22_1 y22_2 (List.replicate (Int.toNat (IntKind.i64.wrap (y0 + 1))) ([] : List YElem.den)) (List.replicate (Int.toNat y0) false) (List.replicate (Int.toNat y0) ([] : List YAttr.den)) y1)
     else none)
    else none)
   else none)
  else none) := by rw [K_law_DeltaMakersMatch_0_raw]; by_cases hc0 : 0 ≤ (y0 : Int) ∧ (y0 : Int) = y0 ∧ (y0 : Int) * 1 ≤ 140737488355328 ∧ (y0 : Int) ≤ 140737488355328 <;> by_cases hc1 : 0 ≤ (y0 : Int) ∧ (y0 : Int) = y0 ∧ (y0 : Int) * 24 ≤ 140737488355328 ∧ (y0 : Int) ≤ 140737488355328 <;> by_cases hc2 : 0 ≤ (y1 : Int) ∧ (y1 : Int) < (List.length y22_0 : Int) <;> by_cases hc3 : 0 ≤ ((IntKind.i64.wrap (y0 + 1)) : Int) ∧ ((IntKind.i64.wrap (y0 + 1)) : Int) = (IntKind.i64.wrap (y0 + 1)) ∧ ((IntKind.i64.wrap (y0 + 1)) : Int) * 24 ≤ 140737488355328 ∧ ((IntKind.i64.wrap (y0 + 1)) : Int) ≤ 140737488355328 <;> simp only [↓hc0, ↓hc1, ↓hc2, ↓hc3, if_true, if_false, and_self, ite_self, agree_self]
noncomputable def knAt (T : TypeId → Option TI) (env : Env) (os : RegT) (s : Sig) (fn : Func) (hs : List Keep) (n : Nat) (p : List Dir) : St → Option s.Out :=
  match fn.body with
  | none => fun _ => none
  | some c => match focus T env os n p ⟨c, hs, retK T s fn, fun _ _ => none, retK T s fn⟩ with
    | ⟨.region id ops draw, _, kn, _, _⟩ => kn
    | _ => fun _ => none
noncomputable def regAt (T : TypeId → Option TI) (env : Env) (os : RegT) (s : Sig) (fn : Func) (hs : List Keep) (n : Nat) (p : List Dir) (σ : St) (k : St → Option s.Out) : Option s.Out :=
  match fn.body with
  | none => none
  | some c => match focus T env os n p ⟨c, hs, retK T s fn, fun _ _ => none, retK T s fn⟩ with
    | ⟨.region id ops draw, _, _, _, _⟩ => regX T env os id ops draw σ k
    | _ => none
theorem KA_law_DeltaMakersMatch (n : Nat) (σ : St) : knAt T (env_law_DeltaMakersMatch) os_law_DeltaMakersMatch sig_law_DeltaMakersMatch Try.f5 hs_law_DeltaMakersMatch n [.sr, .sr, .sr, .sr, .sr, .sr, .sr, .sr, .sr, .sr, .sl] σ = joinAt T (env_law_DeltaMakersMatch) os_law_DeltaMakersMatch sig_law_DeltaMakersMatch Try.f5 hs_law_DeltaMakersMatch n [.sr, .sr, .sr, .sr, .sr, .sr, .sr, .sr, .sr, .sr, .sr, .sl] (scrub [(0, []), (1, []), (2, []), (3, []), (4, []), (13, []), (14, []), (15, []), (16, []), (20, []), (21, []), (22, [(0, 28, (.list YElem)), (1, 4, .bool), (2, 27, (.list YAttr))])] σ) := by kernel_rfl
theorem KB_law_DeltaMakersMatch (n : Nat) (y0 : Int) (y1 : Int) (y2 : Int) (y3 : List YElem.den) (y4 : List YAttr.den) (y13 : List YStep.den) (y14 : Int) (y15 : List YStep.den) (y16 : Int) (y20 : Int) (y21 : Int)  : K_law_DeltaMakersMatch_1 n y0 y1 y2 y3 y4 y13 y14 y15 y16 y20 y21  = regAt T (env_law_DeltaMakersMatch) os_law_DeltaMakersMatch sig_law_DeltaMakersMatch Try.f5 hs_law_DeltaMakersMatch n [.sr, .sr, .sr, .sr, .sr, .sr, .sr, .sr, .sr, .sr, .sl] (mk 200 [(0, .cs false [.val (.int .i64) y0]), (1, .cs false [.val (.int .i64) y1]), (2, .cs false [.val (.int .i64) y2]), (3, .cs false [.val (.list YElem) y3]), (4, .cs false [.val (.list YAttr) y4]), (13, .cs false [.val (.list YStep) y13]), (14, .cs false [.val (.int .i64) y14]), (15, .cs false [.val (.list YStep) y15]), (16, .cs false [.val (.int .i64) y16]), (20, .cs false [.val (.int .i64) y20]), (21, .cs false [.val (.int .i64) y21])]) (knAt T (env_law_DeltaMakersMatch) os_law_DeltaMakersMatch sig_law_DeltaMakersMatch Try.f5 hs_law_DeltaMakersMatch n [.sr, .sr, .sr, .sr, .sr, .sr, .sr, .sr, .sr, .sr, .sl]) := by kernel_rfl
theorem KC_law_DeltaMakersMatch (n : Nat) (y0 : Int) (y1 : Int) (y2 : Int) (y3 : List YElem.den) (y4 : List YAttr.den) (y13 : List YStep.den) (y14 : Int) (y15 : List YStep.den) (y16 : Int) (y20 : Int) (y21 : Int)  (J : St → Option sig_law_DeltaMakersMatch.Out) : regAt T (env_law_DeltaMakersMatch) os_law_DeltaMakersMatch sig_law_DeltaMakersMatch Try.f5 hs_law_DeltaMakersMatch n [.sr, .sr, .sr, .sr, .sr, .sr, .sr, .sr, .sr, .sr, .sl] (mk 200 [(0, .cs false [.val (.int .i64) y0]), (1, .cs false [.val (.int .i64) y1]), (2, .cs false [.val (.int .i64) y2]), (3, .cs false [.val (.list YElem) y3]), (4, .cs false [.val (.list YAttr) y4]), (13, .cs false [.val (.list YStep) y13]), (14, .cs false [.val (.int .i64) y14]), (15, .cs false [.val (.list YStep) y15]), (16, .cs false [.val (.int .i64) y16]), (20, .cs false [.val (.int .i64) y20]), (21, .cs false [.val (.int .i64) y21])]) (fun σ => J (scrub [(0, []), (1, []), (2, []), (3, []), (4, []), (13, []), (14, []), (15, []), (16, []), (20, []), (21, []), (22, [(0, 28, (.list YElem)), (1, 4, .bool), (2, 27, (.list YAttr))])] σ)) =
  (agree
   (if 0 ≤ ((IntKind.i64.wrap (y0 + 1)) : Int) ∧ ((IntKind.i64.wrap (y0 + 1)) : Int) = (IntKind.i64.wrap (y0 + 1)) ∧ ((IntKind.i64.wrap (y0 + 1)) : Int) * 24 ≤ 140737488355328 ∧ ((IntKind.i64.wrap (y0 + 1)) : Int) ≤ 140737488355328 then
    (agree
     (if 0 ≤ (y0 : Int) ∧ (y0 : Int) = y0 ∧ (y0 : Int) * 1 ≤ 140737488355328 ∧ (y0 : Int) ≤ 140737488355328 then
      (agree
       (if 0 ≤ (y0 : Int) ∧ (y0 : Int) = y0 ∧ (y0 : Int) * 24 ≤ 140737488355328 ∧ (y0 : Int) ≤ 140737488355328 then
        (J (mk 200 [(0, .cs false [.val (.int .i64) y0]), (1, .cs false [.val (.int .i64) y1]), (2, .cs false [.val (.int .i64) y2]), (3, .cs false [.val (.list YElem) y3]), (4, .cs false [.val (.list YAttr) y4]), (13, .cs false [.val (.list YStep) y13]), (14, .cs false [.val (.int .i64) y14]), (15, .cs false [.val (.list YStep) y15]), (16, .cs false [.val (.int .i64) y16]), (20, .cs false [.val (.int .i64) y20]), (21, .cs false [.val (.int .i64) y21]), (22, .box [.own 28 (.list YElem) (List.replicate (Int.toNat (IntKind.i64.wrap (y0 + 1))) ([] : List YElem.den)), .own 4 .bool (List.replicate (Int.toNat y0) false), .own 27 (.list YAttr) (List.replicate (Int.toNat y0) ([] : List YAttr.den))])]))
       else none)
       (if 0 ≤ (y0 : Int) ∧ (y0 : Int) = y0 ∧ (y0 : Int) * 24 ≤ 140737488355328 ∧ (y0 : Int) ≤ 140737488355328 then
        (J (mk 200 [(0, .cs false [.val (.int .i64) y0]), (1, .cs false [.val (.int .i64) y1]), (2, .cs false [.val (.int .i64) y2]), (3, .cs false [.val (.list YElem) y3]), (4, .cs false [.val (.list YAttr) y4]), (13, .cs false [.val (.list YStep) y13]), (14, .cs false [.val (.int .i64) y14]), (15, .cs false [.val (.list YStep) y15]), (16, .cs false [.val (.int .i64) y16]), (20, .cs false [.val (.int .i64) y20]), (21, .cs false [.val (.int .i64) y21]), (22, .box [.own 28 (.list YElem) (List.replicate (Int.toNat (IntKind.i64.wrap (y0 + 1))) ([] : List YElem.den)), .own 4 .bool (List.replicate (Int.toNat y0) false), .own 27 (.list YAttr) (List.replicate (Int.toNat y0) ([] : List YAttr.den))])]))
       else none))
     else none)
    (agree
     (if 0 ≤ (y0 : Int) ∧ (y0 : Int) = y0 ∧ (y0 : Int) * 24 ≤ 140737488355328 ∧ (y0 : Int) ≤ 140737488355328 then
      (agree
       (if 0 ≤ (y0 : Int) ∧ (y0 : Int) = y0 ∧ (y0 : Int) * 1 ≤ 140737488355328 ∧ (y0 : Int) ≤ 140737488355328 then
        (J (mk 200 [(0, .cs false [.val (.int .i64) y0]), (1, .cs false [.val (.int .i64) y1]), (2, .cs false [.val (.int .i64) y2]), (3, .cs false [.val (.list YElem) y3]), (4, .cs false [.val (.list YAttr) y4]), (13, .cs false [.val (.list YStep) y13]), (14, .cs false [.val (.int .i64) y14]), (15, .cs false [.val (.list YStep) y15]), (16, .cs false [.val (.int .i64) y16]), (20, .cs false [.val (.int .i64) y20]), (21, .cs false [.val (.int .i64) y21]), (22, .box [.own 28 (.list YElem) (List.replicate (Int.toNat (IntKind.i64.wrap (y0 + 1))) ([] : List YElem.den)), .own 4 .bool (List.replicate (Int.toNat y0) false), .own 27 (.list YAttr) (List.replicate (Int.toNat y0) ([] : List YAttr.den))])]))
       else none)
       (if 0 ≤ (y0 : Int) ∧ (y0 : Int) = y0 ∧ (y0 : Int) * 1 ≤ 140737488355328 ∧ (y0 : Int) ≤ 140737488355328 then
        (J (mk 200 [(0, .cs false [.val (.int .i64) y0]), (1, .cs false [.val (.int .i64) y1]), (2, .cs false [.val (.int .i64) y2]), (3, .cs false [.val (.list YElem) y3]), (4, .cs false [.val (.list YAttr) y4]), (13, .cs false [.val (.list YStep) y13]), (14, .cs false [.val (.int .i64) y14]), (15, .cs false [.val (.list YStep) y15]), (16, .cs false [.val (.int .i64) y16]), (20, .cs false [.val (.int .i64) y20]), (21, .cs false [.val (.int .i64) y21]), (22, .box [.own 28 (.list YElem) (List.replicate (Int.toNat (IntKind.i64.wrap (y0 + 1))) ([] : List YElem.den)), .own 4 .bool (List.replicate (Int.toNat y0) false), .own 27 (.list YAttr) (List.replicate (Int.toNat y0) ([] : List YAttr.den))])]))
       else none))
     else none)
     (if 0 ≤ (y0 : Int) ∧ (y0 : Int) = y0 ∧ (y0 : Int) * 1 ≤ 140737488355328 ∧ (y0 : Int) ≤ 140737488355328 then
      (if 0 ≤ (y0 : Int) ∧ (y0 : Int) = y0 ∧ (y0 : Int) * 24 ≤ 140737488355328 ∧ (y0 : Int) ≤ 140737488355328 then
       (J (mk 200 [(0, .cs false [.val (.int .i64) y0]), (1, .cs false [.val (.int .i64) y1]), (2, .cs false [.val (.int .i64) y2]), (3, .cs false [.val (.list YElem) y3]), (4, .cs false [.val (.list YAttr) y4]), (13, .cs false [.val (.list YStep) y13]), (14, .cs false [.val (.int .i64) y14]), (15, .cs false [.val (.list YStep) y15]), (16, .cs false [.val (.int .i64) y16]), (20, .cs false [.val (.int .i64) y20]), (21, .cs false [.val (.int .i64) y21]), (22, .box [.own 28 (.list YElem) (List.replicate (Int.toNat (IntKind.i64.wrap (y0 + 1))) ([] : List YElem.den)), .own 4 .bool (List.replicate (Int.toNat y0) false), .own 27 (.list YAttr) (List.replicate (Int.toNat y0) ([] : List YAttr.den))])]))
      else none)
     else none)))
   else none)
  (agree
   (if 0 ≤ (y0 : Int) ∧ (y0 : Int) = y0 ∧ (y0 : Int) * 1 ≤ 140737488355328 ∧ (y0 : Int) ≤ 140737488355328 then
    (agree
     (if 0 ≤ ((IntKind.i64.wrap (y0 + 1)) : Int) ∧ ((IntKind.i64.wrap (y0 + 1)) : Int) = (IntKind.i64.wrap (y0 + 1)) ∧ ((IntKind.i64.wrap (y0 + 1)) : Int) * 24 ≤ 140737488355328 ∧ ((IntKind.i64.wrap (y0 + 1)) : Int) ≤ 140737488355328 then
      (agree
       (if 0 ≤ (y0 : Int) ∧ (y0 : Int) = y0 ∧ (y0 : Int) * 24 ≤ 140737488355328 ∧ (y0 : Int) ≤ 140737488355328 then
        (J (mk 200 [(0, .cs false [.val (.int .i64) y0]), (1, .cs false [.val (.int .i64) y1]), (2, .cs false [.val (.int .i64) y2]), (3, .cs false [.val (.list YElem) y3]), (4, .cs false [.val (.list YAttr) y4]), (13, .cs false [.val (.list YStep) y13]), (14, .cs false [.val (.int .i64) y14]), (15, .cs false [.val (.list YStep) y15]), (16, .cs false [.val (.int .i64) y16]), (20, .cs false [.val (.int .i64) y20]), (21, .cs false [.val (.int .i64) y21]), (22, .box [.own 28 (.list YElem) (List.replicate (Int.toNat (IntKind.i64.wrap (y0 + 1))) ([] : List YElem.den)), .own 4 .bool (List.replicate (Int.toNat y0) false), .own 27 (.list YAttr) (List.replicate (Int.toNat y0) ([] : List YAttr.den))])]))
       else none)
       (if 0 ≤ (y0 : Int) ∧ (y0 : Int) = y0 ∧ (y0 : Int) * 24 ≤ 140737488355328 ∧ (y0 : Int) ≤ 140737488355328 then
        (J (mk 200 [(0, .cs false [.val (.int .i64) y0]), (1, .cs false [.val (.int .i64) y1]), (2, .cs false [.val (.int .i64) y2]), (3, .cs false [.val (.list YElem) y3]), (4, .cs false [.val (.list YAttr) y4]), (13, .cs false [.val (.list YStep) y13]), (14, .cs false [.val (.int .i64) y14]), (15, .cs false [.val (.list YStep) y15]), (16, .cs false [.val (.int .i64) y16]), (20, .cs false [.val (.int .i64) y20]), (21, .cs false [.val (.int .i64) y21]), (22, .box [.own 28 (.list YElem) (List.replicate (Int.toNat (IntKind.i64.wrap (y0 + 1))) ([] : List YElem.den)), .own 4 .bool (List.replicate (Int.toNat y0) false), .own 27 (.list YAttr) (List.replicate (Int.toNat y0) ([] : List YAttr.den))])]))
       else none))
     else none)
    (agree
     (if 0 ≤ (y0 : Int) ∧ (y0 : Int) = y0 ∧ (y0 : Int) * 24 ≤ 140737488355328 ∧ (y0 : Int) ≤ 140737488355328 then
      (agree
       (if 0 ≤ ((IntKind.i64.wrap (y0 + 1)) : Int) ∧ ((IntKind.i64.wrap (y0 + 1)) : Int) = (IntKind.i64.wrap (y0 + 1)) ∧ ((IntKind.i64.wrap (y0 + 1)) : Int) * 24 ≤ 140737488355328 ∧ ((IntKind.i64.wrap (y0 + 1)) : Int) ≤ 140737488355328 then
        (J (mk 200 [(0, .cs false [.val (.int .i64) y0]), (1, .cs false [.val (.int .i64) y1]), (2, .cs false [.val (.int .i64) y2]), (3, .cs false [.val (.list YElem) y3]), (4, .cs false [.val (.list YAttr) y4]), (13, .cs false [.val (.list YStep) y13]), (14, .cs false [.val (.int .i64) y14]), (15, .cs false [.val (.list YStep) y15]), (16, .cs false [.val (.int .i64) y16]), (20, .cs false [.val (.int .i64) y20]), (21, .cs false [.val (.int .i64) y21]), (22, .box [.own 28 (.list YElem) (List.replicate (Int.toNat (IntKind.i64.wrap (y0 + 1))) ([] : List YElem.den)), .own 4 .bool (List.replicate (Int.toNat y0) false), .own 27 (.list YAttr) (List.replicate (Int.toNat y0) ([] : List YAttr.den))])]))
       else none)
       (if 0 ≤ ((IntKind.i64.wrap (y0 + 1)) : Int) ∧ ((IntKind.i64.wrap (y0 + 1)) : Int) = (IntKind.i64.wrap (y0 + 1)) ∧ ((IntKind.i64.wrap (y0 + 1)) : Int) * 24 ≤ 140737488355328 ∧ ((IntKind.i64.wrap (y0 + 1)) : Int) ≤ 140737488355328 then
        (J (mk 200 [(0, .cs false [.val (.int .i64) y0]), (1, .cs false [.val (.int .i64) y1]), (2, .cs false [.val (.int .i64) y2]), (3, .cs false [.val (.list YElem) y3]), (4, .cs false [.val (.list YAttr) y4]), (13, .cs false [.val (.list YStep) y13]), (14, .cs false [.val (.int .i64) y14]), (15, .cs false [.val (.list YStep) y15]), (16, .cs false [.val (.int .i64) y16]), (20, .cs false [.val (.int .i64) y20]), (21, .cs false [.val (.int .i64) y21]), (22, .box [.own 28 (.list YElem) (List.replicate (Int.toNat (IntKind.i64.wrap (y0 + 1))) ([] : List YElem.den)), .own 4 .bool (List.replicate (Int.toNat y0) false), .own 27 (.list YAttr) (List.replicate (Int.toNat y0) ([] : List YAttr.den))])]))
       else none))
     else none)
     (if 0 ≤ ((IntKind.i64.wrap (y0 + 1)) : Int) ∧ ((IntKind.i64.wrap (y0 + 1)) : Int) = (IntKind.i64.wrap (y0 + 1)) ∧ ((IntKind.i64.wrap (y0 + 1)) : Int) * 24 ≤ 140737488355328 ∧ ((IntKind.i64.wrap (y0 + 1)) : Int) ≤ 140737488355328 then
      (if 0 ≤ (y0 : Int) ∧ (y0 : Int) = y0 ∧ (y0 : Int) * 24 ≤ 140737488355328 ∧ (y0 : Int) ≤ 140737488355328 then
       (J (mk 200 [(0, .cs false [.val (.int .i64) y0]), (1, .cs false [.val (.int .i64) y1]), (2, .cs false [.val (.int .i64) y2]), (3, .cs false [.val (.list YElem) y3]), (4, .cs false [.val (.list YAttr) y4]), (13, .cs false [.val (.list YStep) y13]), (14, .cs false [.val (.int .i64) y14]), (15, .cs false [.val (.list YStep) y15]), (16, .cs false [.val (.int .i64) y16]), (20, .cs false [.val (.int .i64) y20]), (21, .cs false [.val (.int .i64) y21]), (22, .box [.own 28 (.list YElem) (List.replicate (Int.toNat (IntKind.i64.wrap (y0 + 1))) ([] : List YElem.den)), .own 4 .bool (List.replicate (Int.toNat y0) false), .own 27 (.list YAttr) (List.replicate (Int.toNat y0) ([] : List YAttr.den))])]))
      else none)
     else none)))
   else none)
  (agree
   (if 0 ≤ (y0 : Int) ∧ (y0 : Int) = y0 ∧ (y0 : Int) * 24 ≤ 140737488355328 ∧ (y0 : Int) ≤ 140737488355328 then
    (agree
     (if 0 ≤ ((IntKind.i64.wrap (y0 + 1)) : Int) ∧ ((IntKind.i64.wrap (y0 + 1)) : Int) = (IntKind.i64.wrap (y0 + 1)) ∧ ((IntKind.i64.wrap (y0 + 1)) : Int) * 24 ≤ 140737488355328 ∧ ((IntKind.i64.wrap (y0 + 1)) : Int) ≤ 140737488355328 then
      (agree
       (if 0 ≤ (y0 : Int) ∧ (y0 : Int) = y0 ∧ (y0 : Int) * 1 ≤ 140737488355328 ∧ (y0 : Int) ≤ 140737488355328 then
        (J (mk 200 [(0, .cs false [.val (.int .i64) y0]), (1, .cs false [.val (.int .i64) y1]), (2, .cs false [.val (.int .i64) y2]), (3, .cs false [.val (.list YElem) y3]), (4, .cs false [.val (.list YAttr) y4]), (13, .cs false [.val (.list YStep) y13]), (14, .cs false [.val (.int .i64) y14]), (15, .cs false [.val (.list YStep) y15]), (16, .cs false [.val (.int .i64) y16]), (20, .cs false [.val (.int .i64) y20]), (21, .cs false [.val (.int .i64) y21]), (22, .box [.own 28 (.list YElem) (List.replicate (Int.toNat (IntKind.i64.wrap (y0 + 1))) ([] : List YElem.den)), .own 4 .bool (List.replicate (Int.toNat y0) false), .own 27 (.list YAttr) (List.replicate (Int.toNat y0) ([] : List YAttr.den))])]))
       else none)
       (if 0 ≤ (y0 : Int) ∧ (y0 : Int) = y0 ∧ (y0 : Int) * 1 ≤ 140737488355328 ∧ (y0 : Int) ≤ 140737488355328 then
        (J (mk 200 [(0, .cs false [.val (.int .i64) y0]), (1, .cs false [.val (.int .i64) y1]), (2, .cs false [.val (.int .i64) y2]), (3, .cs false [.val (.list YElem) y3]), (4, .cs false [.val (.list YAttr) y4]), (13, .cs false [.val (.list YStep) y13]), (14, .cs false [.val (.int .i64) y14]), (15, .cs false [.val (.list YStep) y15]), (16, .cs false [.val (.int .i64) y16]), (20, .cs false [.val (.int .i64) y20]), (21, .cs false [.val (.int .i64) y21]), (22, .box [.own 28 (.list YElem) (List.replicate (Int.toNat (IntKind.i64.wrap (y0 + 1))) ([] : List YElem.den)), .own 4 .bool (List.replicate (Int.toNat y0) false), .own 27 (.list YAttr) (List.replicate (Int.toNat y0) ([] : List YAttr.den))])]))
       else none))
     else none)
    (agree
     (if 0 ≤ (y0 : Int) ∧ (y0 : Int) = y0 ∧ (y0 : Int) * 1 ≤ 140737488355328 ∧ (y0 : Int) ≤ 140737488355328 then
      (agree
       (if 0 ≤ ((IntKind.i64.wrap (y0 + 1)) : Int) ∧ ((IntKind.i64.wrap (y0 + 1)) : Int) = (IntKind.i64.wrap (y0 + 1)) ∧ ((IntKind.i64.wrap (y0 + 1)) : Int) * 24 ≤ 140737488355328 ∧ ((IntKind.i64.wrap (y0 + 1)) : Int) ≤ 140737488355328 then
        (J (mk 200 [(0, .cs false [.val (.int .i64) y0]), (1, .cs false [.val (.int .i64) y1]), (2, .cs false [.val (.int .i64) y2]), (3, .cs false [.val (.list YElem) y3]), (4, .cs false [.val (.list YAttr) y4]), (13, .cs false [.val (.list YStep) y13]), (14, .cs false [.val (.int .i64) y14]), (15, .cs false [.val (.list YStep) y15]), (16, .cs false [.val (.int .i64) y16]), (20, .cs false [.val (.int .i64) y20]), (21, .cs false [.val (.int .i64) y21]), (22, .box [.own 28 (.list YElem) (List.replicate (Int.toNat (IntKind.i64.wrap (y0 + 1))) ([] : List YElem.den)), .own 4 .bool (List.replicate (Int.toNat y0) false), .own 27 (.list YAttr) (List.replicate (Int.toNat y0) ([] : List YAttr.den))])]))
       else none)
       (if 0 ≤ ((IntKind.i64.wrap (y0 + 1)) : Int) ∧ ((IntKind.i64.wrap (y0 + 1)) : Int) = (IntKind.i64.wrap (y0 + 1)) ∧ ((IntKind.i64.wrap (y0 + 1)) : Int) * 24 ≤ 140737488355328 ∧ ((IntKind.i64.wrap (y0 + 1)) : Int) ≤ 140737488355328 then
        (J (mk 200 [(0, .cs false [.val (.int .i64) y0]), (1, .cs false [.val (.int .i64) y1]), (2, .cs false [.val (.int .i64) y2]), (3, .cs false [.val (.list YElem) y3]), (4, .cs false [.val (.list YAttr) y4]), (13, .cs false [.val (.list YStep) y13]), (14, .cs false [.val (.int .i64) y14]), (15, .cs false [.val (.list YStep) y15]), (16, .cs false [.val (.int .i64) y16]), (20, .cs false [.val (.int .i64) y20]), (21, .cs false [.val (.int .i64) y21]), (22, .box [.own 28 (.list YElem) (List.replicate (Int.toNat (IntKind.i64.wrap (y0 + 1))) ([] : List YElem.den)), .own 4 .bool (List.replicate (Int.toNat y0) false), .own 27 (.list YAttr) (List.replicate (Int.toNat y0) ([] : List YAttr.den))])]))
       else none))
     else none)
     (if 0 ≤ ((IntKind.i64.wrap (y0 + 1)) : Int) ∧ ((IntKind.i64.wrap (y0 + 1)) : Int) = (IntKind.i64.wrap (y0 + 1)) ∧ ((IntKind.i64.wrap (y0 + 1)) : Int) * 24 ≤ 140737488355328 ∧ ((IntKind.i64.wrap (y0 + 1)) : Int) ≤ 140737488355328 then
      (if 0 ≤ (y0 : Int) ∧ (y0 : Int) = y0 ∧ (y0 : Int) * 1 ≤ 140737488355328 ∧ (y0 : Int) ≤ 140737488355328 then
       (J (mk 200 [(0, .cs false [.val (.int .i64) y0]), (1, .cs false [.val (.int .i64) y1]), (2, .cs false [.val (.int .i64) y2]), (3, .cs false [.val (.list YElem) y3]), (4, .cs false [.val (.list YAttr) y4]), (13, .cs false [.val (.list YStep) y13]), (14, .cs false [.val (.int .i64) y14]), (15, .cs false [.val (.list YStep) y15]), (16, .cs false [.val (.int .i64) y16]), (20, .cs false [.val (.int .i64) y20]), (21, .cs false [.val (.int .i64) y21]), (22, .box [.own 28 (.list YElem) (List.replicate (Int.toNat (IntKind.i64.wrap (y0 + 1))) ([] : List YElem.den)), .own 4 .bool (List.replicate (Int.toNat y0) false), .own 27 (.list YAttr) (List.replicate (Int.toNat y0) ([] : List YAttr.den))])]))
      else none)
     else none)))
   else none)
   (if 0 ≤ ((IntKind.i64.wrap (y0 + 1)) : Int) ∧ ((IntKind.i64.wrap (y0 + 1)) : Int) = (IntKind.i64.wrap (y0 + 1)) ∧ ((IntKind.i64.wrap (y0 + 1)) : Int) * 24 ≤ 140737488355328 ∧ ((IntKind.i64.wrap (y0 + 1)) : Int) ≤ 140737488355328 then
    (if 0 ≤ (y0 : Int) ∧ (y0 : Int) = y0 ∧ (y0 : Int) * 1 ≤ 140737488355328 ∧ (y0 : Int) ≤ 140737488355328 then
     (if 0 ≤ (y0 : Int) ∧ (y0 : Int) = y0 ∧ (y0 : Int) * 24 ≤ 140737488355328 ∧ (y0 : Int) ≤ 140737488355328 then
      (J (mk 200 [(0, .cs false [.val (.int .i64) y0]), (1, .cs false [.val (.int .i64) y1]), (2, .cs false [.val (.int .i64) y2]), (3, .cs false [.val (.list YElem) y3]), (4, .cs false [.val (.list YAttr) y4]), (13, .cs false [.val (.list YStep) y13]), (14, .cs false [.val (.int .i64) y14]), (15, .cs false [.val (.list YStep) y15]), (16, .cs false [.val (.int .i64) y16]), (20, .cs false [.val (.int .i64) y20]), (21, .cs false [.val (.int .i64) y21]), (22, .box [.own 28 (.list YElem) (List.replicate (Int.toNat (IntKind.i64.wrap (y0 + 1))) ([] : List YElem.den)), .own 4 .bool (List.replicate (Int.toNat y0) false), .own 27 (.list YAttr) (List.replicate (Int.toNat y0) ([] : List YAttr.den))])]))
     else none)
    else none)
   else none)))) := by kernel_rfl
theorem K_law_DeltaMakersMatch_1_raw (n : Nat) (y0 : Int) (y1 : Int) (y2 : Int) (y3 : List YElem.den) (y4 : List YAttr.den) (y13 : List YStep.den) (y14 : Int) (y15 : List YStep.den) (y16 : Int) (y20 : Int) (y21 : Int)  : K_law_DeltaMakersMatch_1 n y0 y1 y2 y3 y4 y13 y14 y15 y16 y20 y21  =
  (agree
   (if 0 ≤ ((IntKind.i64.wrap (y0 + 1)) : Int) ∧ ((IntKind.i64.wrap (y0 + 1)) : Int) = (IntKind.i64.wrap (y0 + 1)) ∧ ((IntKind.i64.wrap (y0 + 1)) : Int) * 24 ≤ 140737488355328 ∧ ((IntKind.i64.wrap (y0 + 1)) : Int) ≤ 140737488355328 then
    (agree
     (if 0 ≤ (y0 : Int) ∧ (y0 : Int) = y0 ∧ (y0 : Int) * 1 ≤ 140737488355328 ∧ (y0 : Int) ≤ 140737488355328 then
      (agree
       (if 0 ≤ (y0 : Int) ∧ (y0 : Int) = y0 ∧ (y0 : Int) * 24 ≤ 140737488355328 ∧ (y0 : Int) ≤ 140737488355328 then
        (K_law_DeltaMakersMatch_0 n y0 y1 y2 y3 y4 y13 y14 y15 y16 y20 y21 (List.replicate (Int.toNat (IntKind.i64.wrap (y0 + 1))) ([] : List YElem.den)) (List.replicate (Int.toNat y0) false) (List.replicate (Int.toNat y0) ([] : List YAttr.den)))
       else none)
       (if 0 ≤ (y0 : Int) ∧ (y0 : Int) = y0 ∧ (y0 : Int) * 24 ≤ 140737488355328 ∧ (y0 : Int) ≤ 140737488355328 then
        (K_law_DeltaMakersMatch_0 n y0 y1 y2 y3 y4 y13 y14 y15 y16 y20 y21 (List.replicate (Int.toNat (IntKind.i64.wrap (y0 + 1))) ([] : List YElem.den)) (List.replicate (Int.toNat y0) false) (List.replicate (Int.toNat y0) ([] : List YAttr.den)))
       else none))
     else none)
    (agree
     (if 0 ≤ (y0 : Int) ∧ (y0 : Int) = y0 ∧ (y0 : Int) * 24 ≤ 140737488355328 ∧ (y0 : Int) ≤ 140737488355328 then
      (agree
       (if 0 ≤ (y0 : Int) ∧ (y0 : Int) = y0 ∧ (y0 : Int) * 1 ≤ 140737488355328 ∧ (y0 : Int) ≤ 140737488355328 then
        (K_law_DeltaMakersMatch_0 n y0 y1 y2 y3 y4 y13 y14 y15 y16 y20 y21 (List.replicate (Int.toNat (IntKind.i64.wrap (y0 + 1))) ([] : List YElem.den)) (List.replicate (Int.toNat y0) false) (List.replicate (Int.toNat y0) ([] : List YAttr.den)))
       else none)
       (if 0 ≤ (y0 : Int) ∧ (y0 : Int) = y0 ∧ (y0 : Int) * 1 ≤ 140737488355328 ∧ (y0 : Int) ≤ 140737488355328 then
        (K_law_DeltaMakersMatch_0 n y0 y1 y2 y3 y4 y13 y14 y15 y16 y20 y21 (List.replicate (Int.toNat (IntKind.i64.wrap (y0 + 1))) ([] : List YElem.den)) (List.replicate (Int.toNat y0) false) (List.replicate (Int.toNat y0) ([] : List YAttr.den)))
       else none))
     else none)
     (if 0 ≤ (y0 : Int) ∧ (y0 : Int) = y0 ∧ (y0 : Int) * 1 ≤ 140737488355328 ∧ (y0 : Int) ≤ 140737488355328 then
      (if 0 ≤ (y0 : Int) ∧ (y0 : Int) = y0 ∧ (y0 : Int) * 24 ≤ 140737488355328 ∧ (y0 : Int) ≤ 140737488355328 then
       (K_law_DeltaMakersMatch_0 n y0 y1 y2 y3 y4 y13 y14 y15 y16 y20 y21 (List.replicate (Int.toNat (IntKind.i64.wrap (y0 + 1))) ([] : List YElem.den)) (List.replicate (Int.toNat y0) false) (List.replicate (Int.toNat y0) ([] : List YAttr.den)))
      else none)
     else none)))
   else none)
  (agree
   (if 0 ≤ (y0 : Int) ∧ (y0 : Int) = y0 ∧ (y0 : Int) * 1 ≤ 140737488355328 ∧ (y0 : Int) ≤ 140737488355328 then
    (agree
     (if 0 ≤ ((IntKind.i64.wrap (y0 + 1)) : Int) ∧ ((IntKind.i64.wrap (y0 + 1)) : Int) = (IntKind.i64.wrap (y0 + 1)) ∧ ((IntKind.i64.wrap (y0 + 1)) : Int) * 24 ≤ 140737488355328 ∧ ((IntKind.i64.wrap (y0 + 1)) : Int) ≤ 140737488355328 then
      (agree
       (if 0 ≤ (y0 : Int) ∧ (y0 : Int) = y0 ∧ (y0 : Int) * 24 ≤ 140737488355328 ∧ (y0 : Int) ≤ 140737488355328 then
        (K_law_DeltaMakersMatch_0 n y0 y1 y2 y3 y4 y13 y14 y15 y16 y20 y21 (List.replicate (Int.toNat (IntKind.i64.wrap (y0 + 1))) ([] : List YElem.den)) (List.replicate (Int.toNat y0) false) (List.replicate (Int.toNat y0) ([] : List YAttr.den)))
       else none)
       (if 0 ≤ (y0 : Int) ∧ (y0 : Int) = y0 ∧ (y0 : Int) * 24 ≤ 140737488355328 ∧ (y0 : Int) ≤ 140737488355328 then
        (K_law_DeltaMakersMatch_0 n y0 y1 y2 y3 y4 y13 y14 y15 y16 y20 y21 (List.replicate (Int.toNat (IntKind.i64.wrap (y0 + 1))) ([] : List YElem.den)) (List.replicate (Int.toNat y0) false) (List.replicate (Int.toNat y0) ([] : List YAttr.den)))
       else none))
     else none)
    (agree
     (if 0 ≤ (y0 : Int) ∧ (y0 : Int) = y0 ∧ (y0 : Int) * 24 ≤ 140737488355328 ∧ (y0 : Int) ≤ 140737488355328 then
      (agree
       (if 0 ≤ ((IntKind.i64.wrap (y0 + 1)) : Int) ∧ ((IntKind.i64.wrap (y0 + 1)) : Int) = (IntKind.i64.wrap (y0 + 1)) ∧ ((IntKind.i64.wrap (y0 + 1)) : Int) * 24 ≤ 140737488355328 ∧ ((IntKind.i64.wrap (y0 + 1)) : Int) ≤ 140737488355328 then
        (K_law_DeltaMakersMatch_0 n y0 y1 y2 y3 y4 y13 y14 y15 y16 y20 y21 (List.replicate (Int.toNat (IntKind.i64.wrap (y0 + 1))) ([] : List YElem.den)) (List.replicate (Int.toNat y0) false) (List.replicate (Int.toNat y0) ([] : List YAttr.den)))
       else none)
       (if 0 ≤ ((IntKind.i64.wrap (y0 + 1)) : Int) ∧ ((IntKind.i64.wrap (y0 + 1)) : Int) = (IntKind.i64.wrap (y0 + 1)) ∧ ((IntKind.i64.wrap (y0 + 1)) : Int) * 24 ≤ 140737488355328 ∧ ((IntKind.i64.wrap (y0 + 1)) : Int) ≤ 140737488355328 then
        (K_law_DeltaMakersMatch_0 n y0 y1 y2 y3 y4 y13 y14 y15 y16 y20 y21 (List.replicate (Int.toNat (IntKind.i64.wrap (y0 + 1))) ([] : List YElem.den)) (List.replicate (Int.toNat y0) false) (List.replicate (Int.toNat y0) ([] : List YAttr.den)))
       else none))
     else none)
     (if 0 ≤ ((IntKind.i64.wrap (y0 + 1)) : Int) ∧ ((IntKind.i64.wrap (y0 + 1)) : Int) = (IntKind.i64.wrap (y0 + 1)) ∧ ((IntKind.i64.wrap (y0 + 1)) : Int) * 24 ≤ 140737488355328 ∧ ((IntKind.i64.wrap (y0 + 1)) : Int) ≤ 140737488355328 then
      (if 0 ≤ (y0 : Int) ∧ (y0 : Int) = y0 ∧ (y0 : Int) * 24 ≤ 140737488355328 ∧ (y0 : Int) ≤ 140737488355328 then
       (K_law_DeltaMakersMatch_0 n y0 y1 y2 y3 y4 y13 y14 y15 y16 y20 y21 (List.replicate (Int.toNat (IntKind.i64.wrap (y0 + 1))) ([] : List YElem.den)) (List.replicate (Int.toNat y0) false) (List.replicate (Int.toNat y0) ([] : List YAttr.den)))
      else none)
     else none)))
   else none)
  (agree
   (if 0 ≤ (y0 : Int) ∧ (y0 : Int) = y0 ∧ (y0 : Int) * 24 ≤ 140737488355328 ∧ (y0 : Int) ≤ 140737488355328 then
    (agree
     (if 0 ≤ ((IntKind.i64.wrap (y0 + 1)) : Int) ∧ ((IntKind.i64.wrap (y0 + 1)) : Int) = (IntKind.i64.wrap (y0 + 1)) ∧ ((IntKind.i64.wrap (y0 + 1)) : Int) * 24 ≤ 140737488355328 ∧ ((IntKind.i64.wrap (y0 + 1)) : Int) ≤ 140737488355328 then
      (agree
       (if 0 ≤ (y0 : Int) ∧ (y0 : Int) = y0 ∧ (y0 : Int) * 1 ≤ 140737488355328 ∧ (y0 : Int) ≤ 140737488355328 then
        (K_law_DeltaMakersMatch_0 n y0 y1 y2 y3 y4 y13 y14 y15 y16 y20 y21 (List.replicate (Int.toNat (IntKind.i64.wrap (y0 + 1))) ([] : List YElem.den)) (List.replicate (Int.toNat y0) false) (List.replicate (Int.toNat y0) ([] : List YAttr.den)))
       else none)
       (if 0 ≤ (y0 : Int) ∧ (y0 : Int) = y0 ∧ (y0 : Int) * 1 ≤ 140737488355328 ∧ (y0 : Int) ≤ 140737488355328 then
        (K_law_DeltaMakersMatch_0 n y0 y1 y2 y3 y4 y13 y14 y15 y16 y20 y21 (List.replicate (Int.toNat (IntKind.i64.wrap (y0 + 1))) ([] : List YElem.den)) (List.replicate (Int.toNat y0) false) (List.replicate (Int.toNat y0) ([] : List YAttr.den)))
       else none))
     else none)
    (agree
     (if 0 ≤ (y0 : Int) ∧ (y0 : Int) = y0 ∧ (y0 : Int) * 1 ≤ 140737488355328 ∧ (y0 : Int) ≤ 140737488355328 then
      (agree
       (if 0 ≤ ((IntKind.i64.wrap (y0 + 1)) : Int) ∧ ((IntKind.i64.wrap (y0 + 1)) : Int) = (IntKind.i64.wrap (y0 + 1)) ∧ ((IntKind.i64.wrap (y0 + 1)) : Int) * 24 ≤ 140737488355328 ∧ ((IntKind.i64.wrap (y0 + 1)) : Int) ≤ 140737488355328 then
        (K_law_DeltaMakersMatch_0 n y0 y1 y2 y3 y4 y13 y14 y15 y16 y20 y21 (List.replicate (Int.toNat (IntKind.i64.wrap (y0 + 1))) ([] : List YElem.den)) (List.replicate (Int.toNat y0) false) (List.replicate (Int.toNat y0) ([] : List YAttr.den)))
       else none)
       (if 0 ≤ ((IntKind.i64.wrap (y0 + 1)) : Int) ∧ ((IntKind.i64.wrap (y0 + 1)) : Int) = (IntKind.i64.wrap (y0 + 1)) ∧ ((IntKind.i64.wrap (y0 + 1)) : Int) * 24 ≤ 140737488355328 ∧ ((IntKind.i64.wrap (y0 + 1)) : Int) ≤ 140737488355328 then
        (K_law_DeltaMakersMatch_0 n y0 y1 y2 y3 y4 y13 y14 y15 y16 y20 y21 (List.replicate (Int.toNat (IntKind.i64.wrap (y0 + 1))) ([] : List YElem.den)) (List.replicate (Int.toNat y0) false) (List.replicate (Int.toNat y0) ([] : List YAttr.den)))
       else none))
     else none)
     (if 0 ≤ ((IntKind.i64.wrap (y0 + 1)) : Int) ∧ ((IntKind.i64.wrap (y0 + 1)) : Int) = (IntKind.i64.wrap (y0 + 1)) ∧ ((IntKind.i64.wrap (y0 + 1)) : Int) * 24 ≤ 140737488355328 ∧ ((IntKind.i64.wrap (y0 + 1)) : Int) ≤ 140737488355328 then
      (if 0 ≤ (y0 : Int) ∧ (y0 : Int) = y0 ∧ (y0 : Int) * 1 ≤ 140737488355328 ∧ (y0 : Int) ≤ 140737488355328 then
       (K_law_DeltaMakersMatch_0 n y0 y1 y2 y3 y4 y13 y14 y15 y16 y20 y21 (List.replicate (Int.toNat (IntKind.i64.wrap (y0 + 1))) ([] : List YElem.den)) (List.replicate (Int.toNat y0) false) (List.replicate (Int.toNat y0) ([] : List YAttr.den)))
      else none)
     else none)))
   else none)
   (if 0 ≤ ((IntKind.i64.wrap (y0 + 1)) : Int) ∧ ((IntKind.i64.wrap (y0 + 1)) : Int) = (IntKind.i64.wrap (y0 + 1)) ∧ ((IntKind.i64.wrap (y0 + 1)) : Int) * 24 ≤ 140737488355328 ∧ ((IntKind.i64.wrap (y0 + 1)) : Int) ≤ 140737488355328 then
    (if 0 ≤ (y0 : Int) ∧ (y0 : Int) = y0 ∧ (y0 : Int) * 1 ≤ 140737488355328 ∧ (y0 : Int) ≤ 140737488355328 then
     (if 0 ≤ (y0 : Int) ∧ (y0 : Int) = y0 ∧ (y0 : Int) * 24 ≤ 140737488355328 ∧ (y0 : Int) ≤ 140737488355328 then
      (K_law_DeltaMakersMatch_0 n y0 y1 y2 y3 y4 y13 y14 y15 y16 y20 y21 (List.replicate (Int.toNat (IntKind.i64.wrap (y0 + 1))) ([] : List YElem.den)) (List.replicate (Int.toNat y0) false) (List.replicate (Int.toNat y0) ([] : List YAttr.den)))
     else none)
    else none)
   else none)))) := by rw [KB_law_DeltaMakersMatch, show knAt T (env_law_DeltaMakersMatch) os_law_DeltaMakersMatch sig_law_DeltaMakersMatch Try.f5 hs_law_DeltaMakersMatch n [.sr, .sr, .sr, .sr, .sr, .sr, .sr, .sr, .sr, .sr, .sl] = fun σ => joinAt T (env_law_DeltaMakersMatch) os_law_DeltaMakersMatch sig_law_DeltaMakersMatch Try.f5 hs_law_DeltaMakersMatch n [.sr, .sr, .sr, .sr, .sr, .sr, .sr, .sr, .sr, .sr, .sr, .sl] (scrub [(0, []), (1, []), (2, []), (3, []), (4, []), (13, []), (14, []), (15, []), (16, []), (20, []), (21, []), (22, [(0, 28, (.list YElem)), (1, 4, .bool), (2, 27, (.list YAttr))])] σ) from funext (KA_law_DeltaMakersMatch n)]; exact KC_law_DeltaMakersMatch n y0 y1 y2 y3 y4 y13 y14 y15 y16 y20 y21 (joinAt T (env_law_DeltaMakersMatch) os_law_DeltaMakersMatch sig_law_DeltaMakersMatch Try.f5 hs_law_DeltaMakersMatch n [.sr, .sr, .sr, .sr, .sr, .sr, .sr, .sr, .sr, .sr, .sr, .sl])
theorem K_law_DeltaMakersMatch_1_step (n : Nat) (y0 : Int) (y1 : Int) (y2 : Int) (y3 : List YElem.den) (y4 : List YAttr.den) (y13 : List YStep.den) (y14 : Int) (y15 : List YStep.den) (y16 : Int) (y20 : Int) (y21 : Int) : K_law_DeltaMakersMatch_1 n y0 y1 y2 y3 y4 y13 y14 y15 y16 y20 y21 =
  (if 0 ≤ ((IntKind.i64.wrap (y0 + 1)) : Int) ∧ ((IntKind.i64.wrap (y0 + 1)) : Int) = (IntKind.i64.wrap (y0 + 1)) ∧ ((IntKind.i64.wrap (y0 + 1)) : Int) * 24 ≤ 140737488355328 ∧ ((IntKind.i64.wrap (y0 + 1)) : Int) ≤ 140737488355328 then
   (if 0 ≤ (y0 : Int) ∧ (y0 : Int) = y0 ∧ (y0 : Int) * 1 ≤ 140737488355328 ∧ (y0 : Int) ≤ 140737488355328 then
    (if 0 ≤ (y0 : Int) ∧ (y0 : Int) = y0 ∧ (y0 : Int) * 24 ≤ 140737488355328 ∧ (y0 : Int) ≤ 140737488355328 then
     (K_law_DeltaMakersMatch_0 n y0 y1 y2 y3 y4 y13 y14 y15 y16 y20 y21 (List.replicate (Int.toNat (IntKind.i64.wrap (y0 + 1))) ([] : List YElem.den)) (List.replicate (Int.toNat y0) false) (List.replicate (Int.toNat y0) ([] : List YAttr.den)))
    else none)
   else none)
  else none) := by rw [K_law_DeltaMakersMatch_1_raw]; by_cases hc0 : 0 ≤ (y0 : Int) ∧ (y0 : Int) = y0 ∧ (y0 : Int) * 1 ≤ 140737488355328 ∧ (y0 : Int) ≤ 140737488355328 <;> by_cases hc1 : 0 ≤ (y0 : Int) ∧ (y0 : Int) = y0 ∧ (y0 : Int) * 24 ≤ 140737488355328 ∧ (y0 : Int) ≤ 140737488355328 <;> by_cases hc2 : 0 ≤ ((IntKind.i64.wrap (y0 + 1)) : Int) ∧ ((IntKind.i64.wrap (y0 + 1)) : Int) = (IntKind.i64.wrap (y0 + 1)) ∧ ((IntKind.i64.wrap (y0 + 1)) : Int) * 24 ≤ 140737488355328 ∧ ((IntKind.i64.wrap (y0 + 1)) : Int) ≤ 140737488355328 <;> simp only [↓hc0, ↓hc1, ↓hc2, if_true, if_false, and_self, ite_self, agree_self]
theorem K_law_DeltaMakersMatch_2_step (n : Nat) (y0 : Int) (y1 : Int) (y2 : Int) (y3 : List YElem.den) (y4 : List YAttr.den) (y13 : List YStep.den) (y14 : Int) (y15 : List YStep.den) (y16 : Int) (y20 : Int) (y21 : Int) : K_law_DeltaMakersMatch_2 n y0 y1 y2 y3 y4 y13 y14 y15 y16 y20 y21 =
  (bcond (decide ((y0 : Int) > 300))
   (some (ret_law_DeltaMakersMatch true))
   (K_law_DeltaMakersMatch_1 n y0 y1 y2 y3 y4 y13 y14 y15 y16 y20 y21)) := by kernel_rfl
theorem K_law_DeltaMakersMatch_3_step (n : Nat) (y0 : Int) (y1 : Int) (y2 : Int) (y3 : List YElem.den) (y4 : List YAttr.den) (y13 : List YStep.den) (y14 : Int) (y15 : List YStep.den) (y16 : Int) : K_law_DeltaMakersMatch_3 n y0 y1 y2 y3 y4 y13 y14 y15 y16 =
  ((C_R_PartError F_R_PartError y3).bind fun r7 =>
   ((C_R_AttrsError F_R_AttrsError y4 true).bind fun r8 =>
    (bcond ((((res_R_PartError_0 r7) : Int) != 0) == true)
     (bcond (((y14 : Int) != (res_R_PartError_0 r7)) == false)
      (bcond ((((List.length y13 : Int) : Int) != 0) == false)
       (bcond ((((res_R_AttrsError_0 r8) : Int) != 0) == true)
        (bcond (((y16 : Int) != (res_R_AttrsError_0 r8)) == false)
         (bcond (((List.length y15 : Int) : Int) != 0)
          (some (ret_law_DeltaMakersMatch false))
          (K_law_DeltaMakersMatch_2 n y0 y1 y2 y3 y4 y13 y14 y15 y16 (res_R_PartError_0 r7) (res_R_AttrsError_0 r8)))
         (some (ret_law_DeltaMakersMatch false)))
        (K_law_DeltaMakersMatch_2 n y0 y1 y2 y3 y4 y13 y14 y15 y16 (res_R_PartError_0 r7) (res_R_AttrsError_0 r8)))
       (some (ret_law_DeltaMakersMatch false)))
      (some (ret_law_DeltaMakersMatch false)))
     (bcond ((((res_R_AttrsError_0 r8) : Int) != 0) == true)
      (bcond (((y16 : Int) != (res_R_AttrsError_0 r8)) == false)
       (bcond (((List.length y15 : Int) : Int) != 0)
        (some (ret_law_DeltaMakersMatch false))
        (K_law_DeltaMakersMatch_2 n y0 y1 y2 y3 y4 y13 y14 y15 y16 (res_R_PartError_0 r7) (res_R_AttrsError_0 r8)))
       (some (ret_law_DeltaMakersMatch false)))
      (K_law_DeltaMakersMatch_2 n y0 y1 y2 y3 y4 y13 y14 y15 y16 (res_R_PartError_0 r7) (res_R_AttrsError_0 r8)))))) := by kernel_rfl
theorem K_law_DeltaMakersMatch_4_step (n : Nat) (y0 : Int) (y1 : Int) (y2 : Int) (y3 : List YElem.den) (y4 : List YAttr.den) (y13 : List YStep.den) (y14 : Int) (y15 : List YStep.den) (y16 : Int) : K_law_DeltaMakersMatch_4 n y0 y1 y2 y3 y4 y13 y14 y15 y16 =
  ((C_R_In F_R_In y0 0 2147483647).bind fun r6 =>
   (bcond ((!(res_R_In_0 r6)) == false)
    (bcond ((decide ((y1 : Int) < 0)) == false)
     (bcond ((decide ((y2 : Int) < y1)) == false)
      (bcond (decide ((y2 : Int) > y0))
       (bcond (((y14 : Int) == 2) == true)
        (bcond (((y16 : Int) == 2) == true)
         (some (ret_law_DeltaMakersMatch (((IntKind.i64.wrap ((List.length y13 : Int) + (List.length y15 : Int))) : Int) == 0)))
         (some (ret_law_DeltaMakersMatch false)))
        (some (ret_law_DeltaMakersMatch false)))
       (K_law_DeltaMakersMatch_3 n y0 y1 y2 y3 y4 y13 y14 y15 y16))
      (bcond (((y14 : Int) == 2) == true)
       (bcond (((y16 : Int) == 2) == true)
        (some (ret_law_DeltaMakersMatch (((IntKind.i64.wrap ((List.length y13 : Int) + (List.length y15 : Int))) : Int) == 0)))
        (some (ret_law_DeltaMakersMatch false)))
       (some (ret_law_DeltaMakersMatch false))))
     (bcond (((y14 : Int) == 2) == true)
      (bcond (((y16 : Int) == 2) == true)
       (some (ret_law_DeltaMakersMatch (((IntKind.i64.wrap ((List.length y13 : Int) + (List.length y15 : Int))) : Int) == 0)))
       (some (ret_law_DeltaMakersMatch false)))
      (some (ret_law_DeltaMakersMatch false))))
    (bcond (((y14 : Int) == 2) == true)
     (bcond (((y16 : Int) == 2) == true)
      (some (ret_law_DeltaMakersMatch (((IntKind.i64.wrap ((List.length y13 : Int) + (List.length y15 : Int))) : Int) == 0)))
      (some (ret_law_DeltaMakersMatch false)))
     (some (ret_law_DeltaMakersMatch false))))) := by kernel_rfl
theorem L_law_DeltaMakersMatch_0_raw (n m1 : Nat) (x2 : Int) (x4 : List YAttr.den) (x13 : List YStep.den) (x14 : Int) (x15 : List YStep.den) (x16 : Int) (x20 : Int) (x21 : Int) (x22_0 : List (List YElem.den)) (x22_1 : List (Bool)) (x22_2 : List (List YAttr.den)) (x23_0 : List (List YElem.den)) (x23_1 : List (Bool)) (x23_2 : List (List YAttr.den)) (x24 : Int) : L_law_DeltaMakersMatch_0 n (m1 + 1) x2 x4 x13 x14 x15 x16 x20 x21 x22_0 x22_1 x22_2 x23_0 x23_1 x23_2 x24 =
  (bcond (decide ((x24 : Int) < x2))
   (if 0 ≤ (x24 : Int) ∧ (x24 : Int) < (List.length x22_1 : Int) then
    (agree
     (if 0 ≤ (x24 : Int) ∧ (x24 : Int) < (List.length x23_2 : Int) then
      (L_law_DeltaMakersMatch_0 n m1 x2 x4 x13 x14 x15 x16 x20 x21 x22_0 (List.set x22_1 (Int.toNat x24) true) x22_2 x23_0 x23_1 (List.set x23_2 (Int.toNat x24) x4) (IntKind.i64.wrap (x24 + 1)))
     else none)
     (if 0 ≤ (x24 : Int) ∧ (x24 : Int) < (List.length x23_2 : Int) then
      (L_law_DeltaMakersMatch_0 n m1 x2 x4 x13 x14 x15 x16 x20 x21 x22_0 (List.set x22_1 (Int.toNat x24) true) x22_2 x23_0 x23_1 (List.set x23_2 (Int.toNat x24) x4) (IntKind.i64.wrap (x24 + 1)))
     else none))
   else none)
   (bcond (((x20 : Int) != 0) == false)
    (bcond (((x14 : Int) == 0) == true)
     ((C_R_DeltaOf F_R_DeltaOf (x22_0, (x22_1, x22_2))).bind fun r1 =>
      ((C_R_SameDelta F_R_SameDelta x13 (res_R_DeltaOf_0 r1)).bind fun r2 =>
       (bcond ((res_R_SameDelta_0 r2) == true)
        (bcond (((x21 : Int) != 0) == false)
         (bcond (((x16 : Int) == 0) == true)
          ((C_R_DeltaOf F_R_DeltaOf (x23_0, (x23_1, x23_2))).bind fun r3 =>
           ((C_R_SameDelta F_R_SameDelta x15 (res_R_DeltaOf_0 r3)).bind fun r4 =>
            (some (ret_law_DeltaMakersMatch (res_R_SameDelta_0 r4)))))
          (some (ret_law_DeltaMakersMatch false)))
         (some (ret_law_DeltaMakersMatch true)))
        (some (ret_law_DeltaMakersMatch false)))))
     (some (ret_law_DeltaMakersMatch false)))
    (bcond (((x21 : Int) != 0) == false)
     (bcond (((x16 : Int) == 0) == true)
      ((C_R_DeltaOf F_R_DeltaOf (x23_0, (x23_1, x23_2))).bind fun r1 =>
       ((C_R_SameDelta F_R_SameDelta x15 (res_R_DeltaOf_0 r1)).bind fun r2 =>
        (some (ret_law_DeltaMakersMatch (res_R_SameDelta_0 r2)))))
      (some (ret_law_DeltaMakersMatch false)))
     (some (ret_law_DeltaMakersMatch true))))) := by kernel_rfl
theorem L_law_DeltaMakersMatch_0_step (n m1 : Nat) (x2 : Int) (x4 : List YAttr.den) (x13 : List YStep.den) (x14 : Int) (x15 : List YStep.den) (x16 : Int) (x20 : Int) (x21 : Int) (x22_0 : List (List YElem.den)) (x22_1 : List (Bool)) (x22_2 : List (List YAttr.den)) (x23_0 : List (List YElem.den)) (x23_1 : List (Bool)) (x23_2 : List (List YAttr.den)) (x24 : Int) : L_law_DeltaMakersMatch_0 n (m1 + 1) x2 x4 x13 x14 x15 x16 x20 x21 x22_0 x22_1 x22_2 x23_0 x23_1 x23_2 x24 =
  (bcond (decide ((x24 : Int) < x2))
   (if 0 ≤ (x24 : Int) ∧ (x24 : Int) < (List.length x22_1 : Int) then
    (if 0 ≤ (x24 : Int) ∧ (x24 : Int) < (List.length x23_2 : Int) then
     (L_law_DeltaMakersMatch_0 n m1 x2 x4 x13 x14 x15 x16 x20 x21 x22_0 (List.set x22_1 (Int.toNat x24) true) x22_2 x23_0 x23_1 (List.set x23_2 (Int.toNat x24) x4) (IntKind.i64.wrap (x24 + 1)))
    else none)
   else none)
   (bcond (((x20 : Int) != 0) == false)
    (bcond (((x14 : Int) == 0) == true)
     ((C_R_DeltaOf F_R_DeltaOf (x22_0, (x22_1, x22_2))).bind fun r1 =>
      ((C_R_SameDelta F_R_SameDelta x13 (res_R_DeltaOf_0 r1)).bind fun r2 =>
       (bcond ((res_R_SameDelta_0 r2) == true)
        (bcond (((x21 : Int) != 0) == false)
         (bcond (((x16 : Int) == 0) == true)
          ((C_R_DeltaOf F_R_DeltaOf (x23_0, (x23_1, x23_2))).bind fun r3 =>
           ((C_R_SameDelta F_R_SameDelta x15 (res_R_DeltaOf_0 r3)).bind fun r4 =>
            (some (ret_law_DeltaMakersMatch (res_R_SameDelta_0 r4)))))
          (some (ret_law_DeltaMakersMatch false)))
         (some (ret_law_DeltaMakersMatch true)))
        (some (ret_law_DeltaMakersMatch false)))))
     (some (ret_law_DeltaMakersMatch false)))
    (bcond (((x21 : Int) != 0) == false)
     (bcond (((x16 : Int) == 0) == true)
      ((C_R_DeltaOf F_R_DeltaOf (x23_0, (x23_1, x23_2))).bind fun r1 =>
       ((C_R_SameDelta F_R_SameDelta x15 (res_R_DeltaOf_0 r1)).bind fun r2 =>
        (some (ret_law_DeltaMakersMatch (res_R_SameDelta_0 r2)))))
      (some (ret_law_DeltaMakersMatch false)))
     (some (ret_law_DeltaMakersMatch true))))) := by rw [L_law_DeltaMakersMatch_0_raw]; simp only [agree_self]
theorem ok_law_DeltaMakersMatch : fnOk os_law_DeltaMakersMatch sig_law_DeltaMakersMatch Try.f5 = true := by kernel_rfl
theorem fn_law_DeltaMakersMatch : P.funcs[5]? = some Try.f5 := by kernel_rfl
noncomputable def F_law_DeltaMakersMatch : sig_law_DeltaMakersMatch.Fn := fun x y => run T (env_law_DeltaMakersMatch) os_law_DeltaMakersMatch sig_law_DeltaMakersMatch Try.f5 hs_law_DeltaMakersMatch big x y
theorem S_law_DeltaMakersMatch : Sound P 5 ⟨sig_law_DeltaMakersMatch, F_law_DeltaMakersMatch⟩ := sound_of (os := os_law_DeltaMakersMatch) (hs := hs_law_DeltaMakersMatch) (env_cons S_law_deltas (env_cons S_delta_Replace (env_cons S_delta_Restyle (env_cons S_delta_Axis (env_cons S_R_DeltaError (env_cons S_R_In (env_cons S_R_PartError (env_cons S_R_AttrsError (env_cons S_law_short (env_cons S_R_ActOf (env_cons S_law_plain (env_cons S_law_steps (env_cons S_R_SameSteps (env_cons S_R_DeltaOf (env_cons S_R_SameDelta (env_nil)))))))))))))))) fn_law_DeltaMakersMatch ok_law_DeltaMakersMatch (fun x y out h => ⟨big, h⟩)
theorem e_law_DeltaMakersMatch (a0 : Int) (a1 : Int) (a2 : Int) (a3 : List YElem.den) (a4 : List YAttr.den) (a5 : List YStep.den) : C_law_DeltaMakersMatch F_law_DeltaMakersMatch a0 a1 a2 a3 a4 a5 =
  ((C_law_deltas F_law_deltas ).bind fun r1 =>
   (bcond (!(res_law_deltas_0 r1))
    (some (ret_law_DeltaMakersMatch false))
    ((C_delta_Replace F_delta_Replace a0 a1 a2 a3).bind fun r2 =>
     ((C_delta_Restyle F_delta_Restyle a0 a1 a2 a4).bind fun r3 =>
      ((C_delta_Axis F_delta_Axis a5).bind fun r4 =>
       ((C_R_DeltaError F_R_DeltaError a5).bind fun r5 =>
        (bcond (((res_R_DeltaError_0 r5) : Int) != 0)
         (bcond ((((res_delta_Axis_1 r4) : Int) != (res_R_DeltaError_0 r5)) == false)
          (bcond (((List.length (res_delta_Axis_0 r4) : Int) : Int) != 0)
           (some (ret_law_DeltaMakersMatch false))
           (K_law_DeltaMakersMatch_4 big a0 a1 a2 a3 a4 (res_delta_Replace_0 r2) (res_delta_Replace_1 r2) (res_delta_Restyle_0 r3) (res_delta_Restyle_1 r3)))
          (some (ret_law_DeltaMakersMatch false)))
         ((C_law_short F_law_short a5).bind fun r6 =>
          (bcond ((res_law_short_0 r6) == true)
           (bcond ((((res_delta_Axis_1 r4) : Int) != 0) == false)
            ((C_R_ActOf F_R_ActOf a5).bind fun r7 =>
             ((C_law_plain F_law_plain (res_R_ActOf_0 r7)).bind fun r8 =>
              ((C_law_steps F_law_steps (res_law_plain_0 r8)).bind fun r9 =>
               ((C_R_SameSteps F_R_SameSteps (res_delta_Axis_0 r4) (res_law_steps_0 r9)).bind fun r10 =>
                (bcond (!(res_R_SameSteps_0 r10))
                 (some (ret_law_DeltaMakersMatch false))
                 (K_law_DeltaMakersMatch_4 big a0 a1 a2 a3 a4 (res_delta_Replace_0 r2) (res_delta_Replace_1 r2) (res_delta_Restyle_0 r3) (res_delta_Restyle_1 r3)))))))
            (some (ret_law_DeltaMakersMatch false)))
           (K_law_DeltaMakersMatch_4 big a0 a1 a2 a3 a4 (res_delta_Replace_0 r2) (res_delta_Replace_1 r2) (res_delta_Restyle_0 r3) (res_delta_Restyle_1 r3))))))))))) := by kernel_rfl
end Go.Ev
