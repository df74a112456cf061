/- Functions, step by step. -/
import Derived.Test.YtlgjdgebmiegeaaGAct
namespace Go.Ev
set_option linter.unusedVariables false
set_option maxRecDepth 100000
open Go.Proofs
def sig_delta_Undo : Sig := ⟨[.v false (.list YElem), .v false (.list YStep)], [], [(false, [.fr (.list YStep)]), (false, [.fr (.int .i64)])]⟩
def ret_delta_Undo (v0 : List YStep.den) (v1 : Int) : sig_delta_Undo.Out := (((v0, ()), (v1, ()), ()), ())
def os_delta_Undo : RegT := ⟨[(15, .st 0 (.st 2 (.st 5 (.st 1 (.st 3 (.grp [6, 4] (.st 7 (.st 8 (.nil)))))))))], [], false⟩
def hs_delta_Undo : List Keep := [[(0, []), (7, [(0, 30, YStep), (1, 113, YElem)]), (18, []), (19, []), (20, [])], [(0, []), (7, [(0, 30, YStep), (1, 113, YElem)]), (9, []), (18, []), (19, []), (20, []), (40, []), (41, []), (42, [])]]
@[reducible] noncomputable def env_delta_Undo : Env := [(85, ⟨sig_delta_fits, F_delta_fits⟩), (81, ⟨sig_delta_writer_elems, F_delta_writer_elems⟩), (82, ⟨sig_delta_writer_done, F_delta_writer_done⟩), (88, ⟨sig_attr_Raw, F_attr_Raw⟩), (87, ⟨sig_attr_Change, F_attr_Change⟩), (80, ⟨sig_delta_writer_keep, F_delta_writer_keep⟩)]
noncomputable def L_delta_Undo_0 (n m1 : Nat) (x0 : List YElem.den) (x7_0 : List YStep.den) (x7_1 : List YElem.den) (x7_2 : Int) (x18 : List YStep.den) (x19 : Int) (x20 : Int) : Option sig_delta_Undo.Out :=
  loopAt T (env_delta_Undo) os_delta_Undo sig_delta_Undo Try.f23 hs_delta_Undo n [.sr, .sr, .sr, .sl, .sr, .bl] m1 (mk 73 [(0, .cs false [.val (.list YElem) x0]), (7, .box [.own 30 YStep x7_0, .own 113 YElem x7_1, .val (.int .i64) x7_2]), (18, .cs false [.val (.list YStep) x18]), (19, .cs false [.val (.int .i64) x19]), (20, .cs false [.val (.int .i64) x20])])
noncomputable def L_delta_Undo_1 (n m1 m2 : Nat) (x0 : List YElem.den) (x7_0 : List YStep.den) (x7_1 : List YElem.den) (x7_2 : Int) (x9_0 : Int) (x9_1 : Int) (x9_2 : List YAttr.den) (x9_3 : List YElem.den) (x18 : List YStep.den) (x19 : Int) (x20 : Int) (x40 : List YElem.den) (x41 : Int) (x42 : Int) : Option sig_delta_Undo.Out :=
  loopAt T (env_delta_Undo) os_delta_Undo sig_delta_Undo Try.f23 hs_delta_Undo n [.sr, .sr, .sr, .sl, .sr, .bl, .lp m1, .sr, .sr, .sl, .bl, .sr, .sr, .bl, .sr, .ct, .sl, .sr, .bl] m2 (mk 73 [(0, .cs false [.val (.list YElem) x0]), (7, .box [.own 30 YStep x7_0, .own 113 YElem x7_1, .val (.int .i64) x7_2]), (9, .box [.val (.int .i64) x9_0, .val (.int .i64) x9_1, .val (.list YAttr) x9_2, .val (.list YElem) x9_3]), (18, .cs false [.val (.list YStep) x18]), (19, .cs false [.val (.int .i64) x19]), (20, .cs false [.val (.int .i64) x20]), (40, .cs false [.val (.list YElem) x40]), (41, .cs false [.val (.int .i64) x41]), (42, .cs false [.val (.int .i64) x42])])
theorem L_delta_Undo_0_step (n m1 : Nat) (x0 : List YElem.den) (x7_0 : List YStep.den) (x7_1 : List YElem.den) (x7_2 : Int) (x18 : List YStep.den) (x19 : Int) (x20 : Int) : L_delta_Undo_0 n (m1 + 1) x0 x7_0 x7_1 x7_2 x18 x19 x20 =
  (bcond (decide ((x20 : Int) < x19))
   (if 0 ≤ (x20 : Int) ∧ (x20 : Int) < (List.length x18 : Int) then
    (bcond (((at_ (e := YStep) x18 x20).1 : Int) == 0)
     (if 0 ≤ ((at_ (e := YStep) x18 x20).2.1 : Int) ∧ ((at_ (e := YStep) x18 x20).2.1 : Int) ≤ (List.length x0 : Int) ∧ 0 ≤ (0 : Int) ∧ (0 : Int) ≤ (at_ (e := YStep) x18 x20).2.1 then
      (L_delta_Undo_1 n m1 n x0 x7_0 x7_1 x7_2 (at_ (e := YStep) x18 x20).1 (at_ (e := YStep) x18 x20).2.1 (at_ (e := YStep) x18 x20).2.2.1 (at_ (e := YStep) x18 x20).2.2.2 x18 x19 x20 (List.drop (Int.toNat 0) (List.take (Int.toNat (at_ (e := YStep) x18 x20).2.1) x0)) (List.length (List.drop (Int.toNat 0) (List.take (Int.toNat (at_ (e := YStep) x18 x20).2.1) x0)) : Int) 0)
     else none)
     (bcond (((at_ (e := YStep) x18 x20).1 : Int) == 1)
      (L_delta_Undo_0 n m1 x0 x7_0 x7_1 (IntKind.i64.wrap (x7_2 + (List.length (at_ (e := YStep) x18 x20).2.2.2 : Int))) x18 x19 (IntKind.i64.wrap (x20 + 1)))
      (if 0 ≤ ((at_ (e := YStep) x18 x20).2.1 : Int) ∧ ((at_ (e := YStep) x18 x20).2.1 : Int) ≤ (List.length x0 : Int) ∧ 0 ≤ (0 : Int) ∧ (0 : Int) ≤ (at_ (e := YStep) x18 x20).2.1 then
       ((C_delta_writer_elems F_delta_writer_elems (List.drop (Int.toNat 0) (List.take (Int.toNat (at_ (e := YStep) x18 x20).2.1) x0)) x7_0 x7_1 x7_2).bind fun r1 =>
        (if 0 ≤ ((List.length x0 : Int) : Int) ∧ ((List.length x0 : Int) : Int) ≤ (List.length x0 : Int) ∧ 0 ≤ ((at_ (e := YStep) x18 x20).2.1 : Int) ∧ ((at_ (e := YStep) x18 x20).2.1 : Int) ≤ (List.length x0 : Int) then
         (L_delta_Undo_0 n m1 (List.drop (Int.toNat (at_ (e := YStep) x18 x20).2.1) (List.take (Int.toNat (List.length x0 : Int)) x0)) (res_delta_writer_elems_0 r1) (res_delta_writer_elems_1 r1) (res_delta_writer_elems_2 r1) x18 x19 (IntKind.i64.wrap (x20 + 1)))
        else none))
      else none)))
   else none)
   ((C_delta_writer_done F_delta_writer_done x7_0 x7_1 x7_2).bind fun r1 =>
    (some (ret_delta_Undo (res_delta_writer_done_0 r1) (res_delta_writer_done_1 r1))))) := by kernel_rfl
theorem L_delta_Undo_1_step (n m1 m2 : Nat) (x0 : List YElem.den) (x7_0 : List YStep.den) (x7_1 : List YElem.den) (x7_2 : Int) (x9_0 : Int) (x9_1 : Int) (x9_2 : List YAttr.den) (x9_3 : List YElem.den) (x18 : List YStep.den) (x19 : Int) (x20 : Int) (x40 : List YElem.den) (x41 : Int) (x42 : Int) : L_delta_Undo_1 n m1 (m2 + 1) x0 x7_0 x7_1 x7_2 x9_0 x9_1 x9_2 x9_3 x18 x19 x20 x40 x41 x42 =
  (bcond (decide ((x42 : Int) < x41))
   (if 0 ≤ (x42 : Int) ∧ (x42 : Int) < (List.length x40 : Int) then
    ((C_attr_Raw F_attr_Raw (at_ (e := YElem) x40 x42).2.2 x9_2).bind fun r1 =>
     ((C_attr_Change F_attr_Change (res_attr_Raw_0 r1) (at_ (e := YElem) x40 x42).2.2).bind fun r2 =>
      ((C_delta_writer_keep F_delta_writer_keep 1 (res_attr_Change_0 r2) x7_0 x7_1 x7_2).bind fun r3 =>
       (L_delta_Undo_1 n m1 m2 x0 (res_delta_writer_keep_0 r3) (res_delta_writer_keep_1 r3) (res_delta_writer_keep_2 r3) x9_0 x9_1 x9_2 x9_3 x18 x19 x20 x40 x41 (IntKind.i64.wrap (x42 + 1))))))
   else none)
   (if 0 ≤ ((List.length x0 : Int) : Int) ∧ ((List.length x0 : Int) : Int) ≤ (List.length x0 : Int) ∧ 0 ≤ (x9_1 : Int) ∧ (x9_1 : Int) ≤ (List.length x0 : Int) then
    (L_delta_Undo_0 n m1 (List.drop (Int.toNat x9_1) (List.take (Int.toNat (List.length x0 : Int)) x0)) x7_0 x7_1 x7_2 x18 x19 (IntKind.i64.wrap (x20 + 1)))
   else none)) := by kernel_rfl
def sig_R_Done : Sig := ⟨[.v false (.list YElem), .v true YAct], [], [(false, [.fr (.list YElem)])]⟩
def C_R_Done (F : sig_R_Done.Fn) (a0 : List YElem.den) (a1 : YAct.den) : Option sig_R_Done.Out := F (a0, a1, ()) ()
def ret_R_Done (v0 : List YElem.den) : sig_R_Done.Out := (((v0, ()), ()), ())
def res_R_Done_0 (r : sig_R_Done.Out) : List YElem.den := r.1.1.1
@[simp] theorem res_R_Done_0_ret (v0 : List YElem.den) : res_R_Done_0 (ret_R_Done v0) = v0 := rfl
def os_R_Done : RegT := ⟨[(8, .st 0 (.st 2 (.st 4 (.st 3 (.st 5 (.st 1 (.st 6 (.st 7 (.st 8 (.st 9 (.nil)))))))))))], [], false⟩
def hs_R_Done : List Keep := [[(0, []), (3, []), (5, [(0, 113, YElem)]), (9, []), (10, [])]]
@[reducible] noncomputable def env_R_Done : Env := [(90, ⟨sig_R_Changed, F_R_Changed⟩)]
noncomputable def L_R_Done_0 (n m1 : Nat) (x0 : List YElem.den) (x3_0 : List (List YElem.den)) (x3_1 : List (Bool)) (x3_2 : List (List YAttr.den)) (x5 : List YElem.den) (x9 : Int) (x10 : Int) : Option sig_R_Done.Out :=
  loopAt T (env_R_Done) os_R_Done sig_R_Done Try.f26 hs_R_Done n [.sr, .sr, .sl, .sr, .bl] m1 (mk 52 [(0, .cs false [.val (.list YElem) x0]), (3, .box [.val (.list (.list YElem)) x3_0, .val (.list .bool) x3_1, .val (.list (.list YAttr)) x3_2]), (5, .cs false [.own 113 YElem x5]), (9, .cs false [.val (.int .i64) x9]), (10, .cs false [.val (.int .i64) x10])])
theorem L_R_Done_0_step (n m1 : Nat) (x0 : List YElem.den) (x3_0 : List (List YElem.den)) (x3_1 : List (Bool)) (x3_2 : List (List YAttr.den)) (x5 : List YElem.den) (x9 : Int) (x10 : Int) : L_R_Done_0 n (m1 + 1) x0 x3_0 x3_1 x3_2 x5 x9 x10 =
  (bcond (decide ((x10 : Int) < x9))
   (if 0 ≤ (x10 : Int) ∧ (x10 : Int) < (List.length x3_0 : Int) then
    (if (List.length (x5 : List YElem.den) + List.length ((at_ (e := (.list YElem)) x3_0 x10) : List YElem.den)) * 40 ≤ 140737488355328 then
     (if 0 ≤ (x10 : Int) ∧ (x10 : Int) < (List.length x3_1 : Int) then
      (bcond (!(at_ (e := .bool) x3_1 x10))
       (if 0 ≤ (x10 : Int) ∧ (x10 : Int) < (List.length x0 : Int) then
        (if 0 ≤ (x10 : Int) ∧ (x10 : Int) < (List.length x3_2 : Int) then
         ((C_R_Changed F_R_Changed (at_ (e := YElem) x0 x10).2.2 (at_ (e := (.list YAttr)) x3_2 x10)).bind fun r1 =>
          (if (List.length ((x5 ++ (at_ (e := (.list YElem)) x3_0 x10)) : List YElem.den) + List.length ([((at_ (e := YElem) x0 x10).1, ((at_ (e := YElem) x0 x10).2.1, (res_R_Changed_0 r1)))] : List YElem.den)) * 40 ≤ 140737488355328 then
           (L_R_Done_0 n m1 x0 x3_0 x3_1 x3_2 ((x5 ++ (at_ (e := (.list YElem)) x3_0 x10)) ++ [((at_ (e := YElem) x0 x10).1, ((at_ (e := YElem) x0 x10).2.1, (res_R_Changed_0 r1)))]) x9 (IntKind.i64.wrap (x10 + 1)))
          else none))
        else none)
       else none)
       (L_R_Done_0 n m1 x0 x3_0 x3_1 x3_2 (x5 ++ (at_ (e := (.list YElem)) x3_0 x10)) x9 (IntKind.i64.wrap (x10 + 1))))
     else none)
    else none)
   else none)
   (if 0 ≤ ((List.length x0 : Int) : Int) ∧ ((List.length x0 : Int) : Int) < (List.length x3_0 : Int) then
    (if (List.length (x5 : List YElem.den) + List.length ((at_ (e := (.list YElem)) x3_0 (List.length x0 : Int)) : List YElem.den)) * 40 ≤ 140737488355328 then
     (some (ret_R_Done (x5 ++ (at_ (e := (.list YElem)) x3_0 (List.length x0 : Int)))))
    else none)
   else none)) := by kernel_rfl
theorem ok_R_Done : fnOk os_R_Done sig_R_Done Try.f26 = true := by kernel_rfl
theorem fn_R_Done : P.funcs[26]? = some Try.f26 := by kernel_rfl
noncomputable def F_R_Done : sig_R_Done.Fn := fun x y => run T (env_R_Done) os_R_Done sig_R_Done Try.f26 hs_R_Done big x y
theorem S_R_Done : Sound P 26 ⟨sig_R_Done, F_R_Done⟩ := sound_of (os := os_R_Done) (hs := hs_R_Done) (env_cons S_R_Changed (env_nil)) fn_R_Done ok_R_Done (fun x y out h => ⟨big, h⟩)
theorem e_R_Done (a0 : List YElem.den) (a1 : YAct.den) : C_R_Done F_R_Done a0 a1 =
  (L_R_Done_0 big big a0 a1.1 a1.2.1 a1.2.2 [] (List.length a0 : Int) 0) := by kernel_rfl
def sig_R_Back : Sig := ⟨[.v false (.list YElem), .v true YAct], [], [(true, [.fr YAct])]⟩
def C_R_Back (F : sig_R_Back.Fn) (a0 : List YElem.den) (a1 : YAct.den) : Option sig_R_Back.Out := F (a0, a1, ()) ()
def ret_R_Back (v0 : YAct.den) : sig_R_Back.Out := (((v0, ()), ()), ())
def res_R_Back_0 (r : sig_R_Back.Out) : YAct.den := r.1.1.1
@[simp] theorem res_R_Back_0_ret (v0 : YAct.den) : res_R_Back_0 (ret_R_Back v0) = v0 := rfl
def os_R_Back : RegT := ⟨[(7, .st 0 (.st 4 (.st 8 (.st 1 (.grp [5, 9, 2, 6, 10, 3, 12, 7, 11] (.st 13 (.st 14 (.st 15 (.st 16 (.st 17 (.nil))))))))))), (12, .st 0 (.st 2 (.st 4 (.st 6 (.st 10 (.st 11 (.st 12 (.st 5 (.st 7 (.st 8 (.grp [1, 13, 3, 14, 9, 15] (.st 16 (.st 17 (.nil)))))))))))))), (13, .st 0 (.st 1 (.st 2 (.st 3 (.st 5 (.st 7 (.st 11 (.st 12 (.st 13 (.st 14 (.st 6 (.st 8 (.st 4 (.st 9 (.grp [15, 10] (.st 16 (.st 17 (.nil)))))))))))))))))), (14, .st 0 (.st 4 (.st 8 (.st 10 (.st 1 (.grp [5, 9, 2, 6, 11, 3, 13, 7, 12] (.st 14 (.st 15 (.st 16 (.st 17 (.st 18 (.nil))))))))))))], [], false⟩
def hs_R_Back : List Keep := [[(0, []), (3, []), (4, []), (5, [(0, 28, (.list YElem)), (1, 4, .bool), (2, 27, (.list YAttr))]), (6, [])], [(0, []), (3, []), (4, []), (5, [(0, 28, (.list YElem)), (1, 4, .bool), (2, 27, (.list YAttr))]), (6, []), (22, []), (23, [])]]
@[reducible] noncomputable def env_R_Back : Env := [(90, ⟨sig_R_Changed, F_R_Changed⟩), (91, ⟨sig_R_Between, F_R_Between⟩)]
noncomputable def L_R_Back_0 (n m1 : Nat) (x0 : List YElem.den) (x3_0 : List (List YElem.den)) (x3_1 : List (Bool)) (x3_2 : List (List YAttr.den)) (x5_0 : List (List YElem.den)) (x5_1 : List (Bool)) (x5_2 : List (List YAttr.den)) (x6 : Int) : Option sig_R_Back.Out :=
  loopAt T (env_R_Back) os_R_Back sig_R_Back Try.f27 hs_R_Back n [.sr, .sr, .sl, .sr, .bl] m1 (mk 105 [(0, .cs false [.val (.list YElem) x0]), (3, .box [.val (.list (.list YElem)) x3_0, .val (.list .bool) x3_1, .val (.list (.list YAttr)) x3_2]), (4, .box [.nils, .nils, .nils]), (5, .box [.own 28 (.list YElem) x5_0, .own 4 .bool x5_1, .own 27 (.list YAttr) x5_2]), (6, .cs false [.val (.int .i64) x6])])
noncomputable def L_R_Back_1 (n m1 m2 : Nat) (x0 : List YElem.den) (x3_0 : List (List YElem.den)) (x3_1 : List (Bool)) (x3_2 : List (List YAttr.den)) (x5_0 : List (List YElem.den)) (x5_1 : List (Bool)) (x5_2 : List (List YAttr.den)) (x6 : Int) (x22 : Int) (x23 : Int) : Option sig_R_Back.Out :=
  loopAt T (env_R_Back) os_R_Back sig_R_Back Try.f27 hs_R_Back n [.sr, .sr, .sl, .sr, .bl, .lp m1, .sr, .sl, .bl, .sl, .sr, .bl] m2 (mk 105 [(0, .cs false [.val (.list YElem) x0]), (3, .box [.val (.list (.list YElem)) x3_0, .val (.list .bool) x3_1, .val (.list (.list YAttr)) x3_2]), (4, .box [.nils, .nils, .nils]), (5, .box [.own 28 (.list YElem) x5_0, .own 4 .bool x5_1, .own 27 (.list YAttr) x5_2]), (6, .cs false [.val (.int .i64) x6]), (22, .cs false [.val (.int .i64) x22]), (23, .cs false [.val (.int .i64) x23])])
theorem L_R_Back_0_step (n m1 : Nat) (x0 : List YElem.den) (x3_0 : List (List YElem.den)) (x3_1 : List (Bool)) (x3_2 : List (List YAttr.den)) (x5_0 : List (List YElem.den)) (x5_1 : List (Bool)) (x5_2 : List (List YAttr.den)) (x6 : Int) : L_R_Back_0 n (m1 + 1) x0 x3_0 x3_1 x3_2 x5_0 x5_1 x5_2 x6 =
  (bcond (decide ((x6 : Int) ≤ (List.length x0 : Int)))
   (if 0 ≤ (x6 : Int) ∧ (x6 : Int) < (List.length x3_0 : Int) then
    (L_R_Back_1 n m1 n x0 x3_0 x3_1 x3_2 x5_0 x5_1 x5_2 x6 (List.length (at_ (e := (.list YElem)) x3_0 x6) : Int) 0)
   else none)
   (some (ret_R_Back (x5_0, (x5_1, x5_2))))) := by kernel_rfl
theorem L_R_Back_1_step (n m1 m2 : Nat) (x0 : List YElem.den) (x3_0 : List (List YElem.den)) (x3_1 : List (Bool)) (x3_2 : List (List YAttr.den)) (x5_0 : List (List YElem.den)) (x5_1 : List (Bool)) (x5_2 : List (List YAttr.den)) (x6 : Int) (x22 : Int) (x23 : Int) : L_R_Back_1 n m1 (m2 + 1) x0 x3_0 x3_1 x3_2 x5_0 x5_1 x5_2 x6 x22 x23 =
  (bcond (decide ((x23 : Int) < x22))
   (if (List.length (x5_0 : List (Ty.list YElem).den) + List.length ([[]] : List (Ty.list YElem).den)) * 24 ≤ 140737488355328 then
    (if (List.length (x5_1 : List Bool) + List.length ([true] : List Bool)) * 1 ≤ 140737488355328 then
     (if (List.length (x5_2 : List (Ty.list YAttr).den) + List.length ([[]] : List (Ty.list YAttr).den)) * 24 ≤ 140737488355328 then
      (L_R_Back_1 n m1 m2 x0 x3_0 x3_1 x3_2 (x5_0 ++ [[]]) (x5_1 ++ [true]) (x5_2 ++ [[]]) x6 x22 (IntKind.i64.wrap (x23 + 1)))
     else none)
    else none)
   else none)
   (bcond ((x6 : Int) == (List.length x0 : Int))
    (some (ret_R_Back (x5_0, (x5_1, x5_2))))
    (if 0 ≤ (x6 : Int) ∧ (x6 : Int) < (List.length x3_1 : Int) then
     (bcond (at_ (e := .bool) x3_1 x6)
      (if 0 ≤ (x6 : Int) ∧ (x6 : Int) < (List.length x0 : Int) then
       (if 0 ≤ ((IntKind.i64.wrap ((List.length x5_0 : Int) - 1)) : Int) ∧ ((IntKind.i64.wrap ((List.length x5_0 : Int) - 1)) : Int) < (List.length x5_0 : Int) then
        (if (List.length ([] : List YElem.den) + List.length ((at_ (e := (.list YElem)) x5_0 (IntKind.i64.wrap ((List.length x5_0 : Int) - 1))) : List YElem.den)) * 40 ≤ 140737488355328 then
         (if (List.length (([] ++ (at_ (e := (.list YElem)) x5_0 (IntKind.i64.wrap ((List.length x5_0 : Int) - 1)))) : List YElem.den) + List.length ([(at_ (e := YElem) x0 x6)] : List YElem.den)) * 40 ≤ 140737488355328 then
          (if 0 ≤ ((IntKind.i64.wrap ((List.length x5_0 : Int) - 1)) : Int) ∧ ((IntKind.i64.wrap ((List.length x5_0 : Int) - 1)) : Int) < (List.length x5_0 : Int) then
           (L_R_Back_0 n m1 x0 x3_0 x3_1 x3_2 (List.set x5_0 (Int.toNat (IntKind.i64.wrap ((List.length x5_0 : Int) - 1))) (([] ++ (at_ (e := (.list YElem)) x5_0 (IntKind.i64.wrap ((List.length x5_0 : Int) - 1)))) ++ [(at_ (e := YElem) x0 x6)])) x5_1 x5_2 (IntKind.i64.wrap (x6 + 1)))
          else none)
         else none)
        else none)
       else none)
      else none)
      (if 0 ≤ (x6 : Int) ∧ (x6 : Int) < (List.length x0 : Int) then
       (if 0 ≤ (x6 : Int) ∧ (x6 : Int) < (List.length x0 : Int) then
        (if 0 ≤ (x6 : Int) ∧ (x6 : Int) < (List.length x3_2 : Int) then
         ((C_R_Changed F_R_Changed (at_ (e := YElem) x0 x6).2.2 (at_ (e := (.list YAttr)) x3_2 x6)).bind fun r1 =>
          ((C_R_Between F_R_Between (res_R_Changed_0 r1) (at_ (e := YElem) x0 x6).2.2).bind fun r2 =>
           (if (List.length (x5_0 : List (Ty.list YElem).den) + List.length ([[]] : List (Ty.list YElem).den)) * 24 ≤ 140737488355328 then
            (if (List.length (x5_1 : List Bool) + List.length ([false] : List Bool)) * 1 ≤ 140737488355328 then
             (if (List.length (x5_2 : List (Ty.list YAttr).den) + List.length ([(res_R_Between_0 r2)] : List (Ty.list YAttr).den)) * 24 ≤ 140737488355328 then
              (L_R_Back_0 n m1 x0 x3_0 x3_1 x3_2 (x5_0 ++ [[]]) (x5_1 ++ [false]) (x5_2 ++ [(res_R_Between_0 r2)]) (IntKind.i64.wrap (x6 + 1)))
             else none)
            else none)
           else none)))
        else none)
       else none)
      else none))
    else none))) := by kernel_rfl
theorem ok_R_Back : fnOk os_R_Back sig_R_Back Try.f27 = true := by kernel_rfl
theorem fn_R_Back : P.funcs[27]? = some Try.f27 := by kernel_rfl
noncomputable def F_R_Back : sig_R_Back.Fn := fun x y => run T (env_R_Back) os_R_Back sig_R_Back Try.f27 hs_R_Back big x y
theorem S_R_Back : Sound P 27 ⟨sig_R_Back, F_R_Back⟩ := sound_of (os := os_R_Back) (hs := hs_R_Back) (env_cons S_R_Changed (env_cons S_R_Between (env_nil))) fn_R_Back ok_R_Back (fun x y out h => ⟨big, h⟩)
theorem e_R_Back (a0 : List YElem.den) (a1 : YAct.den) : C_R_Back F_R_Back a0 a1 =
  (L_R_Back_0 big big a0 a1.1 a1.2.1 a1.2.2 [[]] [] [] 0) := by kernel_rfl
end Go.Ev
