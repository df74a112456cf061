/- Functions, step by step. -/
import Derived.Test.YtlgjdgebmiegeaaGAct
namespace Go.Ev
set_option linter.unusedVariables false
set_option maxRecDepth 100000
open Go.Proofs
def sig_R_Behind : Sig := ⟨[.v true YAct, .v true YAct, .v false .bool], [], [(true, [.fr YAct])]⟩
def C_R_Behind (F : sig_R_Behind.Fn) (a0 : YAct.den) (a1 : YAct.den) (a2 : Bool) : Option sig_R_Behind.Out := F (a0, a1, a2, ()) ()
def ret_R_Behind (v0 : YAct.den) : sig_R_Behind.Out := (((v0, ()), ()), ())
def res_R_Behind_0 (r : sig_R_Behind.Out) : YAct.den := r.1.1.1
@[simp] theorem res_R_Behind_0_ret (v0 : YAct.den) : res_R_Behind_0 (ret_R_Behind v0) = v0 := rfl
def os_R_Behind : RegT := ⟨[(7, .st 0 (.st 2 (.st 4 (.st 6 (.st 10 (.st 12 (.grp [1, 5, 11, 7, 8, 13, 14, 3, 9, 15] (.st 16 (.st 17 (.nil)))))))))), (10, .st 0 (.st 4 (.st 8 (.st 1 (.grp [5, 9, 2, 6, 10, 3, 12, 7, 11] (.st 13 (.st 14 (.st 15 (.st 16 (.st 17 (.nil))))))))))), (14, .st 0 (.st 2 (.st 4 (.st 6 (.st 10 (.st 12 (.grp [1, 5, 11, 7, 8, 13, 14, 3, 9, 15] (.st 16 (.st 17 (.nil)))))))))), (19, .st 0 (.st 4 (.st 6 (.st 8 (.st 13 (.st 15 (.grp [1, 5, 7, 14, 9, 10, 2, 11, 16, 3, 18, 12, 17] (.st 19 (.st 20 (.st 21 (.st 22 (.st 23 (.nil)))))))))))))], []⟩
def hs_R_Behind : List Keep := [[(2, []), (3, []), (4, []), (6, []), (7, [(0, 28, (.list YElem)), (1, 4, .bool), (2, 27, (.list YAttr))]), (8, [])], [(2, []), (3, []), (4, []), (6, []), (7, [(0, 28, (.list YElem)), (1, 4, .bool), (2, 27, (.list YAttr))]), (8, []), (47, []), (48, [])]]
@[reducible] noncomputable def env_R_Behind : Env := [(105, ⟨sig_R_Lacking, F_R_Lacking⟩)]
noncomputable def L_R_Behind_0 (n m1 : Nat) (x2 : Bool) (x3_0 : List (List YElem.den)) (x3_1 : List (Bool)) (x3_2 : List (List YAttr.den)) (x4_0 : List (List YElem.den)) (x4_1 : List (Bool)) (x4_2 : List (List YAttr.den)) (x7_0 : List (List YElem.den)) (x7_1 : List (Bool)) (x7_2 : List (List YAttr.den)) (x8 : Int) : Option sig_R_Behind.Out :=
  loopAt T (env_R_Behind) os_R_Behind sig_R_Behind Try.f41 hs_R_Behind n [.sr, .sr, .sl, .sr, .bl] m1 (mk 136 [(2, .cs false [.val .bool x2]), (3, .box [.val (.list (.list YElem)) x3_0, .val (.list .bool) x3_1, .val (.list (.list YAttr)) x3_2]), (4, .box [.val (.list (.list YElem)) x4_0, .val (.list .bool) x4_1, .val (.list (.list YAttr)) x4_2]), (6, .box [.nils, .nils, .nils]), (7, .box [.own 28 (.list YElem) x7_0, .own 4 .bool x7_1, .own 27 (.list YAttr) x7_2]), (8, .cs false [.val (.int .i64) x8])])
noncomputable def L_R_Behind_1 (n m1 m2 : Nat) (x2 : Bool) (x3_0 : List (List YElem.den)) (x3_1 : List (Bool)) (x3_2 : List (List YAttr.den)) (x4_0 : List (List YElem.den)) (x4_1 : List (Bool)) (x4_2 : List (List YAttr.den)) (x7_0 : List (List YElem.den)) (x7_1 : List (Bool)) (x7_2 : List (List YAttr.den)) (x8 : Int) (x47 : Int) (x48 : Int) : Option sig_R_Behind.Out :=
  loopAt T (env_R_Behind) os_R_Behind sig_R_Behind Try.f41 hs_R_Behind n [.sr, .sr, .sl, .sr, .bl, .lp m1, .sr, .sl, .bl, .sr, .sr, .sl, .sr, .bl] m2 (mk 136 [(2, .cs false [.val .bool x2]), (3, .box [.val (.list (.list YElem)) x3_0, .val (.list .bool) x3_1, .val (.list (.list YAttr)) x3_2]), (4, .box [.val (.list (.list YElem)) x4_0, .val (.list .bool) x4_1, .val (.list (.list YAttr)) x4_2]), (6, .box [.nils, .nils, .nils]), (7, .box [.own 28 (.list YElem) x7_0, .own 4 .bool x7_1, .own 27 (.list YAttr) x7_2]), (8, .cs false [.val (.int .i64) x8]), (47, .cs false [.val (.int .i64) x47]), (48, .cs false [.val (.int .i64) x48])])
noncomputable def J_R_Behind_0 (n m1 : Nat) (y2 : Bool) (y3 : YAct.den) (y4 : YAct.den) (y7_0 : List (List YElem.den)) (y7_1 : List (Bool)) (y7_2 : List (List YAttr.den)) (y8 : Int) : Option sig_R_Behind.Out :=
  (bcond (((y8 : Int) == (List.length y3.2.1 : Int)) == false)
   (if 0 ≤ (y8 : Int) ∧ (y8 : Int) < (List.length y4.2.1 : Int) then
    (bcond (at_ (e := .bool) y4.2.1 y8)
     (L_R_Behind_0 n m1 y2 y3.1 y3.2.1 y3.2.2 y4.1 y4.2.1 y4.2.2 y7_0 y7_1 y7_2 (IntKind.i64.wrap (y8 + 1)))
     (if 0 ≤ (y8 : Int) ∧ (y8 : Int) < (List.length y3.2.2 : Int) then
      (bcond y2
       (if 0 ≤ (y8 : Int) ∧ (y8 : Int) < (List.length y4.2.2 : Int) then
        ((C_R_Lacking F_R_Lacking (at_ (e := (.list YAttr)) y3.2.2 y8) (at_ (e := (.list YAttr)) y4.2.2 y8)).bind fun r1 =>
         (if 0 ≤ (y8 : Int) ∧ (y8 : Int) < (List.length y3.2.1 : Int) then
          (if (List.length (y7_0 : List (Ty.list YElem).den) + List.length ([[]] : List (Ty.list YElem).den)) * 24 ≤ 140737488355328 then
           (if (List.length (y7_1 : List Bool) + List.length ([(at_ (e := .bool) y3.2.1 y8)] : List Bool)) * 1 ≤ 140737488355328 then
            (if (List.length (y7_2 : List (Ty.list YAttr).den) + List.length ([(res_R_Lacking_0 r1)] : List (Ty.list YAttr).den)) * 24 ≤ 140737488355328 then
             (L_R_Behind_0 n m1 y2 y3.1 y3.2.1 y3.2.2 y4.1 y4.2.1 y4.2.2 (y7_0 ++ [[]]) (y7_1 ++ [(at_ (e := .bool) y3.2.1 y8)]) (y7_2 ++ [(res_R_Lacking_0 r1)]) (IntKind.i64.wrap (y8 + 1)))
            else none)
           else none)
          else none)
         else none))
       else none)
       (if 0 ≤ (y8 : Int) ∧ (y8 : Int) < (List.length y3.2.1 : Int) then
        (if (List.length (y7_0 : List (Ty.list YElem).den) + List.length ([[]] : List (Ty.list YElem).den)) * 24 ≤ 140737488355328 then
         (if (List.length (y7_1 : List Bool) + List.length ([(at_ (e := .bool) y3.2.1 y8)] : List Bool)) * 1 ≤ 140737488355328 then
          (if (List.length (y7_2 : List (Ty.list YAttr).den) + List.length ([(at_ (e := (.list YAttr)) y3.2.2 y8)] : List (Ty.list YAttr).den)) * 24 ≤ 140737488355328 then
           (L_R_Behind_0 n m1 y2 y3.1 y3.2.1 y3.2.2 y4.1 y4.2.1 y4.2.2 (y7_0 ++ [[]]) (y7_1 ++ [(at_ (e := .bool) y3.2.1 y8)]) (y7_2 ++ [(at_ (e := (.list YAttr)) y3.2.2 y8)]) (IntKind.i64.wrap (y8 + 1)))
          else none)
         else none)
        else none)
       else none))
     else none))
   else none)
   (L_R_Behind_0 n m1 y2 y3.1 y3.2.1 y3.2.2 y4.1 y4.2.1 y4.2.2 y7_0 y7_1 y7_2 (IntKind.i64.wrap (y8 + 1))))
theorem L_R_Behind_0_step (n m1 : Nat) (x2 : Bool) (x3_0 : List (List YElem.den)) (x3_1 : List (Bool)) (x3_2 : List (List YAttr.den)) (x4_0 : List (List YElem.den)) (x4_1 : List (Bool)) (x4_2 : List (List YAttr.den)) (x7_0 : List (List YElem.den)) (x7_1 : List (Bool)) (x7_2 : List (List YAttr.den)) (x8 : Int) : L_R_Behind_0 n (m1 + 1) x2 x3_0 x3_1 x3_2 x4_0 x4_1 x4_2 x7_0 x7_1 x7_2 x8 =
  (bcond (decide ((x8 : Int) ≤ (List.length x3_1 : Int)))
   (bcond x2
    (if 0 ≤ ((IntKind.i64.wrap ((List.length x7_0 : Int) - 1)) : Int) ∧ ((IntKind.i64.wrap ((List.length x7_0 : Int) - 1)) : Int) < (List.length x7_0 : Int) then
     (if 0 ≤ (x8 : Int) ∧ (x8 : Int) < (List.length x3_0 : Int) then
      (if (List.length ([] : List YElem.den) + List.length ((at_ (e := (.list YElem)) x7_0 (IntKind.i64.wrap ((List.length x7_0 : Int) - 1))) : List YElem.den)) * 40 ≤ 140737488355328 then
       (if (List.length (([] ++ (at_ (e := (.list YElem)) x7_0 (IntKind.i64.wrap ((List.length x7_0 : Int) - 1)))) : List YElem.den) + List.length ((at_ (e := (.list YElem)) x3_0 x8) : List YElem.den)) * 40 ≤ 140737488355328 then
        (if 0 ≤ ((IntKind.i64.wrap ((List.length x7_0 : Int) - 1)) : Int) ∧ ((IntKind.i64.wrap ((List.length x7_0 : Int) - 1)) : Int) < (List.length x7_0 : Int) then
         (if 0 ≤ (x8 : Int) ∧ (x8 : Int) < (List.length x4_0 : Int) then
          (L_R_Behind_1 n m1 n x2 x3_0 x3_1 x3_2 x4_0 x4_1 x4_2 (List.set x7_0 (Int.toNat (IntKind.i64.wrap ((List.length x7_0 : Int) - 1))) (([] ++ (at_ (e := (.list YElem)) x7_0 (IntKind.i64.wrap ((List.length x7_0 : Int) - 1)))) ++ (at_ (e := (.list YElem)) x3_0 x8))) x7_1 x7_2 x8 (List.length (at_ (e := (.list YElem)) x4_0 x8) : Int) 0)
         else none)
        else none)
       else none)
      else none)
     else none)
    else none)
    (if 0 ≤ (x8 : Int) ∧ (x8 : Int) < (List.length x4_0 : Int) then
     (L_R_Behind_1 n m1 n x2 x3_0 x3_1 x3_2 x4_0 x4_1 x4_2 x7_0 x7_1 x7_2 x8 (List.length (at_ (e := (.list YElem)) x4_0 x8) : Int) 0)
    else none))
   (some (ret_R_Behind (x7_0, (x7_1, x7_2))))) := by kernel_rfl
theorem L_R_Behind_1_step (n m1 m2 : Nat) (x2 : Bool) (x3_0 : List (List YElem.den)) (x3_1 : List (Bool)) (x3_2 : List (List YAttr.den)) (x4_0 : List (List YElem.den)) (x4_1 : List (Bool)) (x4_2 : List (List YAttr.den)) (x7_0 : List (List YElem.den)) (x7_1 : List (Bool)) (x7_2 : List (List YAttr.den)) (x8 : Int) (x47 : Int) (x48 : Int) : L_R_Behind_1 n m1 (m2 + 1) x2 x3_0 x3_1 x3_2 x4_0 x4_1 x4_2 x7_0 x7_1 x7_2 x8 x47 x48 =
  (bcond (decide ((x48 : Int) < x47))
   (if (List.length (x7_0 : List (Ty.list YElem).den) + List.length ([[]] : List (Ty.list YElem).den)) * 24 ≤ 140737488355328 then
    (if (List.length (x7_1 : List Bool) + List.length ([false] : List Bool)) * 1 ≤ 140737488355328 then
     (if (List.length (x7_2 : List (Ty.list YAttr).den) + List.length ([[]] : List (Ty.list YAttr).den)) * 24 ≤ 140737488355328 then
      (L_R_Behind_1 n m1 m2 x2 x3_0 x3_1 x3_2 x4_0 x4_1 x4_2 (x7_0 ++ [[]]) (x7_1 ++ [false]) (x7_2 ++ [[]]) x8 x47 (IntKind.i64.wrap (x48 + 1)))
     else none)
    else none)
   else none)
   (bcond (!x2)
    (if 0 ≤ ((IntKind.i64.wrap ((List.length x7_0 : Int) - 1)) : Int) ∧ ((IntKind.i64.wrap ((List.length x7_0 : Int) - 1)) : Int) < (List.length x7_0 : Int) then
     (if 0 ≤ (x8 : Int) ∧ (x8 : Int) < (List.length x3_0 : Int) then
      (if (List.length ([] : List YElem.den) + List.length ((at_ (e := (.list YElem)) x7_0 (IntKind.i64.wrap ((List.length x7_0 : Int) - 1))) : List YElem.den)) * 40 ≤ 140737488355328 then
       (if (List.length (([] ++ (at_ (e := (.list YElem)) x7_0 (IntKind.i64.wrap ((List.length x7_0 : Int) - 1)))) : List YElem.den) + List.length ((at_ (e := (.list YElem)) x3_0 x8) : List YElem.den)) * 40 ≤ 140737488355328 then
        (if 0 ≤ ((IntKind.i64.wrap ((List.length x7_0 : Int) - 1)) : Int) ∧ ((IntKind.i64.wrap ((List.length x7_0 : Int) - 1)) : Int) < (List.length x7_0 : Int) then
         (J_R_Behind_0 n m1 x2 (x3_0, (x3_1, x3_2)) (x4_0, (x4_1, x4_2)) (List.set x7_0 (Int.toNat (IntKind.i64.wrap ((List.length x7_0 : Int) - 1))) (([] ++ (at_ (e := (.list YElem)) x7_0 (IntKind.i64.wrap ((List.length x7_0 : Int) - 1)))) ++ (at_ (e := (.list YElem)) x3_0 x8))) x7_1 x7_2 x8)
        else none)
       else none)
      else none)
     else none)
    else none)
    (J_R_Behind_0 n m1 x2 (x3_0, (x3_1, x3_2)) (x4_0, (x4_1, x4_2)) x7_0 x7_1 x7_2 x8))) := by kernel_rfl
theorem ok_R_Behind : fnOk os_R_Behind sig_R_Behind Try.f41 = true := by kernel_rfl
theorem fn_R_Behind : P.funcs[41]? = some Try.f41 := by kernel_rfl
noncomputable def F_R_Behind : sig_R_Behind.Fn := fun x y => run T (env_R_Behind) os_R_Behind sig_R_Behind Try.f41 hs_R_Behind big x y
theorem S_R_Behind : Sound P 41 ⟨sig_R_Behind, F_R_Behind⟩ := sound_of (os := os_R_Behind) (hs := hs_R_Behind) (env_cons S_R_Lacking (env_nil)) fn_R_Behind ok_R_Behind (fun x y out h => ⟨big, h⟩)
theorem e_R_Behind (a0 : YAct.den) (a1 : YAct.den) (a2 : Bool) : C_R_Behind F_R_Behind a0 a1 a2 =
  (L_R_Behind_0 big big a2 a0.1 a0.2.1 a0.2.2 a1.1 a1.2.1 a1.2.2 [[]] [] [] 0) := by kernel_rfl
end Go.Ev
