/- Functions, step by step. -/
import Derived.Test.YtlgjdgebmiegeaaGWriter
namespace Go.Ev
set_option linter.unusedVariables false
set_option maxRecDepth 100000
open Go.Proofs
def sig_R_ActOf : Sig := ⟨[.v false (.list YStep)], [], [(true, [.fr YAct])]⟩
def ret_R_ActOf (v0 : YAct.den) : sig_R_ActOf.Out := (((v0, ()), ()), ())
def os_R_ActOf : RegT := ⟨[(8, .st 0 (.st 2 (.st 4 (.st 6 (.st 10 (.st 5 (.st 7 (.st 8 (.grp [1, 11, 3, 9, 12] (.st 13 (.st 14 (.nil))))))))))))], [], false⟩
def hs_R_ActOf : List Keep := [[(0, []), (2, []), (3, [(0, 28, (.list YElem)), (1, 4, .bool), (2, 27, (.list YAttr))]), (10, []), (11, [])], [(0, []), (2, []), (3, [(0, 28, (.list YElem)), (1, 4, .bool), (2, 27, (.list YAttr))]), (5, []), (10, []), (11, []), (40, []), (41, [])]]
@[reducible] noncomputable def env_R_ActOf : Env := []
noncomputable def L_R_ActOf_0 (n m1 : Nat) (x0 : List YStep.den) (x3_0 : List (List YElem.den)) (x3_1 : List (Bool)) (x3_2 : List (List YAttr.den)) (x10 : Int) (x11 : Int) : Option sig_R_ActOf.Out :=
  loopAt T (env_R_ActOf) os_R_ActOf sig_R_ActOf Try.f21 hs_R_ActOf n [.sr, .sr, .sl, .sr, .bl] m1 (mk 66 [(0, .cs false [.val (.list YStep) x0]), (2, .box [.nils, .nils, .nils]), (3, .box [.own 28 (.list YElem) x3_0, .own 4 .bool x3_1, .own 27 (.list YAttr) x3_2]), (10, .cs false [.val (.int .i64) x10]), (11, .cs false [.val (.int .i64) x11])])
noncomputable def L_R_ActOf_1 (n m1 m2 : Nat) (x0 : List YStep.den) (x3_0 : List (List YElem.den)) (x3_1 : List (Bool)) (x3_2 : List (List YAttr.den)) (x5_0 : Int) (x5_1 : Int) (x5_2 : List YAttr.den) (x5_3 : List YElem.den) (x10 : Int) (x11 : Int) (x40 : Int) (x41 : Int) : Option sig_R_ActOf.Out :=
  loopAt T (env_R_ActOf) os_R_ActOf sig_R_ActOf Try.f21 hs_R_ActOf n [.sr, .sr, .sl, .sr, .bl, .lp m1, .sr, .sr, .sl, .bl, .sr, .sr, .sr, .sr, .bl] m2 (mk 66 [(0, .cs false [.val (.list YStep) x0]), (2, .box [.nils, .nils, .nils]), (3, .box [.own 28 (.list YElem) x3_0, .own 4 .bool x3_1, .own 27 (.list YAttr) x3_2]), (5, .box [.val (.int .i64) x5_0, .val (.int .i64) x5_1, .val (.list YAttr) x5_2, .val (.list YElem) x5_3]), (10, .cs false [.val (.int .i64) x10]), (11, .cs false [.val (.int .i64) x11]), (40, .cs false [.val (.int .i64) x40]), (41, .cs false [.val (.int .i64) x41])])
theorem L_R_ActOf_0_step (n m1 : Nat) (x0 : List YStep.den) (x3_0 : List (List YElem.den)) (x3_1 : List (Bool)) (x3_2 : List (List YAttr.den)) (x10 : Int) (x11 : Int) : L_R_ActOf_0 n (m1 + 1) x0 x3_0 x3_1 x3_2 x10 x11 =
  (bcond (decide ((x11 : Int) < x10))
   (if 0 ≤ (x11 : Int) ∧ (x11 : Int) < (List.length x0 : Int) then
    (bcond (((at_ (e := YStep) x0 x11).1 : Int) == 1)
     (if 0 ≤ ((IntKind.i64.wrap ((List.length x3_0 : Int) - 1)) : Int) ∧ ((IntKind.i64.wrap ((List.length x3_0 : Int) - 1)) : Int) < (List.length x3_0 : Int) then
      (if (List.length ([] : List YElem.den) + List.length ((at_ (e := (.list YElem)) x3_0 (IntKind.i64.wrap ((List.length x3_0 : Int) - 1))) : List YElem.den)) * 40 ≤ 140737488355328 then
       (if (List.length (([] ++ (at_ (e := (.list YElem)) x3_0 (IntKind.i64.wrap ((List.length x3_0 : Int) - 1)))) : List YElem.den) + List.length ((at_ (e := YStep) x0 x11).2.2.2 : List YElem.den)) * 40 ≤ 140737488355328 then
        (if 0 ≤ ((IntKind.i64.wrap ((List.length x3_0 : Int) - 1)) : Int) ∧ ((IntKind.i64.wrap ((List.length x3_0 : Int) - 1)) : Int) < (List.length x3_0 : Int) then
         (L_R_ActOf_0 n m1 x0 (List.set x3_0 (Int.toNat (IntKind.i64.wrap ((List.length x3_0 : Int) - 1))) (([] ++ (at_ (e := (.list YElem)) x3_0 (IntKind.i64.wrap ((List.length x3_0 : Int) - 1)))) ++ (at_ (e := YStep) x0 x11).2.2.2)) x3_1 x3_2 x10 (IntKind.i64.wrap (x11 + 1)))
        else none)
       else none)
      else none)
     else none)
     (L_R_ActOf_1 n m1 n x0 x3_0 x3_1 x3_2 (at_ (e := YStep) x0 x11).1 (at_ (e := YStep) x0 x11).2.1 (at_ (e := YStep) x0 x11).2.2.1 (at_ (e := YStep) x0 x11).2.2.2 x10 x11 (at_ (e := YStep) x0 x11).2.1 0))
   else none)
   (some (ret_R_ActOf (x3_0, (x3_1, x3_2))))) := by kernel_rfl
theorem L_R_ActOf_1_step (n m1 m2 : Nat) (x0 : List YStep.den) (x3_0 : List (List YElem.den)) (x3_1 : List (Bool)) (x3_2 : List (List YAttr.den)) (x5_0 : Int) (x5_1 : Int) (x5_2 : List YAttr.den) (x5_3 : List YElem.den) (x10 : Int) (x11 : Int) (x40 : Int) (x41 : Int) : L_R_ActOf_1 n m1 (m2 + 1) x0 x3_0 x3_1 x3_2 x5_0 x5_1 x5_2 x5_3 x10 x11 x40 x41 =
  (bcond (decide ((x41 : Int) < x40))
   (if (List.length (x3_0 : List (Ty.list YElem).den) + List.length ([[]] : List (Ty.list YElem).den)) * 24 ≤ 140737488355328 then
    (if (List.length (x3_1 : List Bool) + List.length ([((x5_0 : Int) == 2)] : List Bool)) * 1 ≤ 140737488355328 then
     (if (List.length (x3_2 : List (Ty.list YAttr).den) + List.length ([x5_2] : List (Ty.list YAttr).den)) * 24 ≤ 140737488355328 then
      (L_R_ActOf_1 n m1 m2 x0 (x3_0 ++ [[]]) (x3_1 ++ [((x5_0 : Int) == 2)]) (x3_2 ++ [x5_2]) x5_0 x5_1 x5_2 x5_3 x10 x11 x40 (IntKind.i64.wrap (x41 + 1)))
     else none)
    else none)
   else none)
   (L_R_ActOf_0 n m1 x0 x3_0 x3_1 x3_2 x10 (IntKind.i64.wrap (x11 + 1)))) := by kernel_rfl
end Go.Ev
