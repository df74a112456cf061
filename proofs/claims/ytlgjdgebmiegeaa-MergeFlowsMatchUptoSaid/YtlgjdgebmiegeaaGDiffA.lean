/- Functions, step by step. -/
import Derived.Test.YtlgjdgebmiegeaaGDiff
namespace Go.Ev
set_option linter.unusedVariables false
set_option maxRecDepth 100000
open Go.Proofs
def sig_R_DiffAct : Sig := ⟨[.v false (.list YElem), .v false (.list YElem)], [], [(true, [.fr YAct])]⟩
def C_R_DiffAct (F : sig_R_DiffAct.Fn) (a0 : List YElem.den) (a1 : List YElem.den) : Option sig_R_DiffAct.Out := F (a0, a1, ()) ()
def ret_R_DiffAct (v0 : YAct.den) : sig_R_DiffAct.Out := (((v0, ()), ()), ())
def res_R_DiffAct_0 (r : sig_R_DiffAct.Out) : YAct.den := r.1.1.1
@[simp] theorem res_R_DiffAct_0_ret (v0 : YAct.den) : res_R_DiffAct_0 (ret_R_DiffAct v0) = v0 := rfl
def os_R_DiffAct : RegT := ⟨[(6, .st 0 (.st 1 (.st 2 (.st 3 (.st 4 (.st 5 (.st 6 (.st 7 (.st 8 (.st 9 (.st 10 (.st 11 (.st 13 (.st 14 (.st 15 (.st 12 (.st 16 (.st 17 (.st 18 (.st 19 (.st 20 (.st 21 (.st 22 (.st 24 (.st 25 (.st 26 (.st 23 (.st 27 (.st 28 (.st 29 (.st 30 (.st 31 (.st 32 (.st 33 (.st 34 (.st 35 (.st 36 (.st 37 (.st 38 (.st 39 (.st 40 (.st 41 (.st 42 (.st 43 (.st 44 (.st 45 (.st 46 (.st 47 (.nil))))))))))))))))))))))))))))))))))))))))))))))))), (9, .st 0 (.st 1 (.st 2 (.st 4 (.st 5 (.st 6 (.st 3 (.st 7 (.st 8 (.st 9 (.nil))))))))))), (11, .st 0 (.st 1 (.st 2 (.st 3 (.st 4 (.st 5 (.st 6 (.st 7 (.st 8 (.st 9 (.st 10 (.nil)))))))))))), (15, .st 0 (.st 2 (.st 4 (.st 6 (.st 10 (.st 11 (.st 5 (.st 7 (.st 8 (.grp [1, 12, 3, 13, 9, 14] (.st 15 (.st 16 (.nil))))))))))))), (18, .st 0 (.st 4 (.st 8 (.st 10 (.st 11 (.st 12 (.st 14 (.st 15 (.st 16 (.st 1 (.grp [5, 9, 13, 17, 2, 6, 3, 21, 7, 18, 19, 20] (.st 22 (.st 23 (.st 24 (.st 25 (.st 26 (.nil))))))))))))))))), (19, .st 0 (.st 1 (.st 2 (.st 3 (.st 4 (.st 5 (.nil))))))), (23, .st 0 (.st 4 (.st 8 (.st 1 (.grp [5, 9, 2, 6, 10, 3, 12, 7, 11] (.st 13 (.st 14 (.st 15 (.st 16 (.st 17 (.nil)))))))))))], [], false⟩
def hs_R_DiffAct : List Keep := [[(0, []), (1, []), (4, []), (5, [(0, 28, (.list YElem)), (1, 4, .bool), (2, 27, (.list YAttr))]), (6, [])], [(0, []), (1, []), (4, []), (5, [(0, 28, (.list YElem)), (1, 4, .bool), (2, 27, (.list YAttr))]), (6, []), (11, [])]]
@[reducible] noncomputable def env_R_DiffAct : Env := [(70, ⟨sig_R_Tied, F_R_Tied⟩), (69, ⟨sig_R_DiffCost, F_R_DiffCost⟩), (77, ⟨sig_R_SameAttrs, F_R_SameAttrs⟩), (91, ⟨sig_R_Between, F_R_Between⟩)]
noncomputable def L_R_DiffAct_0 (n m1 : Nat) (x0 : List YElem.den) (x1 : List YElem.den) (x5_0 : List (List YElem.den)) (x5_1 : List (Bool)) (x5_2 : List (List YAttr.den)) (x6 : Bool) : Option sig_R_DiffAct.Out :=
  loopAt T (env_R_DiffAct) os_R_DiffAct sig_R_DiffAct Try.f67 hs_R_DiffAct n [.sr, .sr, .sr, .sl, .bl] m1 (mk 219 [(0, .cs false [.val (.list YElem) x0]), (1, .cs false [.val (.list YElem) x1]), (4, .box [.nils, .nils, .nils]), (5, .box [.own 28 (.list YElem) x5_0, .own 4 .bool x5_1, .own 27 (.list YAttr) x5_2]), (6, .cs false [.val .bool x6])])
noncomputable def L_R_DiffAct_1 (n m1 m2 : Nat) (x0 : List YElem.den) (x1 : List YElem.den) (x5_0 : List (List YElem.den)) (x5_1 : List (Bool)) (x5_2 : List (List YAttr.den)) (x6 : Bool) (x11 : Int) : Option sig_R_DiffAct.Out :=
  loopAt T (env_R_DiffAct) os_R_DiffAct sig_R_DiffAct Try.f67 hs_R_DiffAct n [.sr, .sr, .sr, .sl, .bl, .lp m1, .sr, .bl, .sr, .sr, .sr, .sr, .sr, .bl, .sr, .cf, .sr, .cf, .sl, .bl] m2 (mk 219 [(0, .cs false [.val (.list YElem) x0]), (1, .cs false [.val (.list YElem) x1]), (4, .box [.nils, .nils, .nils]), (5, .box [.own 28 (.list YElem) x5_0, .own 4 .bool x5_1, .own 27 (.list YAttr) x5_2]), (6, .cs false [.val .bool x6]), (11, .cs false [.val (.int .i64) x11])])
noncomputable def J_R_DiffAct_0 (n m1 : Nat) (y0 : List YElem.den) (y1 : List YElem.den) (y5_0 : List (List YElem.den)) (y5_1 : List (Bool)) (y5_2 : List (List YAttr.den)) (y6 : Bool) (y7 : Bool) (y8 : Int) (y9 : Bool) : Option sig_R_DiffAct.Out :=
  (bcond y9
   (if 0 ≤ (0 : Int) ∧ (0 : Int) < (List.length y0 : Int) then
    (if 0 ≤ (0 : Int) ∧ (0 : Int) < (List.length y1 : Int) then
     (if (List.length (y5_0 : List (Ty.list YElem).den) + List.length ([[]] : List (Ty.list YElem).den)) * 24 ≤ 140737488355328 then
      (if (List.length (y5_1 : List Bool) + List.length ([false] : List Bool)) * 1 ≤ 140737488355328 then
       ((C_R_Between F_R_Between (at_ (e := YElem) y0 0).2.2 (at_ (e := YElem) y1 0).2.2).bind fun r4 =>
        (if (List.length (y5_2 : List (Ty.list YAttr).den) + List.length ([(res_R_Between_0 r4)] : List (Ty.list YAttr).den)) * 24 ≤ 140737488355328 then
         (if 0 ≤ ((List.length y0 : Int) : Int) ∧ ((List.length y0 : Int) : Int) ≤ (List.length y0 : Int) ∧ 0 ≤ (1 : Int) ∧ (1 : Int) ≤ (List.length y0 : Int) then
          (if 0 ≤ ((List.length y1 : Int) : Int) ∧ ((List.length y1 : Int) : Int) ≤ (List.length y1 : Int) ∧ 0 ≤ (1 : Int) ∧ (1 : Int) ≤ (List.length y1 : Int) then
           (bcond y7
            (some (ret_R_DiffAct ((y5_0 ++ [[]]), ((y5_1 ++ [false]), (y5_2 ++ [(res_R_Between_0 r4)])))))
            (L_R_DiffAct_0 n m1 (List.drop (Int.toNat 1) (List.take (Int.toNat (List.length y0 : Int)) y0)) (List.drop (Int.toNat 1) (List.take (Int.toNat (List.length y1 : Int)) y1)) (y5_0 ++ [[]]) (y5_1 ++ [false]) (y5_2 ++ [(res_R_Between_0 r4)]) y6))
          else none)
         else none)
        else none))
      else none)
     else none)
    else none)
   else none)
   (bcond ((decide (((List.length y0 : Int) : Int) > 0)) == true)
    (bcond ((!y6) == false)
     (bcond ((decide (((List.length y0 : Int) : Int) > 1)) == true)
      (if 0 ≤ ((List.length y0 : Int) : Int) ∧ ((List.length y0 : Int) : Int) ≤ (List.length y0 : Int) ∧ 0 ≤ (1 : Int) ∧ (1 : Int) ≤ (List.length y0 : Int) then
       ((C_R_DiffCost F_R_DiffCost (List.drop (Int.toNat 1) (List.take (Int.toNat (List.length y0 : Int)) y0)) y1 y6).bind fun r4 =>
        (bcond ((y8 : Int) == (IntKind.i64.wrap (1 + (res_R_DiffCost_0 r4))))
         (if (List.length (y5_0 : List (Ty.list YElem).den) + List.length ([[]] : List (Ty.list YElem).den)) * 24 ≤ 140737488355328 then
          (if (List.length (y5_1 : List Bool) + List.length ([true] : List Bool)) * 1 ≤ 140737488355328 then
           (if (List.length (y5_2 : List (Ty.list YAttr).den) + List.length ([[]] : List (Ty.list YAttr).den)) * 24 ≤ 140737488355328 then
            (if 0 ≤ ((List.length y0 : Int) : Int) ∧ ((List.length y0 : Int) : Int) ≤ (List.length y0 : Int) ∧ 0 ≤ (1 : Int) ∧ (1 : Int) ≤ (List.length y0 : Int) then
             (L_R_DiffAct_0 n m1 (List.drop (Int.toNat 1) (List.take (Int.toNat (List.length y0 : Int)) y0)) y1 (y5_0 ++ [[]]) (y5_1 ++ [true]) (y5_2 ++ [[]]) y6)
            else none)
           else none)
          else none)
         else none)
         (L_R_DiffAct_1 n m1 n y0 y1 y5_0 y5_1 y5_2 y6 (IntKind.i64.wrap ((List.length y5_0 : Int) - 1)))))
      else none)
      (L_R_DiffAct_1 n m1 n y0 y1 y5_0 y5_1 y5_2 y6 (IntKind.i64.wrap ((List.length y5_0 : Int) - 1))))
     (if 0 ≤ ((List.length y0 : Int) : Int) ∧ ((List.length y0 : Int) : Int) ≤ (List.length y0 : Int) ∧ 0 ≤ (1 : Int) ∧ (1 : Int) ≤ (List.length y0 : Int) then
      ((C_R_DiffCost F_R_DiffCost (List.drop (Int.toNat 1) (List.take (Int.toNat (List.length y0 : Int)) y0)) y1 y6).bind fun r4 =>
       (bcond ((y8 : Int) == (IntKind.i64.wrap (1 + (res_R_DiffCost_0 r4))))
        (if (List.length (y5_0 : List (Ty.list YElem).den) + List.length ([[]] : List (Ty.list YElem).den)) * 24 ≤ 140737488355328 then
         (if (List.length (y5_1 : List Bool) + List.length ([true] : List Bool)) * 1 ≤ 140737488355328 then
          (if (List.length (y5_2 : List (Ty.list YAttr).den) + List.length ([[]] : List (Ty.list YAttr).den)) * 24 ≤ 140737488355328 then
           (if 0 ≤ ((List.length y0 : Int) : Int) ∧ ((List.length y0 : Int) : Int) ≤ (List.length y0 : Int) ∧ 0 ≤ (1 : Int) ∧ (1 : Int) ≤ (List.length y0 : Int) then
            (L_R_DiffAct_0 n m1 (List.drop (Int.toNat 1) (List.take (Int.toNat (List.length y0 : Int)) y0)) y1 (y5_0 ++ [[]]) (y5_1 ++ [true]) (y5_2 ++ [[]]) y6)
           else none)
          else none)
         else none)
        else none)
        (L_R_DiffAct_1 n m1 n y0 y1 y5_0 y5_1 y5_2 y6 (IntKind.i64.wrap ((List.length y5_0 : Int) - 1)))))
     else none))
    (L_R_DiffAct_1 n m1 n y0 y1 y5_0 y5_1 y5_2 y6 (IntKind.i64.wrap ((List.length y5_0 : Int) - 1)))))
theorem L_R_DiffAct_0_step (n m1 : Nat) (x0 : List YElem.den) (x1 : List YElem.den) (x5_0 : List (List YElem.den)) (x5_1 : List (Bool)) (x5_2 : List (List YAttr.den)) (x6 : Bool) : L_R_DiffAct_0 n (m1 + 1) x0 x1 x5_0 x5_1 x5_2 x6 =
  (bcond ((decide (((List.length x0 : Int) : Int) > 0)) == false)
   (bcond (decide (((List.length x1 : Int) : Int) > 0))
    (bcond (x6 == true)
     (bcond ((((List.length x0 : Int) : Int) == 1) == true)
      ((C_R_DiffCost F_R_DiffCost x0 x1 x6).bind fun r1 =>
       (bcond ((decide (((List.length x0 : Int) : Int) > 0)) == true)
        (bcond ((decide (((List.length x1 : Int) : Int) > 0)) == true)
         (if 0 ≤ (0 : Int) ∧ (0 : Int) < (List.length x0 : Int) then
          (if 0 ≤ (0 : Int) ∧ (0 : Int) < (List.length x1 : Int) then
           (bcond ((((at_ (e := YElem) x0 0).1 : Int) == (at_ (e := YElem) x1 0).1) == true)
            (if 0 ≤ (0 : Int) ∧ (0 : Int) < (List.length x0 : Int) then
             (if 0 ≤ (0 : Int) ∧ (0 : Int) < (List.length x1 : Int) then
              (bcond ((((at_ (e := YElem) x0 0).2.1 : Int) == (at_ (e := YElem) x1 0).2.1) == true)
               (bcond ((!x6) == false)
                (bcond ((((List.length x1 : Int) : Int) == 1) == false)
                 (bcond ((decide (((List.length x0 : Int) : Int) > 1)) == true)
                  (bcond ((decide (((List.length x1 : Int) : Int) > 1)) == true)
                   (bcond (!(((List.length x1 : Int) : Int) == 1))
                    (if 0 ≤ (0 : Int) ∧ (0 : Int) < (List.length x0 : Int) then
                     (if 0 ≤ (0 : Int) ∧ (0 : Int) < (List.length x1 : Int) then
                      ((C_R_SameAttrs F_R_SameAttrs (at_ (e := YElem) x0 0).2.2 (at_ (e := YElem) x1 0).2.2).bind fun r2 =>
                       (bcond (!(res_R_SameAttrs_0 r2))
                        (if 0 ≤ ((List.length x0 : Int) : Int) ∧ ((List.length x0 : Int) : Int) ≤ (List.length x0 : Int) ∧ 0 ≤ (1 : Int) ∧ (1 : Int) ≤ (List.length x0 : Int) then
                         (if 0 ≤ ((List.length x1 : Int) : Int) ∧ ((List.length x1 : Int) : Int) ≤ (List.length x1 : Int) ∧ 0 ≤ (1 : Int) ∧ (1 : Int) ≤ (List.length x1 : Int) then
                          ((C_R_DiffCost F_R_DiffCost (List.drop (Int.toNat 1) (List.take (Int.toNat (List.length x0 : Int)) x0)) (List.drop (Int.toNat 1) (List.take (Int.toNat (List.length x1 : Int)) x1)) x6).bind fun r3 =>
                           (J_R_DiffAct_0 n m1 x0 x1 x5_0 x5_1 x5_2 x6 (((List.length x1 : Int) : Int) == 1) (res_R_DiffCost_0 r1) (((res_R_DiffCost_0 r1) : Int) == (IntKind.i64.wrap (1 + (res_R_DiffCost_0 r3))))))
                         else none)
                        else none)
                        (if 0 ≤ ((List.length x0 : Int) : Int) ∧ ((List.length x0 : Int) : Int) ≤ (List.length x0 : Int) ∧ 0 ≤ (1 : Int) ∧ (1 : Int) ≤ (List.length x0 : Int) then
                         (if 0 ≤ ((List.length x1 : Int) : Int) ∧ ((List.length x1 : Int) : Int) ≤ (List.length x1 : Int) ∧ 0 ≤ (1 : Int) ∧ (1 : Int) ≤ (List.length x1 : Int) then
                          ((C_R_DiffCost F_R_DiffCost (List.drop (Int.toNat 1) (List.take (Int.toNat (List.length x0 : Int)) x0)) (List.drop (Int.toNat 1) (List.take (Int.toNat (List.length x1 : Int)) x1)) x6).bind fun r3 =>
                           (J_R_DiffAct_0 n m1 x0 x1 x5_0 x5_1 x5_2 x6 (((List.length x1 : Int) : Int) == 1) (res_R_DiffCost_0 r1) (((res_R_DiffCost_0 r1) : Int) == (IntKind.i64.wrap (0 + (res_R_DiffCost_0 r3))))))
                         else none)
                        else none)))
                     else none)
                    else none)
                    (J_R_DiffAct_0 n m1 x0 x1 x5_0 x5_1 x5_2 x6 (((List.length x1 : Int) : Int) == 1) (res_R_DiffCost_0 r1) (decide (((List.length x1 : Int) : Int) > 1))))
                   (J_R_DiffAct_0 n m1 x0 x1 x5_0 x5_1 x5_2 x6 (((List.length x1 : Int) : Int) == 1) (res_R_DiffCost_0 r1) (decide (((List.length x1 : Int) : Int) > 1))))
                  (J_R_DiffAct_0 n m1 x0 x1 x5_0 x5_1 x5_2 x6 (((List.length x1 : Int) : Int) == 1) (res_R_DiffCost_0 r1) false))
                 (bcond (!(((List.length x1 : Int) : Int) == 1))
                  (if 0 ≤ (0 : Int) ∧ (0 : Int) < (List.length x0 : Int) then
                   (if 0 ≤ (0 : Int) ∧ (0 : Int) < (List.length x1 : Int) then
                    ((C_R_SameAttrs F_R_SameAttrs (at_ (e := YElem) x0 0).2.2 (at_ (e := YElem) x1 0).2.2).bind fun r2 =>
                     (bcond (!(res_R_SameAttrs_0 r2))
                      (if 0 ≤ ((List.length x0 : Int) : Int) ∧ ((List.length x0 : Int) : Int) ≤ (List.length x0 : Int) ∧ 0 ≤ (1 : Int) ∧ (1 : Int) ≤ (List.length x0 : Int) then
                       (if 0 ≤ ((List.length x1 : Int) : Int) ∧ ((List.length x1 : Int) : Int) ≤ (List.length x1 : Int) ∧ 0 ≤ (1 : Int) ∧ (1 : Int) ≤ (List.length x1 : Int) then
                        ((C_R_DiffCost F_R_DiffCost (List.drop (Int.toNat 1) (List.take (Int.toNat (List.length x0 : Int)) x0)) (List.drop (Int.toNat 1) (List.take (Int.toNat (List.length x1 : Int)) x1)) x6).bind fun r3 =>
                         (J_R_DiffAct_0 n m1 x0 x1 x5_0 x5_1 x5_2 x6 (((List.length x1 : Int) : Int) == 1) (res_R_DiffCost_0 r1) (((res_R_DiffCost_0 r1) : Int) == (IntKind.i64.wrap (1 + (res_R_DiffCost_0 r3))))))
                       else none)
                      else none)
                      (if 0 ≤ ((List.length x0 : Int) : Int) ∧ ((List.length x0 : Int) : Int) ≤ (List.length x0 : Int) ∧ 0 ≤ (1 : Int) ∧ (1 : Int) ≤ (List.length x0 : Int) then
                       (if 0 ≤ ((List.length x1 : Int) : Int) ∧ ((List.length x1 : Int) : Int) ≤ (List.length x1 : Int) ∧ 0 ≤ (1 : Int) ∧ (1 : Int) ≤ (List.length x1 : Int) then
                        ((C_R_DiffCost F_R_DiffCost (List.drop (Int.toNat 1) (List.take (Int.toNat (List.length x0 : Int)) x0)) (List.drop (Int.toNat 1) (List.take (Int.toNat (List.length x1 : Int)) x1)) x6).bind fun r3 =>
                         (J_R_DiffAct_0 n m1 x0 x1 x5_0 x5_1 x5_2 x6 (((List.length x1 : Int) : Int) == 1) (res_R_DiffCost_0 r1) (((res_R_DiffCost_0 r1) : Int) == (IntKind.i64.wrap (0 + (res_R_DiffCost_0 r3))))))
                       else none)
                      else none)))
                   else none)
                  else none)
                  (J_R_DiffAct_0 n m1 x0 x1 x5_0 x5_1 x5_2 x6 (((List.length x1 : Int) : Int) == 1) (res_R_DiffCost_0 r1) true)))
                (bcond (!(((List.length x1 : Int) : Int) == 1))
                 (if 0 ≤ (0 : Int) ∧ (0 : Int) < (List.length x0 : Int) then
                  (if 0 ≤ (0 : Int) ∧ (0 : Int) < (List.length x1 : Int) then
                   ((C_R_SameAttrs F_R_SameAttrs (at_ (e := YElem) x0 0).2.2 (at_ (e := YElem) x1 0).2.2).bind fun r2 =>
                    (bcond (!(res_R_SameAttrs_0 r2))
                     (if 0 ≤ ((List.length x0 : Int) : Int) ∧ ((List.length x0 : Int) : Int) ≤ (List.length x0 : Int) ∧ 0 ≤ (1 : Int) ∧ (1 : Int) ≤ (List.length x0 : Int) then
                      (if 0 ≤ ((List.length x1 : Int) : Int) ∧ ((List.length x1 : Int) : Int) ≤ (List.length x1 : Int) ∧ 0 ≤ (1 : Int) ∧ (1 : Int) ≤ (List.length x1 : Int) then
                       ((C_R_DiffCost F_R_DiffCost (List.drop (Int.toNat 1) (List.take (Int.toNat (List.length x0 : Int)) x0)) (List.drop (Int.toNat 1) (List.take (Int.toNat (List.length x1 : Int)) x1)) x6).bind fun r3 =>
                        (J_R_DiffAct_0 n m1 x0 x1 x5_0 x5_1 x5_2 x6 (((List.length x1 : Int) : Int) == 1) (res_R_DiffCost_0 r1) (((res_R_DiffCost_0 r1) : Int) == (IntKind.i64.wrap (1 + (res_R_DiffCost_0 r3))))))
                      else none)
                     else none)
                     (if 0 ≤ ((List.length x0 : Int) : Int) ∧ ((List.length x0 : Int) : Int) ≤ (List.length x0 : Int) ∧ 0 ≤ (1 : Int) ∧ (1 : Int) ≤ (List.length x0 : Int) then
                      (if 0 ≤ ((List.length x1 : Int) : Int) ∧ ((List.length x1 : Int) : Int) ≤ (List.length x1 : Int) ∧ 0 ≤ (1 : Int) ∧ (1 : Int) ≤ (List.length x1 : Int) then
                       ((C_R_DiffCost F_R_DiffCost (List.drop (Int.toNat 1) (List.take (Int.toNat (List.length x0 : Int)) x0)) (List.drop (Int.toNat 1) (List.take (Int.toNat (List.length x1 : Int)) x1)) x6).bind fun r3 =>
                        (J_R_DiffAct_0 n m1 x0 x1 x5_0 x5_1 x5_2 x6 (((List.length x1 : Int) : Int) == 1) (res_R_DiffCost_0 r1) (((res_R_DiffCost_0 r1) : Int) == (IntKind.i64.wrap (0 + (res_R_DiffCost_0 r3))))))
                      else none)
                     else none)))
                  else none)
                 else none)
                 (J_R_DiffAct_0 n m1 x0 x1 x5_0 x5_1 x5_2 x6 (((List.length x1 : Int) : Int) == 1) (res_R_DiffCost_0 r1) true)))
               (J_R_DiffAct_0 n m1 x0 x1 x5_0 x5_1 x5_2 x6 (((List.length x1 : Int) : Int) == 1) (res_R_DiffCost_0 r1) false))
             else none)
            else none)
            (J_R_DiffAct_0 n m1 x0 x1 x5_0 x5_1 x5_2 x6 (((List.length x1 : Int) : Int) == 1) (res_R_DiffCost_0 r1) false))
          else none)
         else none)
         (J_R_DiffAct_0 n m1 x0 x1 x5_0 x5_1 x5_2 x6 (((List.length x1 : Int) : Int) == 1) (res_R_DiffCost_0 r1) false))
        (J_R_DiffAct_0 n m1 x0 x1 x5_0 x5_1 x5_2 x6 (((List.length x1 : Int) : Int) == 1) (res_R_DiffCost_0 r1) false)))
      ((C_R_DiffCost F_R_DiffCost x0 x1 x6).bind fun r1 =>
       (bcond ((decide (((List.length x0 : Int) : Int) > 0)) == true)
        (bcond ((decide (((List.length x1 : Int) : Int) > 0)) == true)
         (if 0 ≤ (0 : Int) ∧ (0 : Int) < (List.length x0 : Int) then
          (if 0 ≤ (0 : Int) ∧ (0 : Int) < (List.length x1 : Int) then
           (bcond ((((at_ (e := YElem) x0 0).1 : Int) == (at_ (e := YElem) x1 0).1) == true)
            (if 0 ≤ (0 : Int) ∧ (0 : Int) < (List.length x0 : Int) then
             (if 0 ≤ (0 : Int) ∧ (0 : Int) < (List.length x1 : Int) then
              (bcond ((((at_ (e := YElem) x0 0).2.1 : Int) == (at_ (e := YElem) x1 0).2.1) == true)
               (bcond ((!x6) == false)
                (bcond ((decide (((List.length x0 : Int) : Int) > 1)) == true)
                 (bcond ((decide (((List.length x1 : Int) : Int) > 1)) == true)
                  (if 0 ≤ (0 : Int) ∧ (0 : Int) < (List.length x0 : Int) then
                   (if 0 ≤ (0 : Int) ∧ (0 : Int) < (List.length x1 : Int) then
                    ((C_R_SameAttrs F_R_SameAttrs (at_ (e := YElem) x0 0).2.2 (at_ (e := YElem) x1 0).2.2).bind fun r2 =>
                     (bcond (!(res_R_SameAttrs_0 r2))
                      (if 0 ≤ ((List.length x0 : Int) : Int) ∧ ((List.length x0 : Int) : Int) ≤ (List.length x0 : Int) ∧ 0 ≤ (1 : Int) ∧ (1 : Int) ≤ (List.length x0 : Int) then
                       (if 0 ≤ ((List.length x1 : Int) : Int) ∧ ((List.length x1 : Int) : Int) ≤ (List.length x1 : Int) ∧ 0 ≤ (1 : Int) ∧ (1 : Int) ≤ (List.length x1 : Int) then
                        ((C_R_DiffCost F_R_DiffCost (List.drop (Int.toNat 1) (List.take (Int.toNat (List.length x0 : Int)) x0)) (List.drop (Int.toNat 1) (List.take (Int.toNat (List.length x1 : Int)) x1)) x6).bind fun r3 =>
                         (J_R_DiffAct_0 n m1 x0 x1 x5_0 x5_1 x5_2 x6 false (res_R_DiffCost_0 r1) (((res_R_DiffCost_0 r1) : Int) == (IntKind.i64.wrap (1 + (res_R_DiffCost_0 r3))))))
                       else none)
                      else none)
                      (if 0 ≤ ((List.length x0 : Int) : Int) ∧ ((List.length x0 : Int) : Int) ≤ (List.length x0 : Int) ∧ 0 ≤ (1 : Int) ∧ (1 : Int) ≤ (List.length x0 : Int) then
                       (if 0 ≤ ((List.length x1 : Int) : Int) ∧ ((List.length x1 : Int) : Int) ≤ (List.length x1 : Int) ∧ 0 ≤ (1 : Int) ∧ (1 : Int) ≤ (List.length x1 : Int) then
                        ((C_R_DiffCost F_R_DiffCost (List.drop (Int.toNat 1) (List.take (Int.toNat (List.length x0 : Int)) x0)) (List.drop (Int.toNat 1) (List.take (Int.toNat (List.length x1 : Int)) x1)) x6).bind fun r3 =>
                         (J_R_DiffAct_0 n m1 x0 x1 x5_0 x5_1 x5_2 x6 false (res_R_DiffCost_0 r1) (((res_R_DiffCost_0 r1) : Int) == (IntKind.i64.wrap (0 + (res_R_DiffCost_0 r3))))))
                       else none)
                      else none)))
                   else none)
                  else none)
                  (J_R_DiffAct_0 n m1 x0 x1 x5_0 x5_1 x5_2 x6 false (res_R_DiffCost_0 r1) (decide (((List.length x1 : Int) : Int) > 1))))
                 (J_R_DiffAct_0 n m1 x0 x1 x5_0 x5_1 x5_2 x6 false (res_R_DiffCost_0 r1) false))
                (if 0 ≤ (0 : Int) ∧ (0 : Int) < (List.length x0 : Int) then
                 (if 0 ≤ (0 : Int) ∧ (0 : Int) < (List.length x1 : Int) then
                  ((C_R_SameAttrs F_R_SameAttrs (at_ (e := YElem) x0 0).2.2 (at_ (e := YElem) x1 0).2.2).bind fun r2 =>
                   (bcond (!(res_R_SameAttrs_0 r2))
                    (if 0 ≤ ((List.length x0 : Int) : Int) ∧ ((List.length x0 : Int) : Int) ≤ (List.length x0 : Int) ∧ 0 ≤ (1 : Int) ∧ (1 : Int) ≤ (List.length x0 : Int) then
                     (if 0 ≤ ((List.length x1 : Int) : Int) ∧ ((List.length x1 : Int) : Int) ≤ (List.length x1 : Int) ∧ 0 ≤ (1 : Int) ∧ (1 : Int) ≤ (List.length x1 : Int) then
                      ((C_R_DiffCost F_R_DiffCost (List.drop (Int.toNat 1) (List.take (Int.toNat (List.length x0 : Int)) x0)) (List.drop (Int.toNat 1) (List.take (Int.toNat (List.length x1 : Int)) x1)) x6).bind fun r3 =>
                       (J_R_DiffAct_0 n m1 x0 x1 x5_0 x5_1 x5_2 x6 false (res_R_DiffCost_0 r1) (((res_R_DiffCost_0 r1) : Int) == (IntKind.i64.wrap (1 + (res_R_DiffCost_0 r3))))))
                     else none)
                    else none)
                    (if 0 ≤ ((List.length x0 : Int) : Int) ∧ ((List.length x0 : Int) : Int) ≤ (List.length x0 : Int) ∧ 0 ≤ (1 : Int) ∧ (1 : Int) ≤ (List.length x0 : Int) then
                     (if 0 ≤ ((List.length x1 : Int) : Int) ∧ ((List.length x1 : Int) : Int) ≤ (List.length x1 : Int) ∧ 0 ≤ (1 : Int) ∧ (1 : Int) ≤ (List.length x1 : Int) then
                      ((C_R_DiffCost F_R_DiffCost (List.drop (Int.toNat 1) (List.take (Int.toNat (List.length x0 : Int)) x0)) (List.drop (Int.toNat 1) (List.take (Int.toNat (List.length x1 : Int)) x1)) x6).bind fun r3 =>
                       (J_R_DiffAct_0 n m1 x0 x1 x5_0 x5_1 x5_2 x6 false (res_R_DiffCost_0 r1) (((res_R_DiffCost_0 r1) : Int) == (IntKind.i64.wrap (0 + (res_R_DiffCost_0 r3))))))
                     else none)
                    else none)))
                 else none)
                else none))
               (J_R_DiffAct_0 n m1 x0 x1 x5_0 x5_1 x5_2 x6 false (res_R_DiffCost_0 r1) false))
             else none)
            else none)
            (J_R_DiffAct_0 n m1 x0 x1 x5_0 x5_1 x5_2 x6 false (res_R_DiffCost_0 r1) false))
          else none)
         else none)
         (J_R_DiffAct_0 n m1 x0 x1 x5_0 x5_1 x5_2 x6 false (res_R_DiffCost_0 r1) false))
        (J_R_DiffAct_0 n m1 x0 x1 x5_0 x5_1 x5_2 x6 false (res_R_DiffCost_0 r1) false))))
     ((C_R_DiffCost F_R_DiffCost x0 x1 x6).bind fun r1 =>
      (bcond ((decide (((List.length x0 : Int) : Int) > 0)) == true)
       (bcond ((decide (((List.length x1 : Int) : Int) > 0)) == true)
        (if 0 ≤ (0 : Int) ∧ (0 : Int) < (List.length x0 : Int) then
         (if 0 ≤ (0 : Int) ∧ (0 : Int) < (List.length x1 : Int) then
          (bcond ((((at_ (e := YElem) x0 0).1 : Int) == (at_ (e := YElem) x1 0).1) == true)
           (if 0 ≤ (0 : Int) ∧ (0 : Int) < (List.length x0 : Int) then
            (if 0 ≤ (0 : Int) ∧ (0 : Int) < (List.length x1 : Int) then
             (bcond ((((at_ (e := YElem) x0 0).2.1 : Int) == (at_ (e := YElem) x1 0).2.1) == true)
              (bcond ((!x6) == false)
               (bcond ((decide (((List.length x0 : Int) : Int) > 1)) == true)
                (bcond ((decide (((List.length x1 : Int) : Int) > 1)) == true)
                 (if 0 ≤ (0 : Int) ∧ (0 : Int) < (List.length x0 : Int) then
                  (if 0 ≤ (0 : Int) ∧ (0 : Int) < (List.length x1 : Int) then
                   ((C_R_SameAttrs F_R_SameAttrs (at_ (e := YElem) x0 0).2.2 (at_ (e := YElem) x1 0).2.2).bind fun r2 =>
                    (bcond (!(res_R_SameAttrs_0 r2))
                     (if 0 ≤ ((List.length x0 : Int) : Int) ∧ ((List.length x0 : Int) : Int) ≤ (List.length x0 : Int) ∧ 0 ≤ (1 : Int) ∧ (1 : Int) ≤ (List.length x0 : Int) then
                      (if 0 ≤ ((List.length x1 : Int) : Int) ∧ ((List.length x1 : Int) : Int) ≤ (List.length x1 : Int) ∧ 0 ≤ (1 : Int) ∧ (1 : Int) ≤ (List.length x1 : Int) then
                       ((C_R_DiffCost F_R_DiffCost (List.drop (Int.toNat 1) (List.take (Int.toNat (List.length x0 : Int)) x0)) (List.drop (Int.toNat 1) (List.take (Int.toNat (List.length x1 : Int)) x1)) x6).bind fun r3 =>
                        (J_R_DiffAct_0 n m1 x0 x1 x5_0 x5_1 x5_2 x6 false (res_R_DiffCost_0 r1) (((res_R_DiffCost_0 r1) : Int) == (IntKind.i64.wrap (1 + (res_R_DiffCost_0 r3))))))
                      else none)
                     else none)
                     (if 0 ≤ ((List.length x0 : Int) : Int) ∧ ((List.length x0 : Int) : Int) ≤ (List.length x0 : Int) ∧ 0 ≤ (1 : Int) ∧ (1 : Int) ≤ (List.length x0 : Int) then
                      (if 0 ≤ ((List.length x1 : Int) : Int) ∧ ((List.length x1 : Int) : Int) ≤ (List.length x1 : Int) ∧ 0 ≤ (1 : Int) ∧ (1 : Int) ≤ (List.length x1 : Int) then
                       ((C_R_DiffCost F_R_DiffCost (List.drop (Int.toNat 1) (List.take (Int.toNat (List.length x0 : Int)) x0)) (List.drop (Int.toNat 1) (List.take (Int.toNat (List.length x1 : Int)) x1)) x6).bind fun r3 =>
                        (J_R_DiffAct_0 n m1 x0 x1 x5_0 x5_1 x5_2 x6 false (res_R_DiffCost_0 r1) (((res_R_DiffCost_0 r1) : Int) == (IntKind.i64.wrap (0 + (res_R_DiffCost_0 r3))))))
                      else none)
                     else none)))
                  else none)
                 else none)
                 (J_R_DiffAct_0 n m1 x0 x1 x5_0 x5_1 x5_2 x6 false (res_R_DiffCost_0 r1) (decide (((List.length x1 : Int) : Int) > 1))))
                (J_R_DiffAct_0 n m1 x0 x1 x5_0 x5_1 x5_2 x6 false (res_R_DiffCost_0 r1) false))
               (if 0 ≤ (0 : Int) ∧ (0 : Int) < (List.length x0 : Int) then
                (if 0 ≤ (0 : Int) ∧ (0 : Int) < (List.length x1 : Int) then
                 ((C_R_SameAttrs F_R_SameAttrs (at_ (e := YElem) x0 0).2.2 (at_ (e := YElem) x1 0).2.2).bind fun r2 =>
                  (bcond (!(res_R_SameAttrs_0 r2))
                   (if 0 ≤ ((List.length x0 : Int) : Int) ∧ ((List.length x0 : Int) : Int) ≤ (List.length x0 : Int) ∧ 0 ≤ (1 : Int) ∧ (1 : Int) ≤ (List.length x0 : Int) then
                    (if 0 ≤ ((List.length x1 : Int) : Int) ∧ ((List.length x1 : Int) : Int) ≤ (List.length x1 : Int) ∧ 0 ≤ (1 : Int) ∧ (1 : Int) ≤ (List.length x1 : Int) then
                     ((C_R_DiffCost F_R_DiffCost (List.drop (Int.toNat 1) (List.take (Int.toNat (List.length x0 : Int)) x0)) (List.drop (Int.toNat 1) (List.take (Int.toNat (List.length x1 : Int)) x1)) x6).bind fun r3 =>
                      (J_R_DiffAct_0 n m1 x0 x1 x5_0 x5_1 x5_2 x6 false (res_R_DiffCost_0 r1) (((res_R_DiffCost_0 r1) : Int) == (IntKind.i64.wrap (1 + (res_R_DiffCost_0 r3))))))
                    else none)
                   else none)
                   (if 0 ≤ ((List.length x0 : Int) : Int) ∧ ((List.length x0 : Int) : Int) ≤ (List.length x0 : Int) ∧ 0 ≤ (1 : Int) ∧ (1 : Int) ≤ (List.length x0 : Int) then
                    (if 0 ≤ ((List.length x1 : Int) : Int) ∧ ((List.length x1 : Int) : Int) ≤ (List.length x1 : Int) ∧ 0 ≤ (1 : Int) ∧ (1 : Int) ≤ (List.length x1 : Int) then
                     ((C_R_DiffCost F_R_DiffCost (List.drop (Int.toNat 1) (List.take (Int.toNat (List.length x0 : Int)) x0)) (List.drop (Int.toNat 1) (List.take (Int.toNat (List.length x1 : Int)) x1)) x6).bind fun r3 =>
                      (J_R_DiffAct_0 n m1 x0 x1 x5_0 x5_1 x5_2 x6 false (res_R_DiffCost_0 r1) (((res_R_DiffCost_0 r1) : Int) == (IntKind.i64.wrap (0 + (res_R_DiffCost_0 r3))))))
                    else none)
                   else none)))
                else none)
               else none))
              (J_R_DiffAct_0 n m1 x0 x1 x5_0 x5_1 x5_2 x6 false (res_R_DiffCost_0 r1) false))
            else none)
           else none)
           (J_R_DiffAct_0 n m1 x0 x1 x5_0 x5_1 x5_2 x6 false (res_R_DiffCost_0 r1) false))
         else none)
        else none)
        (J_R_DiffAct_0 n m1 x0 x1 x5_0 x5_1 x5_2 x6 false (res_R_DiffCost_0 r1) false))
       (J_R_DiffAct_0 n m1 x0 x1 x5_0 x5_1 x5_2 x6 false (res_R_DiffCost_0 r1) false))))
    (some (ret_R_DiffAct (x5_0, (x5_1, x5_2)))))
   (bcond (x6 == true)
    (bcond ((((List.length x0 : Int) : Int) == 1) == true)
     ((C_R_DiffCost F_R_DiffCost x0 x1 x6).bind fun r1 =>
      (bcond ((decide (((List.length x0 : Int) : Int) > 0)) == true)
       (bcond ((decide (((List.length x1 : Int) : Int) > 0)) == true)
        (if 0 ≤ (0 : Int) ∧ (0 : Int) < (List.length x0 : Int) then
         (if 0 ≤ (0 : Int) ∧ (0 : Int) < (List.length x1 : Int) then
          (bcond ((((at_ (e := YElem) x0 0).1 : Int) == (at_ (e := YElem) x1 0).1) == true)
           (if 0 ≤ (0 : Int) ∧ (0 : Int) < (List.length x0 : Int) then
            (if 0 ≤ (0 : Int) ∧ (0 : Int) < (List.length x1 : Int) then
             (bcond ((((at_ (e := YElem) x0 0).2.1 : Int) == (at_ (e := YElem) x1 0).2.1) == true)
              (bcond ((!x6) == false)
               (bcond ((((List.length x1 : Int) : Int) == 1) == false)
                (bcond ((decide (((List.length x0 : Int) : Int) > 1)) == true)
                 (bcond ((decide (((List.length x1 : Int) : Int) > 1)) == true)
                  (bcond (!(((List.length x1 : Int) : Int) == 1))
                   (if 0 ≤ (0 : Int) ∧ (0 : Int) < (List.length x0 : Int) then
                    (if 0 ≤ (0 : Int) ∧ (0 : Int) < (List.length x1 : Int) then
                     ((C_R_SameAttrs F_R_SameAttrs (at_ (e := YElem) x0 0).2.2 (at_ (e := YElem) x1 0).2.2).bind fun r2 =>
                      (bcond (!(res_R_SameAttrs_0 r2))
                       (if 0 ≤ ((List.length x0 : Int) : Int) ∧ ((List.length x0 : Int) : Int) ≤ (List.length x0 : Int) ∧ 0 ≤ (1 : Int) ∧ (1 : Int) ≤ (List.length x0 : Int) then
                        (if 0 ≤ ((List.length x1 : Int) : Int) ∧ ((List.length x1 : Int) : Int) ≤ (List.length x1 : Int) ∧ 0 ≤ (1 : Int) ∧ (1 : Int) ≤ (List.length x1 : Int) then
                         ((C_R_DiffCost F_R_DiffCost (List.drop (Int.toNat 1) (List.take (Int.toNat (List.length x0 : Int)) x0)) (List.drop (Int.toNat 1) (List.take (Int.toNat (List.length x1 : Int)) x1)) x6).bind fun r3 =>
                          (J_R_DiffAct_0 n m1 x0 x1 x5_0 x5_1 x5_2 x6 (((List.length x1 : Int) : Int) == 1) (res_R_DiffCost_0 r1) (((res_R_DiffCost_0 r1) : Int) == (IntKind.i64.wrap (1 + (res_R_DiffCost_0 r3))))))
                        else none)
                       else none)
                       (if 0 ≤ ((List.length x0 : Int) : Int) ∧ ((List.length x0 : Int) : Int) ≤ (List.length x0 : Int) ∧ 0 ≤ (1 : Int) ∧ (1 : Int) ≤ (List.length x0 : Int) then
                        (if 0 ≤ ((List.length x1 : Int) : Int) ∧ ((List.length x1 : Int) : Int) ≤ (List.length x1 : Int) ∧ 0 ≤ (1 : Int) ∧ (1 : Int) ≤ (List.length x1 : Int) then
                         ((C_R_DiffCost F_R_DiffCost (List.drop (Int.toNat 1) (List.take (Int.toNat (List.length x0 : Int)) x0)) (List.drop (Int.toNat 1) (List.take (Int.toNat (List.length x1 : Int)) x1)) x6).bind fun r3 =>
                          (J_R_DiffAct_0 n m1 x0 x1 x5_0 x5_1 x5_2 x6 (((List.length x1 : Int) : Int) == 1) (res_R_DiffCost_0 r1) (((res_R_DiffCost_0 r1) : Int) == (IntKind.i64.wrap (0 + (res_R_DiffCost_0 r3))))))
                        else none)
                       else none)))
                    else none)
                   else none)
                   (J_R_DiffAct_0 n m1 x0 x1 x5_0 x5_1 x5_2 x6 (((List.length x1 : Int) : Int) == 1) (res_R_DiffCost_0 r1) (decide (((List.length x1 : Int) : Int) > 1))))
                  (J_R_DiffAct_0 n m1 x0 x1 x5_0 x5_1 x5_2 x6 (((List.length x1 : Int) : Int) == 1) (res_R_DiffCost_0 r1) (decide (((List.length x1 : Int) : Int) > 1))))
                 (J_R_DiffAct_0 n m1 x0 x1 x5_0 x5_1 x5_2 x6 (((List.length x1 : Int) : Int) == 1) (res_R_DiffCost_0 r1) false))
                (bcond (!(((List.length x1 : Int) : Int) == 1))
                 (if 0 ≤ (0 : Int) ∧ (0 : Int) < (List.length x0 : Int) then
                  (if 0 ≤ (0 : Int) ∧ (0 : Int) < (List.length x1 : Int) then
                   ((C_R_SameAttrs F_R_SameAttrs (at_ (e := YElem) x0 0).2.2 (at_ (e := YElem) x1 0).2.2).bind fun r2 =>
                    (bcond (!(res_R_SameAttrs_0 r2))
                     (if 0 ≤ ((List.length x0 : Int) : Int) ∧ ((List.length x0 : Int) : Int) ≤ (List.length x0 : Int) ∧ 0 ≤ (1 : Int) ∧ (1 : Int) ≤ (List.length x0 : Int) then
                      (if 0 ≤ ((List.length x1 : Int) : Int) ∧ ((List.length x1 : Int) : Int) ≤ (List.length x1 : Int) ∧ 0 ≤ (1 : Int) ∧ (1 : Int) ≤ (List.length x1 : Int) then
                       ((C_R_DiffCost F_R_DiffCost (List.drop (Int.toNat 1) (List.take (Int.toNat (List.length x0 : Int)) x0)) (List.drop (Int.toNat 1) (List.take (Int.toNat (List.length x1 : Int)) x1)) x6).bind fun r3 =>
                        (J_R_DiffAct_0 n m1 x0 x1 x5_0 x5_1 x5_2 x6 (((List.length x1 : Int) : Int) == 1) (res_R_DiffCost_0 r1) (((res_R_DiffCost_0 r1) : Int) == (IntKind.i64.wrap (1 + (res_R_DiffCost_0 r3))))))
                      else none)
                     else none)
                     (if 0 ≤ ((List.length x0 : Int) : Int) ∧ ((List.length x0 : Int) : Int) ≤ (List.length x0 : Int) ∧ 0 ≤ (1 : Int) ∧ (1 : Int) ≤ (List.length x0 : Int) then
                      (if 0 ≤ ((List.length x1 : Int) : Int) ∧ ((List.length x1 : Int) : Int) ≤ (List.length x1 : Int) ∧ 0 ≤ (1 : Int) ∧ (1 : Int) ≤ (List.length x1 : Int) then
                       ((C_R_DiffCost F_R_DiffCost (List.drop (Int.toNat 1) (List.take (Int.toNat (List.length x0 : Int)) x0)) (List.drop (Int.toNat 1) (List.take (Int.toNat (List.length x1 : Int)) x1)) x6).bind fun r3 =>
                        (J_R_DiffAct_0 n m1 x0 x1 x5_0 x5_1 x5_2 x6 (((List.length x1 : Int) : Int) == 1) (res_R_DiffCost_0 r1) (((res_R_DiffCost_0 r1) : Int) == (IntKind.i64.wrap (0 + (res_R_DiffCost_0 r3))))))
                      else none)
                     else none)))
                  else none)
                 else none)
                 (J_R_DiffAct_0 n m1 x0 x1 x5_0 x5_1 x5_2 x6 (((List.length x1 : Int) : Int) == 1) (res_R_DiffCost_0 r1) true)))
               (bcond (!(((List.length x1 : Int) : Int) == 1))
                (if 0 ≤ (0 : Int) ∧ (0 : Int) < (List.length x0 : Int) then
                 (if 0 ≤ (0 : Int) ∧ (0 : Int) < (List.length x1 : Int) then
                  ((C_R_SameAttrs F_R_SameAttrs (at_ (e := YElem) x0 0).2.2 (at_ (e := YElem) x1 0).2.2).bind fun r2 =>
                   (bcond (!(res_R_SameAttrs_0 r2))
                    (if 0 ≤ ((List.length x0 : Int) : Int) ∧ ((List.length x0 : Int) : Int) ≤ (List.length x0 : Int) ∧ 0 ≤ (1 : Int) ∧ (1 : Int) ≤ (List.length x0 : Int) then
                     (if 0 ≤ ((List.length x1 : Int) : Int) ∧ ((List.length x1 : Int) : Int) ≤ (List.length x1 : Int) ∧ 0 ≤ (1 : Int) ∧ (1 : Int) ≤ (List.length x1 : Int) then
                      ((C_R_DiffCost F_R_DiffCost (List.drop (Int.toNat 1) (List.take (Int.toNat (List.length x0 : Int)) x0)) (List.drop (Int.toNat 1) (List.take (Int.toNat (List.length x1 : Int)) x1)) x6).bind fun r3 =>
                       (J_R_DiffAct_0 n m1 x0 x1 x5_0 x5_1 x5_2 x6 (((List.length x1 : Int) : Int) == 1) (res_R_DiffCost_0 r1) (((res_R_DiffCost_0 r1) : Int) == (IntKind.i64.wrap (1 + (res_R_DiffCost_0 r3))))))
                     else none)
                    else none)
                    (if 0 ≤ ((List.length x0 : Int) : Int) ∧ ((List.length x0 : Int) : Int) ≤ (List.length x0 : Int) ∧ 0 ≤ (1 : Int) ∧ (1 : Int) ≤ (List.length x0 : Int) then
                     (if 0 ≤ ((List.length x1 : Int) : Int) ∧ ((List.length x1 : Int) : Int) ≤ (List.length x1 : Int) ∧ 0 ≤ (1 : Int) ∧ (1 : Int) ≤ (List.length x1 : Int) then
                      ((C_R_DiffCost F_R_DiffCost (List.drop (Int.toNat 1) (List.take (Int.toNat (List.length x0 : Int)) x0)) (List.drop (Int.toNat 1) (List.take (Int.toNat (List.length x1 : Int)) x1)) x6).bind fun r3 =>
                       (J_R_DiffAct_0 n m1 x0 x1 x5_0 x5_1 x5_2 x6 (((List.length x1 : Int) : Int) == 1) (res_R_DiffCost_0 r1) (((res_R_DiffCost_0 r1) : Int) == (IntKind.i64.wrap (0 + (res_R_DiffCost_0 r3))))))
                     else none)
                    else none)))
                 else none)
                else none)
                (J_R_DiffAct_0 n m1 x0 x1 x5_0 x5_1 x5_2 x6 (((List.length x1 : Int) : Int) == 1) (res_R_DiffCost_0 r1) true)))
              (J_R_DiffAct_0 n m1 x0 x1 x5_0 x5_1 x5_2 x6 (((List.length x1 : Int) : Int) == 1) (res_R_DiffCost_0 r1) false))
            else none)
           else none)
           (J_R_DiffAct_0 n m1 x0 x1 x5_0 x5_1 x5_2 x6 (((List.length x1 : Int) : Int) == 1) (res_R_DiffCost_0 r1) false))
         else none)
        else none)
        (J_R_DiffAct_0 n m1 x0 x1 x5_0 x5_1 x5_2 x6 (((List.length x1 : Int) : Int) == 1) (res_R_DiffCost_0 r1) false))
       (J_R_DiffAct_0 n m1 x0 x1 x5_0 x5_1 x5_2 x6 (((List.length x1 : Int) : Int) == 1) (res_R_DiffCost_0 r1) false)))
     ((C_R_DiffCost F_R_DiffCost x0 x1 x6).bind fun r1 =>
      (bcond ((decide (((List.length x0 : Int) : Int) > 0)) == true)
       (bcond ((decide (((List.length x1 : Int) : Int) > 0)) == true)
        (if 0 ≤ (0 : Int) ∧ (0 : Int) < (List.length x0 : Int) then
         (if 0 ≤ (0 : Int) ∧ (0 : Int) < (List.length x1 : Int) then
          (bcond ((((at_ (e := YElem) x0 0).1 : Int) == (at_ (e := YElem) x1 0).1) == true)
           (if 0 ≤ (0 : Int) ∧ (0 : Int) < (List.length x0 : Int) then
            (if 0 ≤ (0 : Int) ∧ (0 : Int) < (List.length x1 : Int) then
             (bcond ((((at_ (e := YElem) x0 0).2.1 : Int) == (at_ (e := YElem) x1 0).2.1) == true)
              (bcond ((!x6) == false)
               (bcond ((decide (((List.length x0 : Int) : Int) > 1)) == true)
                (bcond ((decide (((List.length x1 : Int) : Int) > 1)) == true)
                 (if 0 ≤ (0 : Int) ∧ (0 : Int) < (List.length x0 : Int) then
                  (if 0 ≤ (0 : Int) ∧ (0 : Int) < (List.length x1 : Int) then
                   ((C_R_SameAttrs F_R_SameAttrs (at_ (e := YElem) x0 0).2.2 (at_ (e := YElem) x1 0).2.2).bind fun r2 =>
                    (bcond (!(res_R_SameAttrs_0 r2))
                     (if 0 ≤ ((List.length x0 : Int) : Int) ∧ ((List.length x0 : Int) : Int) ≤ (List.length x0 : Int) ∧ 0 ≤ (1 : Int) ∧ (1 : Int) ≤ (List.length x0 : Int) then
                      (if 0 ≤ ((List.length x1 : Int) : Int) ∧ ((List.length x1 : Int) : Int) ≤ (List.length x1 : Int) ∧ 0 ≤ (1 : Int) ∧ (1 : Int) ≤ (List.length x1 : Int) then
                       ((C_R_DiffCost F_R_DiffCost (List.drop (Int.toNat 1) (List.take (Int.toNat (List.length x0 : Int)) x0)) (List.drop (Int.toNat 1) (List.take (Int.toNat (List.length x1 : Int)) x1)) x6).bind fun r3 =>
                        (J_R_DiffAct_0 n m1 x0 x1 x5_0 x5_1 x5_2 x6 false (res_R_DiffCost_0 r1) (((res_R_DiffCost_0 r1) : Int) == (IntKind.i64.wrap (1 + (res_R_DiffCost_0 r3))))))
                      else none)
                     else none)
                     (if 0 ≤ ((List.length x0 : Int) : Int) ∧ ((List.length x0 : Int) : Int) ≤ (List.length x0 : Int) ∧ 0 ≤ (1 : Int) ∧ (1 : Int) ≤ (List.length x0 : Int) then
                      (if 0 ≤ ((List.length x1 : Int) : Int) ∧ ((List.length x1 : Int) : Int) ≤ (List.length x1 : Int) ∧ 0 ≤ (1 : Int) ∧ (1 : Int) ≤ (List.length x1 : Int) then
                       ((C_R_DiffCost F_R_DiffCost (List.drop (Int.toNat 1) (List.take (Int.toNat (List.length x0 : Int)) x0)) (List.drop (Int.toNat 1) (List.take (Int.toNat (List.length x1 : Int)) x1)) x6).bind fun r3 =>
                        (J_R_DiffAct_0 n m1 x0 x1 x5_0 x5_1 x5_2 x6 false (res_R_DiffCost_0 r1) (((res_R_DiffCost_0 r1) : Int) == (IntKind.i64.wrap (0 + (res_R_DiffCost_0 r3))))))
                      else none)
                     else none)))
                  else none)
                 else none)
                 (J_R_DiffAct_0 n m1 x0 x1 x5_0 x5_1 x5_2 x6 false (res_R_DiffCost_0 r1) (decide (((List.length x1 : Int) : Int) > 1))))
                (J_R_DiffAct_0 n m1 x0 x1 x5_0 x5_1 x5_2 x6 false (res_R_DiffCost_0 r1) false))
               (if 0 ≤ (0 : Int) ∧ (0 : Int) < (List.length x0 : Int) then
                (if 0 ≤ (0 : Int) ∧ (0 : Int) < (List.length x1 : Int) then
                 ((C_R_SameAttrs F_R_SameAttrs (at_ (e := YElem) x0 0).2.2 (at_ (e := YElem) x1 0).2.2).bind fun r2 =>
                  (bcond (!(res_R_SameAttrs_0 r2))
                   (if 0 ≤ ((List.length x0 : Int) : Int) ∧ ((List.length x0 : Int) : Int) ≤ (List.length x0 : Int) ∧ 0 ≤ (1 : Int) ∧ (1 : Int) ≤ (List.length x0 : Int) then
                    (if 0 ≤ ((List.length x1 : Int) : Int) ∧ ((List.length x1 : Int) : Int) ≤ (List.length x1 : Int) ∧ 0 ≤ (1 : Int) ∧ (1 : Int) ≤ (List.length x1 : Int) then
                     ((C_R_DiffCost F_R_DiffCost (List.drop (Int.toNat 1) (List.take (Int.toNat (List.length x0 : Int)) x0)) (List.drop (Int.toNat 1) (List.take (Int.toNat (List.length x1 : Int)) x1)) x6).bind fun r3 =>
                      (J_R_DiffAct_0 n m1 x0 x1 x5_0 x5_1 x5_2 x6 false (res_R_DiffCost_0 r1) (((res_R_DiffCost_0 r1) : Int) == (IntKind.i64.wrap (1 + (res_R_DiffCost_0 r3))))))
                    else none)
                   else none)
                   (if 0 ≤ ((List.length x0 : Int) : Int) ∧ ((List.length x0 : Int) : Int) ≤ (List.length x0 : Int) ∧ 0 ≤ (1 : Int) ∧ (1 : Int) ≤ (List.length x0 : Int) then
                    (if 0 ≤ ((List.length x1 : Int) : Int) ∧ ((List.length x1 : Int) : Int) ≤ (List.length x1 : Int) ∧ 0 ≤ (1 : Int) ∧ (1 : Int) ≤ (List.length x1 : Int) then
                     ((C_R_DiffCost F_R_DiffCost (List.drop (Int.toNat 1) (List.take (Int.toNat (List.length x0 : Int)) x0)) (List.drop (Int.toNat 1) (List.take (Int.toNat (List.length x1 : Int)) x1)) x6).bind fun r3 =>
                      (J_R_DiffAct_0 n m1 x0 x1 x5_0 x5_1 x5_2 x6 false (res_R_DiffCost_0 r1) (((res_R_DiffCost_0 r1) : Int) == (IntKind.i64.wrap (0 + (res_R_DiffCost_0 r3))))))
                    else none)
                   else none)))
                else none)
               else none))
              (J_R_DiffAct_0 n m1 x0 x1 x5_0 x5_1 x5_2 x6 false (res_R_DiffCost_0 r1) false))
            else none)
           else none)
           (J_R_DiffAct_0 n m1 x0 x1 x5_0 x5_1 x5_2 x6 false (res_R_DiffCost_0 r1) false))
         else none)
        else none)
        (J_R_DiffAct_0 n m1 x0 x1 x5_0 x5_1 x5_2 x6 false (res_R_DiffCost_0 r1) false))
       (J_R_DiffAct_0 n m1 x0 x1 x5_0 x5_1 x5_2 x6 false (res_R_DiffCost_0 r1) false))))
    ((C_R_DiffCost F_R_DiffCost x0 x1 x6).bind fun r1 =>
     (bcond ((decide (((List.length x0 : Int) : Int) > 0)) == true)
      (bcond ((decide (((List.length x1 : Int) : Int) > 0)) == true)
       (if 0 ≤ (0 : Int) ∧ (0 : Int) < (List.length x0 : Int) then
        (if 0 ≤ (0 : Int) ∧ (0 : Int) < (List.length x1 : Int) then
         (bcond ((((at_ (e := YElem) x0 0).1 : Int) == (at_ (e := YElem) x1 0).1) == true)
          (if 0 ≤ (0 : Int) ∧ (0 : Int) < (List.length x0 : Int) then
           (if 0 ≤ (0 : Int) ∧ (0 : Int) < (List.length x1 : Int) then
            (bcond ((((at_ (e := YElem) x0 0).2.1 : Int) == (at_ (e := YElem) x1 0).2.1) == true)
             (bcond ((!x6) == false)
              (bcond ((decide (((List.length x0 : Int) : Int) > 1)) == true)
               (bcond ((decide (((List.length x1 : Int) : Int) > 1)) == true)
                (if 0 ≤ (0 : Int) ∧ (0 : Int) < (List.length x0 : Int) then
                 (if 0 ≤ (0 : Int) ∧ (0 : Int) < (List.length x1 : Int) then
                  ((C_R_SameAttrs F_R_SameAttrs (at_ (e := YElem) x0 0).2.2 (at_ (e := YElem) x1 0).2.2).bind fun r2 =>
                   (bcond (!(res_R_SameAttrs_0 r2))
                    (if 0 ≤ ((List.length x0 : Int) : Int) ∧ ((List.length x0 : Int) : Int) ≤ (List.length x0 : Int) ∧ 0 ≤ (1 : Int) ∧ (1 : Int) ≤ (List.length x0 : Int) then
                     (if 0 ≤ ((List.length x1 : Int) : Int) ∧ ((List.length x1 : Int) : Int) ≤ (List.length x1 : Int) ∧ 0 ≤ (1 : Int) ∧ (1 : Int) ≤ (List.length x1 : Int) then
                      ((C_R_DiffCost F_R_DiffCost (List.drop (Int.toNat 1) (List.take (Int.toNat (List.length x0 : Int)) x0)) (List.drop (Int.toNat 1) (List.take (Int.toNat (List.length x1 : Int)) x1)) x6).bind fun r3 =>
                       (J_R_DiffAct_0 n m1 x0 x1 x5_0 x5_1 x5_2 x6 false (res_R_DiffCost_0 r1) (((res_R_DiffCost_0 r1) : Int) == (IntKind.i64.wrap (1 + (res_R_DiffCost_0 r3))))))
                     else none)
                    else none)
                    (if 0 ≤ ((List.length x0 : Int) : Int) ∧ ((List.length x0 : Int) : Int) ≤ (List.length x0 : Int) ∧ 0 ≤ (1 : Int) ∧ (1 : Int) ≤ (List.length x0 : Int) then
                     (if 0 ≤ ((List.length x1 : Int) : Int) ∧ ((List.length x1 : Int) : Int) ≤ (List.length x1 : Int) ∧ 0 ≤ (1 : Int) ∧ (1 : Int) ≤ (List.length x1 : Int) then
                      ((C_R_DiffCost F_R_DiffCost (List.drop (Int.toNat 1) (List.take (Int.toNat (List.length x0 : Int)) x0)) (List.drop (Int.toNat 1) (List.take (Int.toNat (List.length x1 : Int)) x1)) x6).bind fun r3 =>
                       (J_R_DiffAct_0 n m1 x0 x1 x5_0 x5_1 x5_2 x6 false (res_R_DiffCost_0 r1) (((res_R_DiffCost_0 r1) : Int) == (IntKind.i64.wrap (0 + (res_R_DiffCost_0 r3))))))
                     else none)
                    else none)))
                 else none)
                else none)
                (J_R_DiffAct_0 n m1 x0 x1 x5_0 x5_1 x5_2 x6 false (res_R_DiffCost_0 r1) (decide (((List.length x1 : Int) : Int) > 1))))
               (J_R_DiffAct_0 n m1 x0 x1 x5_0 x5_1 x5_2 x6 false (res_R_DiffCost_0 r1) false))
              (if 0 ≤ (0 : Int) ∧ (0 : Int) < (List.length x0 : Int) then
               (if 0 ≤ (0 : Int) ∧ (0 : Int) < (List.length x1 : Int) then
                ((C_R_SameAttrs F_R_SameAttrs (at_ (e := YElem) x0 0).2.2 (at_ (e := YElem) x1 0).2.2).bind fun r2 =>
                 (bcond (!(res_R_SameAttrs_0 r2))
                  (if 0 ≤ ((List.length x0 : Int) : Int) ∧ ((List.length x0 : Int) : Int) ≤ (List.length x0 : Int) ∧ 0 ≤ (1 : Int) ∧ (1 : Int) ≤ (List.length x0 : Int) then
                   (if 0 ≤ ((List.length x1 : Int) : Int) ∧ ((List.length x1 : Int) : Int) ≤ (List.length x1 : Int) ∧ 0 ≤ (1 : Int) ∧ (1 : Int) ≤ (List.length x1 : Int) then
                    ((C_R_DiffCost F_R_DiffCost (List.drop (Int.toNat 1) (List.take (Int.toNat (List.length x0 : Int)) x0)) (List.drop (Int.toNat 1) (List.take (Int.toNat (List.length x1 : Int)) x1)) x6).bind fun r3 =>
                     (J_R_DiffAct_0 n m1 x0 x1 x5_0 x5_1 x5_2 x6 false (res_R_DiffCost_0 r1) (((res_R_DiffCost_0 r1) : Int) == (IntKind.i64.wrap (1 + (res_R_DiffCost_0 r3))))))
                   else none)
                  else none)
                  (if 0 ≤ ((List.length x0 : Int) : Int) ∧ ((List.length x0 : Int) : Int) ≤ (List.length x0 : Int) ∧ 0 ≤ (1 : Int) ∧ (1 : Int) ≤ (List.length x0 : Int) then
                   (if 0 ≤ ((List.length x1 : Int) : Int) ∧ ((List.length x1 : Int) : Int) ≤ (List.length x1 : Int) ∧ 0 ≤ (1 : Int) ∧ (1 : Int) ≤ (List.length x1 : Int) then
                    ((C_R_DiffCost F_R_DiffCost (List.drop (Int.toNat 1) (List.take (Int.toNat (List.length x0 : Int)) x0)) (List.drop (Int.toNat 1) (List.take (Int.toNat (List.length x1 : Int)) x1)) x6).bind fun r3 =>
                     (J_R_DiffAct_0 n m1 x0 x1 x5_0 x5_1 x5_2 x6 false (res_R_DiffCost_0 r1) (((res_R_DiffCost_0 r1) : Int) == (IntKind.i64.wrap (0 + (res_R_DiffCost_0 r3))))))
                   else none)
                  else none)))
               else none)
              else none))
             (J_R_DiffAct_0 n m1 x0 x1 x5_0 x5_1 x5_2 x6 false (res_R_DiffCost_0 r1) false))
           else none)
          else none)
          (J_R_DiffAct_0 n m1 x0 x1 x5_0 x5_1 x5_2 x6 false (res_R_DiffCost_0 r1) false))
        else none)
       else none)
       (J_R_DiffAct_0 n m1 x0 x1 x5_0 x5_1 x5_2 x6 false (res_R_DiffCost_0 r1) false))
      (J_R_DiffAct_0 n m1 x0 x1 x5_0 x5_1 x5_2 x6 false (res_R_DiffCost_0 r1) false))))) := by kernel_rfl
theorem L_R_DiffAct_1_step (n m1 m2 : Nat) (x0 : List YElem.den) (x1 : List YElem.den) (x5_0 : List (List YElem.den)) (x5_1 : List (Bool)) (x5_2 : List (List YAttr.den)) (x6 : Bool) (x11 : Int) : L_R_DiffAct_1 n m1 (m2 + 1) x0 x1 x5_0 x5_1 x5_2 x6 x11 =
  (bcond ((decide ((x11 : Int) > 0)) == true)
   (if 0 ≤ ((IntKind.i64.wrap (x11 - 1)) : Int) ∧ ((IntKind.i64.wrap (x11 - 1)) : Int) < (List.length x5_1 : Int) then
    (bcond (at_ (e := .bool) x5_1 (IntKind.i64.wrap (x11 - 1)))
     (L_R_DiffAct_1 n m1 m2 x0 x1 x5_0 x5_1 x5_2 x6 (IntKind.i64.wrap (x11 - 1)))
     (if 0 ≤ (0 : Int) ∧ (0 : Int) < (List.length x1 : Int) then
      (if 0 ≤ (x11 : Int) ∧ (x11 : Int) < (List.length x5_0 : Int) then
       (if (List.length ([] : List YElem.den) + List.length ((at_ (e := (.list YElem)) x5_0 x11) : List YElem.den)) * 40 ≤ 140737488355328 then
        (if (List.length (([] ++ (at_ (e := (.list YElem)) x5_0 x11)) : List YElem.den) + List.length ([(at_ (e := YElem) x1 0)] : List YElem.den)) * 40 ≤ 140737488355328 then
         (if 0 ≤ (x11 : Int) ∧ (x11 : Int) < (List.length x5_0 : Int) then
          (if 0 ≤ ((List.length x1 : Int) : Int) ∧ ((List.length x1 : Int) : Int) ≤ (List.length x1 : Int) ∧ 0 ≤ (1 : Int) ∧ (1 : Int) ≤ (List.length x1 : Int) then
           (L_R_DiffAct_0 n m1 x0 (List.drop (Int.toNat 1) (List.take (Int.toNat (List.length x1 : Int)) x1)) (List.set x5_0 (Int.toNat x11) (([] ++ (at_ (e := (.list YElem)) x5_0 x11)) ++ [(at_ (e := YElem) x1 0)])) x5_1 x5_2 x6)
          else none)
         else none)
        else none)
       else none)
      else none)
     else none))
   else none)
   (if 0 ≤ (0 : Int) ∧ (0 : Int) < (List.length x1 : Int) then
    (if 0 ≤ (x11 : Int) ∧ (x11 : Int) < (List.length x5_0 : Int) then
     (if (List.length ([] : List YElem.den) + List.length ((at_ (e := (.list YElem)) x5_0 x11) : List YElem.den)) * 40 ≤ 140737488355328 then
      (if (List.length (([] ++ (at_ (e := (.list YElem)) x5_0 x11)) : List YElem.den) + List.length ([(at_ (e := YElem) x1 0)] : List YElem.den)) * 40 ≤ 140737488355328 then
       (if 0 ≤ (x11 : Int) ∧ (x11 : Int) < (List.length x5_0 : Int) then
        (if 0 ≤ ((List.length x1 : Int) : Int) ∧ ((List.length x1 : Int) : Int) ≤ (List.length x1 : Int) ∧ 0 ≤ (1 : Int) ∧ (1 : Int) ≤ (List.length x1 : Int) then
         (L_R_DiffAct_0 n m1 x0 (List.drop (Int.toNat 1) (List.take (Int.toNat (List.length x1 : Int)) x1)) (List.set x5_0 (Int.toNat x11) (([] ++ (at_ (e := (.list YElem)) x5_0 x11)) ++ [(at_ (e := YElem) x1 0)])) x5_1 x5_2 x6)
        else none)
       else none)
      else none)
     else none)
    else none)
   else none)) := by kernel_rfl
theorem ok_R_DiffAct : fnOk os_R_DiffAct sig_R_DiffAct Try.f67 = true := by kernel_rfl
theorem fn_R_DiffAct : P.funcs[67]? = some Try.f67 := by kernel_rfl
noncomputable def F_R_DiffAct : sig_R_DiffAct.Fn := fun x y => run T (env_R_DiffAct) os_R_DiffAct sig_R_DiffAct Try.f67 hs_R_DiffAct big x y
theorem S_R_DiffAct : Sound P 67 ⟨sig_R_DiffAct, F_R_DiffAct⟩ := sound_of (os := os_R_DiffAct) (hs := hs_R_DiffAct) (env_cons S_R_Tied (env_cons S_R_DiffCost (env_cons S_R_SameAttrs (env_cons S_R_Between (env_nil))))) fn_R_DiffAct ok_R_DiffAct (fun x y out h => ⟨big, h⟩)
theorem e_R_DiffAct (a0 : List YElem.den) (a1 : List YElem.den) : C_R_DiffAct F_R_DiffAct a0 a1 =
  ((C_R_Tied F_R_Tied a0 a1).bind fun r1 =>
   (L_R_DiffAct_0 big big a0 a1 [[]] [] [] (res_R_Tied_0 r1))) := by kernel_rfl
end Go.Ev
