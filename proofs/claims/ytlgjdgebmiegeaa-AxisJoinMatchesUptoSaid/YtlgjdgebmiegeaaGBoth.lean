/- Functions, step by step. -/
import Derived.Test.YtlgjdgebmiegeaaGAct
namespace Go.Ev
set_option linter.unusedVariables false
set_option maxRecDepth 100000
open Go.Proofs
def sig_R_Both : Sig := ⟨[.v true YAct, .v true YAct], [], [(true, [.fr YAct])]⟩
def C_R_Both (F : sig_R_Both.Fn) (a0 : YAct.den) (a1 : YAct.den) : Option sig_R_Both.Out := F (a0, a1, ()) ()
def ret_R_Both (v0 : YAct.den) : sig_R_Both.Out := (((v0, ()), ()), ())
def res_R_Both_0 (r : sig_R_Both.Out) : YAct.den := r.1.1.1
@[simp] theorem res_R_Both_0_ret (v0 : YAct.den) : res_R_Both_0 (ret_R_Both v0) = v0 := rfl
def os_R_Both : RegT := ⟨[(10, .st 0 (.st 2 (.st 4 (.st 6 (.st 10 (.st 12 (.grp [1, 5, 11, 7, 8, 13, 14, 3, 9, 15] (.st 16 (.st 17 (.nil)))))))))), (13, .st 0 (.st 2 (.st 4 (.st 3 (.st 5 (.st 1 (.st 6 (.st 7 (.st 8 (.st 9 (.nil))))))))))), (14, .st 0 (.st 2 (.st 3 (.st 5 (.st 4 (.st 6 (.st 7 (.st 8 (.alt 1 (.st 9 (.st 10 (.st 11 (.st 12 (.nil))))) (.st 9 (.alt 1 (.st 10 (.st 11 (.st 12 (.nil)))) (.st 10 (.st 1 (.st 11 (.st 12 (.nil)))))))))))))))), (19, .st 0 (.st 2 (.st 4 (.st 6 (.st 10 (.st 12 (.grp [1, 5, 11, 7, 8, 13, 14, 3, 9, 15] (.st 16 (.st 17 (.nil)))))))))), (21, .st 0 (.st 4 (.st 8 (.st 1 (.grp [5, 9, 2, 6, 10, 3, 12, 7, 11] (.st 13 (.st 14 (.st 15 (.st 16 (.st 17 (.nil))))))))))), (22, .st 0 (.st 2 (.st 4 (.st 6 (.st 10 (.st 12 (.grp [1, 5, 11, 7, 8, 13, 14, 3, 9, 15] (.st 16 (.st 17 (.nil)))))))))), (24, .st 0 (.st 2 (.st 4 (.st 3 (.st 5 (.st 1 (.st 6 (.st 7 (.st 8 (.st 9 (.st 10 (.nil)))))))))))), (25, .st 0 (.st 2 (.st 4 (.st 7 (.st 9 (.grp [1, 3, 8, 5, 6, 10, 11, 12, 13] (.st 14 (.st 15 (.st 16 (.nil))))))))))], [], true⟩
def hs_R_Both : List Keep := [[(2, []), (3, []), (4, []), (5, [(0, 28, (.list YElem)), (1, 4, .bool), (2, 27, (.list YAttr))]), (6, []), (7, [])], [(2, []), (3, []), (4, []), (5, [(0, 28, (.list YElem)), (1, 4, .bool), (2, 27, (.list YAttr))]), (6, []), (7, []), (26, []), (27, [])]]
@[reducible] noncomputable def env_R_Both : Env := [(90, ⟨sig_R_Changed, F_R_Changed⟩), (103, ⟨sig_R_Joined, F_R_Joined⟩)]
noncomputable def L_R_Both_0 (n m1 : Nat) (x2_0 : List (List YElem.den)) (x2_1 : List (Bool)) (x2_2 : List (List YAttr.den)) (x3_0 : List (List YElem.den)) (x3_1 : List (Bool)) (x3_2 : List (List YAttr.den)) (x5_0 : List (List YElem.den)) (x5_1 : List (Bool)) (x5_2 : List (List YAttr.den)) (x6 : Int) (x7 : Int) : Option sig_R_Both.Out :=
  loopAt T1 (env_R_Both) os_R_Both sig_R_Both Try.f39 hs_R_Both n [.sr, .sr, .sr, .sl, .sr, .bl] m1 (mk 186 [(2, .box [.val (.list (.list YElem)) x2_0, .val (.list .bool) x2_1, .val (.list (.list YAttr)) x2_2]), (3, .box [.val (.list (.list YElem)) x3_0, .val (.list .bool) x3_1, .val (.list (.list YAttr)) x3_2]), (4, .box [.nils, .nils, .nils]), (5, .box [.own 28 (.list YElem) x5_0, .own 4 .bool x5_1, .own 27 (.list YAttr) x5_2]), (6, .cs false [.val (.int .i64) x6]), (7, .cs false [.val (.int .i64) x7])])
noncomputable def L_R_Both_1 (n m1 m2 : Nat) (x2_0 : List (List YElem.den)) (x2_1 : List (Bool)) (x2_2 : List (List YAttr.den)) (x3_0 : List (List YElem.den)) (x3_1 : List (Bool)) (x3_2 : List (List YAttr.den)) (x5_0 : List (List YElem.den)) (x5_1 : List (Bool)) (x5_2 : List (List YAttr.den)) (x6 : Int) (x7 : Int) (x26 : Int) (x27 : Int) : Option sig_R_Both.Out :=
  loopAt T1 (env_R_Both) os_R_Both sig_R_Both Try.f39 hs_R_Both n [.sr, .sr, .sr, .sl, .sr, .bl, .lp m1, .sr, .sl, .bl, .sl, .sr, .bl] m2 (mk 186 [(2, .box [.val (.list (.list YElem)) x2_0, .val (.list .bool) x2_1, .val (.list (.list YAttr)) x2_2]), (3, .box [.val (.list (.list YElem)) x3_0, .val (.list .bool) x3_1, .val (.list (.list YAttr)) x3_2]), (4, .box [.nils, .nils, .nils]), (5, .box [.own 28 (.list YElem) x5_0, .own 4 .bool x5_1, .own 27 (.list YAttr) x5_2]), (6, .cs false [.val (.int .i64) x6]), (7, .cs false [.val (.int .i64) x7]), (26, .cs false [.val (.int .i64) x26]), (27, .cs false [.val (.int .i64) x27])])
theorem L_R_Both_0_step (n m1 : Nat) (x2_0 : List (List YElem.den)) (x2_1 : List (Bool)) (x2_2 : List (List YAttr.den)) (x3_0 : List (List YElem.den)) (x3_1 : List (Bool)) (x3_2 : List (List YAttr.den)) (x5_0 : List (List YElem.den)) (x5_1 : List (Bool)) (x5_2 : List (List YAttr.den)) (x6 : Int) (x7 : Int) : L_R_Both_0 n (m1 + 1) x2_0 x2_1 x2_2 x3_0 x3_1 x3_2 x5_0 x5_1 x5_2 x6 x7 =
  (bcond (decide ((x7 : Int) ≤ (List.length x2_1 : Int)))
   (if 0 ≤ (x7 : Int) ∧ (x7 : Int) < (List.length x2_0 : Int) then
    (L_R_Both_1 n m1 n x2_0 x2_1 x2_2 x3_0 x3_1 x3_2 x5_0 x5_1 x5_2 x6 x7 (List.length (at_ (e := (.list YElem)) x2_0 x7) : Int) 0)
   else none)
   (some (ret_R_Both (x5_0, (x5_1, x5_2))))) := by kernel_rfl
theorem L_R_Both_1_raw (n m1 m2 : Nat) (x2_0 : List (List YElem.den)) (x2_1 : List (Bool)) (x2_2 : List (List YAttr.den)) (x3_0 : List (List YElem.den)) (x3_1 : List (Bool)) (x3_2 : List (List YAttr.den)) (x5_0 : List (List YElem.den)) (x5_1 : List (Bool)) (x5_2 : List (List YAttr.den)) (x6 : Int) (x7 : Int) (x26 : Int) (x27 : Int) : L_R_Both_1 n m1 (m2 + 1) x2_0 x2_1 x2_2 x3_0 x3_1 x3_2 x5_0 x5_1 x5_2 x6 x7 x26 x27 =
  (bcond (decide ((x27 : Int) < x26))
   (if 0 ≤ ((IntKind.i64.wrap ((List.length x5_0 : Int) - 1)) : Int) ∧ ((IntKind.i64.wrap ((List.length x5_0 : Int) - 1)) : Int) < (List.length x5_0 : Int) then
    (if 0 ≤ (x6 : Int) ∧ (x6 : Int) < (List.length x3_0 : Int) then
     (if (List.length ([] : List YElem.den) + List.length ((at_ (e := (.list YElem)) x5_0 (IntKind.i64.wrap ((List.length x5_0 : Int) - 1))) : List YElem.den)) * 40 ≤ 140737488355328 then
      (if (List.length (([] ++ (at_ (e := (.list YElem)) x5_0 (IntKind.i64.wrap ((List.length x5_0 : Int) - 1)))) : List YElem.den) + List.length ((at_ (e := (.list YElem)) x3_0 x6) : List YElem.den)) * 40 ≤ 140737488355328 then
       (if 0 ≤ ((IntKind.i64.wrap ((List.length x5_0 : Int) - 1)) : Int) ∧ ((IntKind.i64.wrap ((List.length x5_0 : Int) - 1)) : Int) < (List.length x5_0 : Int) then
        (if 0 ≤ (x6 : Int) ∧ (x6 : Int) < (List.length x3_1 : Int) then
         (bcond (!(at_ (e := .bool) x3_1 x6))
          (if 0 ≤ (x7 : Int) ∧ (x7 : Int) < (List.length x2_0 : Int) then
           (if 0 ≤ (x27 : Int) ∧ (x27 : Int) < (List.length (at_ (e := (.list YElem)) x2_0 x7) : Int) then
            (if 0 ≤ (x6 : Int) ∧ (x6 : Int) < (List.length x3_2 : Int) then
             ((C_R_Changed F_R_Changed (at_ (e := YElem) (at_ (e := (.list YElem)) x2_0 x7) x27).2.2 (at_ (e := (.list YAttr)) x3_2 x6)).bind fun r1 =>
              (if 0 ≤ ((IntKind.i64.wrap ((List.length x5_0 : Int) - 1)) : Int) ∧ ((IntKind.i64.wrap ((List.length x5_0 : Int) - 1)) : Int) < (List.length x5_0 : Int) then
               (bcond (decide (((IntKind.i64.wrap ((List.length x5_0 : Int) - 1)) : Int) = (IntKind.i64.wrap ((List.length x5_0 : Int) - 1))))
                (agree
                 (if (List.length ((([] ++ (at_ (e := (.list YElem)) x5_0 (IntKind.i64.wrap ((List.length x5_0 : Int) - 1)))) ++ (at_ (e := (.list YElem)) x3_0 x6)) : List YElem.den) + List.length ([((at_ (e := YElem) (at_ (e := (.list YElem)) x2_0 x7) x27).1, ((at_ (e := YElem) (at_ (e := (.list YElem)) x2_0 x7) x27).2.1, (res_R_Changed_0 r1)))] : List YElem.den)) * 40 ≤ 140737488355328 then
                  (if 0 ≤ ((IntKind.i64.wrap ((List.length x5_0 : Int) - 1)) : Int) ∧ ((IntKind.i64.wrap ((List.length x5_0 : Int) - 1)) : Int) < (List.length x5_0 : Int) then
                   (if ((IntKind.i64.wrap ((List.length x5_0 : Int) - 1)) : Int) = (IntKind.i64.wrap ((List.length x5_0 : Int) - 1)) then
                    (L_R_Both_1 n m1 m2 x2_0 x2_1 x2_2 x3_0 x3_1 x3_2 (List.set x5_0 (Int.toNat (IntKind.i64.wrap ((List.length x5_0 : Int) - 1))) ((([] ++ (at_ (e := (.list YElem)) x5_0 (IntKind.i64.wrap ((List.length x5_0 : Int) - 1)))) ++ (at_ (e := (.list YElem)) x3_0 x6)) ++ [((at_ (e := YElem) (at_ (e := (.list YElem)) x2_0 x7) x27).1, ((at_ (e := YElem) (at_ (e := (.list YElem)) x2_0 x7) x27).2.1, (res_R_Changed_0 r1)))])) x5_1 x5_2 (IntKind.i64.wrap (x6 + 1)) x7 x26 (IntKind.i64.wrap (x27 + 1)))
                   else none)
                  else none)
                 else none)
                 (agree
                  (if (List.length ((([] ++ (at_ (e := (.list YElem)) x5_0 (IntKind.i64.wrap ((List.length x5_0 : Int) - 1)))) ++ (at_ (e := (.list YElem)) x3_0 x6)) : List YElem.den) + List.length ([((at_ (e := YElem) (at_ (e := (.list YElem)) x2_0 x7) x27).1, ((at_ (e := YElem) (at_ (e := (.list YElem)) x2_0 x7) x27).2.1, (res_R_Changed_0 r1)))] : List YElem.den)) * 40 ≤ 140737488355328 then
                   (if 0 ≤ ((IntKind.i64.wrap ((List.length x5_0 : Int) - 1)) : Int) ∧ ((IntKind.i64.wrap ((List.length x5_0 : Int) - 1)) : Int) < (List.length x5_0 : Int) then
                    (if ((IntKind.i64.wrap ((List.length x5_0 : Int) - 1)) : Int) = (IntKind.i64.wrap ((List.length x5_0 : Int) - 1)) then
                     (L_R_Both_1 n m1 m2 x2_0 x2_1 x2_2 x3_0 x3_1 x3_2 (List.set x5_0 (Int.toNat (IntKind.i64.wrap ((List.length x5_0 : Int) - 1))) ((([] ++ (at_ (e := (.list YElem)) x5_0 (IntKind.i64.wrap ((List.length x5_0 : Int) - 1)))) ++ (at_ (e := (.list YElem)) x3_0 x6)) ++ [((at_ (e := YElem) (at_ (e := (.list YElem)) x2_0 x7) x27).1, ((at_ (e := YElem) (at_ (e := (.list YElem)) x2_0 x7) x27).2.1, (res_R_Changed_0 r1)))])) x5_1 x5_2 (IntKind.i64.wrap (x6 + 1)) x7 x26 (IntKind.i64.wrap (x27 + 1)))
                    else none)
                   else none)
                  else none)
                  (if (List.length ((([] ++ (at_ (e := (.list YElem)) x5_0 (IntKind.i64.wrap ((List.length x5_0 : Int) - 1)))) ++ (at_ (e := (.list YElem)) x3_0 x6)) : List YElem.den) + List.length ([((at_ (e := YElem) (at_ (e := (.list YElem)) x2_0 x7) x27).1, ((at_ (e := YElem) (at_ (e := (.list YElem)) x2_0 x7) x27).2.1, (res_R_Changed_0 r1)))] : List YElem.den)) * 40 ≤ 140737488355328 then
                   (if 0 ≤ ((IntKind.i64.wrap ((List.length x5_0 : Int) - 1)) : Int) ∧ ((IntKind.i64.wrap ((List.length x5_0 : Int) - 1)) : Int) < (List.length x5_0 : Int) then
                    (if ((IntKind.i64.wrap ((List.length x5_0 : Int) - 1)) : Int) = (IntKind.i64.wrap ((List.length x5_0 : Int) - 1)) then
                     (L_R_Both_1 n m1 m2 x2_0 x2_1 x2_2 x3_0 x3_1 x3_2 (List.set x5_0 (Int.toNat (IntKind.i64.wrap ((List.length x5_0 : Int) - 1))) ((([] ++ (at_ (e := (.list YElem)) x5_0 (IntKind.i64.wrap ((List.length x5_0 : Int) - 1)))) ++ (at_ (e := (.list YElem)) x3_0 x6)) ++ [((at_ (e := YElem) (at_ (e := (.list YElem)) x2_0 x7) x27).1, ((at_ (e := YElem) (at_ (e := (.list YElem)) x2_0 x7) x27).2.1, (res_R_Changed_0 r1)))])) x5_1 x5_2 (IntKind.i64.wrap (x6 + 1)) x7 x26 (IntKind.i64.wrap (x27 + 1)))
                    else none)
                   else none)
                  else none)))
                none)
              else none))
            else none)
           else none)
          else none)
          (L_R_Both_1 n m1 m2 x2_0 x2_1 x2_2 x3_0 x3_1 x3_2 (List.set x5_0 (Int.toNat (IntKind.i64.wrap ((List.length x5_0 : Int) - 1))) (([] ++ (at_ (e := (.list YElem)) x5_0 (IntKind.i64.wrap ((List.length x5_0 : Int) - 1)))) ++ (at_ (e := (.list YElem)) x3_0 x6))) x5_1 x5_2 (IntKind.i64.wrap (x6 + 1)) x7 x26 (IntKind.i64.wrap (x27 + 1))))
        else none)
       else none)
      else none)
     else none)
    else none)
   else none)
   (bcond ((x7 : Int) == (List.length x2_1 : Int))
    (if 0 ≤ ((IntKind.i64.wrap ((List.length x5_0 : Int) - 1)) : Int) ∧ ((IntKind.i64.wrap ((List.length x5_0 : Int) - 1)) : Int) < (List.length x5_0 : Int) then
     (if 0 ≤ (x6 : Int) ∧ (x6 : Int) < (List.length x3_0 : Int) then
      (if (List.length ([] : List YElem.den) + List.length ((at_ (e := (.list YElem)) x5_0 (IntKind.i64.wrap ((List.length x5_0 : Int) - 1))) : List YElem.den)) * 40 ≤ 140737488355328 then
       (if (List.length (([] ++ (at_ (e := (.list YElem)) x5_0 (IntKind.i64.wrap ((List.length x5_0 : Int) - 1)))) : List YElem.den) + List.length ((at_ (e := (.list YElem)) x3_0 x6) : List YElem.den)) * 40 ≤ 140737488355328 then
        (if 0 ≤ ((IntKind.i64.wrap ((List.length x5_0 : Int) - 1)) : Int) ∧ ((IntKind.i64.wrap ((List.length x5_0 : Int) - 1)) : Int) < (List.length x5_0 : Int) then
         (some (ret_R_Both ((List.set x5_0 (Int.toNat (IntKind.i64.wrap ((List.length x5_0 : Int) - 1))) (([] ++ (at_ (e := (.list YElem)) x5_0 (IntKind.i64.wrap ((List.length x5_0 : Int) - 1)))) ++ (at_ (e := (.list YElem)) x3_0 x6))), (x5_1, x5_2))))
        else none)
       else none)
      else none)
     else none)
    else none)
    (if 0 ≤ (x7 : Int) ∧ (x7 : Int) < (List.length x2_1 : Int) then
     (bcond (at_ (e := .bool) x2_1 x7)
      (if (List.length (x5_0 : List (Ty.list YElem).den) + List.length ([[]] : List (Ty.list YElem).den)) * 24 ≤ 140737488355328 then
       (if (List.length (x5_1 : List Bool) + List.length ([true] : List Bool)) * 1 ≤ 140737488355328 then
        (if (List.length (x5_2 : List (Ty.list YAttr).den) + List.length ([[]] : List (Ty.list YAttr).den)) * 24 ≤ 140737488355328 then
         (L_R_Both_0 n m1 x2_0 x2_1 x2_2 x3_0 x3_1 x3_2 (x5_0 ++ [[]]) (x5_1 ++ [true]) (x5_2 ++ [[]]) x6 (IntKind.i64.wrap (x7 + 1)))
        else none)
       else none)
      else none)
      (if 0 ≤ ((IntKind.i64.wrap ((List.length x5_0 : Int) - 1)) : Int) ∧ ((IntKind.i64.wrap ((List.length x5_0 : Int) - 1)) : Int) < (List.length x5_0 : Int) then
       (if 0 ≤ (x6 : Int) ∧ (x6 : Int) < (List.length x3_0 : Int) then
        (if (List.length ([] : List YElem.den) + List.length ((at_ (e := (.list YElem)) x5_0 (IntKind.i64.wrap ((List.length x5_0 : Int) - 1))) : List YElem.den)) * 40 ≤ 140737488355328 then
         (if (List.length (([] ++ (at_ (e := (.list YElem)) x5_0 (IntKind.i64.wrap ((List.length x5_0 : Int) - 1)))) : List YElem.den) + List.length ((at_ (e := (.list YElem)) x3_0 x6) : List YElem.den)) * 40 ≤ 140737488355328 then
          (if 0 ≤ ((IntKind.i64.wrap ((List.length x5_0 : Int) - 1)) : Int) ∧ ((IntKind.i64.wrap ((List.length x5_0 : Int) - 1)) : Int) < (List.length x5_0 : Int) then
           (if (List.length ((List.set x5_0 (Int.toNat (IntKind.i64.wrap ((List.length x5_0 : Int) - 1))) (([] ++ (at_ (e := (.list YElem)) x5_0 (IntKind.i64.wrap ((List.length x5_0 : Int) - 1)))) ++ (at_ (e := (.list YElem)) x3_0 x6))) : List (Ty.list YElem).den) + List.length ([[]] : List (Ty.list YElem).den)) * 24 ≤ 140737488355328 then
            (if 0 ≤ (x6 : Int) ∧ (x6 : Int) < (List.length x3_1 : Int) then
             (if (List.length (x5_1 : List Bool) + List.length ([(at_ (e := .bool) x3_1 x6)] : List Bool)) * 1 ≤ 140737488355328 then
              (if 0 ≤ (x7 : Int) ∧ (x7 : Int) < (List.length x2_2 : Int) then
               (if 0 ≤ (x6 : Int) ∧ (x6 : Int) < (List.length x3_2 : Int) then
                ((C_R_Joined F_R_Joined (at_ (e := (.list YAttr)) x2_2 x7) (at_ (e := (.list YAttr)) x3_2 x6)).bind fun r1 =>
                 (if (List.length (x5_2 : List (Ty.list YAttr).den) + List.length ([(res_R_Joined_0 r1)] : List (Ty.list YAttr).den)) * 24 ≤ 140737488355328 then
                  (L_R_Both_0 n m1 x2_0 x2_1 x2_2 x3_0 x3_1 x3_2 ((List.set x5_0 (Int.toNat (IntKind.i64.wrap ((List.length x5_0 : Int) - 1))) (([] ++ (at_ (e := (.list YElem)) x5_0 (IntKind.i64.wrap ((List.length x5_0 : Int) - 1)))) ++ (at_ (e := (.list YElem)) x3_0 x6))) ++ [[]]) (x5_1 ++ [(at_ (e := .bool) x3_1 x6)]) (x5_2 ++ [(res_R_Joined_0 r1)]) (IntKind.i64.wrap (x6 + 1)) (IntKind.i64.wrap (x7 + 1)))
                 else none))
               else none)
              else none)
             else none)
            else none)
           else none)
          else none)
         else none)
        else none)
       else none)
      else none))
    else none))) := by kernel_rfl
theorem L_R_Both_1_step (n m1 m2 : Nat) (x2_0 : List (List YElem.den)) (x2_1 : List (Bool)) (x2_2 : List (List YAttr.den)) (x3_0 : List (List YElem.den)) (x3_1 : List (Bool)) (x3_2 : List (List YAttr.den)) (x5_0 : List (List YElem.den)) (x5_1 : List (Bool)) (x5_2 : List (List YAttr.den)) (x6 : Int) (x7 : Int) (x26 : Int) (x27 : Int) : L_R_Both_1 n m1 (m2 + 1) x2_0 x2_1 x2_2 x3_0 x3_1 x3_2 x5_0 x5_1 x5_2 x6 x7 x26 x27 =
  (bcond (decide ((x27 : Int) < x26))
   (if 0 ≤ ((IntKind.i64.wrap ((List.length x5_0 : Int) - 1)) : Int) ∧ ((IntKind.i64.wrap ((List.length x5_0 : Int) - 1)) : Int) < (List.length x5_0 : Int) then
    (if 0 ≤ (x6 : Int) ∧ (x6 : Int) < (List.length x3_0 : Int) then
     (if (List.length ([] : List YElem.den) + List.length ((at_ (e := (.list YElem)) x5_0 (IntKind.i64.wrap ((List.length x5_0 : Int) - 1))) : List YElem.den)) * 40 ≤ 140737488355328 then
      (if (List.length (([] ++ (at_ (e := (.list YElem)) x5_0 (IntKind.i64.wrap ((List.length x5_0 : Int) - 1)))) : List YElem.den) + List.length ((at_ (e := (.list YElem)) x3_0 x6) : List YElem.den)) * 40 ≤ 140737488355328 then
       (if 0 ≤ ((IntKind.i64.wrap ((List.length x5_0 : Int) - 1)) : Int) ∧ ((IntKind.i64.wrap ((List.length x5_0 : Int) - 1)) : Int) < (List.length x5_0 : Int) then
        (if 0 ≤ (x6 : Int) ∧ (x6 : Int) < (List.length x3_1 : Int) then
         (bcond (!(at_ (e := .bool) x3_1 x6))
          (if 0 ≤ (x7 : Int) ∧ (x7 : Int) < (List.length x2_0 : Int) then
           (if 0 ≤ (x27 : Int) ∧ (x27 : Int) < (List.length (at_ (e := (.list YElem)) x2_0 x7) : Int) then
            (if 0 ≤ (x6 : Int) ∧ (x6 : Int) < (List.length x3_2 : Int) then
             ((C_R_Changed F_R_Changed (at_ (e := YElem) (at_ (e := (.list YElem)) x2_0 x7) x27).2.2 (at_ (e := (.list YAttr)) x3_2 x6)).bind fun r1 =>
              (if 0 ≤ ((IntKind.i64.wrap ((List.length x5_0 : Int) - 1)) : Int) ∧ ((IntKind.i64.wrap ((List.length x5_0 : Int) - 1)) : Int) < (List.length x5_0 : Int) then
               (bcond (decide (((IntKind.i64.wrap ((List.length x5_0 : Int) - 1)) : Int) = (IntKind.i64.wrap ((List.length x5_0 : Int) - 1))))
                (if (List.length ((([] ++ (at_ (e := (.list YElem)) x5_0 (IntKind.i64.wrap ((List.length x5_0 : Int) - 1)))) ++ (at_ (e := (.list YElem)) x3_0 x6)) : List YElem.den) + List.length ([((at_ (e := YElem) (at_ (e := (.list YElem)) x2_0 x7) x27).1, ((at_ (e := YElem) (at_ (e := (.list YElem)) x2_0 x7) x27).2.1, (res_R_Changed_0 r1)))] : List YElem.den)) * 40 ≤ 140737488355328 then
                 (if 0 ≤ ((IntKind.i64.wrap ((List.length x5_0 : Int) - 1)) : Int) ∧ ((IntKind.i64.wrap ((List.length x5_0 : Int) - 1)) : Int) < (List.length x5_0 : Int) then
                  (if ((IntKind.i64.wrap ((List.length x5_0 : Int) - 1)) : Int) = (IntKind.i64.wrap ((List.length x5_0 : Int) - 1)) then
                   (L_R_Both_1 n m1 m2 x2_0 x2_1 x2_2 x3_0 x3_1 x3_2 (List.set x5_0 (Int.toNat (IntKind.i64.wrap ((List.length x5_0 : Int) - 1))) ((([] ++ (at_ (e := (.list YElem)) x5_0 (IntKind.i64.wrap ((List.length x5_0 : Int) - 1)))) ++ (at_ (e := (.list YElem)) x3_0 x6)) ++ [((at_ (e := YElem) (at_ (e := (.list YElem)) x2_0 x7) x27).1, ((at_ (e := YElem) (at_ (e := (.list YElem)) x2_0 x7) x27).2.1, (res_R_Changed_0 r1)))])) x5_1 x5_2 (IntKind.i64.wrap (x6 + 1)) x7 x26 (IntKind.i64.wrap (x27 + 1)))
                  else none)
                 else none)
                else none)
                none)
              else none))
            else none)
           else none)
          else none)
          (L_R_Both_1 n m1 m2 x2_0 x2_1 x2_2 x3_0 x3_1 x3_2 (List.set x5_0 (Int.toNat (IntKind.i64.wrap ((List.length x5_0 : Int) - 1))) (([] ++ (at_ (e := (.list YElem)) x5_0 (IntKind.i64.wrap ((List.length x5_0 : Int) - 1)))) ++ (at_ (e := (.list YElem)) x3_0 x6))) x5_1 x5_2 (IntKind.i64.wrap (x6 + 1)) x7 x26 (IntKind.i64.wrap (x27 + 1))))
        else none)
       else none)
      else none)
     else none)
    else none)
   else none)
   (bcond ((x7 : Int) == (List.length x2_1 : Int))
    (if 0 ≤ ((IntKind.i64.wrap ((List.length x5_0 : Int) - 1)) : Int) ∧ ((IntKind.i64.wrap ((List.length x5_0 : Int) - 1)) : Int) < (List.length x5_0 : Int) then
     (if 0 ≤ (x6 : Int) ∧ (x6 : Int) < (List.length x3_0 : Int) then
      (if (List.length ([] : List YElem.den) + List.length ((at_ (e := (.list YElem)) x5_0 (IntKind.i64.wrap ((List.length x5_0 : Int) - 1))) : List YElem.den)) * 40 ≤ 140737488355328 then
       (if (List.length (([] ++ (at_ (e := (.list YElem)) x5_0 (IntKind.i64.wrap ((List.length x5_0 : Int) - 1)))) : List YElem.den) + List.length ((at_ (e := (.list YElem)) x3_0 x6) : List YElem.den)) * 40 ≤ 140737488355328 then
        (if 0 ≤ ((IntKind.i64.wrap ((List.length x5_0 : Int) - 1)) : Int) ∧ ((IntKind.i64.wrap ((List.length x5_0 : Int) - 1)) : Int) < (List.length x5_0 : Int) then
         (some (ret_R_Both ((List.set x5_0 (Int.toNat (IntKind.i64.wrap ((List.length x5_0 : Int) - 1))) (([] ++ (at_ (e := (.list YElem)) x5_0 (IntKind.i64.wrap ((List.length x5_0 : Int) - 1)))) ++ (at_ (e := (.list YElem)) x3_0 x6))), (x5_1, x5_2))))
        else none)
       else none)
      else none)
     else none)
    else none)
    (if 0 ≤ (x7 : Int) ∧ (x7 : Int) < (List.length x2_1 : Int) then
     (bcond (at_ (e := .bool) x2_1 x7)
      (if (List.length (x5_0 : List (Ty.list YElem).den) + List.length ([[]] : List (Ty.list YElem).den)) * 24 ≤ 140737488355328 then
       (if (List.length (x5_1 : List Bool) + List.length ([true] : List Bool)) * 1 ≤ 140737488355328 then
        (if (List.length (x5_2 : List (Ty.list YAttr).den) + List.length ([[]] : List (Ty.list YAttr).den)) * 24 ≤ 140737488355328 then
         (L_R_Both_0 n m1 x2_0 x2_1 x2_2 x3_0 x3_1 x3_2 (x5_0 ++ [[]]) (x5_1 ++ [true]) (x5_2 ++ [[]]) x6 (IntKind.i64.wrap (x7 + 1)))
        else none)
       else none)
      else none)
      (if 0 ≤ ((IntKind.i64.wrap ((List.length x5_0 : Int) - 1)) : Int) ∧ ((IntKind.i64.wrap ((List.length x5_0 : Int) - 1)) : Int) < (List.length x5_0 : Int) then
       (if 0 ≤ (x6 : Int) ∧ (x6 : Int) < (List.length x3_0 : Int) then
        (if (List.length ([] : List YElem.den) + List.length ((at_ (e := (.list YElem)) x5_0 (IntKind.i64.wrap ((List.length x5_0 : Int) - 1))) : List YElem.den)) * 40 ≤ 140737488355328 then
         (if (List.length (([] ++ (at_ (e := (.list YElem)) x5_0 (IntKind.i64.wrap ((List.length x5_0 : Int) - 1)))) : List YElem.den) + List.length ((at_ (e := (.list YElem)) x3_0 x6) : List YElem.den)) * 40 ≤ 140737488355328 then
          (if 0 ≤ ((IntKind.i64.wrap ((List.length x5_0 : Int) - 1)) : Int) ∧ ((IntKind.i64.wrap ((List.length x5_0 : Int) - 1)) : Int) < (List.length x5_0 : Int) then
           (if (List.length ((List.set x5_0 (Int.toNat (IntKind.i64.wrap ((List.length x5_0 : Int) - 1))) (([] ++ (at_ (e := (.list YElem)) x5_0 (IntKind.i64.wrap ((List.length x5_0 : Int) - 1)))) ++ (at_ (e := (.list YElem)) x3_0 x6))) : List (Ty.list YElem).den) + List.length ([[]] : List (Ty.list YElem).den)) * 24 ≤ 140737488355328 then
            (if 0 ≤ (x6 : Int) ∧ (x6 : Int) < (List.length x3_1 : Int) then
             (if (List.length (x5_1 : List Bool) + List.length ([(at_ (e := .bool) x3_1 x6)] : List Bool)) * 1 ≤ 140737488355328 then
              (if 0 ≤ (x7 : Int) ∧ (x7 : Int) < (List.length x2_2 : Int) then
               (if 0 ≤ (x6 : Int) ∧ (x6 : Int) < (List.length x3_2 : Int) then
                ((C_R_Joined F_R_Joined (at_ (e := (.list YAttr)) x2_2 x7) (at_ (e := (.list YAttr)) x3_2 x6)).bind fun r1 =>
                 (if (List.length (x5_2 : List (Ty.list YAttr).den) + List.length ([(res_R_Joined_0 r1)] : List (Ty.list YAttr).den)) * 24 ≤ 140737488355328 then
                  (L_R_Both_0 n m1 x2_0 x2_1 x2_2 x3_0 x3_1 x3_2 ((List.set x5_0 (Int.toNat (IntKind.i64.wrap ((List.length x5_0 : Int) - 1))) (([] ++ (at_ (e := (.list YElem)) x5_0 (IntKind.i64.wrap ((List.length x5_0 : Int) - 1)))) ++ (at_ (e := (.list YElem)) x3_0 x6))) ++ [[]]) (x5_1 ++ [(at_ (e := .bool) x3_1 x6)]) (x5_2 ++ [(res_R_Joined_0 r1)]) (IntKind.i64.wrap (x6 + 1)) (IntKind.i64.wrap (x7 + 1)))
                 else none))
               else none)
              else none)
             else none)
            else none)
           else none)
          else none)
         else none)
        else none)
       else none)
      else none))
    else none))) := by rw [L_R_Both_1_raw]; simp only [agree_self]
theorem ok_R_Both : fnOk os_R_Both sig_R_Both Try.f39 = true := by kernel_rfl
theorem fn_R_Both : P.funcs[39]? = some Try.f39 := by kernel_rfl
noncomputable def F_R_Both : sig_R_Both.Fn := fun x y => run T1 (env_R_Both) os_R_Both sig_R_Both Try.f39 hs_R_Both big x y
theorem S_R_Both : Sound P 39 ⟨sig_R_Both, F_R_Both⟩ := sound_of1 (os := os_R_Both) (hs := hs_R_Both) (env_cons S_R_Changed (env_cons S_R_Joined (env_nil))) fn_R_Both ok_R_Both (fun x y out h => ⟨big, h⟩)
theorem e_R_Both (a0 : YAct.den) (a1 : YAct.den) : C_R_Both F_R_Both a0 a1 =
  (L_R_Both_0 big big a0.1 a0.2.1 a0.2.2 a1.1 a1.2.1 a1.2.2 [[]] [] [] 0 0) := by kernel_rfl
end Go.Ev
