/- Functions, step by step. -/
import Derived.Test.YtlgjdgebmiegeaaGSteps
import Derived.Test.YtlgjdgebmiegeaaGInts
namespace Go.Ev
set_option linter.unusedVariables false
set_option maxRecDepth 100000
open Go.Proofs
def sig_axis_Check : Sig := ⟨[.v false (.list YSpan)], [], [(false, [.fr (.int .i64)])]⟩
def C_axis_Check (F : sig_axis_Check.Fn) (a0 : List YSpan.den) : Option sig_axis_Check.Out := F (a0, ()) ()
def ret_axis_Check (v0 : Int) : sig_axis_Check.Out := (((v0, ()), ()), ())
def os_axis_Check : RegT := ⟨[(9, .st 0 (.st 1 (.st 2 (.st 3 (.st 4 (.st 5 (.st 6 (.st 7 (.st 9 (.st 8 (.st 10 (.st 11 (.st 12 (.st 13 (.st 14 (.st 15 (.st 16 (.st 17 (.st 18 (.st 19 (.st 20 (.st 21 (.st 22 (.st 23 (.st 24 (.st 25 (.st 26 (.st 27 (.nil)))))))))))))))))))))))))))))], []⟩
def hs_axis_Check : List Keep := [[(0, []), (3, []), (4, []), (7, []), (8, []), (9, [])]]
@[reducible] noncomputable def env_axis_Check : Env := []
noncomputable def L_axis_Check_0 (n m1 : Nat) (x0 : List YSpan.den) (x3 : Int) (x4 : Int) (x7 : List YSpan.den) (x8 : Int) (x9 : Int) : Option sig_axis_Check.Out :=
  loopAt T (env_axis_Check) os_axis_Check sig_axis_Check Try.f108 hs_axis_Check n [.sr, .sr, .sl, .sr, .bl] m1 (mk 83 [(0, .cs false [.val (.list YSpan) x0]), (3, .cs false [.val (.int .i64) x3]), (4, .cs false [.val (.int .i64) x4]), (7, .cs false [.val (.list YSpan) x7]), (8, .cs false [.val (.int .i64) x8]), (9, .cs false [.val (.int .i64) x9])])
theorem L_axis_Check_0_step (n m1 : Nat) (x0 : List YSpan.den) (x3 : Int) (x4 : Int) (x7 : List YSpan.den) (x8 : Int) (x9 : Int) : L_axis_Check_0 n (m1 + 1) x0 x3 x4 x7 x8 x9 =
  (bcond (decide ((x9 : Int) < x8))
   (if 0 ≤ (x9 : Int) ∧ (x9 : Int) < (List.length x7 : Int) then
    (bcond ((decide (((at_ (e := YSpan) x7 x9).1 : Int) < 0)) == false)
     (bcond (decide (((at_ (e := YSpan) x7 x9).1 : Int) > 2))
      (some (ret_axis_Check 8))
      (bcond ((decide (((at_ (e := YSpan) x7 x9).2 : Int) < 1)) == false)
       (bcond (decide (((at_ (e := YSpan) x7 x9).2 : Int) > 2147483647))
        (some (ret_axis_Check 2))
        (bcond ((decide ((x9 : Int) > 0)) == true)
         (if 0 ≤ ((IntKind.i64.wrap (x9 - 1)) : Int) ∧ ((IntKind.i64.wrap (x9 - 1)) : Int) < (List.length x0 : Int) then
          (bcond ((((at_ (e := YSpan) x0 (IntKind.i64.wrap (x9 - 1))).1 : Int) == (at_ (e := YSpan) x7 x9).1) == false)
           (if 0 ≤ ((IntKind.i64.wrap (x9 - 1)) : Int) ∧ ((IntKind.i64.wrap (x9 - 1)) : Int) < (List.length x0 : Int) then
            (bcond ((((at_ (e := YSpan) x0 (IntKind.i64.wrap (x9 - 1))).1 : Int) == 2) == true)
             (bcond (((at_ (e := YSpan) x7 x9).1 : Int) == 1)
              (some (ret_axis_Check 5))
              (bcond (((at_ (e := YSpan) x7 x9).1 : Int) != 1)
               (bcond (((at_ (e := YSpan) x7 x9).1 : Int) != 2)
                (L_axis_Check_0 n m1 x0 (if (2147483648 : Int) < (IntKind.i64.wrap (x3 + (at_ (e := YSpan) x7 x9).2)) then 2147483648 else (IntKind.i64.wrap (x3 + (at_ (e := YSpan) x7 x9).2))) (if (2147483648 : Int) < (IntKind.i64.wrap (x4 + (at_ (e := YSpan) x7 x9).2)) then 2147483648 else (IntKind.i64.wrap (x4 + (at_ (e := YSpan) x7 x9).2))) x7 x8 (IntKind.i64.wrap (x9 + 1)))
                (L_axis_Check_0 n m1 x0 (if (2147483648 : Int) < (IntKind.i64.wrap (x3 + (at_ (e := YSpan) x7 x9).2)) then 2147483648 else (IntKind.i64.wrap (x3 + (at_ (e := YSpan) x7 x9).2))) x4 x7 x8 (IntKind.i64.wrap (x9 + 1))))
               (bcond (((at_ (e := YSpan) x7 x9).1 : Int) != 2)
                (L_axis_Check_0 n m1 x0 x3 (if (2147483648 : Int) < (IntKind.i64.wrap (x4 + (at_ (e := YSpan) x7 x9).2)) then 2147483648 else (IntKind.i64.wrap (x4 + (at_ (e := YSpan) x7 x9).2))) x7 x8 (IntKind.i64.wrap (x9 + 1)))
                (L_axis_Check_0 n m1 x0 x3 x4 x7 x8 (IntKind.i64.wrap (x9 + 1))))))
             (bcond (((at_ (e := YSpan) x7 x9).1 : Int) != 1)
              (bcond (((at_ (e := YSpan) x7 x9).1 : Int) != 2)
               (L_axis_Check_0 n m1 x0 (if (2147483648 : Int) < (IntKind.i64.wrap (x3 + (at_ (e := YSpan) x7 x9).2)) then 2147483648 else (IntKind.i64.wrap (x3 + (at_ (e := YSpan) x7 x9).2))) (if (2147483648 : Int) < (IntKind.i64.wrap (x4 + (at_ (e := YSpan) x7 x9).2)) then 2147483648 else (IntKind.i64.wrap (x4 + (at_ (e := YSpan) x7 x9).2))) x7 x8 (IntKind.i64.wrap (x9 + 1)))
               (L_axis_Check_0 n m1 x0 (if (2147483648 : Int) < (IntKind.i64.wrap (x3 + (at_ (e := YSpan) x7 x9).2)) then 2147483648 else (IntKind.i64.wrap (x3 + (at_ (e := YSpan) x7 x9).2))) x4 x7 x8 (IntKind.i64.wrap (x9 + 1))))
              (bcond (((at_ (e := YSpan) x7 x9).1 : Int) != 2)
               (L_axis_Check_0 n m1 x0 x3 (if (2147483648 : Int) < (IntKind.i64.wrap (x4 + (at_ (e := YSpan) x7 x9).2)) then 2147483648 else (IntKind.i64.wrap (x4 + (at_ (e := YSpan) x7 x9).2))) x7 x8 (IntKind.i64.wrap (x9 + 1)))
               (L_axis_Check_0 n m1 x0 x3 x4 x7 x8 (IntKind.i64.wrap (x9 + 1))))))
           else none)
           (some (ret_axis_Check 5)))
         else none)
         (bcond (((at_ (e := YSpan) x7 x9).1 : Int) != 1)
          (bcond (((at_ (e := YSpan) x7 x9).1 : Int) != 2)
           (L_axis_Check_0 n m1 x0 (if (2147483648 : Int) < (IntKind.i64.wrap (x3 + (at_ (e := YSpan) x7 x9).2)) then 2147483648 else (IntKind.i64.wrap (x3 + (at_ (e := YSpan) x7 x9).2))) (if (2147483648 : Int) < (IntKind.i64.wrap (x4 + (at_ (e := YSpan) x7 x9).2)) then 2147483648 else (IntKind.i64.wrap (x4 + (at_ (e := YSpan) x7 x9).2))) x7 x8 (IntKind.i64.wrap (x9 + 1)))
           (L_axis_Check_0 n m1 x0 (if (2147483648 : Int) < (IntKind.i64.wrap (x3 + (at_ (e := YSpan) x7 x9).2)) then 2147483648 else (IntKind.i64.wrap (x3 + (at_ (e := YSpan) x7 x9).2))) x4 x7 x8 (IntKind.i64.wrap (x9 + 1))))
          (bcond (((at_ (e := YSpan) x7 x9).1 : Int) != 2)
           (L_axis_Check_0 n m1 x0 x3 (if (2147483648 : Int) < (IntKind.i64.wrap (x4 + (at_ (e := YSpan) x7 x9).2)) then 2147483648 else (IntKind.i64.wrap (x4 + (at_ (e := YSpan) x7 x9).2))) x7 x8 (IntKind.i64.wrap (x9 + 1)))
           (L_axis_Check_0 n m1 x0 x3 x4 x7 x8 (IntKind.i64.wrap (x9 + 1)))))))
       (some (ret_axis_Check 2))))
     (some (ret_axis_Check 8)))
   else none)
   (bcond ((decide ((x3 : Int) > 2147483647)) == false)
    (bcond (decide ((x4 : Int) > 2147483647))
     (some (ret_axis_Check 3))
     (some (ret_axis_Check 0)))
    (some (ret_axis_Check 3)))) := by kernel_rfl
noncomputable def F_axis_Check : sig_axis_Check.Fn := fun x y => run T (env_axis_Check) os_axis_Check sig_axis_Check Try.f108 hs_axis_Check big x y
theorem e_axis_Check (a0 : List YSpan.den) : C_axis_Check F_axis_Check a0 =
  (L_axis_Check_0 big big a0 0 0 a0 (List.length a0 : Int) 0) := by kernel_rfl
def sig_R_AxisSize : Sig := ⟨[.v false (.list YSpan)], [], [(false, [.fr (.int .i64)])]⟩
def C_R_AxisSize (F : sig_R_AxisSize.Fn) (a0 : List YSpan.den) : Option sig_R_AxisSize.Out := F (a0, ()) ()
def ret_R_AxisSize (v0 : Int) : sig_R_AxisSize.Out := (((v0, ()), ()), ())
def os_R_AxisSize : RegT := ⟨[], []⟩
def hs_R_AxisSize : List Keep := [[(0, []), (3, []), (6, []), (7, [])]]
@[reducible] noncomputable def env_R_AxisSize : Env := []
noncomputable def L_R_AxisSize_0 (n m1 : Nat) (x0 : List YSpan.den) (x3 : Int) (x6 : Int) (x7 : Int) : Option sig_R_AxisSize.Out :=
  loopAt T (env_R_AxisSize) os_R_AxisSize sig_R_AxisSize Try.f115 hs_R_AxisSize n [.sr, .sr, .sl, .sr, .bl] m1 (mk 19 [(0, .cs false [.val (.list YSpan) x0]), (3, .cs false [.val (.int .i64) x3]), (6, .cs false [.val (.int .i64) x6]), (7, .cs false [.val (.int .i64) x7])])
theorem L_R_AxisSize_0_step (n m1 : Nat) (x0 : List YSpan.den) (x3 : Int) (x6 : Int) (x7 : Int) : L_R_AxisSize_0 n (m1 + 1) x0 x3 x6 x7 =
  (bcond (decide ((x7 : Int) < x6))
   (if 0 ≤ (x7 : Int) ∧ (x7 : Int) < (List.length x0 : Int) then
    (L_R_AxisSize_0 n m1 x0 (IntKind.i64.wrap (x3 + (at_ (e := YSpan) x0 x7).2)) x6 (IntKind.i64.wrap (x7 + 1)))
   else none)
   (some (ret_R_AxisSize x3))) := by kernel_rfl
noncomputable def F_R_AxisSize : sig_R_AxisSize.Fn := fun x y => run T (env_R_AxisSize) os_R_AxisSize sig_R_AxisSize Try.f115 hs_R_AxisSize big x y
theorem e_R_AxisSize (a0 : List YSpan.den) : C_R_AxisSize F_R_AxisSize a0 =
  (L_R_AxisSize_0 big big a0 0 (List.length a0 : Int) 0) := by kernel_rfl
def sig_law_act : Sig := ⟨[.v false (.list YSpan)], [], [(true, [.fr YAct])]⟩
def ret_law_act (v0 : YAct.den) : sig_law_act.Out := (((v0, ()), ()), ())
def os_law_act : RegT := ⟨[(5, .st 0 (.st 1 (.st 2 (.st 3 (.st 5 (.st 6 (.st 7 (.st 8 (.st 4 (.st 9 (.st 10 (.st 11 (.st 12 (.nil))))))))))))))], []⟩
def hs_law_act : List Keep := [[(0, []), (2, []), (3, [(0, 30, YStep)]), (7, []), (8, [])], [(0, []), (2, []), (3, [(0, 30, YStep)]), (5, [(3, 113, YElem)]), (7, []), (8, []), (30, []), (31, [])]]
@[reducible] noncomputable def env_law_act : Env := [(21, ⟨sig_R_ActOf, F_R_ActOf⟩)]
noncomputable def L_law_act_0 (n m1 : Nat) (x0 : List YSpan.den) (x3 : List YStep.den) (x7 : Int) (x8 : Int) : Option sig_law_act.Out :=
  loopAt T (env_law_act) os_law_act sig_law_act Try.f46 hs_law_act n [.sr, .sr, .sl, .sr, .bl] m1 (mk 47 [(0, .cs false [.val (.list YSpan) x0]), (2, .box [.nils, .nils, .nils]), (3, .cs false [.own 30 YStep x3]), (7, .cs false [.val (.int .i64) x7]), (8, .cs false [.val (.int .i64) x8])])
noncomputable def L_law_act_1 (n m1 m2 : Nat) (x0 : List YSpan.den) (x3 : List YStep.den) (x5_0 : Int) (x5_1 : Int) (x5_3 : List YElem.den) (x7 : Int) (x8 : Int) (x30 : Int) (x31 : Int) : Option sig_law_act.Out :=
  loopAt T (env_law_act) os_law_act sig_law_act Try.f46 hs_law_act n [.sr, .sr, .sl, .sr, .bl, .lp m1, .sr, .sr, .sl, .bl, .sr, .sr, .sl, .sr, .ct, .sr, .sr, .bl] m2 (mk 47 [(0, .cs false [.val (.list YSpan) x0]), (2, .box [.nils, .nils, .nils]), (3, .cs false [.own 30 YStep x3]), (5, .box [.val (.int .i64) x5_0, .val (.int .i64) x5_1, .nils, .own 113 YElem x5_3]), (7, .cs false [.val (.int .i64) x7]), (8, .cs false [.val (.int .i64) x8]), (30, .cs false [.val (.int .i64) x30]), (31, .cs false [.val (.int .i64) x31])])
theorem L_law_act_0_step (n m1 : Nat) (x0 : List YSpan.den) (x3 : List YStep.den) (x7 : Int) (x8 : Int) : L_law_act_0 n (m1 + 1) x0 x3 x7 x8 =
  (bcond (decide ((x8 : Int) < x7))
   (if 0 ≤ (x8 : Int) ∧ (x8 : Int) < (List.length x0 : Int) then
    (if 0 ≤ (x8 : Int) ∧ (x8 : Int) < (List.length x0 : Int) then
     (bcond (((at_ (e := YSpan) x0 x8).1 : Int) == 1)
      (if 0 ≤ (x8 : Int) ∧ (x8 : Int) < (List.length x0 : Int) then
       (L_law_act_1 n m1 n x0 x3 (at_ (e := YSpan) x0 x8).1 0 [] x7 x8 (at_ (e := YSpan) x0 x8).2 0)
      else none)
      (if (List.length (x3 : List YStep.den) + List.length ([((at_ (e := YSpan) x0 x8).1, ((at_ (e := YSpan) x0 x8).2, ([], [])))] : List YStep.den)) * 64 ≤ 140737488355328 then
       (L_law_act_0 n m1 x0 (x3 ++ [((at_ (e := YSpan) x0 x8).1, ((at_ (e := YSpan) x0 x8).2, ([], [])))]) x7 (IntKind.i64.wrap (x8 + 1)))
      else none))
    else none)
   else none)
   ((C_R_ActOf F_R_ActOf x3).bind fun r1 =>
    (some (ret_law_act (res_R_ActOf_0 r1))))) := by kernel_rfl
theorem L_law_act_1_step (n m1 m2 : Nat) (x0 : List YSpan.den) (x3 : List YStep.den) (x5_0 : Int) (x5_1 : Int) (x5_3 : List YElem.den) (x7 : Int) (x8 : Int) (x30 : Int) (x31 : Int) : L_law_act_1 n m1 (m2 + 1) x0 x3 x5_0 x5_1 x5_3 x7 x8 x30 x31 =
  (bcond (decide ((x31 : Int) < x30))
   (if (List.length (x5_3 : List YElem.den) + List.length ([(120, (0, []))] : List YElem.den)) * 40 ≤ 140737488355328 then
    (L_law_act_1 n m1 m2 x0 x3 x5_0 x5_1 (x5_3 ++ [(120, (0, []))]) x7 x8 x30 (IntKind.i64.wrap (x31 + 1)))
   else none)
   (if (List.length (x3 : List YStep.den) + List.length ([(x5_0, (x5_1, ([], x5_3)))] : List YStep.den)) * 64 ≤ 140737488355328 then
    (L_law_act_0 n m1 x0 (x3 ++ [(x5_0, (x5_1, ([], x5_3)))]) x7 (IntKind.i64.wrap (x8 + 1)))
   else none)) := by kernel_rfl
def sig_axis_writer_flush : Sig := ⟨[.p 0], [[.ow 128 YSpan, .fr (.int .i64), .fr (.int .i64)]], []⟩
def os_axis_writer_flush : RegT := ⟨[(1, .st 0 (.st 1 (.st 2 (.st 3 (.st 5 (.st 6 (.st 7 (.st 8 (.st 9 (.st 4 (.st 10 (.st 11 (.st 12 (.st 13 (.st 14 (.nil)))))))))))))))), (3, .st 0 (.st 1 (.st 2 (.st 3 (.st 5 (.st 6 (.st 7 (.st 8 (.st 9 (.st 4 (.st 10 (.st 11 (.st 12 (.st 13 (.st 14 (.nil))))))))))))))))], []⟩
def hs_axis_writer_flush : List Keep := []
@[reducible] noncomputable def env_axis_writer_flush : Env := []
noncomputable def F_axis_writer_flush : sig_axis_writer_flush.Fn := fun x y => run T (env_axis_writer_flush) os_axis_writer_flush sig_axis_writer_flush Try.f145 hs_axis_writer_flush big x y
def sig_axis_writer_done : Sig := ⟨[.p 0], [[.oo 128 YSpan, .fr (.int .i64), .fr (.int .i64)]], [(false, [.fr (.list YSpan)]), (false, [.fr (.int .i64)])]⟩
def C_axis_writer_done (F : sig_axis_writer_done.Fn) (b0_0 : List YSpan.den) (b0_1 : Int) (b0_2 : Int) : Option sig_axis_writer_done.Out := F () (((some b0_0), b0_1, b0_2, ()), ())
def res_axis_writer_done_0 (r : sig_axis_writer_done.Out) : List YSpan.den := r.1.1.1
def res_axis_writer_done_1 (r : sig_axis_writer_done.Out) : Int := r.1.2.1.1
def os_axis_writer_done : RegT := ⟨[], []⟩
def hs_axis_writer_done : List Keep := []
@[reducible] noncomputable def env_axis_writer_done : Env := [(145, ⟨sig_axis_writer_flush, F_axis_writer_flush⟩), (108, ⟨sig_axis_Check, F_axis_Check⟩)]
noncomputable def F_axis_writer_done : sig_axis_writer_done.Fn := fun x y => run T (env_axis_writer_done) os_axis_writer_done sig_axis_writer_done Try.f114 hs_axis_writer_done big x y
end Go.Ev
