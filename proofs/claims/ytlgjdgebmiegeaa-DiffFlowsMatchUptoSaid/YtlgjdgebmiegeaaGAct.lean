/- Functions, step by step. -/
import Derived.Test.YtlgjdgebmiegeaaGWriter
namespace Go.Ev
set_option linter.unusedVariables false
set_option maxRecDepth 100000
open Go.Proofs
def sig_R_DeltaOf : Sig := ⟨[.v true YAct], [], [(false, [.fr (.list YStep)])]⟩
def C_R_DeltaOf (F : sig_R_DeltaOf.Fn) (a0 : YAct.den) : Option sig_R_DeltaOf.Out := F (a0, ()) ()
def ret_R_DeltaOf (v0 : List YStep.den) : sig_R_DeltaOf.Out := (((v0, ()), ()), ())
def res_R_DeltaOf_0 (r : sig_R_DeltaOf.Out) : List YStep.den := r.1.1.1
@[simp] theorem res_R_DeltaOf_0_ret (v0 : List YStep.den) : res_R_DeltaOf_0 (ret_R_DeltaOf v0) = v0 := rfl
def os_R_DeltaOf : RegT := ⟨[(17, .st 0 (.st 1 (.st 2 (.st 3 (.st 4 (.st 5 (.st 6 (.st 7 (.st 8 (.st 9 (.st 10 (.st 11 (.st 12 (.st 13 (.st 14 (.st 16 (.st 18 (.st 17 (.st 19 (.st 15 (.st 20 (.st 21 (.st 22 (.nil))))))))))))))))))))))))], [], false⟩
def hs_R_DeltaOf : List Keep := [[(1, []), (3, [(0, 30, YStep)]), (4, [(0, 113, YElem)]), (5, []), (6, [])]]
@[reducible] noncomputable def env_R_DeltaOf : Env := [(77, ⟨sig_R_SameAttrs, F_R_SameAttrs⟩)]
noncomputable def L_R_DeltaOf_0 (n m1 : Nat) (x1_0 : List (List YElem.den)) (x1_1 : List (Bool)) (x1_2 : List (List YAttr.den)) (x3 : List YStep.den) (x4 : List YElem.den) (x5 : Int) (x6 : Int) : Option sig_R_DeltaOf.Out :=
  loopAt T (env_R_DeltaOf) os_R_DeltaOf sig_R_DeltaOf Try.f20 hs_R_DeltaOf n [.sr, .sr, .sr, .sr, .sl, .sr, .bl] m1 (mk 100 [(1, .box [.val (.list (.list YElem)) x1_0, .val (.list .bool) x1_1, .val (.list (.list YAttr)) x1_2]), (3, .cs false [.own 30 YStep x3]), (4, .cs false [.own 113 YElem x4]), (5, .cs false [.val (.int .i64) x5]), (6, .cs false [.val (.int .i64) x6])])
noncomputable def J_R_DeltaOf_0 (n m1 : Nat) (y1 : YAct.den) (y3 : List YStep.den) (y6 : Int) : Option sig_R_DeltaOf.Out :=
  (bcond ((y6 : Int) == (List.length y1.2.1 : Int))
   (some (ret_R_DeltaOf y3))
   (bcond ((decide (((IntKind.i64.wrap ((List.length y3 : Int) - 1)) : Int) ≥ 0)) == true)
    (if 0 ≤ ((IntKind.i64.wrap ((List.length y3 : Int) - 1)) : Int) ∧ ((IntKind.i64.wrap ((List.length y3 : Int) - 1)) : Int) < (List.length y3 : Int) then
     (bcond ((((at_ (e := YStep) y3 (IntKind.i64.wrap ((List.length y3 : Int) - 1))).1 : Int) == 0) == true)
      (if 0 ≤ ((IntKind.i64.wrap ((List.length y3 : Int) - 1)) : Int) ∧ ((IntKind.i64.wrap ((List.length y3 : Int) - 1)) : Int) < (List.length y3 : Int) then
       (if 0 ≤ (y6 : Int) ∧ (y6 : Int) < (List.length y1.2.2 : Int) then
        ((C_R_SameAttrs F_R_SameAttrs (at_ (e := YStep) y3 (IntKind.i64.wrap ((List.length y3 : Int) - 1))).2.2.1 (at_ (e := (.list YAttr)) y1.2.2 y6)).bind fun r1 =>
         (bcond (res_R_SameAttrs_0 r1)
          (if 0 ≤ ((IntKind.i64.wrap ((List.length y3 : Int) - 1)) : Int) ∧ ((IntKind.i64.wrap ((List.length y3 : Int) - 1)) : Int) < (List.length y3 : Int) then
           (if 0 ≤ ((IntKind.i64.wrap ((List.length y3 : Int) - 1)) : Int) ∧ ((IntKind.i64.wrap ((List.length y3 : Int) - 1)) : Int) < (List.length y3 : Int) then
            (L_R_DeltaOf_0 n m1 y1.1 y1.2.1 y1.2.2 (List.set y3 (Int.toNat (IntKind.i64.wrap ((List.length y3 : Int) - 1))) ((at_ (e := YStep) y3 (IntKind.i64.wrap ((List.length y3 : Int) - 1))).1, ((IntKind.i64.wrap ((at_ (e := YStep) y3 (IntKind.i64.wrap ((List.length y3 : Int) - 1))).2.1 + 1)), (at_ (e := YStep) y3 (IntKind.i64.wrap ((List.length y3 : Int) - 1))).2.2))) [] 0 (IntKind.i64.wrap (y6 + 1)))
           else none)
          else none)
          (if 0 ≤ (y6 : Int) ∧ (y6 : Int) < (List.length y1.2.2 : Int) then
           (if (List.length (y3 : List YStep.den) + List.length ([(0, (1, ((at_ (e := (.list YAttr)) y1.2.2 y6), [])))] : List YStep.den)) * 64 ≤ 140737488355328 then
            (L_R_DeltaOf_0 n m1 y1.1 y1.2.1 y1.2.2 (y3 ++ [(0, (1, ((at_ (e := (.list YAttr)) y1.2.2 y6), [])))]) [] 0 (IntKind.i64.wrap (y6 + 1)))
           else none)
          else none)))
       else none)
      else none)
      (if 0 ≤ (y6 : Int) ∧ (y6 : Int) < (List.length y1.2.2 : Int) then
       (if (List.length (y3 : List YStep.den) + List.length ([(0, (1, ((at_ (e := (.list YAttr)) y1.2.2 y6), [])))] : List YStep.den)) * 64 ≤ 140737488355328 then
        (L_R_DeltaOf_0 n m1 y1.1 y1.2.1 y1.2.2 (y3 ++ [(0, (1, ((at_ (e := (.list YAttr)) y1.2.2 y6), [])))]) [] 0 (IntKind.i64.wrap (y6 + 1)))
       else none)
      else none))
    else none)
    (if 0 ≤ (y6 : Int) ∧ (y6 : Int) < (List.length y1.2.2 : Int) then
     (if (List.length (y3 : List YStep.den) + List.length ([(0, (1, ((at_ (e := (.list YAttr)) y1.2.2 y6), [])))] : List YStep.den)) * 64 ≤ 140737488355328 then
      (L_R_DeltaOf_0 n m1 y1.1 y1.2.1 y1.2.2 (y3 ++ [(0, (1, ((at_ (e := (.list YAttr)) y1.2.2 y6), [])))]) [] 0 (IntKind.i64.wrap (y6 + 1)))
     else none)
    else none)))
theorem L_R_DeltaOf_0_step (n m1 : Nat) (x1_0 : List (List YElem.den)) (x1_1 : List (Bool)) (x1_2 : List (List YAttr.den)) (x3 : List YStep.den) (x4 : List YElem.den) (x5 : Int) (x6 : Int) : L_R_DeltaOf_0 n (m1 + 1) x1_0 x1_1 x1_2 x3 x4 x5 x6 =
  (bcond (decide ((x6 : Int) ≤ (List.length x1_1 : Int)))
   (if 0 ≤ (x6 : Int) ∧ (x6 : Int) < (List.length x1_0 : Int) then
    (if (List.length (x4 : List YElem.den) + List.length ((at_ (e := (.list YElem)) x1_0 x6) : List YElem.den)) * 40 ≤ 140737488355328 then
     (bcond ((decide ((x6 : Int) < (List.length x1_1 : Int))) == true)
      (if 0 ≤ (x6 : Int) ∧ (x6 : Int) < (List.length x1_1 : Int) then
       (bcond (at_ (e := .bool) x1_1 x6)
        (L_R_DeltaOf_0 n m1 x1_0 x1_1 x1_2 x3 (x4 ++ (at_ (e := (.list YElem)) x1_0 x6)) (IntKind.i64.wrap (x5 + 1)) (IntKind.i64.wrap (x6 + 1)))
        (bcond (decide (((List.length (x4 ++ (at_ (e := (.list YElem)) x1_0 x6)) : Int) : Int) > 0))
         (if (List.length (x3 : List YStep.den) + List.length ([(1, (0, ([], (x4 ++ (at_ (e := (.list YElem)) x1_0 x6)))))] : List YStep.den)) * 64 ≤ 140737488355328 then
          (bcond (decide ((x5 : Int) > 0))
           (if (List.length ((x3 ++ [(1, (0, ([], (x4 ++ (at_ (e := (.list YElem)) x1_0 x6)))))]) : List YStep.den) + List.length ([(2, (x5, ([], [])))] : List YStep.den)) * 64 ≤ 140737488355328 then
            (J_R_DeltaOf_0 n m1 (x1_0, (x1_1, x1_2)) ((x3 ++ [(1, (0, ([], (x4 ++ (at_ (e := (.list YElem)) x1_0 x6)))))]) ++ [(2, (x5, ([], [])))]) x6)
           else none)
           (J_R_DeltaOf_0 n m1 (x1_0, (x1_1, x1_2)) (x3 ++ [(1, (0, ([], (x4 ++ (at_ (e := (.list YElem)) x1_0 x6)))))]) x6))
         else none)
         (bcond (decide ((x5 : Int) > 0))
          (if (List.length (x3 : List YStep.den) + List.length ([(2, (x5, ([], [])))] : List YStep.den)) * 64 ≤ 140737488355328 then
           (J_R_DeltaOf_0 n m1 (x1_0, (x1_1, x1_2)) (x3 ++ [(2, (x5, ([], [])))]) x6)
          else none)
          (J_R_DeltaOf_0 n m1 (x1_0, (x1_1, x1_2)) x3 x6))))
      else none)
      (bcond (decide (((List.length (x4 ++ (at_ (e := (.list YElem)) x1_0 x6)) : Int) : Int) > 0))
       (if (List.length (x3 : List YStep.den) + List.length ([(1, (0, ([], (x4 ++ (at_ (e := (.list YElem)) x1_0 x6)))))] : List YStep.den)) * 64 ≤ 140737488355328 then
        (bcond (decide ((x5 : Int) > 0))
         (if (List.length ((x3 ++ [(1, (0, ([], (x4 ++ (at_ (e := (.list YElem)) x1_0 x6)))))]) : List YStep.den) + List.length ([(2, (x5, ([], [])))] : List YStep.den)) * 64 ≤ 140737488355328 then
          (J_R_DeltaOf_0 n m1 (x1_0, (x1_1, x1_2)) ((x3 ++ [(1, (0, ([], (x4 ++ (at_ (e := (.list YElem)) x1_0 x6)))))]) ++ [(2, (x5, ([], [])))]) x6)
         else none)
         (J_R_DeltaOf_0 n m1 (x1_0, (x1_1, x1_2)) (x3 ++ [(1, (0, ([], (x4 ++ (at_ (e := (.list YElem)) x1_0 x6)))))]) x6))
       else none)
       (bcond (decide ((x5 : Int) > 0))
        (if (List.length (x3 : List YStep.den) + List.length ([(2, (x5, ([], [])))] : List YStep.den)) * 64 ≤ 140737488355328 then
         (J_R_DeltaOf_0 n m1 (x1_0, (x1_1, x1_2)) (x3 ++ [(2, (x5, ([], [])))]) x6)
        else none)
        (J_R_DeltaOf_0 n m1 (x1_0, (x1_1, x1_2)) x3 x6))))
    else none)
   else none)
   (some (ret_R_DeltaOf x3))) := by kernel_rfl
theorem ok_R_DeltaOf : fnOk os_R_DeltaOf sig_R_DeltaOf Try.f20 = true := by kernel_rfl
theorem fn_R_DeltaOf : P.funcs[20]? = some Try.f20 := by kernel_rfl
noncomputable def F_R_DeltaOf : sig_R_DeltaOf.Fn := fun x y => run T (env_R_DeltaOf) os_R_DeltaOf sig_R_DeltaOf Try.f20 hs_R_DeltaOf big x y
theorem S_R_DeltaOf : Sound P 20 ⟨sig_R_DeltaOf, F_R_DeltaOf⟩ := sound_of (os := os_R_DeltaOf) (hs := hs_R_DeltaOf) (env_cons S_R_SameAttrs (env_nil)) fn_R_DeltaOf ok_R_DeltaOf (fun x y out h => ⟨big, h⟩)
theorem e_R_DeltaOf (a0 : YAct.den) : C_R_DeltaOf F_R_DeltaOf a0 =
  (L_R_DeltaOf_0 big big a0.1 a0.2.1 a0.2.2 [] [] 0 0) := by kernel_rfl
def sig_R_ActOf : Sig := ⟨[.v false (.list YStep)], [], [(true, [.fr YAct])]⟩
def ret_R_ActOf (v0 : YAct.den) : sig_R_ActOf.Out := (((v0, ()), ()), ())
def os_R_ActOf : RegT := ⟨[(8, .st 0 (.st 2 (.st 4 (.st 6 (.st 10 (.st 5 (.st 7 (.st 8 (.grp [1, 11, 3, 9, 12] (.st 13 (.st 14 (.nil))))))))))))], [], false⟩
def hs_R_ActOf : List Keep := [[(0, []), (2, []), (3, [(0, 28, (.list YElem)), (1, 4, .bool), (2, 27, (.list YAttr))]), (10, []), (11, [])], [(0, []), (2, []), (3, [(0, 28, (.list YElem)), (1, 4, .bool), (2, 27, (.list YAttr))]), (5, []), (10, []), (11, []), (40, []), (41, [])]]
@[reducible] noncomputable def env_R_ActOf : Env := []
noncomputable def L_R_ActOf_0 (n m1 : Nat) (x0 : List YStep.den) (x3_0 : List (List YElem.den)) (x3_1 : List (Bool)) (x3_2 : List (List YAttr.den)) (x10 : Int) (x11 : Int) : Option sig_R_ActOf.Out :=
  loopAt T (env_R_ActOf) os_R_ActOf sig_R_ActOf Try.f21 hs_R_ActOf n [.sr, .sr, .sl, .sr, .bl] m1 (mk 66 [(0, .cs false [.val (.list YStep) x0]), (2, .box [.nils, .nils, .nils]), (3, .box [.own 28 (.list YElem) x3_0, .own 4 .bool x3_1, .own 27 (.list YAttr) x3_2]), (10, .cs false [.val (.int .i64) x10]), (11, .cs false [.val (.int .i64) x11])])
noncomputable def L_R_ActOf_1 (n m1 m2 : Nat) (x0 : List YStep.den) (x3_0 : List (List YElem.den)) (x3_1 : List (Bool)) (x3_2 : List (List YAttr.den)) (x5_0 : Int) (x5_1 : Int) (x5_2 : List YAttr.den) (x5_3 : List YElem.den) (x10 : Int) (x11 : Int) (x40 : Int) (x41 : Int) : Option sig_R_ActOf.Out :=
  loopAt T (env_R_ActOf) os_R_ActOf sig_R_ActOf Try.f21 hs_R_ActOf n [.sr, .sr, .sl, .sr, .bl, .lp m1, .sr, .sr, .sl, .bl, .sr, .sr, .sr, .sr, .bl] m2 (mk 66 [(0, .cs false [.val (.list YStep) x0]), (2, .box [.nils, .nils, .nils]), (3, .box [.own 28 (.list YElem) x3_0, .own 4 .bool x3_1, .own 27 (.list YAttr) x3_2]), (5, .box [.val (.int .i64) x5_0, .val (.int .i64) x5_1, .val (.list YAttr) x5_2, .val (.list YElem) x5_3]), (10, .cs false [.val (.int .i64) x10]), (11, .cs false [.val (.int .i64) x11]), (40, .cs false [.val (.int .i64) x40]), (41, .cs false [.val (.int .i64) x41])])
theorem L_R_ActOf_0_step (n m1 : Nat) (x0 : List YStep.den) (x3_0 : List (List YElem.den)) (x3_1 : List (Bool)) (x3_2 : List (List YAttr.den)) (x10 : Int) (x11 : Int) : L_R_ActOf_0 n (m1 + 1) x0 x3_0 x3_1 x3_2 x10 x11 =
  (bcond (decide ((x11 : Int) < x10))
   (if 0 ≤ (x11 : Int) ∧ (x11 : Int) < (List.length x0 : Int) then
    (bcond (((at_ (e := YStep) x0 x11).1 : Int) == 1)
     (if 0 ≤ ((IntKind.i64.wrap ((List.length x3_0 : Int) - 1)) : Int) ∧ ((IntKind.i64.wrap ((List.length x3_0 : Int) - 1)) : Int) < (List.length x3_0 : Int) then
      (if (List.length ([] : List YElem.den) + List.length ((at_ (e := (.list YElem)) x3_0 (IntKind.i64.wrap ((List.length x3_0 : Int) - 1))) : List YElem.den)) * 40 ≤ 140737488355328 then
       (if (List.length (([] ++ (at_ (e := (.list YElem)) x3_0 (IntKind.i64.wrap ((List.length x3_0 : Int) - 1)))) : List YElem.den) + List.length ((at_ (e := YStep) x0 x11).2.2.2 : List YElem.den)) * 40 ≤ 140737488355328 then
        (if 0 ≤ ((IntKind.i64.wrap ((List.length x3_0 : Int) - 1)) : Int) ∧ ((IntKind.i64.wrap ((List.length x3_0 : Int) - 1)) : Int) < (List.length x3_0 : Int) then
         (L_R_ActOf_0 n m1 x0 (List.set x3_0 (Int.toNat (IntKind.i64.wrap ((List.length x3_0 : Int) - 1))) (([] ++ (at_ (e := (.list YElem)) x3_0 (IntKind.i64.wrap ((List.length x3_0 : Int) - 1)))) ++ (at_ (e := YStep) x0 x11).2.2.2)) x3_1 x3_2 x10 (IntKind.i64.wrap (x11 + 1)))
        else none)
       else none)
      else none)
     else none)
     (L_R_ActOf_1 n m1 n x0 x3_0 x3_1 x3_2 (at_ (e := YStep) x0 x11).1 (at_ (e := YStep) x0 x11).2.1 (at_ (e := YStep) x0 x11).2.2.1 (at_ (e := YStep) x0 x11).2.2.2 x10 x11 (at_ (e := YStep) x0 x11).2.1 0))
   else none)
   (some (ret_R_ActOf (x3_0, (x3_1, x3_2))))) := by kernel_rfl
theorem L_R_ActOf_1_step (n m1 m2 : Nat) (x0 : List YStep.den) (x3_0 : List (List YElem.den)) (x3_1 : List (Bool)) (x3_2 : List (List YAttr.den)) (x5_0 : Int) (x5_1 : Int) (x5_2 : List YAttr.den) (x5_3 : List YElem.den) (x10 : Int) (x11 : Int) (x40 : Int) (x41 : Int) : L_R_ActOf_1 n m1 (m2 + 1) x0 x3_0 x3_1 x3_2 x5_0 x5_1 x5_2 x5_3 x10 x11 x40 x41 =
  (bcond (decide ((x41 : Int) < x40))
   (if (List.length (x3_0 : List (Ty.list YElem).den) + List.length ([[]] : List (Ty.list YElem).den)) * 24 ≤ 140737488355328 then
    (if (List.length (x3_1 : List Bool) + List.length ([((x5_0 : Int) == 2)] : List Bool)) * 1 ≤ 140737488355328 then
     (if (List.length (x3_2 : List (Ty.list YAttr).den) + List.length ([x5_2] : List (Ty.list YAttr).den)) * 24 ≤ 140737488355328 then
      (L_R_ActOf_1 n m1 m2 x0 (x3_0 ++ [[]]) (x3_1 ++ [((x5_0 : Int) == 2)]) (x3_2 ++ [x5_2]) x5_0 x5_1 x5_2 x5_3 x10 x11 x40 (IntKind.i64.wrap (x41 + 1)))
     else none)
    else none)
   else none)
   (L_R_ActOf_0 n m1 x0 x3_0 x3_1 x3_2 x10 (IntKind.i64.wrap (x11 + 1)))) := by kernel_rfl
def sig_R_SameDelta : Sig := ⟨[.v false (.list YStep), .v false (.list YStep)], [], [(false, [.fr .bool])]⟩
def C_R_SameDelta (F : sig_R_SameDelta.Fn) (a0 : List YStep.den) (a1 : List YStep.den) : Option sig_R_SameDelta.Out := F (a0, a1, ()) ()
def ret_R_SameDelta (v0 : Bool) : sig_R_SameDelta.Out := (((v0, ()), ()), ())
def res_R_SameDelta_0 (r : sig_R_SameDelta.Out) : Bool := r.1.1.1
@[simp] theorem res_R_SameDelta_0_ret (v0 : Bool) : res_R_SameDelta_0 (ret_R_SameDelta v0) = v0 := rfl
def os_R_SameDelta : RegT := ⟨[(6, .st 0 (.st 1 (.st 2 (.st 3 (.st 5 (.st 6 (.st 7 (.st 8 (.st 4 (.st 9 (.st 10 (.st 11 (.st 12 (.st 13 (.st 14 (.st 15 (.st 17 (.st 18 (.st 19 (.st 20 (.st 16 (.st 21 (.st 22 (.st 23 (.st 24 (.st 25 (.st 26 (.st 27 (.st 28 (.st 30 (.st 31 (.st 32 (.st 33 (.st 29 (.st 34 (.st 35 (.st 36 (.st 37 (.st 38 (.st 39 (.st 40 (.st 41 (.st 42 (.st 44 (.st 45 (.st 46 (.st 47 (.st 43 (.st 48 (.st 49 (.st 50 (.st 51 (.nil)))))))))))))))))))))))))))))))))))))))))))))))))))))], [], false⟩
def hs_R_SameDelta : List Keep := [[(0, []), (1, []), (12, []), (13, [])]]
@[reducible] noncomputable def env_R_SameDelta : Env := [(77, ⟨sig_R_SameAttrs, F_R_SameAttrs⟩), (25, ⟨sig_R_SameFlow, F_R_SameFlow⟩)]
noncomputable def L_R_SameDelta_0 (n m1 : Nat) (x0 : List YStep.den) (x1 : List YStep.den) (x12 : Int) (x13 : Int) : Option sig_R_SameDelta.Out :=
  loopAt T (env_R_SameDelta) os_R_SameDelta sig_R_SameDelta Try.f19 hs_R_SameDelta n [.sr, .sr, .sl, .sr, .bl] m1 (mk 69 [(0, .cs false [.val (.list YStep) x0]), (1, .cs false [.val (.list YStep) x1]), (12, .cs false [.val (.int .i64) x12]), (13, .cs false [.val (.int .i64) x13])])
theorem L_R_SameDelta_0_step (n m1 : Nat) (x0 : List YStep.den) (x1 : List YStep.den) (x12 : Int) (x13 : Int) : L_R_SameDelta_0 n (m1 + 1) x0 x1 x12 x13 =
  (bcond (decide ((x13 : Int) < x12))
   (if 0 ≤ (x13 : Int) ∧ (x13 : Int) < (List.length x0 : Int) then
    (if 0 ≤ (x13 : Int) ∧ (x13 : Int) < (List.length x1 : Int) then
     (bcond ((((at_ (e := YStep) x0 x13).1 : Int) != (at_ (e := YStep) x1 x13).1) == false)
      (if 0 ≤ (x13 : Int) ∧ (x13 : Int) < (List.length x0 : Int) then
       (if 0 ≤ (x13 : Int) ∧ (x13 : Int) < (List.length x1 : Int) then
        (bcond ((((at_ (e := YStep) x0 x13).2.1 : Int) != (at_ (e := YStep) x1 x13).2.1) == false)
         (if 0 ≤ (x13 : Int) ∧ (x13 : Int) < (List.length x0 : Int) then
          (if 0 ≤ (x13 : Int) ∧ (x13 : Int) < (List.length x1 : Int) then
           ((C_R_SameAttrs F_R_SameAttrs (at_ (e := YStep) x0 x13).2.2.1 (at_ (e := YStep) x1 x13).2.2.1).bind fun r1 =>
            (bcond ((!(res_R_SameAttrs_0 r1)) == false)
             (if 0 ≤ (x13 : Int) ∧ (x13 : Int) < (List.length x0 : Int) then
              (if 0 ≤ (x13 : Int) ∧ (x13 : Int) < (List.length x1 : Int) then
               ((C_R_SameFlow F_R_SameFlow (at_ (e := YStep) x0 x13).2.2.2 (at_ (e := YStep) x1 x13).2.2.2).bind fun r2 =>
                (bcond (!(res_R_SameFlow_0 r2))
                 (some (ret_R_SameDelta false))
                 (L_R_SameDelta_0 n m1 x0 x1 x12 (IntKind.i64.wrap (x13 + 1)))))
              else none)
             else none)
             (some (ret_R_SameDelta false))))
          else none)
         else none)
         (some (ret_R_SameDelta false)))
       else none)
      else none)
      (some (ret_R_SameDelta false)))
    else none)
   else none)
   (some (ret_R_SameDelta true))) := by kernel_rfl
theorem ok_R_SameDelta : fnOk os_R_SameDelta sig_R_SameDelta Try.f19 = true := by kernel_rfl
theorem fn_R_SameDelta : P.funcs[19]? = some Try.f19 := by kernel_rfl
noncomputable def F_R_SameDelta : sig_R_SameDelta.Fn := fun x y => run T (env_R_SameDelta) os_R_SameDelta sig_R_SameDelta Try.f19 hs_R_SameDelta big x y
theorem S_R_SameDelta : Sound P 19 ⟨sig_R_SameDelta, F_R_SameDelta⟩ := sound_of (os := os_R_SameDelta) (hs := hs_R_SameDelta) (env_cons S_R_SameAttrs (env_cons S_R_SameFlow (env_nil))) fn_R_SameDelta ok_R_SameDelta (fun x y out h => ⟨big, h⟩)
theorem e_R_SameDelta (a0 : List YStep.den) (a1 : List YStep.den) : C_R_SameDelta F_R_SameDelta a0 a1 =
  (bcond (((List.length a0 : Int) : Int) != (List.length a1 : Int))
   (some (ret_R_SameDelta false))
   (L_R_SameDelta_0 big big a0 a1 (List.length a0 : Int) 0)) := by kernel_rfl
end Go.Ev
