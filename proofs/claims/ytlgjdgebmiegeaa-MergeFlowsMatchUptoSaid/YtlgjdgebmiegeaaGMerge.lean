/- Functions, step by step. -/
import Derived.Test.YtlgjdgebmiegeaaGDiffA
namespace Go.Ev
set_option linter.unusedVariables false
set_option maxRecDepth 100000
open Go.Proofs
def sig_merge_read : Sig := ⟨[.v false (.int .i64), .v false (.list YStep)], [], [(true, [.fr YAct])]⟩
def C_merge_read (F : sig_merge_read.Fn) (a0 : Int) (a1 : List YStep.den) : Option sig_merge_read.Out := F (a0, a1, ()) ()
def ret_merge_read (v0 : YAct.den) : sig_merge_read.Out := (((v0, ()), ()), ())
def res_merge_read_0 (r : sig_merge_read.Out) : YAct.den := r.1.1.1
@[simp] theorem res_merge_read_0_ret (v0 : YAct.den) : res_merge_read_0 (ret_merge_read v0) = v0 := rfl
def os_merge_read : RegT := ⟨[(1, .st 0 (.st 1 (.st 3 (.st 5 (.alt 2 (.alt 4 (.alt 6 (.st 7 (.st 8 (.st 9 (.nil)))) (.st 8 (.st 6 (.st 7 (.st 9 (.nil)))))) (.alt 6 (.alt 4 (.st 7 (.st 8 (.st 9 (.nil)))) (.st 8 (.st 4 (.st 7 (.st 9 (.nil)))))) (.st 8 (.grp [4, 6] (.st 7 (.st 9 (.nil))))))) (.alt 4 (.alt 2 (.alt 6 (.st 7 (.st 8 (.st 9 (.nil)))) (.st 8 (.st 6 (.st 7 (.st 9 (.nil)))))) (.alt 6 (.alt 2 (.st 7 (.st 8 (.st 9 (.nil)))) (.st 8 (.st 2 (.st 7 (.st 9 (.nil)))))) (.st 8 (.grp [2, 6] (.st 7 (.st 9 (.nil))))))) (.alt 6 (.alt 2 (.alt 4 (.st 7 (.st 8 (.st 9 (.nil)))) (.st 8 (.st 4 (.st 7 (.st 9 (.nil)))))) (.alt 4 (.alt 2 (.st 7 (.st 8 (.st 9 (.nil)))) (.st 8 (.st 2 (.st 7 (.st 9 (.nil)))))) (.st 8 (.grp [2, 4] (.st 7 (.st 9 (.nil))))))) (.st 8 (.grp [2, 4, 6] (.st 7 (.st 9 (.nil))))))))))))], [], false⟩
def hs_merge_read : List Keep := [[(4, []), (5, [(0, 28, (.list YElem)), (1, 4, .bool), (2, 27, (.list YAttr))]), (6, []), (19, []), (20, []), (21, [])], [(4, []), (5, [(0, 28, (.list YElem)), (1, 4, .bool), (2, 27, (.list YAttr))]), (6, []), (8, []), (19, []), (20, []), (21, []), (52, []), (53, [])], [(4, []), (5, [(0, 28, (.list YElem)), (1, 4, .bool), (2, 27, (.list YAttr))]), (6, []), (8, []), (19, []), (20, []), (21, []), (28, []), (29, [])]]
@[reducible] noncomputable def env_merge_read : Env := []
noncomputable def L_merge_read_0 (n m1 : Nat) (x5_0 : List (List YElem.den)) (x5_1 : List (Bool)) (x5_2 : List (List YAttr.den)) (x6 : Int) (x19 : List YStep.den) (x20 : Int) (x21 : Int) : Option sig_merge_read.Out :=
  loopAt T (env_merge_read) os_merge_read sig_merge_read Try.f154 hs_merge_read n [.sr, .sr, .sr, .sl, .sr, .bl] m1 (mk 69 [(4, .box [.nils, .nils, .nils]), (5, .box [.own 28 (.list YElem) x5_0, .own 4 .bool x5_1, .own 27 (.list YAttr) x5_2]), (6, .cs false [.val (.int .i64) x6]), (19, .cs false [.val (.list YStep) x19]), (20, .cs false [.val (.int .i64) x20]), (21, .cs false [.val (.int .i64) x21])])
noncomputable def L_merge_read_1 (n m1 m2 : Nat) (x5_0 : List (List YElem.den)) (x5_1 : List (Bool)) (x5_2 : List (List YAttr.den)) (x6 : Int) (x8_0 : Int) (x8_1 : Int) (x8_2 : List YAttr.den) (x8_3 : List YElem.den) (x19 : List YStep.den) (x20 : Int) (x21 : Int) (x52 : Int) (x53 : Int) : Option sig_merge_read.Out :=
  loopAt T (env_merge_read) os_merge_read sig_merge_read Try.f154 hs_merge_read n [.sr, .sr, .sr, .sl, .sr, .bl, .lp m1, .sr, .sr, .sl, .bl, .sr, .sl, .sr, .bl, .sr, .cf, .sr, .ct, .sr, .bl] m2 (mk 69 [(4, .box [.nils, .nils, .nils]), (5, .box [.own 28 (.list YElem) x5_0, .own 4 .bool x5_1, .own 27 (.list YAttr) x5_2]), (6, .cs false [.val (.int .i64) x6]), (8, .box [.val (.int .i64) x8_0, .val (.int .i64) x8_1, .val (.list YAttr) x8_2, .val (.list YElem) x8_3]), (19, .cs false [.val (.list YStep) x19]), (20, .cs false [.val (.int .i64) x20]), (21, .cs false [.val (.int .i64) x21]), (52, .cs false [.val (.int .i64) x52]), (53, .cs false [.val (.int .i64) x53])])
noncomputable def L_merge_read_2 (n m1 m2 : Nat) (x5_0 : List (List YElem.den)) (x5_1 : List (Bool)) (x5_2 : List (List YAttr.den)) (x6 : Int) (x8_0 : Int) (x8_1 : Int) (x8_2 : List YAttr.den) (x8_3 : List YElem.den) (x19 : List YStep.den) (x20 : Int) (x21 : Int) (x28 : Int) (x29 : Int) : Option sig_merge_read.Out :=
  loopAt T (env_merge_read) os_merge_read sig_merge_read Try.f154 hs_merge_read n [.sr, .sr, .sr, .sl, .sr, .bl, .lp m1, .sr, .sr, .sl, .bl, .sr, .sl, .sr, .bl, .sr, .cf, .sr, .cf, .sr, .bl] m2 (mk 69 [(4, .box [.nils, .nils, .nils]), (5, .box [.own 28 (.list YElem) x5_0, .own 4 .bool x5_1, .own 27 (.list YAttr) x5_2]), (6, .cs false [.val (.int .i64) x6]), (8, .box [.val (.int .i64) x8_0, .val (.int .i64) x8_1, .val (.list YAttr) x8_2, .val (.list YElem) x8_3]), (19, .cs false [.val (.list YStep) x19]), (20, .cs false [.val (.int .i64) x20]), (21, .cs false [.val (.int .i64) x21]), (28, .cs false [.val (.int .i64) x28]), (29, .cs false [.val (.int .i64) x29])])
theorem L_merge_read_0_step (n m1 : Nat) (x5_0 : List (List YElem.den)) (x5_1 : List (Bool)) (x5_2 : List (List YAttr.den)) (x6 : Int) (x19 : List YStep.den) (x20 : Int) (x21 : Int) : L_merge_read_0 n (m1 + 1) x5_0 x5_1 x5_2 x6 x19 x20 x21 =
  (bcond (decide ((x21 : Int) < x20))
   (if 0 ≤ (x21 : Int) ∧ (x21 : Int) < (List.length x19 : Int) then
    (bcond (((at_ (e := YStep) x19 x21).1 : Int) == 1)
     (if 0 ≤ (x6 : Int) ∧ (x6 : Int) < (List.length x5_0 : Int) then
      (L_merge_read_0 n m1 (List.set x5_0 (Int.toNat x6) (at_ (e := YStep) x19 x21).2.2.2) x5_1 x5_2 x6 x19 x20 (IntKind.i64.wrap (x21 + 1)))
     else none)
     (bcond (((at_ (e := YStep) x19 x21).1 : Int) == 2)
      (L_merge_read_1 n m1 n x5_0 x5_1 x5_2 x6 (at_ (e := YStep) x19 x21).1 (at_ (e := YStep) x19 x21).2.1 (at_ (e := YStep) x19 x21).2.2.1 (at_ (e := YStep) x19 x21).2.2.2 x19 x20 x21 (at_ (e := YStep) x19 x21).2.1 0)
      (L_merge_read_2 n m1 n x5_0 x5_1 x5_2 x6 (at_ (e := YStep) x19 x21).1 (at_ (e := YStep) x19 x21).2.1 (at_ (e := YStep) x19 x21).2.2.1 (at_ (e := YStep) x19 x21).2.2.2 x19 x20 x21 (at_ (e := YStep) x19 x21).2.1 0)))
   else none)
   (some (ret_merge_read (x5_0, (x5_1, x5_2))))) := by kernel_rfl
theorem L_merge_read_1_step (n m1 m2 : Nat) (x5_0 : List (List YElem.den)) (x5_1 : List (Bool)) (x5_2 : List (List YAttr.den)) (x6 : Int) (x8_0 : Int) (x8_1 : Int) (x8_2 : List YAttr.den) (x8_3 : List YElem.den) (x19 : List YStep.den) (x20 : Int) (x21 : Int) (x52 : Int) (x53 : Int) : L_merge_read_1 n m1 (m2 + 1) x5_0 x5_1 x5_2 x6 x8_0 x8_1 x8_2 x8_3 x19 x20 x21 x52 x53 =
  (bcond (decide ((x53 : Int) < x52))
   (if 0 ≤ ((IntKind.i64.wrap (x6 + x53)) : Int) ∧ ((IntKind.i64.wrap (x6 + x53)) : Int) < (List.length x5_1 : Int) then
    (L_merge_read_1 n m1 m2 x5_0 (List.set x5_1 (Int.toNat (IntKind.i64.wrap (x6 + x53))) true) x5_2 x6 x8_0 x8_1 x8_2 x8_3 x19 x20 x21 x52 (IntKind.i64.wrap (x53 + 1)))
   else none)
   (L_merge_read_0 n m1 x5_0 x5_1 x5_2 (IntKind.i64.wrap (x6 + x8_1)) x19 x20 (IntKind.i64.wrap (x21 + 1)))) := by kernel_rfl
theorem L_merge_read_2_step (n m1 m2 : Nat) (x5_0 : List (List YElem.den)) (x5_1 : List (Bool)) (x5_2 : List (List YAttr.den)) (x6 : Int) (x8_0 : Int) (x8_1 : Int) (x8_2 : List YAttr.den) (x8_3 : List YElem.den) (x19 : List YStep.den) (x20 : Int) (x21 : Int) (x28 : Int) (x29 : Int) : L_merge_read_2 n m1 (m2 + 1) x5_0 x5_1 x5_2 x6 x8_0 x8_1 x8_2 x8_3 x19 x20 x21 x28 x29 =
  (bcond (decide ((x29 : Int) < x28))
   (if 0 ≤ ((IntKind.i64.wrap (x6 + x29)) : Int) ∧ ((IntKind.i64.wrap (x6 + x29)) : Int) < (List.length x5_2 : Int) then
    (L_merge_read_2 n m1 m2 x5_0 x5_1 (List.set x5_2 (Int.toNat (IntKind.i64.wrap (x6 + x29))) x8_2) x6 x8_0 x8_1 x8_2 x8_3 x19 x20 x21 x28 (IntKind.i64.wrap (x29 + 1)))
   else none)
   (L_merge_read_0 n m1 x5_0 x5_1 x5_2 (IntKind.i64.wrap (x6 + x8_1)) x19 x20 (IntKind.i64.wrap (x21 + 1)))) := by kernel_rfl
theorem raw_merge_read (n : Nat) (a0 : Int) (a1 : List YStep.den) : C_merge_read (fun x y => run T (env_merge_read) os_merge_read sig_merge_read Try.f154 hs_merge_read n x y) a0 a1 =
  (agree
   (if 0 ≤ ((IntKind.i64.wrap (a0 + 1)) : Int) ∧ ((IntKind.i64.wrap (a0 + 1)) : Int) = (IntKind.i64.wrap (a0 + 1)) ∧ ((IntKind.i64.wrap (a0 + 1)) : Int) * 24 ≤ 140737488355328 ∧ ((IntKind.i64.wrap (a0 + 1)) : Int) ≤ 140737488355328 then
    (agree
     (if 0 ≤ (a0 : Int) ∧ (a0 : Int) = a0 ∧ (a0 : Int) * 1 ≤ 140737488355328 ∧ (a0 : Int) ≤ 140737488355328 then
      (agree
       (if 0 ≤ (a0 : Int) ∧ (a0 : Int) = a0 ∧ (a0 : Int) * 24 ≤ 140737488355328 ∧ (a0 : Int) ≤ 140737488355328 then
        (L_merge_read_0 n n (List.replicate (Int.toNat (IntKind.i64.wrap (a0 + 1))) ([] : List YElem.den)) (List.replicate (Int.toNat a0) false) (List.replicate (Int.toNat a0) ([] : List YAttr.den)) 0 a1 (List.length a1 : Int) 0)
       else none)
       (if 0 ≤ (a0 : Int) ∧ (a0 : Int) = a0 ∧ (a0 : Int) * 24 ≤ 140737488355328 ∧ (a0 : Int) ≤ 140737488355328 then
        (L_merge_read_0 n n (List.replicate (Int.toNat (IntKind.i64.wrap (a0 + 1))) ([] : List YElem.den)) (List.replicate (Int.toNat a0) false) (List.replicate (Int.toNat a0) ([] : List YAttr.den)) 0 a1 (List.length a1 : Int) 0)
       else none))
     else none)
    (agree
     (if 0 ≤ (a0 : Int) ∧ (a0 : Int) = a0 ∧ (a0 : Int) * 24 ≤ 140737488355328 ∧ (a0 : Int) ≤ 140737488355328 then
      (agree
       (if 0 ≤ (a0 : Int) ∧ (a0 : Int) = a0 ∧ (a0 : Int) * 1 ≤ 140737488355328 ∧ (a0 : Int) ≤ 140737488355328 then
        (L_merge_read_0 n n (List.replicate (Int.toNat (IntKind.i64.wrap (a0 + 1))) ([] : List YElem.den)) (List.replicate (Int.toNat a0) false) (List.replicate (Int.toNat a0) ([] : List YAttr.den)) 0 a1 (List.length a1 : Int) 0)
       else none)
       (if 0 ≤ (a0 : Int) ∧ (a0 : Int) = a0 ∧ (a0 : Int) * 1 ≤ 140737488355328 ∧ (a0 : Int) ≤ 140737488355328 then
        (L_merge_read_0 n n (List.replicate (Int.toNat (IntKind.i64.wrap (a0 + 1))) ([] : List YElem.den)) (List.replicate (Int.toNat a0) false) (List.replicate (Int.toNat a0) ([] : List YAttr.den)) 0 a1 (List.length a1 : Int) 0)
       else none))
     else none)
     (if 0 ≤ (a0 : Int) ∧ (a0 : Int) = a0 ∧ (a0 : Int) * 1 ≤ 140737488355328 ∧ (a0 : Int) ≤ 140737488355328 then
      (if 0 ≤ (a0 : Int) ∧ (a0 : Int) = a0 ∧ (a0 : Int) * 24 ≤ 140737488355328 ∧ (a0 : Int) ≤ 140737488355328 then
       (L_merge_read_0 n n (List.replicate (Int.toNat (IntKind.i64.wrap (a0 + 1))) ([] : List YElem.den)) (List.replicate (Int.toNat a0) false) (List.replicate (Int.toNat a0) ([] : List YAttr.den)) 0 a1 (List.length a1 : Int) 0)
      else none)
     else none)))
   else none)
  (agree
   (if 0 ≤ (a0 : Int) ∧ (a0 : Int) = a0 ∧ (a0 : Int) * 1 ≤ 140737488355328 ∧ (a0 : Int) ≤ 140737488355328 then
    (agree
     (if 0 ≤ ((IntKind.i64.wrap (a0 + 1)) : Int) ∧ ((IntKind.i64.wrap (a0 + 1)) : Int) = (IntKind.i64.wrap (a0 + 1)) ∧ ((IntKind.i64.wrap (a0 + 1)) : Int) * 24 ≤ 140737488355328 ∧ ((IntKind.i64.wrap (a0 + 1)) : Int) ≤ 140737488355328 then
      (agree
       (if 0 ≤ (a0 : Int) ∧ (a0 : Int) = a0 ∧ (a0 : Int) * 24 ≤ 140737488355328 ∧ (a0 : Int) ≤ 140737488355328 then
        (L_merge_read_0 n n (List.replicate (Int.toNat (IntKind.i64.wrap (a0 + 1))) ([] : List YElem.den)) (List.replicate (Int.toNat a0) false) (List.replicate (Int.toNat a0) ([] : List YAttr.den)) 0 a1 (List.length a1 : Int) 0)
       else none)
       (if 0 ≤ (a0 : Int) ∧ (a0 : Int) = a0 ∧ (a0 : Int) * 24 ≤ 140737488355328 ∧ (a0 : Int) ≤ 140737488355328 then
        (L_merge_read_0 n n (List.replicate (Int.toNat (IntKind.i64.wrap (a0 + 1))) ([] : List YElem.den)) (List.replicate (Int.toNat a0) false) (List.replicate (Int.toNat a0) ([] : List YAttr.den)) 0 a1 (List.length a1 : Int) 0)
       else none))
     else none)
    (agree
     (if 0 ≤ (a0 : Int) ∧ (a0 : Int) = a0 ∧ (a0 : Int) * 24 ≤ 140737488355328 ∧ (a0 : Int) ≤ 140737488355328 then
      (agree
       (if 0 ≤ ((IntKind.i64.wrap (a0 + 1)) : Int) ∧ ((IntKind.i64.wrap (a0 + 1)) : Int) = (IntKind.i64.wrap (a0 + 1)) ∧ ((IntKind.i64.wrap (a0 + 1)) : Int) * 24 ≤ 140737488355328 ∧ ((IntKind.i64.wrap (a0 + 1)) : Int) ≤ 140737488355328 then
        (L_merge_read_0 n n (List.replicate (Int.toNat (IntKind.i64.wrap (a0 + 1))) ([] : List YElem.den)) (List.replicate (Int.toNat a0) false) (List.replicate (Int.toNat a0) ([] : List YAttr.den)) 0 a1 (List.length a1 : Int) 0)
       else none)
       (if 0 ≤ ((IntKind.i64.wrap (a0 + 1)) : Int) ∧ ((IntKind.i64.wrap (a0 + 1)) : Int) = (IntKind.i64.wrap (a0 + 1)) ∧ ((IntKind.i64.wrap (a0 + 1)) : Int) * 24 ≤ 140737488355328 ∧ ((IntKind.i64.wrap (a0 + 1)) : Int) ≤ 140737488355328 then
        (L_merge_read_0 n n (List.replicate (Int.toNat (IntKind.i64.wrap (a0 + 1))) ([] : List YElem.den)) (List.replicate (Int.toNat a0) false) (List.replicate (Int.toNat a0) ([] : List YAttr.den)) 0 a1 (List.length a1 : Int) 0)
       else none))
     else none)
     (if 0 ≤ ((IntKind.i64.wrap (a0 + 1)) : Int) ∧ ((IntKind.i64.wrap (a0 + 1)) : Int) = (IntKind.i64.wrap (a0 + 1)) ∧ ((IntKind.i64.wrap (a0 + 1)) : Int) * 24 ≤ 140737488355328 ∧ ((IntKind.i64.wrap (a0 + 1)) : Int) ≤ 140737488355328 then
      (if 0 ≤ (a0 : Int) ∧ (a0 : Int) = a0 ∧ (a0 : Int) * 24 ≤ 140737488355328 ∧ (a0 : Int) ≤ 140737488355328 then
       (L_merge_read_0 n n (List.replicate (Int.toNat (IntKind.i64.wrap (a0 + 1))) ([] : List YElem.den)) (List.replicate (Int.toNat a0) false) (List.replicate (Int.toNat a0) ([] : List YAttr.den)) 0 a1 (List.length a1 : Int) 0)
      else none)
     else none)))
   else none)
  (agree
   (if 0 ≤ (a0 : Int) ∧ (a0 : Int) = a0 ∧ (a0 : Int) * 24 ≤ 140737488355328 ∧ (a0 : Int) ≤ 140737488355328 then
    (agree
     (if 0 ≤ ((IntKind.i64.wrap (a0 + 1)) : Int) ∧ ((IntKind.i64.wrap (a0 + 1)) : Int) = (IntKind.i64.wrap (a0 + 1)) ∧ ((IntKind.i64.wrap (a0 + 1)) : Int) * 24 ≤ 140737488355328 ∧ ((IntKind.i64.wrap (a0 + 1)) : Int) ≤ 140737488355328 then
      (agree
       (if 0 ≤ (a0 : Int) ∧ (a0 : Int) = a0 ∧ (a0 : Int) * 1 ≤ 140737488355328 ∧ (a0 : Int) ≤ 140737488355328 then
        (L_merge_read_0 n n (List.replicate (Int.toNat (IntKind.i64.wrap (a0 + 1))) ([] : List YElem.den)) (List.replicate (Int.toNat a0) false) (List.replicate (Int.toNat a0) ([] : List YAttr.den)) 0 a1 (List.length a1 : Int) 0)
       else none)
       (if 0 ≤ (a0 : Int) ∧ (a0 : Int) = a0 ∧ (a0 : Int) * 1 ≤ 140737488355328 ∧ (a0 : Int) ≤ 140737488355328 then
        (L_merge_read_0 n n (List.replicate (Int.toNat (IntKind.i64.wrap (a0 + 1))) ([] : List YElem.den)) (List.replicate (Int.toNat a0) false) (List.replicate (Int.toNat a0) ([] : List YAttr.den)) 0 a1 (List.length a1 : Int) 0)
       else none))
     else none)
    (agree
     (if 0 ≤ (a0 : Int) ∧ (a0 : Int) = a0 ∧ (a0 : Int) * 1 ≤ 140737488355328 ∧ (a0 : Int) ≤ 140737488355328 then
      (agree
       (if 0 ≤ ((IntKind.i64.wrap (a0 + 1)) : Int) ∧ ((IntKind.i64.wrap (a0 + 1)) : Int) = (IntKind.i64.wrap (a0 + 1)) ∧ ((IntKind.i64.wrap (a0 + 1)) : Int) * 24 ≤ 140737488355328 ∧ ((IntKind.i64.wrap (a0 + 1)) : Int) ≤ 140737488355328 then
        (L_merge_read_0 n n (List.replicate (Int.toNat (IntKind.i64.wrap (a0 + 1))) ([] : List YElem.den)) (List.replicate (Int.toNat a0) false) (List.replicate (Int.toNat a0) ([] : List YAttr.den)) 0 a1 (List.length a1 : Int) 0)
       else none)
       (if 0 ≤ ((IntKind.i64.wrap (a0 + 1)) : Int) ∧ ((IntKind.i64.wrap (a0 + 1)) : Int) = (IntKind.i64.wrap (a0 + 1)) ∧ ((IntKind.i64.wrap (a0 + 1)) : Int) * 24 ≤ 140737488355328 ∧ ((IntKind.i64.wrap (a0 + 1)) : Int) ≤ 140737488355328 then
        (L_merge_read_0 n n (List.replicate (Int.toNat (IntKind.i64.wrap (a0 + 1))) ([] : List YElem.den)) (List.replicate (Int.toNat a0) false) (List.replicate (Int.toNat a0) ([] : List YAttr.den)) 0 a1 (List.length a1 : Int) 0)
       else none))
     else none)
     (if 0 ≤ ((IntKind.i64.wrap (a0 + 1)) : Int) ∧ ((IntKind.i64.wrap (a0 + 1)) : Int) = (IntKind.i64.wrap (a0 + 1)) ∧ ((IntKind.i64.wrap (a0 + 1)) : Int) * 24 ≤ 140737488355328 ∧ ((IntKind.i64.wrap (a0 + 1)) : Int) ≤ 140737488355328 then
      (if 0 ≤ (a0 : Int) ∧ (a0 : Int) = a0 ∧ (a0 : Int) * 1 ≤ 140737488355328 ∧ (a0 : Int) ≤ 140737488355328 then
       (L_merge_read_0 n n (List.replicate (Int.toNat (IntKind.i64.wrap (a0 + 1))) ([] : List YElem.den)) (List.replicate (Int.toNat a0) false) (List.replicate (Int.toNat a0) ([] : List YAttr.den)) 0 a1 (List.length a1 : Int) 0)
      else none)
     else none)))
   else none)
   (if 0 ≤ ((IntKind.i64.wrap (a0 + 1)) : Int) ∧ ((IntKind.i64.wrap (a0 + 1)) : Int) = (IntKind.i64.wrap (a0 + 1)) ∧ ((IntKind.i64.wrap (a0 + 1)) : Int) * 24 ≤ 140737488355328 ∧ ((IntKind.i64.wrap (a0 + 1)) : Int) ≤ 140737488355328 then
    (if 0 ≤ (a0 : Int) ∧ (a0 : Int) = a0 ∧ (a0 : Int) * 1 ≤ 140737488355328 ∧ (a0 : Int) ≤ 140737488355328 then
     (if 0 ≤ (a0 : Int) ∧ (a0 : Int) = a0 ∧ (a0 : Int) * 24 ≤ 140737488355328 ∧ (a0 : Int) ≤ 140737488355328 then
      (L_merge_read_0 n n (List.replicate (Int.toNat (IntKind.i64.wrap (a0 + 1))) ([] : List YElem.den)) (List.replicate (Int.toNat a0) false) (List.replicate (Int.toNat a0) ([] : List YAttr.den)) 0 a1 (List.length a1 : Int) 0)
     else none)
    else none)
   else none)))) := by kernel_rfl
theorem run_merge_read (n : Nat) (a0 : Int) (a1 : List YStep.den) : C_merge_read (fun x y => run T (env_merge_read) os_merge_read sig_merge_read Try.f154 hs_merge_read n x y) a0 a1 =
  (if 0 ≤ ((IntKind.i64.wrap (a0 + 1)) : Int) ∧ ((IntKind.i64.wrap (a0 + 1)) : Int) = (IntKind.i64.wrap (a0 + 1)) ∧ ((IntKind.i64.wrap (a0 + 1)) : Int) * 24 ≤ 140737488355328 ∧ ((IntKind.i64.wrap (a0 + 1)) : Int) ≤ 140737488355328 then
   (if 0 ≤ (a0 : Int) ∧ (a0 : Int) = a0 ∧ (a0 : Int) * 1 ≤ 140737488355328 ∧ (a0 : Int) ≤ 140737488355328 then
    (if 0 ≤ (a0 : Int) ∧ (a0 : Int) = a0 ∧ (a0 : Int) * 24 ≤ 140737488355328 ∧ (a0 : Int) ≤ 140737488355328 then
     (L_merge_read_0 n n (List.replicate (Int.toNat (IntKind.i64.wrap (a0 + 1))) ([] : List YElem.den)) (List.replicate (Int.toNat a0) false) (List.replicate (Int.toNat a0) ([] : List YAttr.den)) 0 a1 (List.length a1 : Int) 0)
    else none)
   else none)
  else none) := by rw [raw_merge_read]; by_cases hc0 : 0 ≤ (a0 : Int) ∧ (a0 : Int) = a0 ∧ (a0 : Int) * 1 ≤ 140737488355328 ∧ (a0 : Int) ≤ 140737488355328 <;> by_cases hc1 : 0 ≤ (a0 : Int) ∧ (a0 : Int) = a0 ∧ (a0 : Int) * 24 ≤ 140737488355328 ∧ (a0 : Int) ≤ 140737488355328 <;> by_cases hc2 : 0 ≤ ((IntKind.i64.wrap (a0 + 1)) : Int) ∧ ((IntKind.i64.wrap (a0 + 1)) : Int) = (IntKind.i64.wrap (a0 + 1)) ∧ ((IntKind.i64.wrap (a0 + 1)) : Int) * 24 ≤ 140737488355328 ∧ ((IntKind.i64.wrap (a0 + 1)) : Int) ≤ 140737488355328 <;> simp only [↓hc0, ↓hc1, ↓hc2, if_true, if_false, and_self, ite_self, agree_self]
theorem ok_merge_read : fnOk os_merge_read sig_merge_read Try.f154 = true := by kernel_rfl
theorem fn_merge_read : P.funcs[154]? = some Try.f154 := by kernel_rfl
noncomputable def F_merge_read : sig_merge_read.Fn := fun x y => run T (env_merge_read) os_merge_read sig_merge_read Try.f154 hs_merge_read big x y
theorem S_merge_read : Sound P 154 ⟨sig_merge_read, F_merge_read⟩ := sound_of (os := os_merge_read) (hs := hs_merge_read) (env_nil) fn_merge_read ok_merge_read (fun x y out h => ⟨big, h⟩)
theorem e_merge_read (a0 : Int) (a1 : List YStep.den) : C_merge_read F_merge_read a0 a1 =
  (if 0 ≤ ((IntKind.i64.wrap (a0 + 1)) : Int) ∧ ((IntKind.i64.wrap (a0 + 1)) : Int) = (IntKind.i64.wrap (a0 + 1)) ∧ ((IntKind.i64.wrap (a0 + 1)) : Int) * 24 ≤ 140737488355328 ∧ ((IntKind.i64.wrap (a0 + 1)) : Int) ≤ 140737488355328 then
   (if 0 ≤ (a0 : Int) ∧ (a0 : Int) = a0 ∧ (a0 : Int) * 1 ≤ 140737488355328 ∧ (a0 : Int) ≤ 140737488355328 then
    (if 0 ≤ (a0 : Int) ∧ (a0 : Int) = a0 ∧ (a0 : Int) * 24 ≤ 140737488355328 ∧ (a0 : Int) ≤ 140737488355328 then
     (L_merge_read_0 big big (List.replicate (Int.toNat (IntKind.i64.wrap (a0 + 1))) ([] : List YElem.den)) (List.replicate (Int.toNat a0) false) (List.replicate (Int.toNat a0) ([] : List YAttr.den)) 0 a1 (List.length a1 : Int) 0)
    else none)
   else none)
  else none) := run_merge_read big a0 a1
def sig_merge_joined_gap : Sig := ⟨[.p 0, .v false (.list YElem), .v false (.list YElem)], [[.fr (.int .i64), .ow 113 YElem, .ow 168 YConflict]], []⟩
def C_merge_joined_gap (F : sig_merge_joined_gap.Fn) (a1 : List YElem.den) (a2 : List YElem.den) (b0_0 : Int) (b0_1 : List YElem.den) (b0_2 : List YConflict.den) : Option sig_merge_joined_gap.Out := F (a1, a2, ()) ((b0_0, b0_1, b0_2, ()), ())
def ret_merge_joined_gap (v0 : Int) (v1 : List YElem.den) (v2 : List YConflict.den) : sig_merge_joined_gap.Out := ((), ((v0, v1, v2, ()), ()))
def res_merge_joined_gap_0 (r : sig_merge_joined_gap.Out) : Int := r.2.1.1
@[simp] theorem res_merge_joined_gap_0_ret (v0 : Int) (v1 : List YElem.den) (v2 : List YConflict.den) : res_merge_joined_gap_0 (ret_merge_joined_gap v0 v1 v2) = v0 := rfl
def res_merge_joined_gap_1 (r : sig_merge_joined_gap.Out) : List YElem.den := r.2.1.2.1
@[simp] theorem res_merge_joined_gap_1_ret (v0 : Int) (v1 : List YElem.den) (v2 : List YConflict.den) : res_merge_joined_gap_1 (ret_merge_joined_gap v0 v1 v2) = v1 := rfl
def res_merge_joined_gap_2 (r : sig_merge_joined_gap.Out) : List YConflict.den := r.2.1.2.2.1
@[simp] theorem res_merge_joined_gap_2_ret (v0 : Int) (v1 : List YElem.den) (v2 : List YConflict.den) : res_merge_joined_gap_2 (ret_merge_joined_gap v0 v1 v2) = v2 := rfl
def os_merge_joined_gap : RegT := ⟨[(5, .st 0 (.st 1 (.st 2 (.st 3 (.st 5 (.st 6 (.st 7 (.st 9 (.st 10 (.st 11 (.st 12 (.st 13 (.st 14 (.st 8 (.st 15 (.st 4 (.st 16 (.st 17 (.st 18 (.st 19 (.st 20 (.nil))))))))))))))))))))))], [], false⟩
def hs_merge_joined_gap : List Keep := []
@[reducible] noncomputable def env_merge_joined_gap : Env := [(163, ⟨sig_flow_Same, F_flow_Same⟩)]
theorem ok_merge_joined_gap : fnOk os_merge_joined_gap sig_merge_joined_gap Try.f155 = true := by kernel_rfl
theorem fn_merge_joined_gap : P.funcs[155]? = some Try.f155 := by kernel_rfl
noncomputable def F_merge_joined_gap : sig_merge_joined_gap.Fn := fun x y => run T (env_merge_joined_gap) os_merge_joined_gap sig_merge_joined_gap Try.f155 hs_merge_joined_gap big x y
theorem S_merge_joined_gap : Sound P 155 ⟨sig_merge_joined_gap, F_merge_joined_gap⟩ := sound_of (os := os_merge_joined_gap) (hs := hs_merge_joined_gap) (env_cons S_flow_Same (env_nil)) fn_merge_joined_gap ok_merge_joined_gap (fun x y out h => ⟨big, h⟩)
theorem e_merge_joined_gap (a1 : List YElem.den) (a2 : List YElem.den) (b0_0 : Int) (b0_1 : List YElem.den) (b0_2 : List YConflict.den) : C_merge_joined_gap F_merge_joined_gap a1 a2 b0_0 b0_1 b0_2 =
  (if (List.length (b0_1 : List YElem.den) + List.length (a1 : List YElem.den)) * 40 ≤ 140737488355328 then
   (bcond ((((List.length a2 : Int) : Int) == 0) == false)
    ((C_flow_Same F_flow_Same a1 a2).bind fun r1 =>
     (bcond (res_flow_Same_0 r1)
      (some (ret_merge_joined_gap b0_0 (b0_1 ++ a1) b0_2))
      (if (List.length ((b0_1 ++ a1) : List YElem.den) + List.length (a2 : List YElem.den)) * 40 ≤ 140737488355328 then
       (bcond (decide (((List.length a1 : Int) : Int) > 0))
        (if (List.length (b0_2 : List YConflict.den) + List.length ([(0, (b0_0, ((List.length b0_1 : Int), ((List.length ((b0_1 ++ a1) ++ a2) : Int), []))))] : List YConflict.den)) * 48 ≤ 140737488355328 then
         (some (ret_merge_joined_gap b0_0 ((b0_1 ++ a1) ++ a2) (b0_2 ++ [(0, (b0_0, ((List.length b0_1 : Int), ((List.length ((b0_1 ++ a1) ++ a2) : Int), []))))])))
        else none)
        (some (ret_merge_joined_gap b0_0 ((b0_1 ++ a1) ++ a2) b0_2)))
      else none)))
    (some (ret_merge_joined_gap b0_0 (b0_1 ++ a1) b0_2)))
  else none) := by kernel_rfl
def sig_merge_joined_elem_c1 : Sig := ⟨[.v true YAttr, .p 0], [[.fr .str, .fr .str]], [(false, [.fr .bool])]⟩
def C_merge_joined_elem_c1 (F : sig_merge_joined_elem_c1.Fn) (a0 : YAttr.den) (b0_0 : List UInt8) (b0_1 : List UInt8) : Option sig_merge_joined_elem_c1.Out := F (a0, ()) ((b0_0, b0_1, ()), ())
def ret_merge_joined_elem_c1 (v0 : Bool) (v1 : List UInt8) (v2 : List UInt8) : sig_merge_joined_elem_c1.Out := (((v0, ()), ()), ((v1, v2, ()), ()))
def res_merge_joined_elem_c1_0 (r : sig_merge_joined_elem_c1.Out) : Bool := r.1.1.1
@[simp] theorem res_merge_joined_elem_c1_0_ret (v0 : Bool) (v1 : List UInt8) (v2 : List UInt8) : res_merge_joined_elem_c1_0 (ret_merge_joined_elem_c1 v0 v1 v2) = v0 := rfl
def res_merge_joined_elem_c1_1 (r : sig_merge_joined_elem_c1.Out) : List UInt8 := r.2.1.1
@[simp] theorem res_merge_joined_elem_c1_1_ret (v0 : Bool) (v1 : List UInt8) (v2 : List UInt8) : res_merge_joined_elem_c1_1 (ret_merge_joined_elem_c1 v0 v1 v2) = v1 := rfl
def res_merge_joined_elem_c1_2 (r : sig_merge_joined_elem_c1.Out) : List UInt8 := r.2.1.2.1
@[simp] theorem res_merge_joined_elem_c1_2_ret (v0 : Bool) (v1 : List UInt8) (v2 : List UInt8) : res_merge_joined_elem_c1_2 (ret_merge_joined_elem_c1 v0 v1 v2) = v2 := rfl
def os_merge_joined_elem_c1 : RegT := ⟨[], [], false⟩
def hs_merge_joined_elem_c1 : List Keep := []
@[reducible] noncomputable def env_merge_joined_elem_c1 : Env := []
theorem ok_merge_joined_elem_c1 : fnOk os_merge_joined_elem_c1 sig_merge_joined_elem_c1 Try.f165 = true := by kernel_rfl
theorem fn_merge_joined_elem_c1 : P.funcs[165]? = some Try.f165 := by kernel_rfl
noncomputable def F_merge_joined_elem_c1 : sig_merge_joined_elem_c1.Fn := fun x y => run T (env_merge_joined_elem_c1) os_merge_joined_elem_c1 sig_merge_joined_elem_c1 Try.f165 hs_merge_joined_elem_c1 big x y
theorem S_merge_joined_elem_c1 : Sound P 165 ⟨sig_merge_joined_elem_c1, F_merge_joined_elem_c1⟩ := sound_of (os := os_merge_joined_elem_c1) (hs := hs_merge_joined_elem_c1) (env_nil) fn_merge_joined_elem_c1 ok_merge_joined_elem_c1 (fun x y out h => ⟨big, h⟩)
theorem e_merge_joined_elem_c1 (a0 : YAttr.den) (b0_0 : List UInt8) (b0_1 : List UInt8) : C_merge_joined_elem_c1 F_merge_joined_elem_c1 a0 b0_0 b0_1 =
  (some (ret_merge_joined_elem_c1 ((a0.1 : List UInt8) == b0_0) b0_0 b0_1)) := by kernel_rfl
def sig_slices_IndexFunc___api_Attr_api_Attr__merge_joined_elem_c1 : Sig := ⟨[.v false (.list YAttr), .f 165 [0]], [[.fr .str, .fr .str]], [(false, [.fr (.int .i64)])]⟩
def C_slices_IndexFunc___api_Attr_api_Attr__merge_joined_elem_c1 (F : sig_slices_IndexFunc___api_Attr_api_Attr__merge_joined_elem_c1.Fn) (a0 : List YAttr.den) (b0_0 : List UInt8) (b0_1 : List UInt8) : Option sig_slices_IndexFunc___api_Attr_api_Attr__merge_joined_elem_c1.Out := F (a0, ()) ((b0_0, b0_1, ()), ())
def ret_slices_IndexFunc___api_Attr_api_Attr__merge_joined_elem_c1 (v0 : Int) (v1 : List UInt8) (v2 : List UInt8) : sig_slices_IndexFunc___api_Attr_api_Attr__merge_joined_elem_c1.Out := (((v0, ()), ()), ((v1, v2, ()), ()))
def res_slices_IndexFunc___api_Attr_api_Attr__merge_joined_elem_c1_0 (r : sig_slices_IndexFunc___api_Attr_api_Attr__merge_joined_elem_c1.Out) : Int := r.1.1.1
@[simp] theorem res_slices_IndexFunc___api_Attr_api_Attr__merge_joined_elem_c1_0_ret (v0 : Int) (v1 : List UInt8) (v2 : List UInt8) : res_slices_IndexFunc___api_Attr_api_Attr__merge_joined_elem_c1_0 (ret_slices_IndexFunc___api_Attr_api_Attr__merge_joined_elem_c1 v0 v1 v2) = v0 := rfl
def res_slices_IndexFunc___api_Attr_api_Attr__merge_joined_elem_c1_1 (r : sig_slices_IndexFunc___api_Attr_api_Attr__merge_joined_elem_c1.Out) : List UInt8 := r.2.1.1
@[simp] theorem res_slices_IndexFunc___api_Attr_api_Attr__merge_joined_elem_c1_1_ret (v0 : Int) (v1 : List UInt8) (v2 : List UInt8) : res_slices_IndexFunc___api_Attr_api_Attr__merge_joined_elem_c1_1 (ret_slices_IndexFunc___api_Attr_api_Attr__merge_joined_elem_c1 v0 v1 v2) = v1 := rfl
def res_slices_IndexFunc___api_Attr_api_Attr__merge_joined_elem_c1_2 (r : sig_slices_IndexFunc___api_Attr_api_Attr__merge_joined_elem_c1.Out) : List UInt8 := r.2.1.2.1
@[simp] theorem res_slices_IndexFunc___api_Attr_api_Attr__merge_joined_elem_c1_2_ret (v0 : Int) (v1 : List UInt8) (v2 : List UInt8) : res_slices_IndexFunc___api_Attr_api_Attr__merge_joined_elem_c1_2 (ret_slices_IndexFunc___api_Attr_api_Attr__merge_joined_elem_c1 v0 v1 v2) = v2 := rfl
def os_slices_IndexFunc___api_Attr_api_Attr__merge_joined_elem_c1 : RegT := ⟨[], [], false⟩
def hs_slices_IndexFunc___api_Attr_api_Attr__merge_joined_elem_c1 : List Keep := [[(0, []), (1, []), (7, []), (8, []), (19, [])]]
@[reducible] noncomputable def env_slices_IndexFunc___api_Attr_api_Attr__merge_joined_elem_c1 : Env := [(165, ⟨sig_merge_joined_elem_c1, F_merge_joined_elem_c1⟩)]
noncomputable def L_slices_IndexFunc___api_Attr_api_Attr__merge_joined_elem_c1_0 (n m1 : Nat) (x0 : List YAttr.den) (x7 : Int) (x8 : Int) (x19_0 : List UInt8) (x19_1 : List UInt8) : Option sig_slices_IndexFunc___api_Attr_api_Attr__merge_joined_elem_c1.Out :=
  loopAt T (env_slices_IndexFunc___api_Attr_api_Attr__merge_joined_elem_c1) os_slices_IndexFunc___api_Attr_api_Attr__merge_joined_elem_c1 sig_slices_IndexFunc___api_Attr_api_Attr__merge_joined_elem_c1 Try.f164 hs_slices_IndexFunc___api_Attr_api_Attr__merge_joined_elem_c1 n [.sr, .sl, .sr, .bl] m1 (mk 20 [(0, .cs false [.val (.list YAttr) x0]), (1, .cs false [.clo 165 [19]]), (7, .cs false [.val (.int .i64) x7]), (8, .cs false [.val (.int .i64) x8]), (19, .box [.val .str x19_0, .val .str x19_1])])
theorem L_slices_IndexFunc___api_Attr_api_Attr__merge_joined_elem_c1_0_step (n m1 : Nat) (x0 : List YAttr.den) (x7 : Int) (x8 : Int) (x19_0 : List UInt8) (x19_1 : List UInt8) : L_slices_IndexFunc___api_Attr_api_Attr__merge_joined_elem_c1_0 n (m1 + 1) x0 x7 x8 x19_0 x19_1 =
  (bcond (decide ((x8 : Int) < x7))
   (if 0 ≤ (x8 : Int) ∧ (x8 : Int) < (List.length x0 : Int) then
    ((C_merge_joined_elem_c1 F_merge_joined_elem_c1 (at_ (e := YAttr) x0 x8) x19_0 x19_1).bind fun r1 =>
     (bcond (res_merge_joined_elem_c1_0 r1)
      (some (ret_slices_IndexFunc___api_Attr_api_Attr__merge_joined_elem_c1 x8 (res_merge_joined_elem_c1_1 r1) (res_merge_joined_elem_c1_2 r1)))
      (L_slices_IndexFunc___api_Attr_api_Attr__merge_joined_elem_c1_0 n m1 x0 x7 (IntKind.i64.wrap (x8 + 1)) (res_merge_joined_elem_c1_1 r1) (res_merge_joined_elem_c1_2 r1))))
   else none)
   (some (ret_slices_IndexFunc___api_Attr_api_Attr__merge_joined_elem_c1 (-1) x19_0 x19_1))) := by kernel_rfl
theorem ok_slices_IndexFunc___api_Attr_api_Attr__merge_joined_elem_c1 : fnOk os_slices_IndexFunc___api_Attr_api_Attr__merge_joined_elem_c1 sig_slices_IndexFunc___api_Attr_api_Attr__merge_joined_elem_c1 Try.f164 = true := by kernel_rfl
theorem fn_slices_IndexFunc___api_Attr_api_Attr__merge_joined_elem_c1 : P.funcs[164]? = some Try.f164 := by kernel_rfl
noncomputable def F_slices_IndexFunc___api_Attr_api_Attr__merge_joined_elem_c1 : sig_slices_IndexFunc___api_Attr_api_Attr__merge_joined_elem_c1.Fn := fun x y => run T (env_slices_IndexFunc___api_Attr_api_Attr__merge_joined_elem_c1) os_slices_IndexFunc___api_Attr_api_Attr__merge_joined_elem_c1 sig_slices_IndexFunc___api_Attr_api_Attr__merge_joined_elem_c1 Try.f164 hs_slices_IndexFunc___api_Attr_api_Attr__merge_joined_elem_c1 big x y
theorem S_slices_IndexFunc___api_Attr_api_Attr__merge_joined_elem_c1 : Sound P 164 ⟨sig_slices_IndexFunc___api_Attr_api_Attr__merge_joined_elem_c1, F_slices_IndexFunc___api_Attr_api_Attr__merge_joined_elem_c1⟩ := sound_of (os := os_slices_IndexFunc___api_Attr_api_Attr__merge_joined_elem_c1) (hs := hs_slices_IndexFunc___api_Attr_api_Attr__merge_joined_elem_c1) (env_cons S_merge_joined_elem_c1 (env_nil)) fn_slices_IndexFunc___api_Attr_api_Attr__merge_joined_elem_c1 ok_slices_IndexFunc___api_Attr_api_Attr__merge_joined_elem_c1 (fun x y out h => ⟨big, h⟩)
theorem e_slices_IndexFunc___api_Attr_api_Attr__merge_joined_elem_c1 (a0 : List YAttr.den) (b0_0 : List UInt8) (b0_1 : List UInt8) : C_slices_IndexFunc___api_Attr_api_Attr__merge_joined_elem_c1 F_slices_IndexFunc___api_Attr_api_Attr__merge_joined_elem_c1 a0 b0_0 b0_1 =
  (L_slices_IndexFunc___api_Attr_api_Attr__merge_joined_elem_c1_0 big big a0 (List.length a0 : Int) 0 b0_0 b0_1) := by kernel_rfl
def sig_merge_joined_elem : Sig := ⟨[.p 0, .v true YElem, .v false (.list YAttr), .v false (.list YAttr), .v false .bool, .v false .bool], [[.fr (.int .i64), .ow 113 YElem, .ow 168 YConflict]], []⟩
def C_merge_joined_elem (F : sig_merge_joined_elem.Fn) (a1 : YElem.den) (a2 : List YAttr.den) (a3 : List YAttr.den) (a4 : Bool) (a5 : Bool) (b0_0 : Int) (b0_1 : List YElem.den) (b0_2 : List YConflict.den) : Option sig_merge_joined_elem.Out := F (a1, a2, a3, a4, a5, ()) ((b0_0, b0_1, b0_2, ()), ())
def ret_merge_joined_elem (v0 : Int) (v1 : List YElem.den) (v2 : List YConflict.den) : sig_merge_joined_elem.Out := ((), ((v0, v1, v2, ()), ()))
def res_merge_joined_elem_0 (r : sig_merge_joined_elem.Out) : Int := r.2.1.1
@[simp] theorem res_merge_joined_elem_0_ret (v0 : Int) (v1 : List YElem.den) (v2 : List YConflict.den) : res_merge_joined_elem_0 (ret_merge_joined_elem v0 v1 v2) = v0 := rfl
def res_merge_joined_elem_1 (r : sig_merge_joined_elem.Out) : List YElem.den := r.2.1.2.1
@[simp] theorem res_merge_joined_elem_1_ret (v0 : Int) (v1 : List YElem.den) (v2 : List YConflict.den) : res_merge_joined_elem_1 (ret_merge_joined_elem v0 v1 v2) = v1 := rfl
def res_merge_joined_elem_2 (r : sig_merge_joined_elem.Out) : List YConflict.den := r.2.1.2.2.1
@[simp] theorem res_merge_joined_elem_2_ret (v0 : Int) (v1 : List YElem.den) (v2 : List YConflict.den) : res_merge_joined_elem_2 (ret_merge_joined_elem v0 v1 v2) = v2 := rfl
def os_merge_joined_elem : RegT := ⟨[(4, .st 0 (.st 1 (.st 2 (.st 3 (.st 5 (.st 6 (.st 7 (.st 9 (.st 10 (.st 8 (.st 11 (.st 4 (.st 12 (.st 13 (.st 14 (.st 15 (.st 16 (.nil)))))))))))))))))), (9, .st 0 (.st 1 (.st 2 (.st 3 (.st 4 (.st 5 (.st 6 (.st 8 (.st 7 (.st 9 (.st 10 (.st 11 (.nil))))))))))))), (10, .st 0 (.st 1 (.st 2 (.st 3 (.st 5 (.st 6 (.st 7 (.st 9 (.st 10 (.st 11 (.st 12 (.st 8 (.st 13 (.st 14 (.st 4 (.st 15 (.st 16 (.st 17 (.st 18 (.st 19 (.nil))))))))))))))))))))), (13, .st 0 (.st 1 (.st 2 (.st 3 (.st 4 (.st 5 (.st 6 (.st 7 (.st 8 (.st 9 (.st 10 (.nil))))))))))))], [], false⟩
def hs_merge_joined_elem : List Keep := [[(0, []), (2, []), (3, []), (7, []), (12, []), (57, []), (58, []), (59, []), (115, [(1, 113, YElem), (2, 168, YConflict)])]]
@[reducible] noncomputable def env_merge_joined_elem : Env := [(164, ⟨sig_slices_IndexFunc___api_Attr_api_Attr__merge_joined_elem_c1, F_slices_IndexFunc___api_Attr_api_Attr__merge_joined_elem_c1⟩), (88, ⟨sig_attr_Raw, F_attr_Raw⟩)]
noncomputable def L_merge_joined_elem_0 (n m1 : Nat) (x2 : List YAttr.den) (x3 : List YAttr.den) (x7_0 : Int) (x7_1 : Int) (x7_2 : List YAttr.den) (x12 : Int) (x57 : List YAttr.den) (x58 : Int) (x59 : Int) (x115_0 : Int) (x115_1 : List YElem.den) (x115_2 : List YConflict.den) : Option sig_merge_joined_elem.Out :=
  loopAt T (env_merge_joined_elem) os_merge_joined_elem sig_merge_joined_elem Try.f156 hs_merge_joined_elem n [.sr, .sr, .sr, .sl, .sr, .bl] m1 (mk 116 [(0, .cs false [.ptr 115 0]), (2, .cs false [.val (.list YAttr) x2]), (3, .cs false [.val (.list YAttr) x3]), (7, .box [.val (.int .i64) x7_0, .val (.int .i64) x7_1, .val (.list YAttr) x7_2]), (12, .cs false [.val (.int .i64) x12]), (57, .cs false [.val (.list YAttr) x57]), (58, .cs false [.val (.int .i64) x58]), (59, .cs false [.val (.int .i64) x59]), (115, .box [.val (.int .i64) x115_0, .own 113 YElem x115_1, .own 168 YConflict x115_2])])
theorem L_merge_joined_elem_0_step (n m1 : Nat) (x2 : List YAttr.den) (x3 : List YAttr.den) (x7_0 : Int) (x7_1 : Int) (x7_2 : List YAttr.den) (x12 : Int) (x57 : List YAttr.den) (x58 : Int) (x59 : Int) (x115_0 : Int) (x115_1 : List YElem.den) (x115_2 : List YConflict.den) : L_merge_joined_elem_0 n (m1 + 1) x2 x3 x7_0 x7_1 x7_2 x12 x57 x58 x59 x115_0 x115_1 x115_2 =
  (bcond (decide ((x59 : Int) < x58))
   (if 0 ≤ (x59 : Int) ∧ (x59 : Int) < (List.length x57 : Int) then
    ((C_slices_IndexFunc___api_Attr_api_Attr__merge_joined_elem_c1 F_slices_IndexFunc___api_Attr_api_Attr__merge_joined_elem_c1 x3 (at_ (e := YAttr) x57 x59).1 (at_ (e := YAttr) x57 x59).2).bind fun r1 =>
     (bcond ((decide (((res_slices_IndexFunc___api_Attr_api_Attr__merge_joined_elem_c1_0 r1) : Int) ≥ 0)) == true)
      (if 0 ≤ ((res_slices_IndexFunc___api_Attr_api_Attr__merge_joined_elem_c1_0 r1) : Int) ∧ ((res_slices_IndexFunc___api_Attr_api_Attr__merge_joined_elem_c1_0 r1) : Int) < (List.length x3 : Int) then
       (bcond (!(((at_ (e := YAttr) x3 (res_slices_IndexFunc___api_Attr_api_Attr__merge_joined_elem_c1_0 r1)).2 : List UInt8) == (res_slices_IndexFunc___api_Attr_api_Attr__merge_joined_elem_c1_2 r1)))
        (if (List.length (x115_2 : List YConflict.den) + List.length ([(2, (x115_0, (x12, ((IntKind.i64.wrap (x12 + 1)), (res_slices_IndexFunc___api_Attr_api_Attr__merge_joined_elem_c1_1 r1)))))] : List YConflict.den)) * 48 ≤ 140737488355328 then
         (L_merge_joined_elem_0 n m1 x2 x3 x7_0 x7_1 x7_2 x12 x57 x58 (IntKind.i64.wrap (x59 + 1)) x115_0 x115_1 (x115_2 ++ [(2, (x115_0, (x12, ((IntKind.i64.wrap (x12 + 1)), (res_slices_IndexFunc___api_Attr_api_Attr__merge_joined_elem_c1_1 r1)))))]))
        else none)
        (L_merge_joined_elem_0 n m1 x2 x3 x7_0 x7_1 x7_2 x12 x57 x58 (IntKind.i64.wrap (x59 + 1)) x115_0 x115_1 x115_2))
      else none)
      (L_merge_joined_elem_0 n m1 x2 x3 x7_0 x7_1 x7_2 x12 x57 x58 (IntKind.i64.wrap (x59 + 1)) x115_0 x115_1 x115_2)))
   else none)
   ((C_attr_Raw F_attr_Raw x7_2 x3).bind fun r1 =>
    ((C_attr_Raw F_attr_Raw (res_attr_Raw_0 r1) x2).bind fun r2 =>
     (if (List.length (x115_1 : List YElem.den) + List.length ([(x7_0, (x7_1, (res_attr_Raw_0 r2)))] : List YElem.den)) * 40 ≤ 140737488355328 then
      (some (ret_merge_joined_elem x115_0 (x115_1 ++ [(x7_0, (x7_1, (res_attr_Raw_0 r2)))]) x115_2))
     else none)))) := by kernel_rfl
theorem ok_merge_joined_elem : fnOk os_merge_joined_elem sig_merge_joined_elem Try.f156 = true := by kernel_rfl
theorem fn_merge_joined_elem : P.funcs[156]? = some Try.f156 := by kernel_rfl
noncomputable def F_merge_joined_elem : sig_merge_joined_elem.Fn := fun x y => run T (env_merge_joined_elem) os_merge_joined_elem sig_merge_joined_elem Try.f156 hs_merge_joined_elem big x y
theorem S_merge_joined_elem : Sound P 156 ⟨sig_merge_joined_elem, F_merge_joined_elem⟩ := sound_of (os := os_merge_joined_elem) (hs := hs_merge_joined_elem) (env_cons S_slices_IndexFunc___api_Attr_api_Attr__merge_joined_elem_c1 (env_cons S_attr_Raw (env_nil))) fn_merge_joined_elem ok_merge_joined_elem (fun x y out h => ⟨big, h⟩)
theorem e_merge_joined_elem (a1 : YElem.den) (a2 : List YAttr.den) (a3 : List YAttr.den) (a4 : Bool) (a5 : Bool) (b0_0 : Int) (b0_1 : List YElem.den) (b0_2 : List YConflict.den) : C_merge_joined_elem F_merge_joined_elem a1 a2 a3 a4 a5 b0_0 b0_1 b0_2 =
  (bcond (a4 == false)
   (bcond a5
    (bcond ((!a4) == true)
     (bcond ((decide (((List.length a2 : Int) : Int) > 0)) == false)
      (bcond ((!a5) == true)
       (bcond (decide (((List.length a3 : Int) : Int) > 0))
        (if (List.length (b0_2 : List YConflict.den) + List.length ([(1, (b0_0, ((List.length b0_1 : Int), ((List.length b0_1 : Int), []))))] : List YConflict.den)) * 48 ≤ 140737488355328 then
         (some (ret_merge_joined_elem b0_0 b0_1 (b0_2 ++ [(1, (b0_0, ((List.length b0_1 : Int), ((List.length b0_1 : Int), []))))])))
        else none)
        (some (ret_merge_joined_elem b0_0 b0_1 b0_2)))
       (some (ret_merge_joined_elem b0_0 b0_1 b0_2)))
      (if (List.length (b0_2 : List YConflict.den) + List.length ([(1, (b0_0, ((List.length b0_1 : Int), ((List.length b0_1 : Int), []))))] : List YConflict.den)) * 48 ≤ 140737488355328 then
       (some (ret_merge_joined_elem b0_0 b0_1 (b0_2 ++ [(1, (b0_0, ((List.length b0_1 : Int), ((List.length b0_1 : Int), []))))])))
      else none))
     (bcond ((!a5) == true)
      (bcond (decide (((List.length a3 : Int) : Int) > 0))
       (if (List.length (b0_2 : List YConflict.den) + List.length ([(1, (b0_0, ((List.length b0_1 : Int), ((List.length b0_1 : Int), []))))] : List YConflict.den)) * 48 ≤ 140737488355328 then
        (some (ret_merge_joined_elem b0_0 b0_1 (b0_2 ++ [(1, (b0_0, ((List.length b0_1 : Int), ((List.length b0_1 : Int), []))))])))
       else none)
       (some (ret_merge_joined_elem b0_0 b0_1 b0_2)))
      (some (ret_merge_joined_elem b0_0 b0_1 b0_2))))
    (L_merge_joined_elem_0 big big a2 a3 a1.1 a1.2.1 a1.2.2 (List.length b0_1 : Int) a2 (List.length a2 : Int) 0 b0_0 b0_1 b0_2))
   (bcond ((!a4) == true)
    (bcond ((decide (((List.length a2 : Int) : Int) > 0)) == false)
     (bcond ((!a5) == true)
      (bcond (decide (((List.length a3 : Int) : Int) > 0))
       (if (List.length (b0_2 : List YConflict.den) + List.length ([(1, (b0_0, ((List.length b0_1 : Int), ((List.length b0_1 : Int), []))))] : List YConflict.den)) * 48 ≤ 140737488355328 then
        (some (ret_merge_joined_elem b0_0 b0_1 (b0_2 ++ [(1, (b0_0, ((List.length b0_1 : Int), ((List.length b0_1 : Int), []))))])))
       else none)
       (some (ret_merge_joined_elem b0_0 b0_1 b0_2)))
      (some (ret_merge_joined_elem b0_0 b0_1 b0_2)))
     (if (List.length (b0_2 : List YConflict.den) + List.length ([(1, (b0_0, ((List.length b0_1 : Int), ((List.length b0_1 : Int), []))))] : List YConflict.den)) * 48 ≤ 140737488355328 then
      (some (ret_merge_joined_elem b0_0 b0_1 (b0_2 ++ [(1, (b0_0, ((List.length b0_1 : Int), ((List.length b0_1 : Int), []))))])))
     else none))
    (bcond ((!a5) == true)
     (bcond (decide (((List.length a3 : Int) : Int) > 0))
      (if (List.length (b0_2 : List YConflict.den) + List.length ([(1, (b0_0, ((List.length b0_1 : Int), ((List.length b0_1 : Int), []))))] : List YConflict.den)) * 48 ≤ 140737488355328 then
       (some (ret_merge_joined_elem b0_0 b0_1 (b0_2 ++ [(1, (b0_0, ((List.length b0_1 : Int), ((List.length b0_1 : Int), []))))])))
      else none)
      (some (ret_merge_joined_elem b0_0 b0_1 b0_2)))
     (some (ret_merge_joined_elem b0_0 b0_1 b0_2))))) := by kernel_rfl
def sig_merge_flows : Sig := ⟨[.v false (.int .i64), .v false (.list YElem), .v false (.list YElem), .v false (.list YElem)], [], [(false, [.fr (.list YElem)]), (false, [.fr (.list YConflict)])]⟩
def C_merge_flows (F : sig_merge_flows.Fn) (a0 : Int) (a1 : List YElem.den) (a2 : List YElem.den) (a3 : List YElem.den) : Option sig_merge_flows.Out := F (a0, a1, a2, a3, ()) ()
def ret_merge_flows (v0 : List YElem.den) (v1 : List YConflict.den) : sig_merge_flows.Out := (((v0, ()), (v1, ()), ()), ())
def res_merge_flows_0 (r : sig_merge_flows.Out) : List YElem.den := r.1.1.1
@[simp] theorem res_merge_flows_0_ret (v0 : List YElem.den) (v1 : List YConflict.den) : res_merge_flows_0 (ret_merge_flows v0 v1) = v0 := rfl
def res_merge_flows_1 (r : sig_merge_flows.Out) : List YConflict.den := r.1.2.1.1
@[simp] theorem res_merge_flows_1_ret (v0 : List YElem.den) (v1 : List YConflict.den) : res_merge_flows_1 (ret_merge_flows v0 v1) = v1 := rfl
def os_merge_flows : RegT := ⟨[(6, .st 0 (.st 1 (.st 3 (.st 6 (.st 8 (.grp [2, 7, 4, 5, 9, 10] (.st 11 (.nil)))))))), (7, .st 0 (.st 2 (.st 4 (.st 7 (.st 9 (.st 12 (.st 14 (.st 17 (.st 19 (.grp [1, 3, 8, 13, 18, 5, 6, 10, 11, 15, 16, 20, 21] (.st 22 (.nil)))))))))))), (9, .st 0 (.st 1 (.st 3 (.st 4 (.st 7 (.st 9 (.st 10 (.grp [2, 8, 5, 6, 11, 12] (.st 13 (.nil)))))))))), (10, .st 0 (.st 1 (.st 2 (.st 5 (.st 6 (.st 7 (.st 3 (.alt 4 (.st 9 (.st 8 (.st 10 (.nil)))) (.st 8 (.st 4 (.st 9 (.st 10 (.nil)))))))))))))], [], false⟩
def hs_merge_flows : List Keep := [[(1, []), (10, []), (11, []), (12, []), (29, [(1, 113, YElem), (2, 168, YConflict)]), (30, []), (31, []), (32, [])]]
@[reducible] noncomputable def env_merge_flows : Env := [(129, ⟨sig_diff_Raw, F_diff_Raw⟩), (154, ⟨sig_merge_read, F_merge_read⟩), (155, ⟨sig_merge_joined_gap, F_merge_joined_gap⟩), (156, ⟨sig_merge_joined_elem, F_merge_joined_elem⟩), (135, ⟨sig_flow_Copy, F_flow_Copy⟩)]
noncomputable def L_merge_flows_0 (n m1 : Nat) (x1 : List YElem.den) (x10_0 : List (List YElem.den)) (x10_1 : List (Bool)) (x10_2 : List (List YAttr.den)) (x11_0 : List (List YElem.den)) (x11_1 : List (Bool)) (x11_2 : List (List YAttr.den)) (x29_0 : Int) (x29_1 : List YElem.den) (x29_2 : List YConflict.den) (x30 : List YElem.den) (x31 : Int) (x32 : Int) : Option sig_merge_flows.Out :=
  loopAt T (env_merge_flows) os_merge_flows sig_merge_flows Try.f130 hs_merge_flows n [.sr, .sr, .sr, .sl, .sr, .bl] m1 (mk 96 [(1, .cs false [.val (.list YElem) x1]), (10, .box [.val (.list (.list YElem)) x10_0, .val (.list .bool) x10_1, .val (.list (.list YAttr)) x10_2]), (11, .box [.val (.list (.list YElem)) x11_0, .val (.list .bool) x11_1, .val (.list (.list YAttr)) x11_2]), (12, .cs false [.ptr 29 0]), (29, .box [.val (.int .i64) x29_0, .own 113 YElem x29_1, .own 168 YConflict x29_2]), (30, .cs false [.val (.list YElem) x30]), (31, .cs false [.val (.int .i64) x31]), (32, .cs false [.val (.int .i64) x32])])
theorem L_merge_flows_0_raw (n m1 : Nat) (x1 : List YElem.den) (x10_0 : List (List YElem.den)) (x10_1 : List (Bool)) (x10_2 : List (List YAttr.den)) (x11_0 : List (List YElem.den)) (x11_1 : List (Bool)) (x11_2 : List (List YAttr.den)) (x29_0 : Int) (x29_1 : List YElem.den) (x29_2 : List YConflict.den) (x30 : List YElem.den) (x31 : Int) (x32 : Int) : L_merge_flows_0 n (m1 + 1) x1 x10_0 x10_1 x10_2 x11_0 x11_1 x11_2 x29_0 x29_1 x29_2 x30 x31 x32 =
  (bcond (decide ((x32 : Int) < x31))
   (if 0 ≤ (x32 : Int) ∧ (x32 : Int) < (List.length x30 : Int) then
    (if 0 ≤ (x32 : Int) ∧ (x32 : Int) < (List.length x10_0 : Int) then
     (if 0 ≤ (x32 : Int) ∧ (x32 : Int) < (List.length x11_0 : Int) then
      ((C_merge_joined_gap F_merge_joined_gap (at_ (e := (.list YElem)) x10_0 x32) (at_ (e := (.list YElem)) x11_0 x32) x29_0 x29_1 x29_2).bind fun r1 =>
       (if 0 ≤ (x32 : Int) ∧ (x32 : Int) < (List.length x10_2 : Int) then
        (if 0 ≤ (x32 : Int) ∧ (x32 : Int) < (List.length x11_2 : Int) then
         (if 0 ≤ (x32 : Int) ∧ (x32 : Int) < (List.length x10_1 : Int) then
          (if 0 ≤ (x32 : Int) ∧ (x32 : Int) < (List.length x11_1 : Int) then
           ((C_merge_joined_elem F_merge_joined_elem (at_ (e := YElem) x30 x32) (at_ (e := (.list YAttr)) x10_2 x32) (at_ (e := (.list YAttr)) x11_2 x32) (at_ (e := .bool) x10_1 x32) (at_ (e := .bool) x11_1 x32) (res_merge_joined_gap_0 r1) (res_merge_joined_gap_1 r1) (res_merge_joined_gap_2 r1)).bind fun r2 =>
            (L_merge_flows_0 n m1 x1 x10_0 x10_1 x10_2 x11_0 x11_1 x11_2 (res_merge_joined_elem_0 r2) (res_merge_joined_elem_1 r2) (res_merge_joined_elem_2 r2) x30 x31 (IntKind.i64.wrap (x32 + 1))))
          else none)
         else none)
        else none)
       else none))
     else none)
    else none)
   else none)
   (if 0 ≤ ((List.length x1 : Int) : Int) ∧ ((List.length x1 : Int) : Int) < (List.length x10_0 : Int) then
    (if 0 ≤ ((List.length x1 : Int) : Int) ∧ ((List.length x1 : Int) : Int) < (List.length x11_0 : Int) then
     ((C_merge_joined_gap F_merge_joined_gap (at_ (e := (.list YElem)) x10_0 (List.length x1 : Int)) (at_ (e := (.list YElem)) x11_0 (List.length x1 : Int)) x29_0 x29_1 x29_2).bind fun r1 =>
      (agree
       ((C_flow_Copy F_flow_Copy (res_merge_joined_gap_1 r1)).bind fun r2 =>
        (some (ret_merge_flows (res_flow_Copy_0 r2) (res_merge_joined_gap_2 r1))))
       ((C_flow_Copy F_flow_Copy (res_merge_joined_gap_1 r1)).bind fun r2 =>
        (some (ret_merge_flows (res_flow_Copy_0 r2) (res_merge_joined_gap_2 r1))))))
    else none)
   else none)) := by kernel_rfl
theorem L_merge_flows_0_step (n m1 : Nat) (x1 : List YElem.den) (x10_0 : List (List YElem.den)) (x10_1 : List (Bool)) (x10_2 : List (List YAttr.den)) (x11_0 : List (List YElem.den)) (x11_1 : List (Bool)) (x11_2 : List (List YAttr.den)) (x29_0 : Int) (x29_1 : List YElem.den) (x29_2 : List YConflict.den) (x30 : List YElem.den) (x31 : Int) (x32 : Int) : L_merge_flows_0 n (m1 + 1) x1 x10_0 x10_1 x10_2 x11_0 x11_1 x11_2 x29_0 x29_1 x29_2 x30 x31 x32 =
  (bcond (decide ((x32 : Int) < x31))
   (if 0 ≤ (x32 : Int) ∧ (x32 : Int) < (List.length x30 : Int) then
    (if 0 ≤ (x32 : Int) ∧ (x32 : Int) < (List.length x10_0 : Int) then
     (if 0 ≤ (x32 : Int) ∧ (x32 : Int) < (List.length x11_0 : Int) then
      ((C_merge_joined_gap F_merge_joined_gap (at_ (e := (.list YElem)) x10_0 x32) (at_ (e := (.list YElem)) x11_0 x32) x29_0 x29_1 x29_2).bind fun r1 =>
       (if 0 ≤ (x32 : Int) ∧ (x32 : Int) < (List.length x10_2 : Int) then
        (if 0 ≤ (x32 : Int) ∧ (x32 : Int) < (List.length x11_2 : Int) then
         (if 0 ≤ (x32 : Int) ∧ (x32 : Int) < (List.length x10_1 : Int) then
          (if 0 ≤ (x32 : Int) ∧ (x32 : Int) < (List.length x11_1 : Int) then
           ((C_merge_joined_elem F_merge_joined_elem (at_ (e := YElem) x30 x32) (at_ (e := (.list YAttr)) x10_2 x32) (at_ (e := (.list YAttr)) x11_2 x32) (at_ (e := .bool) x10_1 x32) (at_ (e := .bool) x11_1 x32) (res_merge_joined_gap_0 r1) (res_merge_joined_gap_1 r1) (res_merge_joined_gap_2 r1)).bind fun r2 =>
            (L_merge_flows_0 n m1 x1 x10_0 x10_1 x10_2 x11_0 x11_1 x11_2 (res_merge_joined_elem_0 r2) (res_merge_joined_elem_1 r2) (res_merge_joined_elem_2 r2) x30 x31 (IntKind.i64.wrap (x32 + 1))))
          else none)
         else none)
        else none)
       else none))
     else none)
    else none)
   else none)
   (if 0 ≤ ((List.length x1 : Int) : Int) ∧ ((List.length x1 : Int) : Int) < (List.length x10_0 : Int) then
    (if 0 ≤ ((List.length x1 : Int) : Int) ∧ ((List.length x1 : Int) : Int) < (List.length x11_0 : Int) then
     ((C_merge_joined_gap F_merge_joined_gap (at_ (e := (.list YElem)) x10_0 (List.length x1 : Int)) (at_ (e := (.list YElem)) x11_0 (List.length x1 : Int)) x29_0 x29_1 x29_2).bind fun r1 =>
      ((C_flow_Copy F_flow_Copy (res_merge_joined_gap_1 r1)).bind fun r2 =>
       (some (ret_merge_flows (res_flow_Copy_0 r2) (res_merge_joined_gap_2 r1)))))
    else none)
   else none)) := by rw [L_merge_flows_0_raw]; simp only [agree_self]
theorem ok_merge_flows : fnOk os_merge_flows sig_merge_flows Try.f130 = true := by kernel_rfl
theorem fn_merge_flows : P.funcs[130]? = some Try.f130 := by kernel_rfl
noncomputable def F_merge_flows : sig_merge_flows.Fn := fun x y => run T (env_merge_flows) os_merge_flows sig_merge_flows Try.f130 hs_merge_flows big x y
theorem S_merge_flows : Sound P 130 ⟨sig_merge_flows, F_merge_flows⟩ := sound_of (os := os_merge_flows) (hs := hs_merge_flows) (env_cons S_diff_Raw (env_cons S_merge_read (env_cons S_merge_joined_gap (env_cons S_merge_joined_elem (env_cons S_flow_Copy (env_nil)))))) fn_merge_flows ok_merge_flows (fun x y out h => ⟨big, h⟩)
theorem e_merge_flows (a0 : Int) (a1 : List YElem.den) (a2 : List YElem.den) (a3 : List YElem.den) : C_merge_flows F_merge_flows a0 a1 a2 a3 =
  ((C_diff_Raw F_diff_Raw a1 a2).bind fun r1 =>
   ((C_merge_read F_merge_read (List.length a1 : Int) (res_diff_Raw_0 r1)).bind fun r2 =>
    ((C_diff_Raw F_diff_Raw a1 a3).bind fun r3 =>
     ((C_merge_read F_merge_read (List.length a1 : Int) (res_diff_Raw_0 r3)).bind fun r4 =>
      (L_merge_flows_0 big big a1 (res_merge_read_0 r2).1 (res_merge_read_0 r2).2.1 (res_merge_read_0 r2).2.2 (res_merge_read_0 r4).1 (res_merge_read_0 r4).2.1 (res_merge_read_0 r4).2.2 a0 [] [] a1 (List.length a1 : Int) 0))))) := by kernel_rfl
def sig_merge_Flows : Sig := ⟨[.v false (.list YElem), .v false (.list YElem), .v false (.list YElem)], [], [(false, [.fr (.list YElem)]), (false, [.fr (.list YConflict)]), (false, [.fr (.int .i64)])]⟩
def C_merge_Flows (F : sig_merge_Flows.Fn) (a0 : List YElem.den) (a1 : List YElem.den) (a2 : List YElem.den) : Option sig_merge_Flows.Out := F (a0, a1, a2, ()) ()
def ret_merge_Flows (v0 : List YElem.den) (v1 : List YConflict.den) (v2 : Int) : sig_merge_Flows.Out := (((v0, ()), (v1, ()), (v2, ()), ()), ())
def res_merge_Flows_0 (r : sig_merge_Flows.Out) : List YElem.den := r.1.1.1
@[simp] theorem res_merge_Flows_0_ret (v0 : List YElem.den) (v1 : List YConflict.den) (v2 : Int) : res_merge_Flows_0 (ret_merge_Flows v0 v1 v2) = v0 := rfl
def res_merge_Flows_1 (r : sig_merge_Flows.Out) : List YConflict.den := r.1.2.1.1
@[simp] theorem res_merge_Flows_1_ret (v0 : List YElem.den) (v1 : List YConflict.den) (v2 : Int) : res_merge_Flows_1 (ret_merge_Flows v0 v1 v2) = v1 := rfl
def res_merge_Flows_2 (r : sig_merge_Flows.Out) : Int := r.1.2.2.1.1
@[simp] theorem res_merge_Flows_2_ret (v0 : List YElem.den) (v1 : List YConflict.den) (v2 : Int) : res_merge_Flows_2 (ret_merge_Flows v0 v1 v2) = v2 := rfl
def os_merge_Flows : RegT := ⟨[], [], false⟩
def hs_merge_Flows : List Keep := [[(0, []), (1, []), (2, []), (19, []), (20, [])], [(0, []), (1, []), (2, []), (32, []), (33, [])]]
@[reducible] noncomputable def env_merge_Flows : Env := [(93, ⟨sig_flow_CheckPart, F_flow_CheckPart⟩), (130, ⟨sig_merge_flows, F_merge_flows⟩)]
noncomputable def L_merge_Flows_0 (n m1 : Nat) (x0 : List YElem.den) (x1 : List YElem.den) (x2 : List YElem.den) (x19_0 : List YElem.den) (x19_1 : List YElem.den) (x19_2 : List YElem.den) (x20 : Int) : Option sig_merge_Flows.Out :=
  loopAt T (env_merge_Flows) os_merge_Flows sig_merge_Flows Try.f72 hs_merge_Flows n [.sr, .sl, .sr, .bl] m1 (mk 49 [(0, .cs false [.val (.list YElem) x0]), (1, .cs false [.val (.list YElem) x1]), (2, .cs false [.val (.list YElem) x2]), (19, .cs true [.val (.list YElem) x19_0, .val (.list YElem) x19_1, .val (.list YElem) x19_2]), (20, .cs false [.val (.int .i64) x20])])
noncomputable def L_merge_Flows_1 (n m1 : Nat) (x0 : List YElem.den) (x1 : List YElem.den) (x2 : List YElem.den) (x32_0 : List YElem.den) (x32_1 : List YElem.den) (x32_2 : List YElem.den) (x33 : Int) : Option sig_merge_Flows.Out :=
  loopAt T (env_merge_Flows) os_merge_Flows sig_merge_Flows Try.f72 hs_merge_Flows n [.sr, .sr, .sl, .sr, .bl] m1 (mk 49 [(0, .cs false [.val (.list YElem) x0]), (1, .cs false [.val (.list YElem) x1]), (2, .cs false [.val (.list YElem) x2]), (32, .cs true [.val (.list YElem) x32_0, .val (.list YElem) x32_1, .val (.list YElem) x32_2]), (33, .cs false [.val (.int .i64) x33])])
theorem L_merge_Flows_0_step (n m1 : Nat) (x0 : List YElem.den) (x1 : List YElem.den) (x2 : List YElem.den) (x19_0 : List YElem.den) (x19_1 : List YElem.den) (x19_2 : List YElem.den) (x20 : Int) : L_merge_Flows_0 n (m1 + 1) x0 x1 x2 x19_0 x19_1 x19_2 x20 =
  (bcond (decide ((x20 : Int) < 3))
   (if 0 ≤ (x20 : Int) ∧ (x20 : Int) < 3 then
    ((C_flow_CheckPart F_flow_CheckPart (at_ (e := (.list YElem)) [x19_0, x19_1, x19_2] x20)).bind fun r1 =>
     (bcond (((res_flow_CheckPart_0 r1) : Int) != 0)
      (some (ret_merge_Flows [] [] (res_flow_CheckPart_0 r1)))
      (L_merge_Flows_0 n m1 x0 x1 x2 x19_0 x19_1 x19_2 (IntKind.i64.wrap (x20 + 1)))))
   else none)
   (L_merge_Flows_1 n n x0 x1 x2 x0 x1 x2 0)) := by kernel_rfl
theorem L_merge_Flows_1_step (n m1 : Nat) (x0 : List YElem.den) (x1 : List YElem.den) (x2 : List YElem.den) (x32_0 : List YElem.den) (x32_1 : List YElem.den) (x32_2 : List YElem.den) (x33 : Int) : L_merge_Flows_1 n (m1 + 1) x0 x1 x2 x32_0 x32_1 x32_2 x33 =
  (bcond (decide ((x33 : Int) < 3))
   (if 0 ≤ (x33 : Int) ∧ (x33 : Int) < 3 then
    (bcond (decide (((List.length (at_ (e := (.list YElem)) [x32_0, x32_1, x32_2] x33) : Int) : Int) > 2000))
     (some (ret_merge_Flows [] [] 3))
     (L_merge_Flows_1 n m1 x0 x1 x2 x32_0 x32_1 x32_2 (IntKind.i64.wrap (x33 + 1))))
   else none)
   ((C_merge_flows F_merge_flows 0 x0 x1 x2).bind fun r1 =>
    (some (ret_merge_Flows (res_merge_flows_0 r1) (res_merge_flows_1 r1) 0)))) := by kernel_rfl
theorem ok_merge_Flows : fnOk os_merge_Flows sig_merge_Flows Try.f72 = true := by kernel_rfl
theorem fn_merge_Flows : P.funcs[72]? = some Try.f72 := by kernel_rfl
noncomputable def F_merge_Flows : sig_merge_Flows.Fn := fun x y => run T (env_merge_Flows) os_merge_Flows sig_merge_Flows Try.f72 hs_merge_Flows big x y
theorem S_merge_Flows : Sound P 72 ⟨sig_merge_Flows, F_merge_Flows⟩ := sound_of (os := os_merge_Flows) (hs := hs_merge_Flows) (env_cons S_flow_CheckPart (env_cons S_merge_flows (env_nil))) fn_merge_Flows ok_merge_Flows (fun x y out h => ⟨big, h⟩)
theorem e_merge_Flows (a0 : List YElem.den) (a1 : List YElem.den) (a2 : List YElem.den) : C_merge_Flows F_merge_Flows a0 a1 a2 =
  (L_merge_Flows_0 big big a0 a1 a2 a0 a1 a2 0) := by kernel_rfl
def sig_R_Merged : Sig := ⟨[.v false (.list YElem), .v false (.list YElem), .v false (.list YElem)], [], [(false, [.fr (.list YElem)]), (false, [.fr (.list YConflict)])]⟩
def C_R_Merged (F : sig_R_Merged.Fn) (a0 : List YElem.den) (a1 : List YElem.den) (a2 : List YElem.den) : Option sig_R_Merged.Out := F (a0, a1, a2, ()) ()
def ret_R_Merged (v0 : List YElem.den) (v1 : List YConflict.den) : sig_R_Merged.Out := (((v0, ()), (v1, ()), ()), ())
def res_R_Merged_0 (r : sig_R_Merged.Out) : List YElem.den := r.1.1.1
@[simp] theorem res_R_Merged_0_ret (v0 : List YElem.den) (v1 : List YConflict.den) : res_R_Merged_0 (ret_R_Merged v0 v1) = v0 := rfl
def res_R_Merged_1 (r : sig_R_Merged.Out) : List YConflict.den := r.1.2.1.1
@[simp] theorem res_R_Merged_1_ret (v0 : List YElem.den) (v1 : List YConflict.den) : res_R_Merged_1 (ret_R_Merged v0 v1) = v1 := rfl
def os_R_Merged : RegT := ⟨[(7, .st 0 (.st 2 (.st 5 (.st 7 (.alt 1 (.st 3 (.alt 4 (.st 10 (.st 6 (.st 8 (.st 9 (.st 11 (.nil)))))) (.st 6 (.st 8 (.st 4 (.st 10 (.st 9 (.st 11 (.nil))))))))) (.st 6 (.st 8 (.st 1 (.st 3 (.st 4 (.st 10 (.st 9 (.st 11 (.nil)))))))))))))), (23, .st 0 (.st 2 (.st 5 (.st 1 (.st 3 (.st 4 (.st 6 (.st 7 (.st 8 (.st 9 (.st 11 (.st 14 (.st 17 (.st 10 (.st 12 (.st 13 (.st 15 (.grp [18, 16] (.st 19 (.st 20 (.nil))))))))))))))))))))), (27, .st 0 (.st 2 (.st 4 (.st 8 (.st 10 (.grp [1, 3, 9, 5, 6, 11, 12, 7] (.st 13 (.st 14 (.st 15 (.nil))))))))))], [], false⟩
def hs_R_Merged : List Keep := [[(0, []), (8, []), (9, []), (10, [(0, 113, YElem)]), (11, [(0, 168, YConflict)]), (12, [])], [(0, []), (8, []), (9, []), (10, [(0, 113, YElem)]), (11, [(0, 168, YConflict)]), (12, []), (15, []), (129, []), (130, [])]]
@[reducible] noncomputable def env_R_Merged : Env := [(67, ⟨sig_R_DiffAct, F_R_DiffAct⟩), (25, ⟨sig_R_SameFlow, F_R_SameFlow⟩), (119, ⟨sig_R_Has, F_R_Has⟩), (131, ⟨sig_R_Get, F_R_Get⟩), (90, ⟨sig_R_Changed, F_R_Changed⟩)]
noncomputable def L_R_Merged_0 (n m1 : Nat) (x0 : List YElem.den) (x8_0 : List (List YElem.den)) (x8_1 : List (Bool)) (x8_2 : List (List YAttr.den)) (x9_0 : List (List YElem.den)) (x9_1 : List (Bool)) (x9_2 : List (List YAttr.den)) (x10 : List YElem.den) (x11 : List YConflict.den) (x12 : Int) : Option sig_R_Merged.Out :=
  loopAt T (env_R_Merged) os_R_Merged sig_R_Merged Try.f73 hs_R_Merged n [.sr, .sr, .sr, .sr, .sl, .sr, .bl] m1 (mk 197 [(0, .cs false [.val (.list YElem) x0]), (8, .box [.val (.list (.list YElem)) x8_0, .val (.list .bool) x8_1, .val (.list (.list YAttr)) x8_2]), (9, .box [.val (.list (.list YElem)) x9_0, .val (.list .bool) x9_1, .val (.list (.list YAttr)) x9_2]), (10, .cs false [.own 113 YElem x10]), (11, .cs false [.own 168 YConflict x11]), (12, .cs false [.val (.int .i64) x12])])
noncomputable def L_R_Merged_1 (n m1 m2 : Nat) (x0 : List YElem.den) (x8_0 : List (List YElem.den)) (x8_1 : List (Bool)) (x8_2 : List (List YAttr.den)) (x9_0 : List (List YElem.den)) (x9_1 : List (Bool)) (x9_2 : List (List YAttr.den)) (x10 : List YElem.den) (x11 : List YConflict.den) (x12 : Int) (x15 : Int) (x129 : Int) (x130 : Int) : Option sig_R_Merged.Out :=
  loopAt T (env_R_Merged) os_R_Merged sig_R_Merged Try.f73 hs_R_Merged n [.sr, .sr, .sr, .sr, .sl, .sr, .bl, .lp m1, .sr, .sl, .bl, .sr, .sr, .sr, .sr, .sr, .sr, .sr, .sl, .sr, .bl] m2 (mk 197 [(0, .cs false [.val (.list YElem) x0]), (8, .box [.val (.list (.list YElem)) x8_0, .val (.list .bool) x8_1, .val (.list (.list YAttr)) x8_2]), (9, .box [.val (.list (.list YElem)) x9_0, .val (.list .bool) x9_1, .val (.list (.list YAttr)) x9_2]), (10, .cs false [.own 113 YElem x10]), (11, .cs false [.own 168 YConflict x11]), (12, .cs false [.val (.int .i64) x12]), (15, .cs false [.val (.int .i64) x15]), (129, .cs false [.val (.int .i64) x129]), (130, .cs false [.val (.int .i64) x130])])
noncomputable def J_R_Merged_0 (n m1 : Nat) (y0 : List YElem.den) (y8 : YAct.den) (y9 : YAct.den) (y10 : List YElem.den) (y11 : List YConflict.den) (y12 : Int) : Option sig_R_Merged.Out :=
  (bcond ((y12 : Int) == (List.length y0 : Int))
   (some (ret_R_Merged y10 y11))
   (if 0 ≤ (y12 : Int) ∧ (y12 : Int) < (List.length y8.2.1 : Int) then
    (bcond ((at_ (e := .bool) y8.2.1 y12) == false)
     (if 0 ≤ (y12 : Int) ∧ (y12 : Int) < (List.length y9.2.1 : Int) then
      (bcond (at_ (e := .bool) y9.2.1 y12)
       (if 0 ≤ (y12 : Int) ∧ (y12 : Int) < (List.length y8.2.1 : Int) then
        (bcond ((!(at_ (e := .bool) y8.2.1 y12)) == true)
         (if 0 ≤ (y12 : Int) ∧ (y12 : Int) < (List.length y8.2.2 : Int) then
          (bcond ((decide (((List.length (at_ (e := (.list YAttr)) y8.2.2 y12) : Int) : Int) > 0)) == false)
           (if 0 ≤ (y12 : Int) ∧ (y12 : Int) < (List.length y9.2.1 : Int) then
            (bcond ((!(at_ (e := .bool) y9.2.1 y12)) == true)
             (if 0 ≤ (y12 : Int) ∧ (y12 : Int) < (List.length y9.2.2 : Int) then
              (bcond (decide (((List.length (at_ (e := (.list YAttr)) y9.2.2 y12) : Int) : Int) > 0))
               (if (List.length (y11 : List YConflict.den) + List.length ([(1, (0, ((List.length y10 : Int), ((List.length y10 : Int), []))))] : List YConflict.den)) * 48 ≤ 140737488355328 then
                (L_R_Merged_0 n m1 y0 y8.1 y8.2.1 y8.2.2 y9.1 y9.2.1 y9.2.2 y10 (y11 ++ [(1, (0, ((List.length y10 : Int), ((List.length y10 : Int), []))))]) (IntKind.i64.wrap (y12 + 1)))
               else none)
               (L_R_Merged_0 n m1 y0 y8.1 y8.2.1 y8.2.2 y9.1 y9.2.1 y9.2.2 y10 y11 (IntKind.i64.wrap (y12 + 1))))
             else none)
             (L_R_Merged_0 n m1 y0 y8.1 y8.2.1 y8.2.2 y9.1 y9.2.1 y9.2.2 y10 y11 (IntKind.i64.wrap (y12 + 1))))
           else none)
           (if (List.length (y11 : List YConflict.den) + List.length ([(1, (0, ((List.length y10 : Int), ((List.length y10 : Int), []))))] : List YConflict.den)) * 48 ≤ 140737488355328 then
            (L_R_Merged_0 n m1 y0 y8.1 y8.2.1 y8.2.2 y9.1 y9.2.1 y9.2.2 y10 (y11 ++ [(1, (0, ((List.length y10 : Int), ((List.length y10 : Int), []))))]) (IntKind.i64.wrap (y12 + 1)))
           else none))
         else none)
         (if 0 ≤ (y12 : Int) ∧ (y12 : Int) < (List.length y9.2.1 : Int) then
          (bcond ((!(at_ (e := .bool) y9.2.1 y12)) == true)
           (if 0 ≤ (y12 : Int) ∧ (y12 : Int) < (List.length y9.2.2 : Int) then
            (bcond (decide (((List.length (at_ (e := (.list YAttr)) y9.2.2 y12) : Int) : Int) > 0))
             (if (List.length (y11 : List YConflict.den) + List.length ([(1, (0, ((List.length y10 : Int), ((List.length y10 : Int), []))))] : List YConflict.den)) * 48 ≤ 140737488355328 then
              (L_R_Merged_0 n m1 y0 y8.1 y8.2.1 y8.2.2 y9.1 y9.2.1 y9.2.2 y10 (y11 ++ [(1, (0, ((List.length y10 : Int), ((List.length y10 : Int), []))))]) (IntKind.i64.wrap (y12 + 1)))
             else none)
             (L_R_Merged_0 n m1 y0 y8.1 y8.2.1 y8.2.2 y9.1 y9.2.1 y9.2.2 y10 y11 (IntKind.i64.wrap (y12 + 1))))
           else none)
           (L_R_Merged_0 n m1 y0 y8.1 y8.2.1 y8.2.2 y9.1 y9.2.1 y9.2.2 y10 y11 (IntKind.i64.wrap (y12 + 1))))
         else none))
       else none)
       (if 0 ≤ (y12 : Int) ∧ (y12 : Int) < (List.length y8.2.2 : Int) then
        (L_R_Merged_1 n m1 n y0 y8.1 y8.2.1 y8.2.2 y9.1 y9.2.1 y9.2.2 y10 y11 y12 (List.length y10 : Int) (List.length (at_ (e := (.list YAttr)) y8.2.2 y12) : Int) 0)
       else none))
     else none)
     (if 0 ≤ (y12 : Int) ∧ (y12 : Int) < (List.length y8.2.1 : Int) then
      (bcond ((!(at_ (e := .bool) y8.2.1 y12)) == true)
       (if 0 ≤ (y12 : Int) ∧ (y12 : Int) < (List.length y8.2.2 : Int) then
        (bcond ((decide (((List.length (at_ (e := (.list YAttr)) y8.2.2 y12) : Int) : Int) > 0)) == false)
         (if 0 ≤ (y12 : Int) ∧ (y12 : Int) < (List.length y9.2.1 : Int) then
          (bcond ((!(at_ (e := .bool) y9.2.1 y12)) == true)
           (if 0 ≤ (y12 : Int) ∧ (y12 : Int) < (List.length y9.2.2 : Int) then
            (bcond (decide (((List.length (at_ (e := (.list YAttr)) y9.2.2 y12) : Int) : Int) > 0))
             (if (List.length (y11 : List YConflict.den) + List.length ([(1, (0, ((List.length y10 : Int), ((List.length y10 : Int), []))))] : List YConflict.den)) * 48 ≤ 140737488355328 then
              (L_R_Merged_0 n m1 y0 y8.1 y8.2.1 y8.2.2 y9.1 y9.2.1 y9.2.2 y10 (y11 ++ [(1, (0, ((List.length y10 : Int), ((List.length y10 : Int), []))))]) (IntKind.i64.wrap (y12 + 1)))
             else none)
             (L_R_Merged_0 n m1 y0 y8.1 y8.2.1 y8.2.2 y9.1 y9.2.1 y9.2.2 y10 y11 (IntKind.i64.wrap (y12 + 1))))
           else none)
           (L_R_Merged_0 n m1 y0 y8.1 y8.2.1 y8.2.2 y9.1 y9.2.1 y9.2.2 y10 y11 (IntKind.i64.wrap (y12 + 1))))
         else none)
         (if (List.length (y11 : List YConflict.den) + List.length ([(1, (0, ((List.length y10 : Int), ((List.length y10 : Int), []))))] : List YConflict.den)) * 48 ≤ 140737488355328 then
          (L_R_Merged_0 n m1 y0 y8.1 y8.2.1 y8.2.2 y9.1 y9.2.1 y9.2.2 y10 (y11 ++ [(1, (0, ((List.length y10 : Int), ((List.length y10 : Int), []))))]) (IntKind.i64.wrap (y12 + 1)))
         else none))
       else none)
       (if 0 ≤ (y12 : Int) ∧ (y12 : Int) < (List.length y9.2.1 : Int) then
        (bcond ((!(at_ (e := .bool) y9.2.1 y12)) == true)
         (if 0 ≤ (y12 : Int) ∧ (y12 : Int) < (List.length y9.2.2 : Int) then
          (bcond (decide (((List.length (at_ (e := (.list YAttr)) y9.2.2 y12) : Int) : Int) > 0))
           (if (List.length (y11 : List YConflict.den) + List.length ([(1, (0, ((List.length y10 : Int), ((List.length y10 : Int), []))))] : List YConflict.den)) * 48 ≤ 140737488355328 then
            (L_R_Merged_0 n m1 y0 y8.1 y8.2.1 y8.2.2 y9.1 y9.2.1 y9.2.2 y10 (y11 ++ [(1, (0, ((List.length y10 : Int), ((List.length y10 : Int), []))))]) (IntKind.i64.wrap (y12 + 1)))
           else none)
           (L_R_Merged_0 n m1 y0 y8.1 y8.2.1 y8.2.2 y9.1 y9.2.1 y9.2.2 y10 y11 (IntKind.i64.wrap (y12 + 1))))
         else none)
         (L_R_Merged_0 n m1 y0 y8.1 y8.2.1 y8.2.2 y9.1 y9.2.1 y9.2.2 y10 y11 (IntKind.i64.wrap (y12 + 1))))
       else none))
     else none))
   else none))
noncomputable def J_R_Merged_1 (n m1 : Nat) (y0 : List YElem.den) (y8 : YAct.den) (y9 : YAct.den) (y10 : List YElem.den) (y11 : List YConflict.den) (y12 : Int) (y13 : List YElem.den) (y14 : List YElem.den) : Option sig_R_Merged.Out :=
  (if (List.length (y10 : List YElem.den) + List.length (y13 : List YElem.den)) * 40 ≤ 140737488355328 then
   ((C_R_SameFlow F_R_SameFlow y13 y14).bind fun r1 =>
    (bcond (!(res_R_SameFlow_0 r1))
     (if (List.length ((y10 ++ y13) : List YElem.den) + List.length (y14 : List YElem.den)) * 40 ≤ 140737488355328 then
      (bcond ((decide (((List.length y13 : Int) : Int) > 0)) == true)
       (bcond (decide (((List.length y14 : Int) : Int) > 0))
        (if (List.length (y11 : List YConflict.den) + List.length ([(0, (0, ((List.length y10 : Int), ((List.length ((y10 ++ y13) ++ y14) : Int), []))))] : List YConflict.den)) * 48 ≤ 140737488355328 then
         (J_R_Merged_0 n m1 y0 y8 y9 ((y10 ++ y13) ++ y14) (y11 ++ [(0, (0, ((List.length y10 : Int), ((List.length ((y10 ++ y13) ++ y14) : Int), []))))]) y12)
        else none)
        (J_R_Merged_0 n m1 y0 y8 y9 ((y10 ++ y13) ++ y14) y11 y12))
       (J_R_Merged_0 n m1 y0 y8 y9 ((y10 ++ y13) ++ y14) y11 y12))
     else none)
     (J_R_Merged_0 n m1 y0 y8 y9 (y10 ++ y13) y11 y12)))
  else none)
theorem L_R_Merged_0_raw (n m1 : Nat) (x0 : List YElem.den) (x8_0 : List (List YElem.den)) (x8_1 : List (Bool)) (x8_2 : List (List YAttr.den)) (x9_0 : List (List YElem.den)) (x9_1 : List (Bool)) (x9_2 : List (List YAttr.den)) (x10 : List YElem.den) (x11 : List YConflict.den) (x12 : Int) : L_R_Merged_0 n (m1 + 1) x0 x8_0 x8_1 x8_2 x9_0 x9_1 x9_2 x10 x11 x12 =
  (bcond (decide ((x12 : Int) ≤ (List.length x0 : Int)))
   (agree
    (if 0 ≤ (x12 : Int) ∧ (x12 : Int) < (List.length x8_0 : Int) then
     (agree
      (if 0 ≤ (x12 : Int) ∧ (x12 : Int) < (List.length x9_0 : Int) then
       (J_R_Merged_1 n m1 x0 (x8_0, (x8_1, x8_2)) (x9_0, (x9_1, x9_2)) x10 x11 x12 (at_ (e := (.list YElem)) x8_0 x12) (at_ (e := (.list YElem)) x9_0 x12))
      else none)
      (if 0 ≤ (x12 : Int) ∧ (x12 : Int) < (List.length x9_0 : Int) then
       (J_R_Merged_1 n m1 x0 (x8_0, (x8_1, x8_2)) (x9_0, (x9_1, x9_2)) x10 x11 x12 (at_ (e := (.list YElem)) x8_0 x12) (at_ (e := (.list YElem)) x9_0 x12))
      else none))
    else none)
    (if 0 ≤ (x12 : Int) ∧ (x12 : Int) < (List.length x9_0 : Int) then
     (if 0 ≤ (x12 : Int) ∧ (x12 : Int) < (List.length x8_0 : Int) then
      (J_R_Merged_1 n m1 x0 (x8_0, (x8_1, x8_2)) (x9_0, (x9_1, x9_2)) x10 x11 x12 (at_ (e := (.list YElem)) x8_0 x12) (at_ (e := (.list YElem)) x9_0 x12))
     else none)
    else none))
   (some (ret_R_Merged x10 x11))) := by kernel_rfl
theorem L_R_Merged_0_step (n m1 : Nat) (x0 : List YElem.den) (x8_0 : List (List YElem.den)) (x8_1 : List (Bool)) (x8_2 : List (List YAttr.den)) (x9_0 : List (List YElem.den)) (x9_1 : List (Bool)) (x9_2 : List (List YAttr.den)) (x10 : List YElem.den) (x11 : List YConflict.den) (x12 : Int) : L_R_Merged_0 n (m1 + 1) x0 x8_0 x8_1 x8_2 x9_0 x9_1 x9_2 x10 x11 x12 =
  (bcond (decide ((x12 : Int) ≤ (List.length x0 : Int)))
   (if 0 ≤ (x12 : Int) ∧ (x12 : Int) < (List.length x8_0 : Int) then
    (if 0 ≤ (x12 : Int) ∧ (x12 : Int) < (List.length x9_0 : Int) then
     (J_R_Merged_1 n m1 x0 (x8_0, (x8_1, x8_2)) (x9_0, (x9_1, x9_2)) x10 x11 x12 (at_ (e := (.list YElem)) x8_0 x12) (at_ (e := (.list YElem)) x9_0 x12))
    else none)
   else none)
   (some (ret_R_Merged x10 x11))) := by rw [L_R_Merged_0_raw]; by_cases hc0 : 0 ≤ (x12 : Int) ∧ (x12 : Int) < (List.length x8_0 : Int) <;> by_cases hc1 : 0 ≤ (x12 : Int) ∧ (x12 : Int) < (List.length x9_0 : Int) <;> simp only [↓hc0, ↓hc1, if_true, if_false, and_self, ite_self, agree_self]
theorem L_R_Merged_1_step (n m1 m2 : Nat) (x0 : List YElem.den) (x8_0 : List (List YElem.den)) (x8_1 : List (Bool)) (x8_2 : List (List YAttr.den)) (x9_0 : List (List YElem.den)) (x9_1 : List (Bool)) (x9_2 : List (List YAttr.den)) (x10 : List YElem.den) (x11 : List YConflict.den) (x12 : Int) (x15 : Int) (x129 : Int) (x130 : Int) : L_R_Merged_1 n m1 (m2 + 1) x0 x8_0 x8_1 x8_2 x9_0 x9_1 x9_2 x10 x11 x12 x15 x129 x130 =
  (bcond (decide ((x130 : Int) < x129))
   (if 0 ≤ (x12 : Int) ∧ (x12 : Int) < (List.length x8_2 : Int) then
    (if 0 ≤ (x130 : Int) ∧ (x130 : Int) < (List.length (at_ (e := (.list YAttr)) x8_2 x12) : Int) then
     (if 0 ≤ (x12 : Int) ∧ (x12 : Int) < (List.length x9_2 : Int) then
      ((C_R_Has F_R_Has (at_ (e := (.list YAttr)) x9_2 x12) (at_ (e := YAttr) (at_ (e := (.list YAttr)) x8_2 x12) x130).1).bind fun r1 =>
       (bcond ((res_R_Has_0 r1) == true)
        (if 0 ≤ (x12 : Int) ∧ (x12 : Int) < (List.length x9_2 : Int) then
         ((C_R_Get F_R_Get (at_ (e := (.list YAttr)) x9_2 x12) (at_ (e := YAttr) (at_ (e := (.list YAttr)) x8_2 x12) x130).1).bind fun r2 =>
          (bcond (!(((res_R_Get_0 r2) : List UInt8) == (at_ (e := YAttr) (at_ (e := (.list YAttr)) x8_2 x12) x130).2))
           (if (List.length (x11 : List YConflict.den) + List.length ([(2, (0, (x15, ((IntKind.i64.wrap (x15 + 1)), (at_ (e := YAttr) (at_ (e := (.list YAttr)) x8_2 x12) x130).1))))] : List YConflict.den)) * 48 ≤ 140737488355328 then
            (L_R_Merged_1 n m1 m2 x0 x8_0 x8_1 x8_2 x9_0 x9_1 x9_2 x10 (x11 ++ [(2, (0, (x15, ((IntKind.i64.wrap (x15 + 1)), (at_ (e := YAttr) (at_ (e := (.list YAttr)) x8_2 x12) x130).1))))]) x12 x15 x129 (IntKind.i64.wrap (x130 + 1)))
           else none)
           (L_R_Merged_1 n m1 m2 x0 x8_0 x8_1 x8_2 x9_0 x9_1 x9_2 x10 x11 x12 x15 x129 (IntKind.i64.wrap (x130 + 1)))))
        else none)
        (L_R_Merged_1 n m1 m2 x0 x8_0 x8_1 x8_2 x9_0 x9_1 x9_2 x10 x11 x12 x15 x129 (IntKind.i64.wrap (x130 + 1)))))
     else none)
    else none)
   else none)
   (if 0 ≤ (x12 : Int) ∧ (x12 : Int) < (List.length x0 : Int) then
    (if 0 ≤ (x12 : Int) ∧ (x12 : Int) < (List.length x9_2 : Int) then
     (if 0 ≤ (x12 : Int) ∧ (x12 : Int) < (List.length x8_2 : Int) then
      ((C_R_Changed F_R_Changed (at_ (e := YElem) x0 x12).2.2 (at_ (e := (.list YAttr)) x9_2 x12)).bind fun r1 =>
       ((C_R_Changed F_R_Changed (res_R_Changed_0 r1) (at_ (e := (.list YAttr)) x8_2 x12)).bind fun r2 =>
        (if (List.length (x10 : List YElem.den) + List.length ([((at_ (e := YElem) x0 x12).1, ((at_ (e := YElem) x0 x12).2.1, (res_R_Changed_0 r2)))] : List YElem.den)) * 40 ≤ 140737488355328 then
         (L_R_Merged_0 n m1 x0 x8_0 x8_1 x8_2 x9_0 x9_1 x9_2 (x10 ++ [((at_ (e := YElem) x0 x12).1, ((at_ (e := YElem) x0 x12).2.1, (res_R_Changed_0 r2)))]) x11 (IntKind.i64.wrap (x12 + 1)))
        else none)))
     else none)
    else none)
   else none)) := by kernel_rfl
theorem ok_R_Merged : fnOk os_R_Merged sig_R_Merged Try.f73 = true := by kernel_rfl
theorem fn_R_Merged : P.funcs[73]? = some Try.f73 := by kernel_rfl
noncomputable def F_R_Merged : sig_R_Merged.Fn := fun x y => run T (env_R_Merged) os_R_Merged sig_R_Merged Try.f73 hs_R_Merged big x y
theorem S_R_Merged : Sound P 73 ⟨sig_R_Merged, F_R_Merged⟩ := sound_of (os := os_R_Merged) (hs := hs_R_Merged) (env_cons S_R_DiffAct (env_cons S_R_SameFlow (env_cons S_R_Has (env_cons S_R_Get (env_cons S_R_Changed (env_nil)))))) fn_R_Merged ok_R_Merged (fun x y out h => ⟨big, h⟩)
theorem e_R_Merged (a0 : List YElem.den) (a1 : List YElem.den) (a2 : List YElem.den) : C_R_Merged F_R_Merged a0 a1 a2 =
  ((C_R_DiffAct F_R_DiffAct a0 a1).bind fun r1 =>
   ((C_R_DiffAct F_R_DiffAct a0 a2).bind fun r2 =>
    (L_R_Merged_0 big big a0 (res_R_DiffAct_0 r1).1 (res_R_DiffAct_0 r1).2.1 (res_R_DiffAct_0 r1).2.2 (res_R_DiffAct_0 r2).1 (res_R_DiffAct_0 r2).2.1 (res_R_DiffAct_0 r2).2.2 [] [] 0))) := by kernel_rfl
def sig_R_SameConflicts : Sig := ⟨[.v false (.list YConflict), .v false (.list YConflict), .v false (.int .i64)], [], [(false, [.fr .bool])]⟩
def C_R_SameConflicts (F : sig_R_SameConflicts.Fn) (a0 : List YConflict.den) (a1 : List YConflict.den) (a2 : Int) : Option sig_R_SameConflicts.Out := F (a0, a1, a2, ()) ()
def ret_R_SameConflicts (v0 : Bool) : sig_R_SameConflicts.Out := (((v0, ()), ()), ())
def res_R_SameConflicts_0 (r : sig_R_SameConflicts.Out) : Bool := r.1.1.1
@[simp] theorem res_R_SameConflicts_0_ret (v0 : Bool) : res_R_SameConflicts_0 (ret_R_SameConflicts v0) = v0 := rfl
def os_R_SameConflicts : RegT := ⟨[(8, .st 0 (.st 1 (.st 2 (.st 3 (.st 4 (.st 5 (.nil)))))))], [], false⟩
def hs_R_SameConflicts : List Keep := [[(0, []), (1, []), (2, []), (15, []), (16, [])]]
@[reducible] noncomputable def env_R_SameConflicts : Env := []
noncomputable def L_R_SameConflicts_0 (n m1 : Nat) (x0 : List YConflict.den) (x1 : List YConflict.den) (x2 : Int) (x15 : Int) (x16 : Int) : Option sig_R_SameConflicts.Out :=
  loopAt T (env_R_SameConflicts) os_R_SameConflicts sig_R_SameConflicts Try.f74 hs_R_SameConflicts n [.sr, .sr, .sl, .sr, .bl] m1 (mk 32 [(0, .cs false [.val (.list YConflict) x0]), (1, .cs false [.val (.list YConflict) x1]), (2, .cs false [.val (.int .i64) x2]), (15, .cs false [.val (.int .i64) x15]), (16, .cs false [.val (.int .i64) x16])])
theorem L_R_SameConflicts_0_step (n m1 : Nat) (x0 : List YConflict.den) (x1 : List YConflict.den) (x2 : Int) (x15 : Int) (x16 : Int) : L_R_SameConflicts_0 n (m1 + 1) x0 x1 x2 x15 x16 =
  (bcond (decide ((x16 : Int) < x15))
   (if 0 ≤ (x16 : Int) ∧ (x16 : Int) < (List.length x1 : Int) then
    (if 0 ≤ (x16 : Int) ∧ (x16 : Int) < (List.length x0 : Int) then
     (bcond (!((((at_ (e := YConflict) x0 x16).1 : Int) == (at_ (e := YConflict) x1 x16).1) && ((((at_ (e := YConflict) x0 x16).2.1 : Int) == x2) && ((((at_ (e := YConflict) x0 x16).2.2.1 : Int) == (at_ (e := YConflict) x1 x16).2.2.1) && ((((at_ (e := YConflict) x0 x16).2.2.2.1 : Int) == (at_ (e := YConflict) x1 x16).2.2.2.1) && ((((at_ (e := YConflict) x0 x16).2.2.2.2 : List UInt8) == (at_ (e := YConflict) x1 x16).2.2.2.2) && true))))))
      (some (ret_R_SameConflicts false))
      (L_R_SameConflicts_0 n m1 x0 x1 x2 x15 (IntKind.i64.wrap (x16 + 1))))
    else none)
   else none)
   (some (ret_R_SameConflicts true))) := by kernel_rfl
theorem ok_R_SameConflicts : fnOk os_R_SameConflicts sig_R_SameConflicts Try.f74 = true := by kernel_rfl
theorem fn_R_SameConflicts : P.funcs[74]? = some Try.f74 := by kernel_rfl
noncomputable def F_R_SameConflicts : sig_R_SameConflicts.Fn := fun x y => run T (env_R_SameConflicts) os_R_SameConflicts sig_R_SameConflicts Try.f74 hs_R_SameConflicts big x y
theorem S_R_SameConflicts : Sound P 74 ⟨sig_R_SameConflicts, F_R_SameConflicts⟩ := sound_of (os := os_R_SameConflicts) (hs := hs_R_SameConflicts) (env_nil) fn_R_SameConflicts ok_R_SameConflicts (fun x y out h => ⟨big, h⟩)
theorem e_R_SameConflicts (a0 : List YConflict.den) (a1 : List YConflict.den) (a2 : Int) : C_R_SameConflicts F_R_SameConflicts a0 a1 a2 =
  (bcond (((List.length a0 : Int) : Int) != (List.length a1 : Int))
   (some (ret_R_SameConflicts false))
   (L_R_SameConflicts_0 big big a0 a1 a2 (List.length a0 : Int) 0)) := by kernel_rfl
def sig_law_merges : Sig := ⟨[], [], [(false, [.fr .bool])]⟩
def C_law_merges (F : sig_law_merges.Fn) : Option sig_law_merges.Out := F () ()
def ret_law_merges (v0 : Bool) : sig_law_merges.Out := (((v0, ()), ()), ())
def res_law_merges_0 (r : sig_law_merges.Out) : Bool := r.1.1.1
@[simp] theorem res_law_merges_0_ret (v0 : Bool) : res_law_merges_0 (ret_law_merges v0) = v0 := rfl
def os_law_merges : RegT := ⟨[], [], false⟩
def hs_law_merges : List Keep := []
@[reducible] noncomputable def env_law_merges : Env := [(75, ⟨sig_law_letters, F_law_letters⟩), (72, ⟨sig_merge_Flows, F_merge_Flows⟩), (25, ⟨sig_R_SameFlow, F_R_SameFlow⟩)]
theorem ok_law_merges : fnOk os_law_merges sig_law_merges Try.f71 = true := by kernel_rfl
theorem fn_law_merges : P.funcs[71]? = some Try.f71 := by kernel_rfl
noncomputable def F_law_merges : sig_law_merges.Fn := fun x y => run T (env_law_merges) os_law_merges sig_law_merges Try.f71 hs_law_merges big x y
theorem S_law_merges : Sound P 71 ⟨sig_law_merges, F_law_merges⟩ := sound_of (os := os_law_merges) (hs := hs_law_merges) (env_cons S_law_letters (env_cons S_merge_Flows (env_cons S_R_SameFlow (env_nil)))) fn_law_merges ok_law_merges (fun x y out h => ⟨big, h⟩)
theorem e_law_merges : C_law_merges F_law_merges =
  ((C_law_letters F_law_letters [97, 98]).bind fun r1 =>
   ((C_law_letters F_law_letters [97, 120, 98]).bind fun r2 =>
    ((C_law_letters F_law_letters [97, 121, 98]).bind fun r3 =>
     ((C_merge_Flows F_merge_Flows (res_law_letters_0 r1) (res_law_letters_0 r2) (res_law_letters_0 r3)).bind fun r4 =>
      (bcond ((((res_merge_Flows_2 r4) : Int) == 0) == true)
       ((C_law_letters F_law_letters [97, 120, 121, 98]).bind fun r5 =>
        ((C_R_SameFlow F_R_SameFlow (res_merge_Flows_0 r4) (res_law_letters_0 r5)).bind fun r6 =>
         (bcond ((res_R_SameFlow_0 r6) == true)
          (bcond ((((List.length (res_merge_Flows_1 r4) : Int) : Int) == 1) == true)
           (if 0 ≤ (0 : Int) ∧ (0 : Int) < (List.length (res_merge_Flows_1 r4) : Int) then
            (some (ret_law_merges ((((at_ (e := YConflict) (res_merge_Flows_1 r4) 0).1 : Int) == 0) && ((((at_ (e := YConflict) (res_merge_Flows_1 r4) 0).2.1 : Int) == 0) && ((((at_ (e := YConflict) (res_merge_Flows_1 r4) 0).2.2.1 : Int) == 1) && ((((at_ (e := YConflict) (res_merge_Flows_1 r4) 0).2.2.2.1 : Int) == 3) && ((((at_ (e := YConflict) (res_merge_Flows_1 r4) 0).2.2.2.2 : List UInt8) == []) && true)))))))
           else none)
           (some (ret_law_merges false)))
          (some (ret_law_merges false)))))
       (some (ret_law_merges false))))))) := by kernel_rfl
def sig_law_MergeFlowsMatch : Sig := ⟨[.v false (.list YElem), .v false (.list YElem), .v false (.list YElem)], [], [(false, [.fr .bool])]⟩
def C_law_MergeFlowsMatch (F : sig_law_MergeFlowsMatch.Fn) (a0 : List YElem.den) (a1 : List YElem.den) (a2 : List YElem.den) : Option sig_law_MergeFlowsMatch.Out := F (a0, a1, a2, ()) ()
def ret_law_MergeFlowsMatch (v0 : Bool) : sig_law_MergeFlowsMatch.Out := (((v0, ()), ()), ())
def os_law_MergeFlowsMatch : RegT := ⟨[], [], false⟩
def hs_law_MergeFlowsMatch : List Keep := [[(0, []), (1, []), (2, []), (7, []), (8, []), (9, []), (43, []), (44, [])]]
@[reducible] noncomputable def env_law_MergeFlowsMatch : Env := [(71, ⟨sig_law_merges, F_law_merges⟩), (72, ⟨sig_merge_Flows, F_merge_Flows⟩), (37, ⟨sig_R_PartError, F_R_PartError⟩), (73, ⟨sig_R_Merged, F_R_Merged⟩), (25, ⟨sig_R_SameFlow, F_R_SameFlow⟩), (74, ⟨sig_R_SameConflicts, F_R_SameConflicts⟩)]
noncomputable def L_law_MergeFlowsMatch_0 (n m1 : Nat) (x0 : List YElem.den) (x1 : List YElem.den) (x2 : List YElem.den) (x7 : List YElem.den) (x8 : List YConflict.den) (x9 : Int) (x43_0 : List YElem.den) (x43_1 : List YElem.den) (x43_2 : List YElem.den) (x44 : Int) : Option sig_law_MergeFlowsMatch.Out :=
  loopAt T (env_law_MergeFlowsMatch) os_law_MergeFlowsMatch sig_law_MergeFlowsMatch Try.f14 hs_law_MergeFlowsMatch n [.sr, .sr, .sr, .sr, .sr, .sr, .sl, .sr, .bl] m1 (mk 82 [(0, .cs false [.val (.list YElem) x0]), (1, .cs false [.val (.list YElem) x1]), (2, .cs false [.val (.list YElem) x2]), (7, .cs false [.val (.list YElem) x7]), (8, .cs false [.val (.list YConflict) x8]), (9, .cs false [.val (.int .i64) x9]), (43, .cs true [.val (.list YElem) x43_0, .val (.list YElem) x43_1, .val (.list YElem) x43_2]), (44, .cs false [.val (.int .i64) x44])])
noncomputable def J_law_MergeFlowsMatch_0 (n : Nat) (y0 : List YElem.den) (y1 : List YElem.den) (y2 : List YElem.den) : Option sig_law_MergeFlowsMatch.Out :=
  (bcond (decide (((List.length y1 : Int) : Int) > 8))
   (if 0 ≤ (8 : Int) ∧ (8 : Int) ≤ (List.length y1 : Int) ∧ 0 ≤ (0 : Int) ∧ (0 : Int) ≤ 8 then
    (bcond (decide (((List.length y2 : Int) : Int) > 8))
     (if 0 ≤ (8 : Int) ∧ (8 : Int) ≤ (List.length y2 : Int) ∧ 0 ≤ (0 : Int) ∧ (0 : Int) ≤ 8 then
      ((C_merge_Flows F_merge_Flows y0 (List.drop (Int.toNat 0) (List.take (Int.toNat 8) y1)) (List.drop (Int.toNat 0) (List.take (Int.toNat 8) y2))).bind fun r2 =>
       (L_law_MergeFlowsMatch_0 n n y0 (List.drop (Int.toNat 0) (List.take (Int.toNat 8) y1)) (List.drop (Int.toNat 0) (List.take (Int.toNat 8) y2)) (res_merge_Flows_0 r2) (res_merge_Flows_1 r2) (res_merge_Flows_2 r2) y0 (List.drop (Int.toNat 0) (List.take (Int.toNat 8) y1)) (List.drop (Int.toNat 0) (List.take (Int.toNat 8) y2)) 0))
     else none)
     ((C_merge_Flows F_merge_Flows y0 (List.drop (Int.toNat 0) (List.take (Int.toNat 8) y1)) y2).bind fun r2 =>
      (L_law_MergeFlowsMatch_0 n n y0 (List.drop (Int.toNat 0) (List.take (Int.toNat 8) y1)) y2 (res_merge_Flows_0 r2) (res_merge_Flows_1 r2) (res_merge_Flows_2 r2) y0 (List.drop (Int.toNat 0) (List.take (Int.toNat 8) y1)) y2 0)))
   else none)
   (bcond (decide (((List.length y2 : Int) : Int) > 8))
    (if 0 ≤ (8 : Int) ∧ (8 : Int) ≤ (List.length y2 : Int) ∧ 0 ≤ (0 : Int) ∧ (0 : Int) ≤ 8 then
     ((C_merge_Flows F_merge_Flows y0 y1 (List.drop (Int.toNat 0) (List.take (Int.toNat 8) y2))).bind fun r2 =>
      (L_law_MergeFlowsMatch_0 n n y0 y1 (List.drop (Int.toNat 0) (List.take (Int.toNat 8) y2)) (res_merge_Flows_0 r2) (res_merge_Flows_1 r2) (res_merge_Flows_2 r2) y0 y1 (List.drop (Int.toNat 0) (List.take (Int.toNat 8) y2)) 0))
    else none)
    ((C_merge_Flows F_merge_Flows y0 y1 y2).bind fun r2 =>
     (L_law_MergeFlowsMatch_0 n n y0 y1 y2 (res_merge_Flows_0 r2) (res_merge_Flows_1 r2) (res_merge_Flows_2 r2) y0 y1 y2 0))))
theorem L_law_MergeFlowsMatch_0_step (n m1 : Nat) (x0 : List YElem.den) (x1 : List YElem.den) (x2 : List YElem.den) (x7 : List YElem.den) (x8 : List YConflict.den) (x9 : Int) (x43_0 : List YElem.den) (x43_1 : List YElem.den) (x43_2 : List YElem.den) (x44 : Int) : L_law_MergeFlowsMatch_0 n (m1 + 1) x0 x1 x2 x7 x8 x9 x43_0 x43_1 x43_2 x44 =
  (bcond (decide ((x44 : Int) < 3))
   (if 0 ≤ (x44 : Int) ∧ (x44 : Int) < 3 then
    ((C_R_PartError F_R_PartError (at_ (e := (.list YElem)) [x43_0, x43_1, x43_2] x44)).bind fun r1 =>
     (bcond (((res_R_PartError_0 r1) : Int) != 0)
      (bcond (((x9 : Int) == (res_R_PartError_0 r1)) == true)
       (some (ret_law_MergeFlowsMatch (((IntKind.i64.wrap ((List.length x7 : Int) + (List.length x8 : Int))) : Int) == 0)))
       (some (ret_law_MergeFlowsMatch false)))
      (L_law_MergeFlowsMatch_0 n m1 x0 x1 x2 x7 x8 x9 x43_0 x43_1 x43_2 (IntKind.i64.wrap (x44 + 1)))))
   else none)
   ((C_R_Merged F_R_Merged x0 x1 x2).bind fun r1 =>
    (bcond (((x9 : Int) == 0) == true)
     ((C_R_SameFlow F_R_SameFlow x7 (res_R_Merged_0 r1)).bind fun r2 =>
      (bcond ((res_R_SameFlow_0 r2) == true)
       ((C_R_SameConflicts F_R_SameConflicts x8 (res_R_Merged_1 r1) 0).bind fun r3 =>
        (some (ret_law_MergeFlowsMatch (res_R_SameConflicts_0 r3))))
       (some (ret_law_MergeFlowsMatch false))))
     (some (ret_law_MergeFlowsMatch false))))) := by kernel_rfl
theorem ok_law_MergeFlowsMatch : fnOk os_law_MergeFlowsMatch sig_law_MergeFlowsMatch Try.f14 = true := by kernel_rfl
theorem fn_law_MergeFlowsMatch : P.funcs[14]? = some Try.f14 := by kernel_rfl
noncomputable def F_law_MergeFlowsMatch : sig_law_MergeFlowsMatch.Fn := fun x y => run T (env_law_MergeFlowsMatch) os_law_MergeFlowsMatch sig_law_MergeFlowsMatch Try.f14 hs_law_MergeFlowsMatch big x y
theorem S_law_MergeFlowsMatch : Sound P 14 ⟨sig_law_MergeFlowsMatch, F_law_MergeFlowsMatch⟩ := sound_of (os := os_law_MergeFlowsMatch) (hs := hs_law_MergeFlowsMatch) (env_cons S_law_merges (env_cons S_merge_Flows (env_cons S_R_PartError (env_cons S_R_Merged (env_cons S_R_SameFlow (env_cons S_R_SameConflicts (env_nil))))))) fn_law_MergeFlowsMatch ok_law_MergeFlowsMatch (fun x y out h => ⟨big, h⟩)
theorem e_law_MergeFlowsMatch (a0 : List YElem.den) (a1 : List YElem.den) (a2 : List YElem.den) : C_law_MergeFlowsMatch F_law_MergeFlowsMatch a0 a1 a2 =
  ((C_law_merges F_law_merges ).bind fun r1 =>
   (bcond (!(res_law_merges_0 r1))
    (some (ret_law_MergeFlowsMatch false))
    (bcond (decide (((List.length a0 : Int) : Int) > 8))
     (if 0 ≤ (8 : Int) ∧ (8 : Int) ≤ (List.length a0 : Int) ∧ 0 ≤ (0 : Int) ∧ (0 : Int) ≤ 8 then
      (J_law_MergeFlowsMatch_0 big (List.drop (Int.toNat 0) (List.take (Int.toNat 8) a0)) a1 a2)
     else none)
     (J_law_MergeFlowsMatch_0 big a0 a1 a2)))) := by kernel_rfl
end Go.Ev
