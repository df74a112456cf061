/- Functions, step by step. -/
import Derived.Test.YtpmeeopafdgbpaaDoorGAxis
import Derived.Test.YtpmeeopafdgbpaaDoorGFlow
namespace Go.Ev
set_option linter.unusedVariables false
set_option maxRecDepth 100000
open Go.Proofs
def sig_axis_Hull : Sig := ⟨[.v false (.list YSpan), .v false (.int .i64), .v false (.int .i64)], [], [(false, [.fr (.int .i64)]), (false, [.fr (.int .i64)])]⟩
def C_axis_Hull (F : sig_axis_Hull.Fn) (a0 : List YSpan.den) (a1 : Int) (a2 : Int) : Option sig_axis_Hull.Out := F (a0, a1, a2, ()) ()
def ret_axis_Hull (v0 : Int) (v1 : Int) : sig_axis_Hull.Out := (((v0, ()), (v1, ()), ()), ())
def res_axis_Hull_0 (r : sig_axis_Hull.Out) : Int := r.1.1.1
@[simp] theorem res_axis_Hull_0_ret (v0 : Int) (v1 : Int) : res_axis_Hull_0 (ret_axis_Hull v0 v1) = v0 := rfl
def res_axis_Hull_1 (r : sig_axis_Hull.Out) : Int := r.1.2.1.1
@[simp] theorem res_axis_Hull_1_ret (v0 : Int) (v1 : Int) : res_axis_Hull_1 (ret_axis_Hull v0 v1) = v1 := rfl
def os_axis_Hull : RegT := ⟨[(5, .st 0 (.st 1 (.st 2 (.st 3 (.st 4 (.st 5 (.st 9 (.st 6 (.st 7 (.st 8 (.st 10 (.nil))))))))))))], [], false⟩
def hs_axis_Hull : List Keep := [[(1, []), (2, []), (8, []), (9, []), (10, []), (11, []), (16, []), (17, []), (18, [])]]
@[reducible] noncomputable def env_axis_Hull : Env := []
noncomputable def L_axis_Hull_0 (n m1 : Nat) (x1 : Int) (x2 : Int) (x8 : Int) (x9 : Int) (x10 : Int) (x11 : Int) (x16 : List YSpan.den) (x17 : Int) (x18 : Int) : Option sig_axis_Hull.Out :=
  loopAt T (env_axis_Hull) os_axis_Hull sig_axis_Hull Tryd.f75 hs_axis_Hull n [.sr, .sr, .sl, .sr, .bl] m1 (mk 68 [(1, .cs false [.val (.int .i64) x1]), (2, .cs false [.val (.int .i64) x2]), (8, .cs false [.val (.int .i64) x8]), (9, .cs false [.val (.int .i64) x9]), (10, .cs false [.val (.int .i64) x10]), (11, .cs false [.val (.int .i64) x11]), (16, .cs false [.val (.list YSpan) x16]), (17, .cs false [.val (.int .i64) x17]), (18, .cs false [.val (.int .i64) x18])])
noncomputable def J_axis_Hull_0 (n m1 : Nat) (y1 : Int) (y2 : Int) (y8 : Int) (y9 : Int) (y10 : Int) (y11 : Int) (y13 : YSpan.den) (y16 : List YSpan.den) (y17 : Int) (y18 : Int) : Option sig_axis_Hull.Out :=
  (bcond ((y13.1 : Int) != 2)
   (bcond ((y13.1 : Int) != 1)
    (L_axis_Hull_0 n m1 y1 y2 y8 y9 (IntKind.i64.wrap (y10 + y13.2)) (IntKind.i64.wrap (y11 + y13.2)) y16 y17 (IntKind.i64.wrap (y18 + 1)))
    (L_axis_Hull_0 n m1 y1 y2 y8 y9 y10 (IntKind.i64.wrap (y11 + y13.2)) y16 y17 (IntKind.i64.wrap (y18 + 1))))
   (bcond ((y13.1 : Int) != 1)
    (L_axis_Hull_0 n m1 y1 y2 y8 y9 (IntKind.i64.wrap (y10 + y13.2)) y11 y16 y17 (IntKind.i64.wrap (y18 + 1)))
    (L_axis_Hull_0 n m1 y1 y2 y8 y9 y10 y11 y16 y17 (IntKind.i64.wrap (y18 + 1)))))
theorem L_axis_Hull_0_step (n m1 : Nat) (x1 : Int) (x2 : Int) (x8 : Int) (x9 : Int) (x10 : Int) (x11 : Int) (x16 : List YSpan.den) (x17 : Int) (x18 : Int) : L_axis_Hull_0 n (m1 + 1) x1 x2 x8 x9 x10 x11 x16 x17 x18 =
  (bcond (decide ((x18 : Int) < x17))
   (if 0 ≤ (x18 : Int) ∧ (x18 : Int) < (List.length x16 : Int) then
    (bcond ((((at_ (e := YSpan) x16 x18).1 : Int) == 0) == true)
     (bcond (decide (((if (x10 : Int) > x1 then x10 else x1) : Int) < (if ((IntKind.i64.wrap (x10 + (at_ (e := YSpan) x16 x18).2)) : Int) < x2 then (IntKind.i64.wrap (x10 + (at_ (e := YSpan) x16 x18).2)) else x2)))
      (bcond ((x9 : Int) == 0)
       (J_axis_Hull_0 n m1 x1 x2 (IntKind.i64.wrap ((IntKind.i64.wrap (x11 + (if (x10 : Int) > x1 then x10 else x1))) - x10)) (IntKind.i64.wrap ((IntKind.i64.wrap (x11 + (if ((IntKind.i64.wrap (x10 + (at_ (e := YSpan) x16 x18).2)) : Int) < x2 then (IntKind.i64.wrap (x10 + (at_ (e := YSpan) x16 x18).2)) else x2))) - x10)) x10 x11 (at_ (e := YSpan) x16 x18) x16 x17 x18)
       (J_axis_Hull_0 n m1 x1 x2 x8 (IntKind.i64.wrap ((IntKind.i64.wrap (x11 + (if ((IntKind.i64.wrap (x10 + (at_ (e := YSpan) x16 x18).2)) : Int) < x2 then (IntKind.i64.wrap (x10 + (at_ (e := YSpan) x16 x18).2)) else x2))) - x10)) x10 x11 (at_ (e := YSpan) x16 x18) x16 x17 x18))
      (J_axis_Hull_0 n m1 x1 x2 x8 x9 x10 x11 (at_ (e := YSpan) x16 x18) x16 x17 x18))
     (J_axis_Hull_0 n m1 x1 x2 x8 x9 x10 x11 (at_ (e := YSpan) x16 x18) x16 x17 x18))
   else none)
   (some (ret_axis_Hull x8 x9))) := by kernel_rfl
theorem ok_axis_Hull : fnOk os_axis_Hull sig_axis_Hull Tryd.f75 = true := by kernel_rfl
theorem fn_axis_Hull : P.funcs[75]? = some Tryd.f75 := by kernel_rfl
noncomputable def F_axis_Hull : sig_axis_Hull.Fn := fun x y => run T (env_axis_Hull) os_axis_Hull sig_axis_Hull Tryd.f75 hs_axis_Hull big x y
theorem S_axis_Hull : Sound P 75 ⟨sig_axis_Hull, F_axis_Hull⟩ := sound_of (os := os_axis_Hull) (hs := hs_axis_Hull) (env_nil) fn_axis_Hull ok_axis_Hull (fun x y out h => ⟨big, h⟩)
theorem e_axis_Hull (a0 : List YSpan.den) (a1 : Int) (a2 : Int) : C_axis_Hull F_axis_Hull a0 a1 a2 =
  (L_axis_Hull_0 big big a1 a2 0 0 0 0 a0 (List.length a0 : Int) 0) := by kernel_rfl
end Go.Ev
