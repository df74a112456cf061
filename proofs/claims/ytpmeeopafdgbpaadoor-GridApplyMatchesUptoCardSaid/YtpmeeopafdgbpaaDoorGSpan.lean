/- Functions, step by step. -/
import Derived.Test.YtpmeeopafdgbpaaDoorGAxis
import Derived.Test.YtpmeeopafdgbpaaDoorGFlow
namespace Go.Ev
set_option linter.unusedVariables false
set_option maxRecDepth 100000
open Go.Proofs
def sig_axis_Hull : Sig := ⟨[.v false (.list YSpan), .v false (.int .i64), .v false (.int .i64)], [], [(false, [.fr (.int .i64)]), (false, [.fr (.int .i64)])]⟩
def C_axis_Hull (F : sig_axis_Hull.Fn) (a0 : List YSpan.den) (a1 : Int) (a2 : Int) : Option sig_axis_Hull.Out := F (a0, a1, a2, ()) ()
def ret_axis_Hull (v0 : Int) (v1 : Int) : sig_axis_Hull.Out := (((v0, ()), (v1, ()), ()), ())
def res_axis_Hull_0 (r : sig_axis_Hull.Out) : Int := r.1.1.1
@[simp] theorem res_axis_Hull_0_ret (v0 : Int) (v1 : Int) : res_axis_Hull_0 (ret_axis_Hull v0 v1) = v0 := rfl
def res_axis_Hull_1 (r : sig_axis_Hull.Out) : Int := r.1.2.1.1
@[simp] theorem res_axis_Hull_1_ret (v0 : Int) (v1 : Int) : res_axis_Hull_1 (ret_axis_Hull v0 v1) = v1 := rfl
def os_axis_Hull : RegT := ⟨[(5, .st 0 (.st 1 (.st 2 (.st 3 (.st 4 (.st 5 (.st 9 (.st 6 (.st 7 (.st 8 (.st 10 (.nil))))))))))))], [], false⟩
def hs_axis_Hull : List Keep := [[(1, []), (2, []), (8, []), (9, []), (10, []), (11, []), (16, []), (17, []), (18, [])]]
@[reducible] noncomputable def env_axis_Hull : Env := []
noncomputable def L_axis_Hull_0 (n m1 : Nat) (x1 : Int) (x2 : Int) (x8 : Int) (x9 : Int) (x10 : Int) (x11 : Int) (x16 : List YSpan.den) (x17 : Int) (x18 : Int) : Option sig_axis_Hull.Out :=
  loopAt T (env_axis_Hull) os_axis_Hull sig_axis_Hull Tryd.f75 hs_axis_Hull n [.sr, .sr, .sl, .sr, .bl] m1 (mk 68 [(1, .cs false [.val (.int .i64) x1]), (2, .cs false [.val (.int .i64) x2]), (8, .cs false [.val (.int .i64) x8]), (9, .cs false [.val (.int .i64) x9]), (10, .cs false [.val (.int .i64) x10]), (11, .cs false [.val (.int .i64) x11]), (16, .cs false [.val (.list YSpan) x16]), (17, .cs false [.val (.int .i64) x17]), (18, .cs false [.val (.int .i64) x18])])
noncomputable def J_axis_Hull_0 (n m1 : Nat) (y1 : Int) (y2 : Int) (y8 : Int) (y9 : Int) (y10 : Int) (y11 : Int) (y13 : YSpan.den) (y16 : List YSpan.den) (y17 : Int) (y18 : Int) : Option sig_axis_Hull.Out :=
  (bcond ((y13.1 : Int) != 2)
   (bcond ((y13.1 : Int) != 1)
    (L_axis_Hull_0 n m1 y1 y2 y8 y9 (IntKind.i64.wrap (y10 + y13.2)) (IntKind.i64.wrap (y11 + y13.2)) y16 y17 (IntKind.i64.wrap (y18 + 1)))
    (L_axis_Hull_0 n m1 y1 y2 y8 y9 y10 (IntKind.i64.wrap (y11 + y13.2)) y16 y17 (IntKind.i64.wrap (y18 + 1))))
   (bcond ((y13.1 : Int) != 1)
    (L_axis_Hull_0 n m1 y1 y2 y8 y9 (IntKind.i64.wrap (y10 + y13.2)) y11 y16 y17 (IntKind.i64.wrap (y18 + 1)))
    (L_axis_Hull_0 n m1 y1 y2 y8 y9 y10 y11 y16 y17 (IntKind.i64.wrap (y18 + 1)))))
theorem L_axis_Hull_0_step (n m1 : Nat) (x1 : Int) (x2 : Int) (x8 : Int) (x9 : Int) (x10 : Int) (x11 : Int) (x16 : List YSpan.den) (x17 : Int) (x18 : Int) : L_axis_Hull_0 n (m1 + 1) x1 x2 x8 x9 x10 x11 x16 x17 x18 =
  (bcond (decide ((x18 : Int) < x17))
   (if 0 ≤ (x18 : Int) ∧ (x18 : Int) < (List.length x16 : Int) then
    (bcond ((((at_ (e := YSpan) x16 x18).1 : Int) == 0) == true)
     (bcond (decide (((if (x10 : Int) > x1 then x10 else x1) : Int) < (if ((IntKind.i64.wrap (x10 + (at_ (e := YSpan) x16 x18).2)) : Int) < x2 then (IntKind.i64.wrap (x10 + (at_ (e := YSpan) x16 x18).2)) else x2)))
      (bcond ((x9 : Int) == 0)
       (J_axis_Hull_0 n m1 x1 x2 (IntKind.i64.wrap ((IntKind.i64.wrap (x11 + (if (x10 : Int) > x1 then x10 else x1))) - x10)) (IntKind.i64.wrap ((IntKind.i64.wrap (x11 + (if ((IntKind.i64.wrap (x10 + (at_ (e := YSpan) x16 x18).2)) : Int) < x2 then (IntKind.i64.wrap (x10 + (at_ (e := YSpan) x16 x18).2)) else x2))) - x10)) x10 x11 (at_ (e := YSpan) x16 x18) x16 x17 x18)
       (J_axis_Hull_0 n m1 x1 x2 x8 (IntKind.i64.wrap ((IntKind.i64.wrap (x11 + (if ((IntKind.i64.wrap (x10 + (at_ (e := YSpan) x16 x18).2)) : Int) < x2 then (IntKind.i64.wrap (x10 + (at_ (e := YSpan) x16 x18).2)) else x2))) - x10)) x10 x11 (at_ (e := YSpan) x16 x18) x16 x17 x18))
      (J_axis_Hull_0 n m1 x1 x2 x8 x9 x10 x11 (at_ (e := YSpan) x16 x18) x16 x17 x18))
     (J_axis_Hull_0 n m1 x1 x2 x8 x9 x10 x11 (at_ (e := YSpan) x16 x18) x16 x17 x18))
   else none)
   (some (ret_axis_Hull x8 x9))) := by kernel_rfl
theorem ok_axis_Hull : fnOk os_axis_Hull sig_axis_Hull Tryd.f75 = true := by kernel_rfl
theorem fn_axis_Hull : P.funcs[75]? = some Tryd.f75 := by kernel_rfl
noncomputable def F_axis_Hull : sig_axis_Hull.Fn := fun x y => run T (env_axis_Hull) os_axis_Hull sig_axis_Hull Tryd.f75 hs_axis_Hull big x y
theorem S_axis_Hull : Sound P 75 ⟨sig_axis_Hull, F_axis_Hull⟩ := sound_of (os := os_axis_Hull) (hs := hs_axis_Hull) (env_nil) fn_axis_Hull ok_axis_Hull (fun x y out h => ⟨big, h⟩)
theorem e_axis_Hull (a0 : List YSpan.den) (a1 : Int) (a2 : Int) : C_axis_Hull F_axis_Hull a0 a1 a2 =
  (L_axis_Hull_0 big big a1 a2 0 0 0 0 a0 (List.length a0 : Int) 0) := by kernel_rfl
def sig_R_Units : Sig := ⟨[.v false (.list YSpan)], [], [(false, [.fr (.list (.int .i64))])]⟩
def C_R_Units (F : sig_R_Units.Fn) (a0 : List YSpan.den) : Option sig_R_Units.Out := F (a0, ()) ()
def ret_R_Units (v0 : List (Int)) : sig_R_Units.Out := (((v0, ()), ()), ())
def res_R_Units_0 (r : sig_R_Units.Out) : List (Int) := r.1.1.1
@[simp] theorem res_R_Units_0_ret (v0 : List (Int)) : res_R_Units_0 (ret_R_Units v0) = v0 := rfl
def os_R_Units : RegT := ⟨[], [], false⟩
def hs_R_Units : List Keep := [[(0, []), (3, [(0, 3, (.int .i64))]), (6, []), (7, [])], [(0, []), (3, [(0, 3, (.int .i64))]), (4, []), (6, []), (7, []), (14, []), (15, [])]]
@[reducible] noncomputable def env_R_Units : Env := []
noncomputable def L_R_Units_0 (n m1 : Nat) (x0 : List YSpan.den) (x3 : List (Int)) (x6 : Int) (x7 : Int) : Option sig_R_Units.Out :=
  loopAt T (env_R_Units) os_R_Units sig_R_Units Tryd.f64 hs_R_Units n [.sr, .sr, .sl, .sr, .bl] m1 (mk 28 [(0, .cs false [.val (.list YSpan) x0]), (3, .cs false [.own 3 (.int .i64) x3]), (6, .cs false [.val (.int .i64) x6]), (7, .cs false [.val (.int .i64) x7])])
noncomputable def L_R_Units_1 (n m1 m2 : Nat) (x0 : List YSpan.den) (x3 : List (Int)) (x4 : Int) (x6 : Int) (x7 : Int) (x14 : Int) (x15 : Int) : Option sig_R_Units.Out :=
  loopAt T (env_R_Units) os_R_Units sig_R_Units Tryd.f64 hs_R_Units n [.sr, .sr, .sl, .sr, .bl, .lp m1, .sr, .sr, .sl, .bl, .sr, .sr, .bl] m2 (mk 28 [(0, .cs false [.val (.list YSpan) x0]), (3, .cs false [.own 3 (.int .i64) x3]), (4, .cs false [.val (.int .i64) x4]), (6, .cs false [.val (.int .i64) x6]), (7, .cs false [.val (.int .i64) x7]), (14, .cs false [.val (.int .i64) x14]), (15, .cs false [.val (.int .i64) x15])])
theorem L_R_Units_0_step (n m1 : Nat) (x0 : List YSpan.den) (x3 : List (Int)) (x6 : Int) (x7 : Int) : L_R_Units_0 n (m1 + 1) x0 x3 x6 x7 =
  (bcond (decide ((x7 : Int) < x6))
   (if 0 ≤ (x7 : Int) ∧ (x7 : Int) < (List.length x0 : Int) then
    (L_R_Units_1 n m1 n x0 x3 x7 x6 x7 (at_ (e := YSpan) x0 x7).2 0)
   else none)
   (some (ret_R_Units x3))) := by kernel_rfl
theorem L_R_Units_1_step (n m1 m2 : Nat) (x0 : List YSpan.den) (x3 : List (Int)) (x4 : Int) (x6 : Int) (x7 : Int) (x14 : Int) (x15 : Int) : L_R_Units_1 n m1 (m2 + 1) x0 x3 x4 x6 x7 x14 x15 =
  (bcond (decide ((x15 : Int) < x14))
   (if 0 ≤ (x4 : Int) ∧ (x4 : Int) < (List.length x0 : Int) then
    (if (List.length (x3 : List Int) + List.length ([(at_ (e := YSpan) x0 x4).1] : List Int)) * 8 ≤ 140737488355328 then
     (L_R_Units_1 n m1 m2 x0 (x3 ++ [(at_ (e := YSpan) x0 x4).1]) x4 x6 x7 x14 (IntKind.i64.wrap (x15 + 1)))
    else none)
   else none)
   (L_R_Units_0 n m1 x0 x3 x6 (IntKind.i64.wrap (x7 + 1)))) := by kernel_rfl
theorem ok_R_Units : fnOk os_R_Units sig_R_Units Tryd.f64 = true := by kernel_rfl
theorem fn_R_Units : P.funcs[64]? = some Tryd.f64 := by kernel_rfl
noncomputable def F_R_Units : sig_R_Units.Fn := fun x y => run T (env_R_Units) os_R_Units sig_R_Units Tryd.f64 hs_R_Units big x y
theorem S_R_Units : Sound P 64 ⟨sig_R_Units, F_R_Units⟩ := sound_of (os := os_R_Units) (hs := hs_R_Units) (env_nil) fn_R_Units ok_R_Units (fun x y out h => ⟨big, h⟩)
theorem e_R_Units (a0 : List YSpan.den) : C_R_Units F_R_Units a0 =
  (L_R_Units_0 big big a0 [] (List.length a0 : Int) 0) := by kernel_rfl
def sig_R_Olds : Sig := ⟨[.v false (.list (.int .i64))], [], [(false, [.fr (.list (.int .i64))]), (false, [.fr (.list (.int .i64))])]⟩
def C_R_Olds (F : sig_R_Olds.Fn) (a0 : List (Int)) : Option sig_R_Olds.Out := F (a0, ()) ()
def ret_R_Olds (v0 : List (Int)) (v1 : List (Int)) : sig_R_Olds.Out := (((v0, ()), (v1, ()), ()), ())
def res_R_Olds_0 (r : sig_R_Olds.Out) : List (Int) := r.1.1.1
@[simp] theorem res_R_Olds_0_ret (v0 : List (Int)) (v1 : List (Int)) : res_R_Olds_0 (ret_R_Olds v0 v1) = v0 := rfl
def os_R_Olds : RegT := ⟨[], [], false⟩
def hs_R_Olds : List Keep := [[(0, []), (4, [(0, 3, (.int .i64))]), (5, [(0, 3, (.int .i64))]), (6, []), (9, []), (10, [])]]
@[reducible] noncomputable def env_R_Olds : Env := []
noncomputable def L_R_Olds_0 (n m1 : Nat) (x0 : List (Int)) (x4 : List (Int)) (x5 : List (Int)) (x6 : Int) (x9 : Int) (x10 : Int) : Option sig_R_Olds.Out :=
  loopAt T (env_R_Olds) os_R_Olds sig_R_Olds Tryd.f34 hs_R_Olds n [.sr, .sr, .sr, .sl, .sr, .bl] m1 (mk 43 [(0, .cs false [.val (.list (.int .i64)) x0]), (4, .cs false [.own 3 (.int .i64) x4]), (5, .cs false [.own 3 (.int .i64) x5]), (6, .cs false [.val (.int .i64) x6]), (9, .cs false [.val (.int .i64) x9]), (10, .cs false [.val (.int .i64) x10])])
theorem L_R_Olds_0_step (n m1 : Nat) (x0 : List (Int)) (x4 : List (Int)) (x5 : List (Int)) (x6 : Int) (x9 : Int) (x10 : Int) : L_R_Olds_0 n (m1 + 1) x0 x4 x5 x6 x9 x10 =
  (bcond (decide ((x10 : Int) < x9))
   (if 0 ≤ (x10 : Int) ∧ (x10 : Int) < (List.length x0 : Int) then
    (bcond (((at_ (e := (.int .i64)) x0 x10) : Int) == 0)
     (if (List.length (x4 : List Int) + List.length ([x6] : List Int)) * 8 ≤ 140737488355328 then
      (if (List.length (x5 : List Int) + List.length ([x6] : List Int)) * 8 ≤ 140737488355328 then
       (L_R_Olds_0 n m1 x0 (x4 ++ [x6]) (x5 ++ [x6]) (IntKind.i64.wrap (x6 + 1)) x9 (IntKind.i64.wrap (x10 + 1)))
      else none)
     else none)
     (bcond (((at_ (e := (.int .i64)) x0 x10) : Int) == 1)
      (if (List.length (x4 : List Int) + List.length ([(-1)] : List Int)) * 8 ≤ 140737488355328 then
       (if (List.length (x5 : List Int) + List.length ([x6] : List Int)) * 8 ≤ 140737488355328 then
        (L_R_Olds_0 n m1 x0 (x4 ++ [(-1)]) (x5 ++ [x6]) x6 x9 (IntKind.i64.wrap (x10 + 1)))
       else none)
      else none)
      (L_R_Olds_0 n m1 x0 x4 x5 (IntKind.i64.wrap (x6 + 1)) x9 (IntKind.i64.wrap (x10 + 1)))))
   else none)
   (some (ret_R_Olds x4 x5))) := by kernel_rfl
theorem ok_R_Olds : fnOk os_R_Olds sig_R_Olds Tryd.f34 = true := by kernel_rfl
theorem fn_R_Olds : P.funcs[34]? = some Tryd.f34 := by kernel_rfl
noncomputable def F_R_Olds : sig_R_Olds.Fn := fun x y => run T (env_R_Olds) os_R_Olds sig_R_Olds Tryd.f34 hs_R_Olds big x y
theorem S_R_Olds : Sound P 34 ⟨sig_R_Olds, F_R_Olds⟩ := sound_of (os := os_R_Olds) (hs := hs_R_Olds) (env_nil) fn_R_Olds ok_R_Olds (fun x y out h => ⟨big, h⟩)
theorem e_R_Olds (a0 : List (Int)) : C_R_Olds F_R_Olds a0 =
  (L_R_Olds_0 big big a0 [] [] 0 (List.length a0 : Int) 0) := by kernel_rfl
def sig_R_Where : Sig := ⟨[.v false (.list (.int .i64)), .v false (.int .i64)], [], [(false, [.fr (.int .i64)])]⟩
def C_R_Where (F : sig_R_Where.Fn) (a0 : List (Int)) (a1 : Int) : Option sig_R_Where.Out := F (a0, a1, ()) ()
def ret_R_Where (v0 : Int) : sig_R_Where.Out := (((v0, ()), ()), ())
def res_R_Where_0 (r : sig_R_Where.Out) : Int := r.1.1.1
@[simp] theorem res_R_Where_0_ret (v0 : Int) : res_R_Where_0 (ret_R_Where v0) = v0 := rfl
def os_R_Where : RegT := ⟨[], [], false⟩
def hs_R_Where : List Keep := [[(1, []), (5, []), (14, []), (15, [])]]
@[reducible] noncomputable def env_R_Where : Env := [(34, ⟨sig_R_Olds, F_R_Olds⟩)]
noncomputable def L_R_Where_0 (n m1 : Nat) (x1 : Int) (x5 : List (Int)) (x14 : Int) (x15 : Int) : Option sig_R_Where.Out :=
  loopAt T (env_R_Where) os_R_Where sig_R_Where Tryd.f82 hs_R_Where n [.sr, .sr, .sl, .sr, .bl] m1 (mk 26 [(1, .cs false [.val (.int .i64) x1]), (5, .cs false [.val (.list (.int .i64)) x5]), (14, .cs false [.val (.int .i64) x14]), (15, .cs false [.val (.int .i64) x15])])
theorem L_R_Where_0_step (n m1 : Nat) (x1 : Int) (x5 : List (Int)) (x14 : Int) (x15 : Int) : L_R_Where_0 n (m1 + 1) x1 x5 x14 x15 =
  (bcond (decide ((x15 : Int) < x14))
   (if 0 ≤ (x15 : Int) ∧ (x15 : Int) < (List.length x5 : Int) then
    (bcond (((at_ (e := (.int .i64)) x5 x15) : Int) == x1)
     (some (ret_R_Where x15))
     (L_R_Where_0 n m1 x1 x5 x14 (IntKind.i64.wrap (x15 + 1))))
   else none)
   (some (ret_R_Where (-1)))) := by kernel_rfl
theorem ok_R_Where : fnOk os_R_Where sig_R_Where Tryd.f82 = true := by kernel_rfl
theorem fn_R_Where : P.funcs[82]? = some Tryd.f82 := by kernel_rfl
noncomputable def F_R_Where : sig_R_Where.Fn := fun x y => run T (env_R_Where) os_R_Where sig_R_Where Tryd.f82 hs_R_Where big x y
theorem S_R_Where : Sound P 82 ⟨sig_R_Where, F_R_Where⟩ := sound_of (os := os_R_Where) (hs := hs_R_Where) (env_cons S_R_Olds (env_nil)) fn_R_Where ok_R_Where (fun x y out h => ⟨big, h⟩)
theorem e_R_Where (a0 : List (Int)) (a1 : Int) : C_R_Where F_R_Where a0 a1 =
  ((C_R_Olds F_R_Olds a0).bind fun r1 =>
   (L_R_Where_0 big big a1 (res_R_Olds_0 r1) (List.length (res_R_Olds_0 r1) : Int) 0)) := by kernel_rfl
def sig_R_RestOf : Sig := ⟨[.v false (.list (.int .i64)), .v false (.int .i64), .v false (.int .i64)], [], [(false, [.fr (.int .i64)]), (false, [.fr (.int .i64)])]⟩
def C_R_RestOf (F : sig_R_RestOf.Fn) (a0 : List (Int)) (a1 : Int) (a2 : Int) : Option sig_R_RestOf.Out := F (a0, a1, a2, ()) ()
def ret_R_RestOf (v0 : Int) (v1 : Int) : sig_R_RestOf.Out := (((v0, ()), (v1, ()), ()), ())
def res_R_RestOf_0 (r : sig_R_RestOf.Out) : Int := r.1.1.1
@[simp] theorem res_R_RestOf_0_ret (v0 : Int) (v1 : Int) : res_R_RestOf_0 (ret_R_RestOf v0 v1) = v0 := rfl
def res_R_RestOf_1 (r : sig_R_RestOf.Out) : Int := r.1.2.1.1
@[simp] theorem res_R_RestOf_1_ret (v0 : Int) (v1 : Int) : res_R_RestOf_1 (ret_R_RestOf v0 v1) = v1 := rfl
def os_R_RestOf : RegT := ⟨[], [], false⟩
def hs_R_RestOf : List Keep := [[(0, []), (1, []), (8, []), (9, []), (10, [])]]
@[reducible] noncomputable def env_R_RestOf : Env := [(82, ⟨sig_R_Where, F_R_Where⟩)]
noncomputable def L_R_RestOf_0 (n m1 : Nat) (x0 : List (Int)) (x1 : Int) (x8 : Int) (x9 : Int) (x10 : Int) : Option sig_R_RestOf.Out :=
  loopAt T (env_R_RestOf) os_R_RestOf sig_R_RestOf Tryd.f65 hs_R_RestOf n [.sr, .sr, .sl, .sr, .bl] m1 (mk 31 [(0, .cs false [.val (.list (.int .i64)) x0]), (1, .cs false [.val (.int .i64) x1]), (8, .cs false [.val (.int .i64) x8]), (9, .cs false [.val (.int .i64) x9]), (10, .cs false [.val (.int .i64) x10])])
theorem L_R_RestOf_0_step (n m1 : Nat) (x0 : List (Int)) (x1 : Int) (x8 : Int) (x9 : Int) (x10 : Int) : L_R_RestOf_0 n (m1 + 1) x0 x1 x8 x9 x10 =
  (bcond (decide ((x10 : Int) ≥ x1))
   ((C_R_Where F_R_Where x0 x10).bind fun r1 =>
    (bcond (decide (((res_R_Where_0 r1) : Int) ≥ 0))
     (bcond ((x9 : Int) == 0)
      (L_R_RestOf_0 n m1 x0 x1 (res_R_Where_0 r1) (IntKind.i64.wrap ((res_R_Where_0 r1) + 1)) (IntKind.i64.wrap (x10 - 1)))
      (L_R_RestOf_0 n m1 x0 x1 (res_R_Where_0 r1) x9 (IntKind.i64.wrap (x10 - 1))))
     (L_R_RestOf_0 n m1 x0 x1 x8 x9 (IntKind.i64.wrap (x10 - 1)))))
   (some (ret_R_RestOf x8 x9))) := by kernel_rfl
theorem ok_R_RestOf : fnOk os_R_RestOf sig_R_RestOf Tryd.f65 = true := by kernel_rfl
theorem fn_R_RestOf : P.funcs[65]? = some Tryd.f65 := by kernel_rfl
noncomputable def F_R_RestOf : sig_R_RestOf.Fn := fun x y => run T (env_R_RestOf) os_R_RestOf sig_R_RestOf Tryd.f65 hs_R_RestOf big x y
theorem S_R_RestOf : Sound P 65 ⟨sig_R_RestOf, F_R_RestOf⟩ := sound_of (os := os_R_RestOf) (hs := hs_R_RestOf) (env_cons S_R_Where (env_nil)) fn_R_RestOf ok_R_RestOf (fun x y out h => ⟨big, h⟩)
theorem e_R_RestOf (a0 : List (Int)) (a1 : Int) (a2 : Int) : C_R_RestOf F_R_RestOf a0 a1 a2 =
  (L_R_RestOf_0 big big a0 a1 0 0 (IntKind.i64.wrap (a2 - 1))) := by kernel_rfl
end Go.Ev
