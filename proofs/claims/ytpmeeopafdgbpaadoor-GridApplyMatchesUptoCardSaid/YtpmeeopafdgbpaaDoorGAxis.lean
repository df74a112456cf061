/- Functions, step by step. -/
import Derived.Test.YtpmeeopafdgbpaaDoorGFlow
namespace Go.Ev
set_option linter.unusedVariables false
set_option maxRecDepth 100000
open Go.Proofs
def sig_axis_Check : Sig := ⟨[.v false (.list YSpan)], [], [(false, [.fr (.int .i64)])]⟩
def C_axis_Check (F : sig_axis_Check.Fn) (a0 : List YSpan.den) : Option sig_axis_Check.Out := F (a0, ()) ()
def ret_axis_Check (v0 : Int) : sig_axis_Check.Out := (((v0, ()), ()), ())
def res_axis_Check_0 (r : sig_axis_Check.Out) : Int := r.1.1.1
@[simp] theorem res_axis_Check_0_ret (v0 : Int) : res_axis_Check_0 (ret_axis_Check v0) = v0 := rfl
def os_axis_Check : RegT := ⟨[(9, .st 0 (.st 1 (.st 2 (.st 3 (.st 4 (.st 5 (.st 6 (.st 7 (.st 9 (.st 8 (.st 10 (.st 11 (.st 12 (.st 13 (.st 14 (.st 15 (.st 16 (.st 17 (.st 18 (.st 19 (.st 20 (.st 21 (.st 22 (.st 23 (.st 24 (.st 25 (.st 26 (.st 27 (.nil)))))))))))))))))))))))))))))], [], false⟩
def hs_axis_Check : List Keep := [[(0, []), (3, []), (4, []), (7, []), (8, []), (9, [])]]
@[reducible] noncomputable def env_axis_Check : Env := []
noncomputable def L_axis_Check_0 (n m1 : Nat) (x0 : List YSpan.den) (x3 : Int) (x4 : Int) (x7 : List YSpan.den) (x8 : Int) (x9 : Int) : Option sig_axis_Check.Out :=
  loopAt T (env_axis_Check) os_axis_Check sig_axis_Check Tryd.f48 hs_axis_Check n [.sr, .sr, .sl, .sr, .bl] m1 (mk 83 [(0, .cs false [.val (.list YSpan) x0]), (3, .cs false [.val (.int .i64) x3]), (4, .cs false [.val (.int .i64) x4]), (7, .cs false [.val (.list YSpan) x7]), (8, .cs false [.val (.int .i64) x8]), (9, .cs false [.val (.int .i64) x9])])
theorem L_axis_Check_0_step (n m1 : Nat) (x0 : List YSpan.den) (x3 : Int) (x4 : Int) (x7 : List YSpan.den) (x8 : Int) (x9 : Int) : L_axis_Check_0 n (m1 + 1) x0 x3 x4 x7 x8 x9 =
  (bcond (decide ((x9 : Int) < x8))
   (if 0 ≤ (x9 : Int) ∧ (x9 : Int) < (List.length x7 : Int) then
    (bcond ((decide (((at_ (e := YSpan) x7 x9).1 : Int) < 0)) == false)
     (bcond (decide (((at_ (e := YSpan) x7 x9).1 : Int) > 2))
      (some (ret_axis_Check 8))
      (bcond ((decide (((at_ (e := YSpan) x7 x9).2 : Int) < 1)) == false)
       (bcond (decide (((at_ (e := YSpan) x7 x9).2 : Int) > 2147483647))
        (some (ret_axis_Check 2))
        (bcond ((decide ((x9 : Int) > 0)) == true)
         (if 0 ≤ ((IntKind.i64.wrap (x9 - 1)) : Int) ∧ ((IntKind.i64.wrap (x9 - 1)) : Int) < (List.length x0 : Int) then
          (bcond ((((at_ (e := YSpan) x0 (IntKind.i64.wrap (x9 - 1))).1 : Int) == (at_ (e := YSpan) x7 x9).1) == false)
           (if 0 ≤ ((IntKind.i64.wrap (x9 - 1)) : Int) ∧ ((IntKind.i64.wrap (x9 - 1)) : Int) < (List.length x0 : Int) then
            (bcond ((((at_ (e := YSpan) x0 (IntKind.i64.wrap (x9 - 1))).1 : Int) == 2) == true)
             (bcond (((at_ (e := YSpan) x7 x9).1 : Int) == 1)
              (some (ret_axis_Check 5))
              (bcond (((at_ (e := YSpan) x7 x9).1 : Int) != 1)
               (bcond (((at_ (e := YSpan) x7 x9).1 : Int) != 2)
                (L_axis_Check_0 n m1 x0 (if (2147483648 : Int) < (IntKind.i64.wrap (x3 + (at_ (e := YSpan) x7 x9).2)) then 2147483648 else (IntKind.i64.wrap (x3 + (at_ (e := YSpan) x7 x9).2))) (if (2147483648 : Int) < (IntKind.i64.wrap (x4 + (at_ (e := YSpan) x7 x9).2)) then 2147483648 else (IntKind.i64.wrap (x4 + (at_ (e := YSpan) x7 x9).2))) x7 x8 (IntKind.i64.wrap (x9 + 1)))
                (L_axis_Check_0 n m1 x0 (if (2147483648 : Int) < (IntKind.i64.wrap (x3 + (at_ (e := YSpan) x7 x9).2)) then 2147483648 else (IntKind.i64.wrap (x3 + (at_ (e := YSpan) x7 x9).2))) x4 x7 x8 (IntKind.i64.wrap (x9 + 1))))
               (bcond (((at_ (e := YSpan) x7 x9).1 : Int) != 2)
                (L_axis_Check_0 n m1 x0 x3 (if (2147483648 : Int) < (IntKind.i64.wrap (x4 + (at_ (e := YSpan) x7 x9).2)) then 2147483648 else (IntKind.i64.wrap (x4 + (at_ (e := YSpan) x7 x9).2))) x7 x8 (IntKind.i64.wrap (x9 + 1)))
                (L_axis_Check_0 n m1 x0 x3 x4 x7 x8 (IntKind.i64.wrap (x9 + 1))))))
             (bcond (((at_ (e := YSpan) x7 x9).1 : Int) != 1)
              (bcond (((at_ (e := YSpan) x7 x9).1 : Int) != 2)
               (L_axis_Check_0 n m1 x0 (if (2147483648 : Int) < (IntKind.i64.wrap (x3 + (at_ (e := YSpan) x7 x9).2)) then 2147483648 else (IntKind.i64.wrap (x3 + (at_ (e := YSpan) x7 x9).2))) (if (2147483648 : Int) < (IntKind.i64.wrap (x4 + (at_ (e := YSpan) x7 x9).2)) then 2147483648 else (IntKind.i64.wrap (x4 + (at_ (e := YSpan) x7 x9).2))) x7 x8 (IntKind.i64.wrap (x9 + 1)))
               (L_axis_Check_0 n m1 x0 (if (2147483648 : Int) < (IntKind.i64.wrap (x3 + (at_ (e := YSpan) x7 x9).2)) then 2147483648 else (IntKind.i64.wrap (x3 + (at_ (e := YSpan) x7 x9).2))) x4 x7 x8 (IntKind.i64.wrap (x9 + 1))))
              (bcond (((at_ (e := YSpan) x7 x9).1 : Int) != 2)
               (L_axis_Check_0 n m1 x0 x3 (if (2147483648 : Int) < (IntKind.i64.wrap (x4 + (at_ (e := YSpan) x7 x9).2)) then 2147483648 else (IntKind.i64.wrap (x4 + (at_ (e := YSpan) x7 x9).2))) x7 x8 (IntKind.i64.wrap (x9 + 1)))
               (L_axis_Check_0 n m1 x0 x3 x4 x7 x8 (IntKind.i64.wrap (x9 + 1))))))
           else none)
           (some (ret_axis_Check 5)))
         else none)
         (bcond (((at_ (e := YSpan) x7 x9).1 : Int) != 1)
          (bcond (((at_ (e := YSpan) x7 x9).1 : Int) != 2)
           (L_axis_Check_0 n m1 x0 (if (2147483648 : Int) < (IntKind.i64.wrap (x3 + (at_ (e := YSpan) x7 x9).2)) then 2147483648 else (IntKind.i64.wrap (x3 + (at_ (e := YSpan) x7 x9).2))) (if (2147483648 : Int) < (IntKind.i64.wrap (x4 + (at_ (e := YSpan) x7 x9).2)) then 2147483648 else (IntKind.i64.wrap (x4 + (at_ (e := YSpan) x7 x9).2))) x7 x8 (IntKind.i64.wrap (x9 + 1)))
           (L_axis_Check_0 n m1 x0 (if (2147483648 : Int) < (IntKind.i64.wrap (x3 + (at_ (e := YSpan) x7 x9).2)) then 2147483648 else (IntKind.i64.wrap (x3 + (at_ (e := YSpan) x7 x9).2))) x4 x7 x8 (IntKind.i64.wrap (x9 + 1))))
          (bcond (((at_ (e := YSpan) x7 x9).1 : Int) != 2)
           (L_axis_Check_0 n m1 x0 x3 (if (2147483648 : Int) < (IntKind.i64.wrap (x4 + (at_ (e := YSpan) x7 x9).2)) then 2147483648 else (IntKind.i64.wrap (x4 + (at_ (e := YSpan) x7 x9).2))) x7 x8 (IntKind.i64.wrap (x9 + 1)))
           (L_axis_Check_0 n m1 x0 x3 x4 x7 x8 (IntKind.i64.wrap (x9 + 1)))))))
       (some (ret_axis_Check 2))))
     (some (ret_axis_Check 8)))
   else none)
   (bcond ((decide ((x3 : Int) > 2147483647)) == false)
    (bcond (decide ((x4 : Int) > 2147483647))
     (some (ret_axis_Check 3))
     (some (ret_axis_Check 0)))
    (some (ret_axis_Check 3)))) := by kernel_rfl
theorem ok_axis_Check : fnOk os_axis_Check sig_axis_Check Tryd.f48 = true := by kernel_rfl
theorem fn_axis_Check : P.funcs[48]? = some Tryd.f48 := by kernel_rfl
noncomputable def F_axis_Check : sig_axis_Check.Fn := fun x y => run T (env_axis_Check) os_axis_Check sig_axis_Check Tryd.f48 hs_axis_Check big x y
theorem S_axis_Check : Sound P 48 ⟨sig_axis_Check, F_axis_Check⟩ := sound_of (os := os_axis_Check) (hs := hs_axis_Check) (env_nil) fn_axis_Check ok_axis_Check (fun x y out h => ⟨big, h⟩)
theorem e_axis_Check (a0 : List YSpan.den) : C_axis_Check F_axis_Check a0 =
  (L_axis_Check_0 big big a0 0 0 a0 (List.length a0 : Int) 0) := by kernel_rfl
def sig_axis_lengths : Sig := ⟨[.v false (.list YSpan)], [], [(false, [.fr (.int .i64)]), (false, [.fr (.int .i64)])]⟩
def C_axis_lengths (F : sig_axis_lengths.Fn) (a0 : List YSpan.den) : Option sig_axis_lengths.Out := F (a0, ()) ()
def ret_axis_lengths (v0 : Int) (v1 : Int) : sig_axis_lengths.Out := (((v0, ()), (v1, ()), ()), ())
def res_axis_lengths_0 (r : sig_axis_lengths.Out) : Int := r.1.1.1
@[simp] theorem res_axis_lengths_0_ret (v0 : Int) (v1 : Int) : res_axis_lengths_0 (ret_axis_lengths v0 v1) = v0 := rfl
def res_axis_lengths_1 (r : sig_axis_lengths.Out) : Int := r.1.2.1.1
@[simp] theorem res_axis_lengths_1_ret (v0 : Int) (v1 : Int) : res_axis_lengths_1 (ret_axis_lengths v0 v1) = v1 := rfl
def os_axis_lengths : RegT := ⟨[], [], false⟩
def hs_axis_lengths : List Keep := [[(4, []), (5, []), (8, []), (9, []), (10, [])]]
@[reducible] noncomputable def env_axis_lengths : Env := []
noncomputable def L_axis_lengths_0 (n m1 : Nat) (x4 : Int) (x5 : Int) (x8 : List YSpan.den) (x9 : Int) (x10 : Int) : Option sig_axis_lengths.Out :=
  loopAt T (env_axis_lengths) os_axis_lengths sig_axis_lengths Tryd.f84 hs_axis_lengths n [.sr, .sr, .sl, .sr, .bl] m1 (mk 31 [(4, .cs false [.val (.int .i64) x4]), (5, .cs false [.val (.int .i64) x5]), (8, .cs false [.val (.list YSpan) x8]), (9, .cs false [.val (.int .i64) x9]), (10, .cs false [.val (.int .i64) x10])])
theorem L_axis_lengths_0_step (n m1 : Nat) (x4 : Int) (x5 : Int) (x8 : List YSpan.den) (x9 : Int) (x10 : Int) : L_axis_lengths_0 n (m1 + 1) x4 x5 x8 x9 x10 =
  (bcond (decide ((x10 : Int) < x9))
   (if 0 ≤ (x10 : Int) ∧ (x10 : Int) < (List.length x8 : Int) then
    (bcond (((at_ (e := YSpan) x8 x10).1 : Int) != 1)
     (bcond (((at_ (e := YSpan) x8 x10).1 : Int) != 2)
      (L_axis_lengths_0 n m1 (IntKind.i64.wrap (x4 + (at_ (e := YSpan) x8 x10).2)) (IntKind.i64.wrap (x5 + (at_ (e := YSpan) x8 x10).2)) x8 x9 (IntKind.i64.wrap (x10 + 1)))
      (L_axis_lengths_0 n m1 (IntKind.i64.wrap (x4 + (at_ (e := YSpan) x8 x10).2)) x5 x8 x9 (IntKind.i64.wrap (x10 + 1))))
     (bcond (((at_ (e := YSpan) x8 x10).1 : Int) != 2)
      (L_axis_lengths_0 n m1 x4 (IntKind.i64.wrap (x5 + (at_ (e := YSpan) x8 x10).2)) x8 x9 (IntKind.i64.wrap (x10 + 1)))
      (L_axis_lengths_0 n m1 x4 x5 x8 x9 (IntKind.i64.wrap (x10 + 1)))))
   else none)
   (some (ret_axis_lengths x4 x5))) := by kernel_rfl
theorem ok_axis_lengths : fnOk os_axis_lengths sig_axis_lengths Tryd.f84 = true := by kernel_rfl
theorem fn_axis_lengths : P.funcs[84]? = some Tryd.f84 := by kernel_rfl
noncomputable def F_axis_lengths : sig_axis_lengths.Fn := fun x y => run T (env_axis_lengths) os_axis_lengths sig_axis_lengths Tryd.f84 hs_axis_lengths big x y
theorem S_axis_lengths : Sound P 84 ⟨sig_axis_lengths, F_axis_lengths⟩ := sound_of (os := os_axis_lengths) (hs := hs_axis_lengths) (env_nil) fn_axis_lengths ok_axis_lengths (fun x y out h => ⟨big, h⟩)
theorem e_axis_lengths (a0 : List YSpan.den) : C_axis_lengths F_axis_lengths a0 =
  (L_axis_lengths_0 big big 0 0 a0 (List.length a0 : Int) 0) := by kernel_rfl
def sig_axis_Lengths : Sig := ⟨[.v false (.list YSpan)], [], [(false, [.fr (.int .i64)]), (false, [.fr (.int .i64)]), (false, [.fr (.int .i64)])]⟩
def C_axis_Lengths (F : sig_axis_Lengths.Fn) (a0 : List YSpan.den) : Option sig_axis_Lengths.Out := F (a0, ()) ()
def ret_axis_Lengths (v0 : Int) (v1 : Int) (v2 : Int) : sig_axis_Lengths.Out := (((v0, ()), (v1, ()), (v2, ()), ()), ())
def res_axis_Lengths_0 (r : sig_axis_Lengths.Out) : Int := r.1.1.1
@[simp] theorem res_axis_Lengths_0_ret (v0 : Int) (v1 : Int) (v2 : Int) : res_axis_Lengths_0 (ret_axis_Lengths v0 v1 v2) = v0 := rfl
def res_axis_Lengths_1 (r : sig_axis_Lengths.Out) : Int := r.1.2.1.1
@[simp] theorem res_axis_Lengths_1_ret (v0 : Int) (v1 : Int) (v2 : Int) : res_axis_Lengths_1 (ret_axis_Lengths v0 v1 v2) = v1 := rfl
def os_axis_Lengths : RegT := ⟨[], [], false⟩
def hs_axis_Lengths : List Keep := []
@[reducible] noncomputable def env_axis_Lengths : Env := [(48, ⟨sig_axis_Check, F_axis_Check⟩), (84, ⟨sig_axis_lengths, F_axis_lengths⟩)]
theorem ok_axis_Lengths : fnOk os_axis_Lengths sig_axis_Lengths Tryd.f73 = true := by kernel_rfl
theorem fn_axis_Lengths : P.funcs[73]? = some Tryd.f73 := by kernel_rfl
noncomputable def F_axis_Lengths : sig_axis_Lengths.Fn := fun x y => run T (env_axis_Lengths) os_axis_Lengths sig_axis_Lengths Tryd.f73 hs_axis_Lengths big x y
theorem S_axis_Lengths : Sound P 73 ⟨sig_axis_Lengths, F_axis_Lengths⟩ := sound_of (os := os_axis_Lengths) (hs := hs_axis_Lengths) (env_cons S_axis_Check (env_cons S_axis_lengths (env_nil))) fn_axis_Lengths ok_axis_Lengths (fun x y out h => ⟨big, h⟩)
theorem e_axis_Lengths (a0 : List YSpan.den) : C_axis_Lengths F_axis_Lengths a0 =
  ((C_axis_Check F_axis_Check a0).bind fun r1 =>
   (bcond (((res_axis_Check_0 r1) : Int) != 0)
    (some (ret_axis_Lengths 0 0 (res_axis_Check_0 r1)))
    ((C_axis_lengths F_axis_lengths a0).bind fun r2 =>
     (some (ret_axis_Lengths (res_axis_lengths_0 r2) (res_axis_lengths_1 r2) 0))))) := by kernel_rfl
def sig_axis_place : Sig := ⟨[.v false (.list YSpan), .v false (.int .i64)], [], [(false, [.fr (.int .i64)])]⟩
def C_axis_place (F : sig_axis_place.Fn) (a0 : List YSpan.den) (a1 : Int) : Option sig_axis_place.Out := F (a0, a1, ()) ()
def ret_axis_place (v0 : Int) : sig_axis_place.Out := (((v0, ()), ()), ())
def res_axis_place_0 (r : sig_axis_place.Out) : Int := r.1.1.1
@[simp] theorem res_axis_place_0_ret (v0 : Int) : res_axis_place_0 (ret_axis_place v0) = v0 := rfl
def os_axis_place : RegT := ⟨[], [], false⟩
def hs_axis_place : List Keep := [[(1, []), (5, []), (6, []), (9, []), (10, []), (11, [])]]
@[reducible] noncomputable def env_axis_place : Env := []
noncomputable def L_axis_place_0 (n m1 : Nat) (x1 : Int) (x5 : Int) (x6 : Int) (x9 : List YSpan.den) (x10 : Int) (x11 : Int) : Option sig_axis_place.Out :=
  loopAt T (env_axis_place) os_axis_place sig_axis_place Tryd.f85 hs_axis_place n [.sr, .sr, .sl, .sr, .bl] m1 (mk 51 [(1, .cs false [.val (.int .i64) x1]), (5, .cs false [.val (.int .i64) x5]), (6, .cs false [.val (.int .i64) x6]), (9, .cs false [.val (.list YSpan) x9]), (10, .cs false [.val (.int .i64) x10]), (11, .cs false [.val (.int .i64) x11])])
theorem L_axis_place_0_step (n m1 : Nat) (x1 : Int) (x5 : Int) (x6 : Int) (x9 : List YSpan.den) (x10 : Int) (x11 : Int) : L_axis_place_0 n (m1 + 1) x1 x5 x6 x9 x10 x11 =
  (bcond (decide ((x11 : Int) < x10))
   (if 0 ≤ (x11 : Int) ∧ (x11 : Int) < (List.length x9 : Int) then
    (bcond (((at_ (e := YSpan) x9 x11).1 : Int) == 1)
     (L_axis_place_0 n m1 x1 x5 (IntKind.i64.wrap (x6 + (at_ (e := YSpan) x9 x11).2)) x9 x10 (IntKind.i64.wrap (x11 + 1)))
     (bcond (((at_ (e := YSpan) x9 x11).1 : Int) == 0)
      (bcond (decide ((x1 : Int) < (IntKind.i64.wrap (x5 + (at_ (e := YSpan) x9 x11).2))))
       (some (ret_axis_place (IntKind.i64.wrap ((IntKind.i64.wrap (x6 + x1)) - x5))))
       (L_axis_place_0 n m1 x1 (IntKind.i64.wrap (x5 + (at_ (e := YSpan) x9 x11).2)) (IntKind.i64.wrap (x6 + (at_ (e := YSpan) x9 x11).2)) x9 x10 (IntKind.i64.wrap (x11 + 1))))
      (bcond (decide ((x1 : Int) < (IntKind.i64.wrap (x5 + (at_ (e := YSpan) x9 x11).2))))
       (some (ret_axis_place (-1)))
       (L_axis_place_0 n m1 x1 (IntKind.i64.wrap (x5 + (at_ (e := YSpan) x9 x11).2)) x6 x9 x10 (IntKind.i64.wrap (x11 + 1))))))
   else none)
   (some (ret_axis_place (-1)))) := by kernel_rfl
theorem ok_axis_place : fnOk os_axis_place sig_axis_place Tryd.f85 = true := by kernel_rfl
theorem fn_axis_place : P.funcs[85]? = some Tryd.f85 := by kernel_rfl
noncomputable def F_axis_place : sig_axis_place.Fn := fun x y => run T (env_axis_place) os_axis_place sig_axis_place Tryd.f85 hs_axis_place big x y
theorem S_axis_place : Sound P 85 ⟨sig_axis_place, F_axis_place⟩ := sound_of (os := os_axis_place) (hs := hs_axis_place) (env_nil) fn_axis_place ok_axis_place (fun x y out h => ⟨big, h⟩)
theorem e_axis_place (a0 : List YSpan.den) (a1 : Int) : C_axis_place F_axis_place a0 a1 =
  (L_axis_place_0 big big a1 0 0 a0 (List.length a0 : Int) 0) := by kernel_rfl
def sig_axis_Apply : Sig := ⟨[.v false (.list YSpan), .v false (.list (.int .i64))], [], [(false, [.fr (.list (.int .i64))]), (false, [.fr (.int .i64)])]⟩
def C_axis_Apply (F : sig_axis_Apply.Fn) (a0 : List YSpan.den) (a1 : List (Int)) : Option sig_axis_Apply.Out := F (a0, a1, ()) ()
def ret_axis_Apply (v0 : List (Int)) (v1 : Int) : sig_axis_Apply.Out := (((v0, ()), (v1, ()), ()), ())
def res_axis_Apply_0 (r : sig_axis_Apply.Out) : List (Int) := r.1.1.1
@[simp] theorem res_axis_Apply_0_ret (v0 : List (Int)) (v1 : Int) : res_axis_Apply_0 (ret_axis_Apply v0 v1) = v0 := rfl
def res_axis_Apply_1 (r : sig_axis_Apply.Out) : Int := r.1.2.1.1
@[simp] theorem res_axis_Apply_1_ret (v0 : List (Int)) (v1 : Int) : res_axis_Apply_1 (ret_axis_Apply v0 v1) = v1 := rfl
def os_axis_Apply : RegT := ⟨[], [], false⟩
def hs_axis_Apply : List Keep := [[(0, []), (7, []), (9, [(0, 3, (.int .i64))]), (22, []), (23, []), (24, [])]]
@[reducible] noncomputable def env_axis_Apply : Env := [(48, ⟨sig_axis_Check, F_axis_Check⟩), (84, ⟨sig_axis_lengths, F_axis_lengths⟩), (85, ⟨sig_axis_place, F_axis_place⟩)]
noncomputable def L_axis_Apply_0 (n m1 : Nat) (x0 : List YSpan.den) (x7 : Int) (x9 : List (Int)) (x22 : List (Int)) (x23 : Int) (x24 : Int) : Option sig_axis_Apply.Out :=
  loopAt T (env_axis_Apply) os_axis_Apply sig_axis_Apply Tryd.f74 hs_axis_Apply n [.sr, .sr, .sr, .sr, .sl, .sr, .bl] m1 (mk 43 [(0, .cs false [.val (.list YSpan) x0]), (7, .cs false [.val (.int .i64) x7]), (9, .cs false [.own 3 (.int .i64) x9]), (22, .cs false [.val (.list (.int .i64)) x22]), (23, .cs false [.val (.int .i64) x23]), (24, .cs false [.val (.int .i64) x24])])
theorem L_axis_Apply_0_step (n m1 : Nat) (x0 : List YSpan.den) (x7 : Int) (x9 : List (Int)) (x22 : List (Int)) (x23 : Int) (x24 : Int) : L_axis_Apply_0 n (m1 + 1) x0 x7 x9 x22 x23 x24 =
  (bcond (decide ((x24 : Int) < x23))
   (if 0 ≤ (x24 : Int) ∧ (x24 : Int) < (List.length x22 : Int) then
    (bcond ((decide (((at_ (e := (.int .i64)) x22 x24) : Int) < 0)) == false)
     (bcond (decide (((at_ (e := (.int .i64)) x22 x24) : Int) ≥ x7))
      (some (ret_axis_Apply [] 2))
      ((C_axis_place F_axis_place x0 (at_ (e := (.int .i64)) x22 x24)).bind fun r1 =>
       (if (List.length (x9 : List Int) + List.length ([(res_axis_place_0 r1)] : List Int)) * 8 ≤ 140737488355328 then
        (L_axis_Apply_0 n m1 x0 x7 (x9 ++ [(res_axis_place_0 r1)]) x22 x23 (IntKind.i64.wrap (x24 + 1)))
       else none)))
     (some (ret_axis_Apply [] 2)))
   else none)
   (some (ret_axis_Apply x9 0))) := by kernel_rfl
theorem ok_axis_Apply : fnOk os_axis_Apply sig_axis_Apply Tryd.f74 = true := by kernel_rfl
theorem fn_axis_Apply : P.funcs[74]? = some Tryd.f74 := by kernel_rfl
noncomputable def F_axis_Apply : sig_axis_Apply.Fn := fun x y => run T (env_axis_Apply) os_axis_Apply sig_axis_Apply Tryd.f74 hs_axis_Apply big x y
theorem S_axis_Apply : Sound P 74 ⟨sig_axis_Apply, F_axis_Apply⟩ := sound_of (os := os_axis_Apply) (hs := hs_axis_Apply) (env_cons S_axis_Check (env_cons S_axis_lengths (env_cons S_axis_place (env_nil)))) fn_axis_Apply ok_axis_Apply (fun x y out h => ⟨big, h⟩)
theorem e_axis_Apply (a0 : List YSpan.den) (a1 : List (Int)) : C_axis_Apply F_axis_Apply a0 a1 =
  ((C_axis_Check F_axis_Check a0).bind fun r1 =>
   (bcond (((res_axis_Check_0 r1) : Int) != 0)
    (some (ret_axis_Apply [] (res_axis_Check_0 r1)))
    ((C_axis_lengths F_axis_lengths a0).bind fun r2 =>
     (L_axis_Apply_0 big big a0 (res_axis_lengths_0 r2) [] a1 (List.length a1 : Int) 0)))) := by kernel_rfl
def sig_R_AxisError : Sig := ⟨[.v false (.list YSpan)], [], [(false, [.fr (.int .i64)])]⟩
def C_R_AxisError (F : sig_R_AxisError.Fn) (a0 : List YSpan.den) : Option sig_R_AxisError.Out := F (a0, ()) ()
def ret_R_AxisError (v0 : Int) : sig_R_AxisError.Out := (((v0, ()), ()), ())
def res_R_AxisError_0 (r : sig_R_AxisError.Out) : Int := r.1.1.1
@[simp] theorem res_R_AxisError_0_ret (v0 : Int) : res_R_AxisError_0 (ret_R_AxisError v0) = v0 := rfl
def os_R_AxisError : RegT := ⟨[(9, .st 0 (.st 1 (.st 2 (.st 3 (.st 4 (.st 5 (.st 6 (.st 8 (.st 9 (.st 10 (.st 11 (.st 12 (.st 7 (.st 13 (.st 14 (.st 15 (.st 16 (.st 17 (.st 18 (.st 19 (.st 20 (.st 21 (.st 22 (.st 23 (.st 24 (.st 25 (.st 26 (.st 27 (.st 28 (.st 29 (.st 30 (.st 31 (.st 32 (.nil))))))))))))))))))))))))))))))))))], [], false⟩
def hs_R_AxisError : List Keep := [[(0, []), (3, []), (4, []), (7, []), (8, [])]]
@[reducible] noncomputable def env_R_AxisError : Env := [(24, ⟨sig_R_In, F_R_In⟩)]
noncomputable def L_R_AxisError_0 (n m1 : Nat) (x0 : List YSpan.den) (x3 : Int) (x4 : Int) (x7 : Int) (x8 : Int) : Option sig_R_AxisError.Out :=
  loopAt T (env_R_AxisError) os_R_AxisError sig_R_AxisError Tryd.f28 hs_R_AxisError n [.sr, .sr, .sl, .sr, .bl] m1 (mk 99 [(0, .cs false [.val (.list YSpan) x0]), (3, .cs false [.val (.int .i64) x3]), (4, .cs false [.val (.int .i64) x4]), (7, .cs false [.val (.int .i64) x7]), (8, .cs false [.val (.int .i64) x8])])
noncomputable def J_R_AxisError_0 (n m1 : Nat) (y0 : List YSpan.den) (y3 : Int) (y4 : Int) (y5 : Int) (y7 : Int) (y8 : Int) : Option sig_R_AxisError.Out :=
  (if 0 ≤ (y5 : Int) ∧ (y5 : Int) < (List.length y0 : Int) then
   (bcond ((((at_ (e := YSpan) y0 y5).1 : Int) != 2) == true)
    (bcond (decide ((y4 : Int) < 2147483648))
     (if 0 ≤ (y5 : Int) ∧ (y5 : Int) < (List.length y0 : Int) then
      (L_R_AxisError_0 n m1 y0 y3 (IntKind.i64.wrap (y4 + (at_ (e := YSpan) y0 y5).2)) y7 (IntKind.i64.wrap (y8 + 1)))
     else none)
     (L_R_AxisError_0 n m1 y0 y3 y4 y7 (IntKind.i64.wrap (y8 + 1))))
    (L_R_AxisError_0 n m1 y0 y3 y4 y7 (IntKind.i64.wrap (y8 + 1))))
  else none)
theorem L_R_AxisError_0_step (n m1 : Nat) (x0 : List YSpan.den) (x3 : Int) (x4 : Int) (x7 : Int) (x8 : Int) : L_R_AxisError_0 n (m1 + 1) x0 x3 x4 x7 x8 =
  (bcond (decide ((x8 : Int) < x7))
   (if 0 ≤ (x8 : Int) ∧ (x8 : Int) < (List.length x0 : Int) then
    ((C_R_In F_R_In (at_ (e := YSpan) x0 x8).1 0 2).bind fun r1 =>
     (bcond (!(res_R_In_0 r1))
      (some (ret_R_AxisError 8))
      (if 0 ≤ (x8 : Int) ∧ (x8 : Int) < (List.length x0 : Int) then
       ((C_R_In F_R_In (at_ (e := YSpan) x0 x8).2 1 2147483647).bind fun r2 =>
        (bcond (!(res_R_In_0 r2))
         (some (ret_R_AxisError 2))
         (bcond ((decide ((x8 : Int) > 0)) == true)
          (if 0 ≤ (x8 : Int) ∧ (x8 : Int) < (List.length x0 : Int) then
           (if 0 ≤ ((IntKind.i64.wrap (x8 - 1)) : Int) ∧ ((IntKind.i64.wrap (x8 - 1)) : Int) < (List.length x0 : Int) then
            (bcond ((((at_ (e := YSpan) x0 x8).1 : Int) == (at_ (e := YSpan) x0 (IntKind.i64.wrap (x8 - 1))).1) == false)
             (if 0 ≤ (x8 : Int) ∧ (x8 : Int) < (List.length x0 : Int) then
              (bcond ((((at_ (e := YSpan) x0 x8).1 : Int) == 1) == true)
               (if 0 ≤ ((IntKind.i64.wrap (x8 - 1)) : Int) ∧ ((IntKind.i64.wrap (x8 - 1)) : Int) < (List.length x0 : Int) then
                (bcond (((at_ (e := YSpan) x0 (IntKind.i64.wrap (x8 - 1))).1 : Int) == 2)
                 (some (ret_R_AxisError 5))
                 (if 0 ≤ (x8 : Int) ∧ (x8 : Int) < (List.length x0 : Int) then
                  (bcond ((((at_ (e := YSpan) x0 x8).1 : Int) != 1) == true)
                   (bcond (decide ((x3 : Int) < 2147483648))
                    (if 0 ≤ (x8 : Int) ∧ (x8 : Int) < (List.length x0 : Int) then
                     (J_R_AxisError_0 n m1 x0 (IntKind.i64.wrap (x3 + (at_ (e := YSpan) x0 x8).2)) x4 x8 x7 x8)
                    else none)
                    (J_R_AxisError_0 n m1 x0 x3 x4 x8 x7 x8))
                   (J_R_AxisError_0 n m1 x0 x3 x4 x8 x7 x8))
                 else none))
               else none)
               (if 0 ≤ (x8 : Int) ∧ (x8 : Int) < (List.length x0 : Int) then
                (bcond ((((at_ (e := YSpan) x0 x8).1 : Int) != 1) == true)
                 (bcond (decide ((x3 : Int) < 2147483648))
                  (if 0 ≤ (x8 : Int) ∧ (x8 : Int) < (List.length x0 : Int) then
                   (J_R_AxisError_0 n m1 x0 (IntKind.i64.wrap (x3 + (at_ (e := YSpan) x0 x8).2)) x4 x8 x7 x8)
                  else none)
                  (J_R_AxisError_0 n m1 x0 x3 x4 x8 x7 x8))
                 (J_R_AxisError_0 n m1 x0 x3 x4 x8 x7 x8))
               else none))
             else none)
             (some (ret_R_AxisError 5)))
           else none)
          else none)
          (if 0 ≤ (x8 : Int) ∧ (x8 : Int) < (List.length x0 : Int) then
           (bcond ((((at_ (e := YSpan) x0 x8).1 : Int) != 1) == true)
            (bcond (decide ((x3 : Int) < 2147483648))
             (if 0 ≤ (x8 : Int) ∧ (x8 : Int) < (List.length x0 : Int) then
              (J_R_AxisError_0 n m1 x0 (IntKind.i64.wrap (x3 + (at_ (e := YSpan) x0 x8).2)) x4 x8 x7 x8)
             else none)
             (J_R_AxisError_0 n m1 x0 x3 x4 x8 x7 x8))
            (J_R_AxisError_0 n m1 x0 x3 x4 x8 x7 x8))
          else none))))
      else none)))
   else none)
   (bcond ((decide ((x3 : Int) > 2147483647)) == false)
    (bcond (decide ((x4 : Int) > 2147483647))
     (some (ret_R_AxisError 3))
     (some (ret_R_AxisError 0)))
    (some (ret_R_AxisError 3)))) := by kernel_rfl
theorem ok_R_AxisError : fnOk os_R_AxisError sig_R_AxisError Tryd.f28 = true := by kernel_rfl
theorem fn_R_AxisError : P.funcs[28]? = some Tryd.f28 := by kernel_rfl
noncomputable def F_R_AxisError : sig_R_AxisError.Fn := fun x y => run T (env_R_AxisError) os_R_AxisError sig_R_AxisError Tryd.f28 hs_R_AxisError big x y
theorem S_R_AxisError : Sound P 28 ⟨sig_R_AxisError, F_R_AxisError⟩ := sound_of (os := os_R_AxisError) (hs := hs_R_AxisError) (env_cons S_R_In (env_nil)) fn_R_AxisError ok_R_AxisError (fun x y out h => ⟨big, h⟩)
theorem e_R_AxisError (a0 : List YSpan.den) : C_R_AxisError F_R_AxisError a0 =
  (L_R_AxisError_0 big big a0 0 0 (List.length a0 : Int) 0) := by kernel_rfl
def sig_R_AxisSize : Sig := ⟨[.v false (.list YSpan)], [], [(false, [.fr (.int .i64)])]⟩
def C_R_AxisSize (F : sig_R_AxisSize.Fn) (a0 : List YSpan.den) : Option sig_R_AxisSize.Out := F (a0, ()) ()
def ret_R_AxisSize (v0 : Int) : sig_R_AxisSize.Out := (((v0, ()), ()), ())
def res_R_AxisSize_0 (r : sig_R_AxisSize.Out) : Int := r.1.1.1
@[simp] theorem res_R_AxisSize_0_ret (v0 : Int) : res_R_AxisSize_0 (ret_R_AxisSize v0) = v0 := rfl
def os_R_AxisSize : RegT := ⟨[], [], false⟩
def hs_R_AxisSize : List Keep := [[(0, []), (3, []), (6, []), (7, [])]]
@[reducible] noncomputable def env_R_AxisSize : Env := []
noncomputable def L_R_AxisSize_0 (n m1 : Nat) (x0 : List YSpan.den) (x3 : Int) (x6 : Int) (x7 : Int) : Option sig_R_AxisSize.Out :=
  loopAt T (env_R_AxisSize) os_R_AxisSize sig_R_AxisSize Tryd.f32 hs_R_AxisSize n [.sr, .sr, .sl, .sr, .bl] m1 (mk 19 [(0, .cs false [.val (.list YSpan) x0]), (3, .cs false [.val (.int .i64) x3]), (6, .cs false [.val (.int .i64) x6]), (7, .cs false [.val (.int .i64) x7])])
theorem L_R_AxisSize_0_step (n m1 : Nat) (x0 : List YSpan.den) (x3 : Int) (x6 : Int) (x7 : Int) : L_R_AxisSize_0 n (m1 + 1) x0 x3 x6 x7 =
  (bcond (decide ((x7 : Int) < x6))
   (if 0 ≤ (x7 : Int) ∧ (x7 : Int) < (List.length x0 : Int) then
    (L_R_AxisSize_0 n m1 x0 (IntKind.i64.wrap (x3 + (at_ (e := YSpan) x0 x7).2)) x6 (IntKind.i64.wrap (x7 + 1)))
   else none)
   (some (ret_R_AxisSize x3))) := by kernel_rfl
theorem ok_R_AxisSize : fnOk os_R_AxisSize sig_R_AxisSize Tryd.f32 = true := by kernel_rfl
theorem fn_R_AxisSize : P.funcs[32]? = some Tryd.f32 := by kernel_rfl
noncomputable def F_R_AxisSize : sig_R_AxisSize.Fn := fun x y => run T (env_R_AxisSize) os_R_AxisSize sig_R_AxisSize Tryd.f32 hs_R_AxisSize big x y
theorem S_R_AxisSize : Sound P 32 ⟨sig_R_AxisSize, F_R_AxisSize⟩ := sound_of (os := os_R_AxisSize) (hs := hs_R_AxisSize) (env_nil) fn_R_AxisSize ok_R_AxisSize (fun x y out h => ⟨big, h⟩)
theorem e_R_AxisSize (a0 : List YSpan.den) : C_R_AxisSize F_R_AxisSize a0 =
  (L_R_AxisSize_0 big big a0 0 (List.length a0 : Int) 0) := by kernel_rfl
end Go.Ev
