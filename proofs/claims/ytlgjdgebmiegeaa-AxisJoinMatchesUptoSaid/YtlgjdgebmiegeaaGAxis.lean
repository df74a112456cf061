/- Functions, step by step. -/
import Derived.Test.YtlgjdgebmiegeaaGSteps
import Derived.Test.YtlgjdgebmiegeaaGInts
namespace Go.Ev
set_option linter.unusedVariables false
set_option maxRecDepth 100000
open Go.Proofs
def sig_axis_Check : Sig := ⟨[.v false (.list YSpan)], [], [(false, [.fr (.int .i64)])]⟩
def C_axis_Check (F : sig_axis_Check.Fn) (a0 : List YSpan.den) : Option sig_axis_Check.Out := F (a0, ()) ()
def ret_axis_Check (v0 : Int) : sig_axis_Check.Out := (((v0, ()), ()), ())
def res_axis_Check_0 (r : sig_axis_Check.Out) : Int := r.1.1.1
@[simp] theorem res_axis_Check_0_ret (v0 : Int) : res_axis_Check_0 (ret_axis_Check v0) = v0 := rfl
def os_axis_Check : RegT := ⟨[(9, .st 0 (.st 1 (.st 2 (.st 3 (.st 4 (.st 5 (.st 6 (.st 7 (.st 9 (.st 8 (.st 10 (.st 11 (.st 12 (.st 13 (.st 14 (.st 15 (.st 16 (.st 17 (.st 18 (.st 19 (.st 20 (.st 21 (.st 22 (.st 23 (.st 24 (.st 25 (.st 26 (.st 27 (.nil)))))))))))))))))))))))))))))], [], false⟩
def hs_axis_Check : List Keep := [[(0, []), (3, []), (4, []), (7, []), (8, []), (9, [])]]
@[reducible] noncomputable def env_axis_Check : Env := []
noncomputable def L_axis_Check_0 (n m1 : Nat) (x0 : List YSpan.den) (x3 : Int) (x4 : Int) (x7 : List YSpan.den) (x8 : Int) (x9 : Int) : Option sig_axis_Check.Out :=
  loopAt T (env_axis_Check) os_axis_Check sig_axis_Check Try.f108 hs_axis_Check n [.sr, .sr, .sl, .sr, .bl] m1 (mk 83 [(0, .cs false [.val (.list YSpan) x0]), (3, .cs false [.val (.int .i64) x3]), (4, .cs false [.val (.int .i64) x4]), (7, .cs false [.val (.list YSpan) x7]), (8, .cs false [.val (.int .i64) x8]), (9, .cs false [.val (.int .i64) x9])])
theorem L_axis_Check_0_step (n m1 : Nat) (x0 : List YSpan.den) (x3 : Int) (x4 : Int) (x7 : List YSpan.den) (x8 : Int) (x9 : Int) : L_axis_Check_0 n (m1 + 1) x0 x3 x4 x7 x8 x9 =
  (bcond (decide ((x9 : Int) < x8))
   (if 0 ≤ (x9 : Int) ∧ (x9 : Int) < (List.length x7 : Int) then
    (bcond ((decide (((at_ (e := YSpan) x7 x9).1 : Int) < 0)) == false)
     (bcond (decide (((at_ (e := YSpan) x7 x9).1 : Int) > 2))
      (some (ret_axis_Check 8))
      (bcond ((decide (((at_ (e := YSpan) x7 x9).2 : Int) < 1)) == false)
       (bcond (decide (((at_ (e := YSpan) x7 x9).2 : Int) > 2147483647))
        (some (ret_axis_Check 2))
        (bcond ((decide ((x9 : Int) > 0)) == true)
         (if 0 ≤ ((IntKind.i64.wrap (x9 - 1)) : Int) ∧ ((IntKind.i64.wrap (x9 - 1)) : Int) < (List.length x0 : Int) then
          (bcond ((((at_ (e := YSpan) x0 (IntKind.i64.wrap (x9 - 1))).1 : Int) == (at_ (e := YSpan) x7 x9).1) == false)
           (if 0 ≤ ((IntKind.i64.wrap (x9 - 1)) : Int) ∧ ((IntKind.i64.wrap (x9 - 1)) : Int) < (List.length x0 : Int) then
            (bcond ((((at_ (e := YSpan) x0 (IntKind.i64.wrap (x9 - 1))).1 : Int) == 2) == true)
             (bcond (((at_ (e := YSpan) x7 x9).1 : Int) == 1)
              (some (ret_axis_Check 5))
              (bcond (((at_ (e := YSpan) x7 x9).1 : Int) != 1)
               (bcond (((at_ (e := YSpan) x7 x9).1 : Int) != 2)
                (L_axis_Check_0 n m1 x0 (if (2147483648 : Int) < (IntKind.i64.wrap (x3 + (at_ (e := YSpan) x7 x9).2)) then 2147483648 else (IntKind.i64.wrap (x3 + (at_ (e := YSpan) x7 x9).2))) (if (2147483648 : Int) < (IntKind.i64.wrap (x4 + (at_ (e := YSpan) x7 x9).2)) then 2147483648 else (IntKind.i64.wrap (x4 + (at_ (e := YSpan) x7 x9).2))) x7 x8 (IntKind.i64.wrap (x9 + 1)))
                (L_axis_Check_0 n m1 x0 (if (2147483648 : Int) < (IntKind.i64.wrap (x3 + (at_ (e := YSpan) x7 x9).2)) then 2147483648 else (IntKind.i64.wrap (x3 + (at_ (e := YSpan) x7 x9).2))) x4 x7 x8 (IntKind.i64.wrap (x9 + 1))))
               (bcond (((at_ (e := YSpan) x7 x9).1 : Int) != 2)
                (L_axis_Check_0 n m1 x0 x3 (if (2147483648 : Int) < (IntKind.i64.wrap (x4 + (at_ (e := YSpan) x7 x9).2)) then 2147483648 else (IntKind.i64.wrap (x4 + (at_ (e := YSpan) x7 x9).2))) x7 x8 (IntKind.i64.wrap (x9 + 1)))
                (L_axis_Check_0 n m1 x0 x3 x4 x7 x8 (IntKind.i64.wrap (x9 + 1))))))
             (bcond (((at_ (e := YSpan) x7 x9).1 : Int) != 1)
              (bcond (((at_ (e := YSpan) x7 x9).1 : Int) != 2)
               (L_axis_Check_0 n m1 x0 (if (2147483648 : Int) < (IntKind.i64.wrap (x3 + (at_ (e := YSpan) x7 x9).2)) then 2147483648 else (IntKind.i64.wrap (x3 + (at_ (e := YSpan) x7 x9).2))) (if (2147483648 : Int) < (IntKind.i64.wrap (x4 + (at_ (e := YSpan) x7 x9).2)) then 2147483648 else (IntKind.i64.wrap (x4 + (at_ (e := YSpan) x7 x9).2))) x7 x8 (IntKind.i64.wrap (x9 + 1)))
               (L_axis_Check_0 n m1 x0 (if (2147483648 : Int) < (IntKind.i64.wrap (x3 + (at_ (e := YSpan) x7 x9).2)) then 2147483648 else (IntKind.i64.wrap (x3 + (at_ (e := YSpan) x7 x9).2))) x4 x7 x8 (IntKind.i64.wrap (x9 + 1))))
              (bcond (((at_ (e := YSpan) x7 x9).1 : Int) != 2)
               (L_axis_Check_0 n m1 x0 x3 (if (2147483648 : Int) < (IntKind.i64.wrap (x4 + (at_ (e := YSpan) x7 x9).2)) then 2147483648 else (IntKind.i64.wrap (x4 + (at_ (e := YSpan) x7 x9).2))) x7 x8 (IntKind.i64.wrap (x9 + 1)))
               (L_axis_Check_0 n m1 x0 x3 x4 x7 x8 (IntKind.i64.wrap (x9 + 1))))))
           else none)
           (some (ret_axis_Check 5)))
         else none)
         (bcond (((at_ (e := YSpan) x7 x9).1 : Int) != 1)
          (bcond (((at_ (e := YSpan) x7 x9).1 : Int) != 2)
           (L_axis_Check_0 n m1 x0 (if (2147483648 : Int) < (IntKind.i64.wrap (x3 + (at_ (e := YSpan) x7 x9).2)) then 2147483648 else (IntKind.i64.wrap (x3 + (at_ (e := YSpan) x7 x9).2))) (if (2147483648 : Int) < (IntKind.i64.wrap (x4 + (at_ (e := YSpan) x7 x9).2)) then 2147483648 else (IntKind.i64.wrap (x4 + (at_ (e := YSpan) x7 x9).2))) x7 x8 (IntKind.i64.wrap (x9 + 1)))
           (L_axis_Check_0 n m1 x0 (if (2147483648 : Int) < (IntKind.i64.wrap (x3 + (at_ (e := YSpan) x7 x9).2)) then 2147483648 else (IntKind.i64.wrap (x3 + (at_ (e := YSpan) x7 x9).2))) x4 x7 x8 (IntKind.i64.wrap (x9 + 1))))
          (bcond (((at_ (e := YSpan) x7 x9).1 : Int) != 2)
           (L_axis_Check_0 n m1 x0 x3 (if (2147483648 : Int) < (IntKind.i64.wrap (x4 + (at_ (e := YSpan) x7 x9).2)) then 2147483648 else (IntKind.i64.wrap (x4 + (at_ (e := YSpan) x7 x9).2))) x7 x8 (IntKind.i64.wrap (x9 + 1)))
           (L_axis_Check_0 n m1 x0 x3 x4 x7 x8 (IntKind.i64.wrap (x9 + 1)))))))
       (some (ret_axis_Check 2))))
     (some (ret_axis_Check 8)))
   else none)
   (bcond ((decide ((x3 : Int) > 2147483647)) == false)
    (bcond (decide ((x4 : Int) > 2147483647))
     (some (ret_axis_Check 3))
     (some (ret_axis_Check 0)))
    (some (ret_axis_Check 3)))) := by kernel_rfl
theorem ok_axis_Check : fnOk os_axis_Check sig_axis_Check Try.f108 = true := by kernel_rfl
theorem fn_axis_Check : P.funcs[108]? = some Try.f108 := by kernel_rfl
noncomputable def F_axis_Check : sig_axis_Check.Fn := fun x y => run T (env_axis_Check) os_axis_Check sig_axis_Check Try.f108 hs_axis_Check big x y
theorem S_axis_Check : Sound P 108 ⟨sig_axis_Check, F_axis_Check⟩ := sound_of (os := os_axis_Check) (hs := hs_axis_Check) (env_nil) fn_axis_Check ok_axis_Check (fun x y out h => ⟨big, h⟩)
theorem e_axis_Check (a0 : List YSpan.den) : C_axis_Check F_axis_Check a0 =
  (L_axis_Check_0 big big a0 0 0 a0 (List.length a0 : Int) 0) := by kernel_rfl
def sig_axis_lengths : Sig := ⟨[.v false (.list YSpan)], [], [(false, [.fr (.int .i64)]), (false, [.fr (.int .i64)])]⟩
def C_axis_lengths (F : sig_axis_lengths.Fn) (a0 : List YSpan.den) : Option sig_axis_lengths.Out := F (a0, ()) ()
def ret_axis_lengths (v0 : Int) (v1 : Int) : sig_axis_lengths.Out := (((v0, ()), (v1, ()), ()), ())
def res_axis_lengths_0 (r : sig_axis_lengths.Out) : Int := r.1.1.1
@[simp] theorem res_axis_lengths_0_ret (v0 : Int) (v1 : Int) : res_axis_lengths_0 (ret_axis_lengths v0 v1) = v0 := rfl
def res_axis_lengths_1 (r : sig_axis_lengths.Out) : Int := r.1.2.1.1
@[simp] theorem res_axis_lengths_1_ret (v0 : Int) (v1 : Int) : res_axis_lengths_1 (ret_axis_lengths v0 v1) = v1 := rfl
def os_axis_lengths : RegT := ⟨[], [], false⟩
def hs_axis_lengths : List Keep := [[(4, []), (5, []), (8, []), (9, []), (10, [])]]
@[reducible] noncomputable def env_axis_lengths : Env := []
noncomputable def L_axis_lengths_0 (n m1 : Nat) (x4 : Int) (x5 : Int) (x8 : List YSpan.den) (x9 : Int) (x10 : Int) : Option sig_axis_lengths.Out :=
  loopAt T (env_axis_lengths) os_axis_lengths sig_axis_lengths Try.f109 hs_axis_lengths n [.sr, .sr, .sl, .sr, .bl] m1 (mk 31 [(4, .cs false [.val (.int .i64) x4]), (5, .cs false [.val (.int .i64) x5]), (8, .cs false [.val (.list YSpan) x8]), (9, .cs false [.val (.int .i64) x9]), (10, .cs false [.val (.int .i64) x10])])
theorem L_axis_lengths_0_step (n m1 : Nat) (x4 : Int) (x5 : Int) (x8 : List YSpan.den) (x9 : Int) (x10 : Int) : L_axis_lengths_0 n (m1 + 1) x4 x5 x8 x9 x10 =
  (bcond (decide ((x10 : Int) < x9))
   (if 0 ≤ (x10 : Int) ∧ (x10 : Int) < (List.length x8 : Int) then
    (bcond (((at_ (e := YSpan) x8 x10).1 : Int) != 1)
     (bcond (((at_ (e := YSpan) x8 x10).1 : Int) != 2)
      (L_axis_lengths_0 n m1 (IntKind.i64.wrap (x4 + (at_ (e := YSpan) x8 x10).2)) (IntKind.i64.wrap (x5 + (at_ (e := YSpan) x8 x10).2)) x8 x9 (IntKind.i64.wrap (x10 + 1)))
      (L_axis_lengths_0 n m1 (IntKind.i64.wrap (x4 + (at_ (e := YSpan) x8 x10).2)) x5 x8 x9 (IntKind.i64.wrap (x10 + 1))))
     (bcond (((at_ (e := YSpan) x8 x10).1 : Int) != 2)
      (L_axis_lengths_0 n m1 x4 (IntKind.i64.wrap (x5 + (at_ (e := YSpan) x8 x10).2)) x8 x9 (IntKind.i64.wrap (x10 + 1)))
      (L_axis_lengths_0 n m1 x4 x5 x8 x9 (IntKind.i64.wrap (x10 + 1)))))
   else none)
   (some (ret_axis_lengths x4 x5))) := by kernel_rfl
theorem ok_axis_lengths : fnOk os_axis_lengths sig_axis_lengths Try.f109 = true := by kernel_rfl
theorem fn_axis_lengths : P.funcs[109]? = some Try.f109 := by kernel_rfl
noncomputable def F_axis_lengths : sig_axis_lengths.Fn := fun x y => run T (env_axis_lengths) os_axis_lengths sig_axis_lengths Try.f109 hs_axis_lengths big x y
theorem S_axis_lengths : Sound P 109 ⟨sig_axis_lengths, F_axis_lengths⟩ := sound_of (os := os_axis_lengths) (hs := hs_axis_lengths) (env_nil) fn_axis_lengths ok_axis_lengths (fun x y out h => ⟨big, h⟩)
theorem e_axis_lengths (a0 : List YSpan.den) : C_axis_lengths F_axis_lengths a0 =
  (L_axis_lengths_0 big big 0 0 a0 (List.length a0 : Int) 0) := by kernel_rfl
def sig_axis_place : Sig := ⟨[.v false (.list YSpan), .v false (.int .i64)], [], [(false, [.fr (.int .i64)])]⟩
def C_axis_place (F : sig_axis_place.Fn) (a0 : List YSpan.den) (a1 : Int) : Option sig_axis_place.Out := F (a0, a1, ()) ()
def ret_axis_place (v0 : Int) : sig_axis_place.Out := (((v0, ()), ()), ())
def res_axis_place_0 (r : sig_axis_place.Out) : Int := r.1.1.1
@[simp] theorem res_axis_place_0_ret (v0 : Int) : res_axis_place_0 (ret_axis_place v0) = v0 := rfl
def os_axis_place : RegT := ⟨[], [], false⟩
def hs_axis_place : List Keep := [[(1, []), (5, []), (6, []), (9, []), (10, []), (11, [])]]
@[reducible] noncomputable def env_axis_place : Env := []
noncomputable def L_axis_place_0 (n m1 : Nat) (x1 : Int) (x5 : Int) (x6 : Int) (x9 : List YSpan.den) (x10 : Int) (x11 : Int) : Option sig_axis_place.Out :=
  loopAt T (env_axis_place) os_axis_place sig_axis_place Try.f144 hs_axis_place n [.sr, .sr, .sl, .sr, .bl] m1 (mk 51 [(1, .cs false [.val (.int .i64) x1]), (5, .cs false [.val (.int .i64) x5]), (6, .cs false [.val (.int .i64) x6]), (9, .cs false [.val (.list YSpan) x9]), (10, .cs false [.val (.int .i64) x10]), (11, .cs false [.val (.int .i64) x11])])
theorem L_axis_place_0_step (n m1 : Nat) (x1 : Int) (x5 : Int) (x6 : Int) (x9 : List YSpan.den) (x10 : Int) (x11 : Int) : L_axis_place_0 n (m1 + 1) x1 x5 x6 x9 x10 x11 =
  (bcond (decide ((x11 : Int) < x10))
   (if 0 ≤ (x11 : Int) ∧ (x11 : Int) < (List.length x9 : Int) then
    (bcond (((at_ (e := YSpan) x9 x11).1 : Int) == 1)
     (L_axis_place_0 n m1 x1 x5 (IntKind.i64.wrap (x6 + (at_ (e := YSpan) x9 x11).2)) x9 x10 (IntKind.i64.wrap (x11 + 1)))
     (bcond (((at_ (e := YSpan) x9 x11).1 : Int) == 0)
      (bcond (decide ((x1 : Int) < (IntKind.i64.wrap (x5 + (at_ (e := YSpan) x9 x11).2))))
       (some (ret_axis_place (IntKind.i64.wrap ((IntKind.i64.wrap (x6 + x1)) - x5))))
       (L_axis_place_0 n m1 x1 (IntKind.i64.wrap (x5 + (at_ (e := YSpan) x9 x11).2)) (IntKind.i64.wrap (x6 + (at_ (e := YSpan) x9 x11).2)) x9 x10 (IntKind.i64.wrap (x11 + 1))))
      (bcond (decide ((x1 : Int) < (IntKind.i64.wrap (x5 + (at_ (e := YSpan) x9 x11).2))))
       (some (ret_axis_place (-1)))
       (L_axis_place_0 n m1 x1 (IntKind.i64.wrap (x5 + (at_ (e := YSpan) x9 x11).2)) x6 x9 x10 (IntKind.i64.wrap (x11 + 1))))))
   else none)
   (some (ret_axis_place (-1)))) := by kernel_rfl
theorem ok_axis_place : fnOk os_axis_place sig_axis_place Try.f144 = true := by kernel_rfl
theorem fn_axis_place : P.funcs[144]? = some Try.f144 := by kernel_rfl
noncomputable def F_axis_place : sig_axis_place.Fn := fun x y => run T (env_axis_place) os_axis_place sig_axis_place Try.f144 hs_axis_place big x y
theorem S_axis_place : Sound P 144 ⟨sig_axis_place, F_axis_place⟩ := sound_of (os := os_axis_place) (hs := hs_axis_place) (env_nil) fn_axis_place ok_axis_place (fun x y out h => ⟨big, h⟩)
theorem e_axis_place (a0 : List YSpan.den) (a1 : Int) : C_axis_place F_axis_place a0 a1 =
  (L_axis_place_0 big big a1 0 0 a0 (List.length a0 : Int) 0) := by kernel_rfl
def sig_axis_Apply : Sig := ⟨[.v false (.list YSpan), .v false (.list (.int .i64))], [], [(false, [.fr (.list (.int .i64))]), (false, [.fr (.int .i64)])]⟩
def C_axis_Apply (F : sig_axis_Apply.Fn) (a0 : List YSpan.den) (a1 : List (Int)) : Option sig_axis_Apply.Out := F (a0, a1, ()) ()
def ret_axis_Apply (v0 : List (Int)) (v1 : Int) : sig_axis_Apply.Out := (((v0, ()), (v1, ()), ()), ())
def res_axis_Apply_0 (r : sig_axis_Apply.Out) : List (Int) := r.1.1.1
@[simp] theorem res_axis_Apply_0_ret (v0 : List (Int)) (v1 : Int) : res_axis_Apply_0 (ret_axis_Apply v0 v1) = v0 := rfl
def res_axis_Apply_1 (r : sig_axis_Apply.Out) : Int := r.1.2.1.1
@[simp] theorem res_axis_Apply_1_ret (v0 : List (Int)) (v1 : Int) : res_axis_Apply_1 (ret_axis_Apply v0 v1) = v1 := rfl
def os_axis_Apply : RegT := ⟨[], [], false⟩
def hs_axis_Apply : List Keep := [[(0, []), (7, []), (9, [(0, 3, (.int .i64))]), (22, []), (23, []), (24, [])]]
@[reducible] noncomputable def env_axis_Apply : Env := [(108, ⟨sig_axis_Check, F_axis_Check⟩), (109, ⟨sig_axis_lengths, F_axis_lengths⟩), (144, ⟨sig_axis_place, F_axis_place⟩)]
noncomputable def L_axis_Apply_0 (n m1 : Nat) (x0 : List YSpan.den) (x7 : Int) (x9 : List (Int)) (x22 : List (Int)) (x23 : Int) (x24 : Int) : Option sig_axis_Apply.Out :=
  loopAt T (env_axis_Apply) os_axis_Apply sig_axis_Apply Try.f106 hs_axis_Apply n [.sr, .sr, .sr, .sr, .sl, .sr, .bl] m1 (mk 43 [(0, .cs false [.val (.list YSpan) x0]), (7, .cs false [.val (.int .i64) x7]), (9, .cs false [.own 3 (.int .i64) x9]), (22, .cs false [.val (.list (.int .i64)) x22]), (23, .cs false [.val (.int .i64) x23]), (24, .cs false [.val (.int .i64) x24])])
theorem L_axis_Apply_0_step (n m1 : Nat) (x0 : List YSpan.den) (x7 : Int) (x9 : List (Int)) (x22 : List (Int)) (x23 : Int) (x24 : Int) : L_axis_Apply_0 n (m1 + 1) x0 x7 x9 x22 x23 x24 =
  (bcond (decide ((x24 : Int) < x23))
   (if 0 ≤ (x24 : Int) ∧ (x24 : Int) < (List.length x22 : Int) then
    (bcond ((decide (((at_ (e := (.int .i64)) x22 x24) : Int) < 0)) == false)
     (bcond (decide (((at_ (e := (.int .i64)) x22 x24) : Int) ≥ x7))
      (some (ret_axis_Apply [] 2))
      ((C_axis_place F_axis_place x0 (at_ (e := (.int .i64)) x22 x24)).bind fun r1 =>
       (if (List.length (x9 : List Int) + List.length ([(res_axis_place_0 r1)] : List Int)) * 8 ≤ 140737488355328 then
        (L_axis_Apply_0 n m1 x0 x7 (x9 ++ [(res_axis_place_0 r1)]) x22 x23 (IntKind.i64.wrap (x24 + 1)))
       else none)))
     (some (ret_axis_Apply [] 2)))
   else none)
   (some (ret_axis_Apply x9 0))) := by kernel_rfl
theorem ok_axis_Apply : fnOk os_axis_Apply sig_axis_Apply Try.f106 = true := by kernel_rfl
theorem fn_axis_Apply : P.funcs[106]? = some Try.f106 := by kernel_rfl
noncomputable def F_axis_Apply : sig_axis_Apply.Fn := fun x y => run T (env_axis_Apply) os_axis_Apply sig_axis_Apply Try.f106 hs_axis_Apply big x y
theorem S_axis_Apply : Sound P 106 ⟨sig_axis_Apply, F_axis_Apply⟩ := sound_of (os := os_axis_Apply) (hs := hs_axis_Apply) (env_cons S_axis_Check (env_cons S_axis_lengths (env_cons S_axis_place (env_nil)))) fn_axis_Apply ok_axis_Apply (fun x y out h => ⟨big, h⟩)
theorem e_axis_Apply (a0 : List YSpan.den) (a1 : List (Int)) : C_axis_Apply F_axis_Apply a0 a1 =
  ((C_axis_Check F_axis_Check a0).bind fun r1 =>
   (bcond (((res_axis_Check_0 r1) : Int) != 0)
    (some (ret_axis_Apply [] (res_axis_Check_0 r1)))
    ((C_axis_lengths F_axis_lengths a0).bind fun r2 =>
     (L_axis_Apply_0 big big a0 (res_axis_lengths_0 r2) [] a1 (List.length a1 : Int) 0)))) := by kernel_rfl
def sig_R_AxisError : Sig := ⟨[.v false (.list YSpan)], [], [(false, [.fr (.int .i64)])]⟩
def C_R_AxisError (F : sig_R_AxisError.Fn) (a0 : List YSpan.den) : Option sig_R_AxisError.Out := F (a0, ()) ()
def ret_R_AxisError (v0 : Int) : sig_R_AxisError.Out := (((v0, ()), ()), ())
def res_R_AxisError_0 (r : sig_R_AxisError.Out) : Int := r.1.1.1
@[simp] theorem res_R_AxisError_0_ret (v0 : Int) : res_R_AxisError_0 (ret_R_AxisError v0) = v0 := rfl
def os_R_AxisError : RegT := ⟨[(9, .st 0 (.st 1 (.st 2 (.st 3 (.st 4 (.st 5 (.st 6 (.st 8 (.st 9 (.st 10 (.st 11 (.st 12 (.st 7 (.st 13 (.st 14 (.st 15 (.st 16 (.st 17 (.st 18 (.st 19 (.st 20 (.st 21 (.st 22 (.st 23 (.st 24 (.st 25 (.st 26 (.st 27 (.st 28 (.st 29 (.st 30 (.st 31 (.st 32 (.nil))))))))))))))))))))))))))))))))))], [], false⟩
def hs_R_AxisError : List Keep := [[(0, []), (3, []), (4, []), (7, []), (8, [])]]
@[reducible] noncomputable def env_R_AxisError : Env := [(36, ⟨sig_R_In, F_R_In⟩)]
noncomputable def L_R_AxisError_0 (n m1 : Nat) (x0 : List YSpan.den) (x3 : Int) (x4 : Int) (x7 : Int) (x8 : Int) : Option sig_R_AxisError.Out :=
  loopAt T (env_R_AxisError) os_R_AxisError sig_R_AxisError Try.f44 hs_R_AxisError n [.sr, .sr, .sl, .sr, .bl] m1 (mk 99 [(0, .cs false [.val (.list YSpan) x0]), (3, .cs false [.val (.int .i64) x3]), (4, .cs false [.val (.int .i64) x4]), (7, .cs false [.val (.int .i64) x7]), (8, .cs false [.val (.int .i64) x8])])
noncomputable def J_R_AxisError_0 (n m1 : Nat) (y0 : List YSpan.den) (y3 : Int) (y4 : Int) (y5 : Int) (y7 : Int) (y8 : Int) : Option sig_R_AxisError.Out :=
  (if 0 ≤ (y5 : Int) ∧ (y5 : Int) < (List.length y0 : Int) then
   (bcond ((((at_ (e := YSpan) y0 y5).1 : Int) != 2) == true)
    (bcond (decide ((y4 : Int) < 2147483648))
     (if 0 ≤ (y5 : Int) ∧ (y5 : Int) < (List.length y0 : Int) then
      (L_R_AxisError_0 n m1 y0 y3 (IntKind.i64.wrap (y4 + (at_ (e := YSpan) y0 y5).2)) y7 (IntKind.i64.wrap (y8 + 1)))
     else none)
     (L_R_AxisError_0 n m1 y0 y3 y4 y7 (IntKind.i64.wrap (y8 + 1))))
    (L_R_AxisError_0 n m1 y0 y3 y4 y7 (IntKind.i64.wrap (y8 + 1))))
  else none)
theorem L_R_AxisError_0_step (n m1 : Nat) (x0 : List YSpan.den) (x3 : Int) (x4 : Int) (x7 : Int) (x8 : Int) : L_R_AxisError_0 n (m1 + 1) x0 x3 x4 x7 x8 =
  (bcond (decide ((x8 : Int) < x7))
   (if 0 ≤ (x8 : Int) ∧ (x8 : Int) < (List.length x0 : Int) then
    ((C_R_In F_R_In (at_ (e := YSpan) x0 x8).1 0 2).bind fun r1 =>
     (bcond (!(res_R_In_0 r1))
      (some (ret_R_AxisError 8))
      (if 0 ≤ (x8 : Int) ∧ (x8 : Int) < (List.length x0 : Int) then
       ((C_R_In F_R_In (at_ (e := YSpan) x0 x8).2 1 2147483647).bind fun r2 =>
        (bcond (!(res_R_In_0 r2))
         (some (ret_R_AxisError 2))
         (bcond ((decide ((x8 : Int) > 0)) == true)
          (if 0 ≤ (x8 : Int) ∧ (x8 : Int) < (List.length x0 : Int) then
           (if 0 ≤ ((IntKind.i64.wrap (x8 - 1)) : Int) ∧ ((IntKind.i64.wrap (x8 - 1)) : Int) < (List.length x0 : Int) then
            (bcond ((((at_ (e := YSpan) x0 x8).1 : Int) == (at_ (e := YSpan) x0 (IntKind.i64.wrap (x8 - 1))).1) == false)
             (if 0 ≤ (x8 : Int) ∧ (x8 : Int) < (List.length x0 : Int) then
              (bcond ((((at_ (e := YSpan) x0 x8).1 : Int) == 1) == true)
               (if 0 ≤ ((IntKind.i64.wrap (x8 - 1)) : Int) ∧ ((IntKind.i64.wrap (x8 - 1)) : Int) < (List.length x0 : Int) then
                (bcond (((at_ (e := YSpan) x0 (IntKind.i64.wrap (x8 - 1))).1 : Int) == 2)
                 (some (ret_R_AxisError 5))
                 (if 0 ≤ (x8 : Int) ∧ (x8 : Int) < (List.length x0 : Int) then
                  (bcond ((((at_ (e := YSpan) x0 x8).1 : Int) != 1) == true)
                   (bcond (decide ((x3 : Int) < 2147483648))
                    (if 0 ≤ (x8 : Int) ∧ (x8 : Int) < (List.length x0 : Int) then
                     (J_R_AxisError_0 n m1 x0 (IntKind.i64.wrap (x3 + (at_ (e := YSpan) x0 x8).2)) x4 x8 x7 x8)
                    else none)
                    (J_R_AxisError_0 n m1 x0 x3 x4 x8 x7 x8))
                   (J_R_AxisError_0 n m1 x0 x3 x4 x8 x7 x8))
                 else none))
               else none)
               (if 0 ≤ (x8 : Int) ∧ (x8 : Int) < (List.length x0 : Int) then
                (bcond ((((at_ (e := YSpan) x0 x8).1 : Int) != 1) == true)
                 (bcond (decide ((x3 : Int) < 2147483648))
                  (if 0 ≤ (x8 : Int) ∧ (x8 : Int) < (List.length x0 : Int) then
                   (J_R_AxisError_0 n m1 x0 (IntKind.i64.wrap (x3 + (at_ (e := YSpan) x0 x8).2)) x4 x8 x7 x8)
                  else none)
                  (J_R_AxisError_0 n m1 x0 x3 x4 x8 x7 x8))
                 (J_R_AxisError_0 n m1 x0 x3 x4 x8 x7 x8))
               else none))
             else none)
             (some (ret_R_AxisError 5)))
           else none)
          else none)
          (if 0 ≤ (x8 : Int) ∧ (x8 : Int) < (List.length x0 : Int) then
           (bcond ((((at_ (e := YSpan) x0 x8).1 : Int) != 1) == true)
            (bcond (decide ((x3 : Int) < 2147483648))
             (if 0 ≤ (x8 : Int) ∧ (x8 : Int) < (List.length x0 : Int) then
              (J_R_AxisError_0 n m1 x0 (IntKind.i64.wrap (x3 + (at_ (e := YSpan) x0 x8).2)) x4 x8 x7 x8)
             else none)
             (J_R_AxisError_0 n m1 x0 x3 x4 x8 x7 x8))
            (J_R_AxisError_0 n m1 x0 x3 x4 x8 x7 x8))
          else none))))
      else none)))
   else none)
   (bcond ((decide ((x3 : Int) > 2147483647)) == false)
    (bcond (decide ((x4 : Int) > 2147483647))
     (some (ret_R_AxisError 3))
     (some (ret_R_AxisError 0)))
    (some (ret_R_AxisError 3)))) := by kernel_rfl
theorem ok_R_AxisError : fnOk os_R_AxisError sig_R_AxisError Try.f44 = true := by kernel_rfl
theorem fn_R_AxisError : P.funcs[44]? = some Try.f44 := by kernel_rfl
noncomputable def F_R_AxisError : sig_R_AxisError.Fn := fun x y => run T (env_R_AxisError) os_R_AxisError sig_R_AxisError Try.f44 hs_R_AxisError big x y
theorem S_R_AxisError : Sound P 44 ⟨sig_R_AxisError, F_R_AxisError⟩ := sound_of (os := os_R_AxisError) (hs := hs_R_AxisError) (env_cons S_R_In (env_nil)) fn_R_AxisError ok_R_AxisError (fun x y out h => ⟨big, h⟩)
theorem e_R_AxisError (a0 : List YSpan.den) : C_R_AxisError F_R_AxisError a0 =
  (L_R_AxisError_0 big big a0 0 0 (List.length a0 : Int) 0) := by kernel_rfl
def sig_R_AxisSize : Sig := ⟨[.v false (.list YSpan)], [], [(false, [.fr (.int .i64)])]⟩
def C_R_AxisSize (F : sig_R_AxisSize.Fn) (a0 : List YSpan.den) : Option sig_R_AxisSize.Out := F (a0, ()) ()
def ret_R_AxisSize (v0 : Int) : sig_R_AxisSize.Out := (((v0, ()), ()), ())
def res_R_AxisSize_0 (r : sig_R_AxisSize.Out) : Int := r.1.1.1
@[simp] theorem res_R_AxisSize_0_ret (v0 : Int) : res_R_AxisSize_0 (ret_R_AxisSize v0) = v0 := rfl
def os_R_AxisSize : RegT := ⟨[], [], false⟩
def hs_R_AxisSize : List Keep := [[(0, []), (3, []), (6, []), (7, [])]]
@[reducible] noncomputable def env_R_AxisSize : Env := []
noncomputable def L_R_AxisSize_0 (n m1 : Nat) (x0 : List YSpan.den) (x3 : Int) (x6 : Int) (x7 : Int) : Option sig_R_AxisSize.Out :=
  loopAt T (env_R_AxisSize) os_R_AxisSize sig_R_AxisSize Try.f115 hs_R_AxisSize n [.sr, .sr, .sl, .sr, .bl] m1 (mk 19 [(0, .cs false [.val (.list YSpan) x0]), (3, .cs false [.val (.int .i64) x3]), (6, .cs false [.val (.int .i64) x6]), (7, .cs false [.val (.int .i64) x7])])
theorem L_R_AxisSize_0_step (n m1 : Nat) (x0 : List YSpan.den) (x3 : Int) (x6 : Int) (x7 : Int) : L_R_AxisSize_0 n (m1 + 1) x0 x3 x6 x7 =
  (bcond (decide ((x7 : Int) < x6))
   (if 0 ≤ (x7 : Int) ∧ (x7 : Int) < (List.length x0 : Int) then
    (L_R_AxisSize_0 n m1 x0 (IntKind.i64.wrap (x3 + (at_ (e := YSpan) x0 x7).2)) x6 (IntKind.i64.wrap (x7 + 1)))
   else none)
   (some (ret_R_AxisSize x3))) := by kernel_rfl
theorem ok_R_AxisSize : fnOk os_R_AxisSize sig_R_AxisSize Try.f115 = true := by kernel_rfl
theorem fn_R_AxisSize : P.funcs[115]? = some Try.f115 := by kernel_rfl
noncomputable def F_R_AxisSize : sig_R_AxisSize.Fn := fun x y => run T (env_R_AxisSize) os_R_AxisSize sig_R_AxisSize Try.f115 hs_R_AxisSize big x y
theorem S_R_AxisSize : Sound P 115 ⟨sig_R_AxisSize, F_R_AxisSize⟩ := sound_of (os := os_R_AxisSize) (hs := hs_R_AxisSize) (env_nil) fn_R_AxisSize ok_R_AxisSize (fun x y out h => ⟨big, h⟩)
theorem e_R_AxisSize (a0 : List YSpan.den) : C_R_AxisSize F_R_AxisSize a0 =
  (L_R_AxisSize_0 big big a0 0 (List.length a0 : Int) 0) := by kernel_rfl
def sig_law_axes : Sig := ⟨[], [], [(false, [.fr .bool])]⟩
abbrev C_law_axes (F : sig_law_axes.Fn) : Option sig_law_axes.Out := F () ()
def ret_law_axes (v0 : Bool) : sig_law_axes.Out := (((v0, ()), ()), ())
def res_law_axes_0 (r : sig_law_axes.Out) : Bool := r.1.1.1
@[simp] theorem res_law_axes_0_ret (v0 : Bool) : res_law_axes_0 (ret_law_axes v0) = v0 := rfl
def os_law_axes : RegT := ⟨[], [], false⟩
def hs_law_axes : List Keep := []
@[reducible] noncomputable def env_law_axes : Env := [(106, ⟨sig_axis_Apply, F_axis_Apply⟩), (107, ⟨sig_R_SameInts, F_R_SameInts⟩)]
theorem ok_law_axes : fnOk os_law_axes sig_law_axes Try.f42 = true := by kernel_rfl
theorem fn_law_axes : P.funcs[42]? = some Try.f42 := by kernel_rfl
noncomputable def F_law_axes : sig_law_axes.Fn := fun x y => run T (env_law_axes) os_law_axes sig_law_axes Try.f42 hs_law_axes big x y
theorem S_law_axes : Sound P 42 ⟨sig_law_axes, F_law_axes⟩ := sound_of (os := os_law_axes) (hs := hs_law_axes) (env_cons S_axis_Apply (env_cons S_R_SameInts (env_nil))) fn_law_axes ok_law_axes (fun x y out h => ⟨big, h⟩)
theorem e_law_axes : C_law_axes F_law_axes =
  ((C_axis_Apply F_axis_Apply [(0, 2), (1, 3), (0, 1)] [1, 2]).bind fun r1 =>
   (bcond ((((res_axis_Apply_1 r1) : Int) == 0) == true)
    ((C_R_SameInts F_R_SameInts (res_axis_Apply_0 r1) [1, 5]).bind fun r2 =>
     (some (ret_law_axes (res_R_SameInts_0 r2))))
    (some (ret_law_axes false)))) := by kernel_rfl
def sig_law_few : Sig := ⟨[.v false (.list YSpan)], [], [(false, [.fr .bool])]⟩
def C_law_few (F : sig_law_few.Fn) (a0 : List YSpan.den) : Option sig_law_few.Out := F (a0, ()) ()
def ret_law_few (v0 : Bool) : sig_law_few.Out := (((v0, ()), ()), ())
def res_law_few_0 (r : sig_law_few.Out) : Bool := r.1.1.1
@[simp] theorem res_law_few_0_ret (v0 : Bool) : res_law_few_0 (ret_law_few v0) = v0 := rfl
def os_law_few : RegT := ⟨[], [], false⟩
def hs_law_few : List Keep := []
@[reducible] noncomputable def env_law_few : Env := [(115, ⟨sig_R_AxisSize, F_R_AxisSize⟩)]
theorem ok_law_few : fnOk os_law_few sig_law_few Try.f45 = true := by kernel_rfl
theorem fn_law_few : P.funcs[45]? = some Try.f45 := by kernel_rfl
noncomputable def F_law_few : sig_law_few.Fn := fun x y => run T (env_law_few) os_law_few sig_law_few Try.f45 hs_law_few big x y
theorem S_law_few : Sound P 45 ⟨sig_law_few, F_law_few⟩ := sound_of (os := os_law_few) (hs := hs_law_few) (env_cons S_R_AxisSize (env_nil)) fn_law_few ok_law_few (fun x y out h => ⟨big, h⟩)
theorem e_law_few (a0 : List YSpan.den) : C_law_few F_law_few a0 =
  ((C_R_AxisSize F_R_AxisSize a0).bind fun r1 =>
   (some (ret_law_few (decide (((res_R_AxisSize_0 r1) : Int) ≤ 300))))) := by kernel_rfl
def sig_law_act : Sig := ⟨[.v false (.list YSpan)], [], [(true, [.fr YAct])]⟩
def C_law_act (F : sig_law_act.Fn) (a0 : List YSpan.den) : Option sig_law_act.Out := F (a0, ()) ()
def ret_law_act (v0 : YAct.den) : sig_law_act.Out := (((v0, ()), ()), ())
def res_law_act_0 (r : sig_law_act.Out) : YAct.den := r.1.1.1
@[simp] theorem res_law_act_0_ret (v0 : YAct.den) : res_law_act_0 (ret_law_act v0) = v0 := rfl
def os_law_act : RegT := ⟨[(5, .st 0 (.st 1 (.st 2 (.st 3 (.st 5 (.st 6 (.st 7 (.st 8 (.st 4 (.st 9 (.st 10 (.st 11 (.st 12 (.nil))))))))))))))], [], false⟩
def hs_law_act : List Keep := [[(0, []), (2, []), (3, [(0, 30, YStep)]), (7, []), (8, [])], [(0, []), (2, []), (3, [(0, 30, YStep)]), (5, [(3, 113, YElem)]), (7, []), (8, []), (30, []), (31, [])]]
@[reducible] noncomputable def env_law_act : Env := [(21, ⟨sig_R_ActOf, F_R_ActOf⟩)]
noncomputable def L_law_act_0 (n m1 : Nat) (x0 : List YSpan.den) (x3 : List YStep.den) (x7 : Int) (x8 : Int) : Option sig_law_act.Out :=
  loopAt T (env_law_act) os_law_act sig_law_act Try.f46 hs_law_act n [.sr, .sr, .sl, .sr, .bl] m1 (mk 47 [(0, .cs false [.val (.list YSpan) x0]), (2, .box [.nils, .nils, .nils]), (3, .cs false [.own 30 YStep x3]), (7, .cs false [.val (.int .i64) x7]), (8, .cs false [.val (.int .i64) x8])])
noncomputable def L_law_act_1 (n m1 m2 : Nat) (x0 : List YSpan.den) (x3 : List YStep.den) (x5_0 : Int) (x5_1 : Int) (x5_3 : List YElem.den) (x7 : Int) (x8 : Int) (x30 : Int) (x31 : Int) : Option sig_law_act.Out :=
  loopAt T (env_law_act) os_law_act sig_law_act Try.f46 hs_law_act n [.sr, .sr, .sl, .sr, .bl, .lp m1, .sr, .sr, .sl, .bl, .sr, .sr, .sl, .sr, .ct, .sr, .sr, .bl] m2 (mk 47 [(0, .cs false [.val (.list YSpan) x0]), (2, .box [.nils, .nils, .nils]), (3, .cs false [.own 30 YStep x3]), (5, .box [.val (.int .i64) x5_0, .val (.int .i64) x5_1, .nils, .own 113 YElem x5_3]), (7, .cs false [.val (.int .i64) x7]), (8, .cs false [.val (.int .i64) x8]), (30, .cs false [.val (.int .i64) x30]), (31, .cs false [.val (.int .i64) x31])])
theorem L_law_act_0_step (n m1 : Nat) (x0 : List YSpan.den) (x3 : List YStep.den) (x7 : Int) (x8 : Int) : L_law_act_0 n (m1 + 1) x0 x3 x7 x8 =
  (bcond (decide ((x8 : Int) < x7))
   (if 0 ≤ (x8 : Int) ∧ (x8 : Int) < (List.length x0 : Int) then
    (if 0 ≤ (x8 : Int) ∧ (x8 : Int) < (List.length x0 : Int) then
     (bcond (((at_ (e := YSpan) x0 x8).1 : Int) == 1)
      (if 0 ≤ (x8 : Int) ∧ (x8 : Int) < (List.length x0 : Int) then
       (L_law_act_1 n m1 n x0 x3 (at_ (e := YSpan) x0 x8).1 0 [] x7 x8 (at_ (e := YSpan) x0 x8).2 0)
      else none)
      (if (List.length (x3 : List YStep.den) + List.length ([((at_ (e := YSpan) x0 x8).1, ((at_ (e := YSpan) x0 x8).2, ([], [])))] : List YStep.den)) * 64 ≤ 140737488355328 then
       (L_law_act_0 n m1 x0 (x3 ++ [((at_ (e := YSpan) x0 x8).1, ((at_ (e := YSpan) x0 x8).2, ([], [])))]) x7 (IntKind.i64.wrap (x8 + 1)))
      else none))
    else none)
   else none)
   ((C_R_ActOf F_R_ActOf x3).bind fun r1 =>
    (some (ret_law_act (res_R_ActOf_0 r1))))) := by kernel_rfl
theorem L_law_act_1_step (n m1 m2 : Nat) (x0 : List YSpan.den) (x3 : List YStep.den) (x5_0 : Int) (x5_1 : Int) (x5_3 : List YElem.den) (x7 : Int) (x8 : Int) (x30 : Int) (x31 : Int) : L_law_act_1 n m1 (m2 + 1) x0 x3 x5_0 x5_1 x5_3 x7 x8 x30 x31 =
  (bcond (decide ((x31 : Int) < x30))
   (if (List.length (x5_3 : List YElem.den) + List.length ([(120, (0, []))] : List YElem.den)) * 40 ≤ 140737488355328 then
    (L_law_act_1 n m1 m2 x0 x3 x5_0 x5_1 (x5_3 ++ [(120, (0, []))]) x7 x8 x30 (IntKind.i64.wrap (x31 + 1)))
   else none)
   (if (List.length (x3 : List YStep.den) + List.length ([(x5_0, (x5_1, ([], x5_3)))] : List YStep.den)) * 64 ≤ 140737488355328 then
    (L_law_act_0 n m1 x0 (x3 ++ [(x5_0, (x5_1, ([], x5_3)))]) x7 (IntKind.i64.wrap (x8 + 1)))
   else none)) := by kernel_rfl
theorem ok_law_act : fnOk os_law_act sig_law_act Try.f46 = true := by kernel_rfl
theorem fn_law_act : P.funcs[46]? = some Try.f46 := by kernel_rfl
noncomputable def F_law_act : sig_law_act.Fn := fun x y => run T (env_law_act) os_law_act sig_law_act Try.f46 hs_law_act big x y
theorem S_law_act : Sound P 46 ⟨sig_law_act, F_law_act⟩ := sound_of (os := os_law_act) (hs := hs_law_act) (env_cons S_R_ActOf (env_nil)) fn_law_act ok_law_act (fun x y out h => ⟨big, h⟩)
theorem e_law_act (a0 : List YSpan.den) : C_law_act F_law_act a0 =
  (L_law_act_0 big big a0 [] (List.length a0 : Int) 0) := by kernel_rfl
def sig_axis_writer_flush : Sig := ⟨[.p 0], [[.ow 128 YSpan, .fr (.int .i64), .fr (.int .i64)]], []⟩
def C_axis_writer_flush (F : sig_axis_writer_flush.Fn) (b0_0 : List YSpan.den) (b0_1 : Int) (b0_2 : Int) : Option sig_axis_writer_flush.Out := F () ((b0_0, b0_1, b0_2, ()), ())
def ret_axis_writer_flush (v0 : List YSpan.den) (v1 : Int) (v2 : Int) : sig_axis_writer_flush.Out := ((), ((v0, v1, v2, ()), ()))
def res_axis_writer_flush_0 (r : sig_axis_writer_flush.Out) : List YSpan.den := r.2.1.1
@[simp] theorem res_axis_writer_flush_0_ret (v0 : List YSpan.den) (v1 : Int) (v2 : Int) : res_axis_writer_flush_0 (ret_axis_writer_flush v0 v1 v2) = v0 := rfl
def res_axis_writer_flush_1 (r : sig_axis_writer_flush.Out) : Int := r.2.1.2.1
@[simp] theorem res_axis_writer_flush_1_ret (v0 : List YSpan.den) (v1 : Int) (v2 : Int) : res_axis_writer_flush_1 (ret_axis_writer_flush v0 v1 v2) = v1 := rfl
def res_axis_writer_flush_2 (r : sig_axis_writer_flush.Out) : Int := r.2.1.2.2.1
@[simp] theorem res_axis_writer_flush_2_ret (v0 : List YSpan.den) (v1 : Int) (v2 : Int) : res_axis_writer_flush_2 (ret_axis_writer_flush v0 v1 v2) = v2 := rfl
def os_axis_writer_flush : RegT := ⟨[(1, .st 0 (.st 1 (.st 2 (.st 3 (.st 5 (.st 6 (.st 7 (.st 8 (.st 9 (.st 4 (.st 10 (.st 11 (.st 12 (.st 13 (.st 14 (.nil)))))))))))))))), (3, .st 0 (.st 1 (.st 2 (.st 3 (.st 5 (.st 6 (.st 7 (.st 8 (.st 9 (.st 4 (.st 10 (.st 11 (.st 12 (.st 13 (.st 14 (.nil))))))))))))))))], [], false⟩
def hs_axis_writer_flush : List Keep := []
@[reducible] noncomputable def env_axis_writer_flush : Env := []
theorem ok_axis_writer_flush : fnOk os_axis_writer_flush sig_axis_writer_flush Try.f145 = true := by kernel_rfl
theorem fn_axis_writer_flush : P.funcs[145]? = some Try.f145 := by kernel_rfl
noncomputable def F_axis_writer_flush : sig_axis_writer_flush.Fn := fun x y => run T (env_axis_writer_flush) os_axis_writer_flush sig_axis_writer_flush Try.f145 hs_axis_writer_flush big x y
theorem S_axis_writer_flush : Sound P 145 ⟨sig_axis_writer_flush, F_axis_writer_flush⟩ := sound_of (os := os_axis_writer_flush) (hs := hs_axis_writer_flush) (env_nil) fn_axis_writer_flush ok_axis_writer_flush (fun x y out h => ⟨big, h⟩)
theorem e_axis_writer_flush (b0_0 : List YSpan.den) (b0_1 : Int) (b0_2 : Int) : C_axis_writer_flush F_axis_writer_flush b0_0 b0_1 b0_2 =
  (bcond (decide ((b0_1 : Int) > 0))
   (if (List.length (b0_0 : List YSpan.den) + List.length ([(1, b0_1)] : List YSpan.den)) * 16 ≤ 140737488355328 then
    (bcond (decide ((b0_2 : Int) > 0))
     (if (List.length ((b0_0 ++ [(1, b0_1)]) : List YSpan.den) + List.length ([(2, b0_2)] : List YSpan.den)) * 16 ≤ 140737488355328 then
      (some (ret_axis_writer_flush ((b0_0 ++ [(1, b0_1)]) ++ [(2, b0_2)]) 0 0))
     else none)
     (some (ret_axis_writer_flush (b0_0 ++ [(1, b0_1)]) 0 0)))
   else none)
   (bcond (decide ((b0_2 : Int) > 0))
    (if (List.length (b0_0 : List YSpan.den) + List.length ([(2, b0_2)] : List YSpan.den)) * 16 ≤ 140737488355328 then
     (some (ret_axis_writer_flush (b0_0 ++ [(2, b0_2)]) 0 0))
    else none)
    (some (ret_axis_writer_flush b0_0 0 0)))) := by kernel_rfl
def sig_axis_writer_put : Sig := ⟨[.p 0, .v false (.int .i64), .v false (.int .i64)], [[.ow 128 YSpan, .fr (.int .i64), .fr (.int .i64)]], []⟩
def C_axis_writer_put (F : sig_axis_writer_put.Fn) (a1 : Int) (a2 : Int) (b0_0 : List YSpan.den) (b0_1 : Int) (b0_2 : Int) : Option sig_axis_writer_put.Out := F (a1, a2, ()) ((b0_0, b0_1, b0_2, ()), ())
def ret_axis_writer_put (v0 : List YSpan.den) (v1 : Int) (v2 : Int) : sig_axis_writer_put.Out := ((), ((v0, v1, v2, ()), ()))
def res_axis_writer_put_0 (r : sig_axis_writer_put.Out) : List YSpan.den := r.2.1.1
@[simp] theorem res_axis_writer_put_0_ret (v0 : List YSpan.den) (v1 : Int) (v2 : Int) : res_axis_writer_put_0 (ret_axis_writer_put v0 v1 v2) = v0 := rfl
def res_axis_writer_put_1 (r : sig_axis_writer_put.Out) : Int := r.2.1.2.1
@[simp] theorem res_axis_writer_put_1_ret (v0 : List YSpan.den) (v1 : Int) (v2 : Int) : res_axis_writer_put_1 (ret_axis_writer_put v0 v1 v2) = v1 := rfl
def res_axis_writer_put_2 (r : sig_axis_writer_put.Out) : Int := r.2.1.2.2.1
@[simp] theorem res_axis_writer_put_2_ret (v0 : List YSpan.den) (v1 : Int) (v2 : Int) : res_axis_writer_put_2 (ret_axis_writer_put v0 v1 v2) = v2 := rfl
def os_axis_writer_put : RegT := ⟨[], [], false⟩
def hs_axis_writer_put : List Keep := []
@[reducible] noncomputable def env_axis_writer_put : Env := [(145, ⟨sig_axis_writer_flush, F_axis_writer_flush⟩)]
theorem ok_axis_writer_put : fnOk os_axis_writer_put sig_axis_writer_put Try.f111 = true := by kernel_rfl
theorem fn_axis_writer_put : P.funcs[111]? = some Try.f111 := by kernel_rfl
noncomputable def F_axis_writer_put : sig_axis_writer_put.Fn := fun x y => run T (env_axis_writer_put) os_axis_writer_put sig_axis_writer_put Try.f111 hs_axis_writer_put big x y
theorem S_axis_writer_put : Sound P 111 ⟨sig_axis_writer_put, F_axis_writer_put⟩ := sound_of (os := os_axis_writer_put) (hs := hs_axis_writer_put) (env_cons S_axis_writer_flush (env_nil)) fn_axis_writer_put ok_axis_writer_put (fun x y out h => ⟨big, h⟩)
theorem e_axis_writer_put (a1 : Int) (a2 : Int) (b0_0 : List YSpan.den) (b0_1 : Int) (b0_2 : Int) : C_axis_writer_put F_axis_writer_put a1 a2 b0_0 b0_1 b0_2 =
  (bcond ((a2 : Int) == 0)
   (some (ret_axis_writer_put b0_0 b0_1 b0_2))
   (bcond ((a1 : Int) == 1)
    (some (ret_axis_writer_put b0_0 (IntKind.i64.wrap (b0_1 + a2)) b0_2))
    (bcond ((a1 : Int) == 2)
     (some (ret_axis_writer_put b0_0 b0_1 (IntKind.i64.wrap (b0_2 + a2))))
     ((C_axis_writer_flush F_axis_writer_flush b0_0 b0_1 b0_2).bind fun r1 =>
      (bcond ((decide (((IntKind.i64.wrap ((List.length (res_axis_writer_flush_0 r1) : Int) - 1)) : Int) ≥ 0)) == true)
       (if 0 ≤ ((IntKind.i64.wrap ((List.length (res_axis_writer_flush_0 r1) : Int) - 1)) : Int) ∧ ((IntKind.i64.wrap ((List.length (res_axis_writer_flush_0 r1) : Int) - 1)) : Int) < (List.length (res_axis_writer_flush_0 r1) : Int) then
        (bcond (((at_ (e := YSpan) (res_axis_writer_flush_0 r1) (IntKind.i64.wrap ((List.length (res_axis_writer_flush_0 r1) : Int) - 1))).1 : Int) == 0)
         (if 0 ≤ ((IntKind.i64.wrap ((List.length (res_axis_writer_flush_0 r1) : Int) - 1)) : Int) ∧ ((IntKind.i64.wrap ((List.length (res_axis_writer_flush_0 r1) : Int) - 1)) : Int) < (List.length (res_axis_writer_flush_0 r1) : Int) then
          (if 0 ≤ ((IntKind.i64.wrap ((List.length (res_axis_writer_flush_0 r1) : Int) - 1)) : Int) ∧ ((IntKind.i64.wrap ((List.length (res_axis_writer_flush_0 r1) : Int) - 1)) : Int) < (List.length (res_axis_writer_flush_0 r1) : Int) then
           (some (ret_axis_writer_put (List.set (res_axis_writer_flush_0 r1) (Int.toNat (IntKind.i64.wrap ((List.length (res_axis_writer_flush_0 r1) : Int) - 1))) ((at_ (e := YSpan) (res_axis_writer_flush_0 r1) (IntKind.i64.wrap ((List.length (res_axis_writer_flush_0 r1) : Int) - 1))).1, (IntKind.i64.wrap ((at_ (e := YSpan) (res_axis_writer_flush_0 r1) (IntKind.i64.wrap ((List.length (res_axis_writer_flush_0 r1) : Int) - 1))).2 + a2)))) (res_axis_writer_flush_1 r1) (res_axis_writer_flush_2 r1)))
          else none)
         else none)
         (if (List.length ((res_axis_writer_flush_0 r1) : List YSpan.den) + List.length ([(0, a2)] : List YSpan.den)) * 16 ≤ 140737488355328 then
          (some (ret_axis_writer_put ((res_axis_writer_flush_0 r1) ++ [(0, a2)]) (res_axis_writer_flush_1 r1) (res_axis_writer_flush_2 r1)))
         else none))
       else none)
       (if (List.length ((res_axis_writer_flush_0 r1) : List YSpan.den) + List.length ([(0, a2)] : List YSpan.den)) * 16 ≤ 140737488355328 then
        (some (ret_axis_writer_put ((res_axis_writer_flush_0 r1) ++ [(0, a2)]) (res_axis_writer_flush_1 r1) (res_axis_writer_flush_2 r1)))
       else none)))))) := by kernel_rfl
def sig_axis_writer_done : Sig := ⟨[.p 0], [[.oo 128 YSpan, .fr (.int .i64), .fr (.int .i64)]], [(false, [.fr (.list YSpan)]), (false, [.fr (.int .i64)])]⟩
def C_axis_writer_done (F : sig_axis_writer_done.Fn) (b0_0 : List YSpan.den) (b0_1 : Int) (b0_2 : Int) : Option sig_axis_writer_done.Out := F () (((some b0_0), b0_1, b0_2, ()), ())
def ret_axis_writer_done (v0 : List YSpan.den) (v1 : Int) (v2 : Option (List YSpan.den)) (v3 : Int) (v4 : Int) : sig_axis_writer_done.Out := (((v0, ()), (v1, ()), ()), ((v2, v3, v4, ()), ()))
def res_axis_writer_done_0 (r : sig_axis_writer_done.Out) : List YSpan.den := r.1.1.1
@[simp] theorem res_axis_writer_done_0_ret (v0 : List YSpan.den) (v1 : Int) (v2 : Option (List YSpan.den)) (v3 : Int) (v4 : Int) : res_axis_writer_done_0 (ret_axis_writer_done v0 v1 v2 v3 v4) = v0 := rfl
def res_axis_writer_done_1 (r : sig_axis_writer_done.Out) : Int := r.1.2.1.1
@[simp] theorem res_axis_writer_done_1_ret (v0 : List YSpan.den) (v1 : Int) (v2 : Option (List YSpan.den)) (v3 : Int) (v4 : Int) : res_axis_writer_done_1 (ret_axis_writer_done v0 v1 v2 v3 v4) = v1 := rfl
def os_axis_writer_done : RegT := ⟨[], [], false⟩
def hs_axis_writer_done : List Keep := []
@[reducible] noncomputable def env_axis_writer_done : Env := [(145, ⟨sig_axis_writer_flush, F_axis_writer_flush⟩), (108, ⟨sig_axis_Check, F_axis_Check⟩)]
theorem ok_axis_writer_done : fnOk os_axis_writer_done sig_axis_writer_done Try.f114 = true := by kernel_rfl
theorem fn_axis_writer_done : P.funcs[114]? = some Try.f114 := by kernel_rfl
noncomputable def F_axis_writer_done : sig_axis_writer_done.Fn := fun x y => run T (env_axis_writer_done) os_axis_writer_done sig_axis_writer_done Try.f114 hs_axis_writer_done big x y
theorem S_axis_writer_done : Sound P 114 ⟨sig_axis_writer_done, F_axis_writer_done⟩ := sound_of (os := os_axis_writer_done) (hs := hs_axis_writer_done) (env_cons S_axis_writer_flush (env_cons S_axis_Check (env_nil))) fn_axis_writer_done ok_axis_writer_done (fun x y out h => ⟨big, h⟩)
theorem e_axis_writer_done (b0_0 : List YSpan.den) (b0_1 : Int) (b0_2 : Int) : C_axis_writer_done F_axis_writer_done b0_0 b0_1 b0_2 =
  ((C_axis_writer_flush F_axis_writer_flush b0_0 b0_1 b0_2).bind fun r1 =>
   ((C_axis_Check F_axis_Check (res_axis_writer_flush_0 r1)).bind fun r2 =>
    (bcond (((res_axis_Check_0 r2) : Int) != 0)
     (some (ret_axis_writer_done [] 3 (some (res_axis_writer_flush_0 r1)) (res_axis_writer_flush_1 r1) (res_axis_writer_flush_2 r1)))
     (some (ret_axis_writer_done (res_axis_writer_flush_0 r1) 0 none (res_axis_writer_flush_1 r1) (res_axis_writer_flush_2 r1)))))) := by kernel_rfl
def sig_axis_reader_kind : Sig := ⟨[.p 0], [[.fr (.list YSpan), .fr (.int .i64)]], [(false, [.fr (.int .i64)])]⟩
def C_axis_reader_kind (F : sig_axis_reader_kind.Fn) (b0_0 : List YSpan.den) (b0_1 : Int) : Option sig_axis_reader_kind.Out := F () ((b0_0, b0_1, ()), ())
def ret_axis_reader_kind (v0 : Int) (v1 : List YSpan.den) (v2 : Int) : sig_axis_reader_kind.Out := (((v0, ()), ()), ((v1, v2, ()), ()))
def res_axis_reader_kind_0 (r : sig_axis_reader_kind.Out) : Int := r.1.1.1
@[simp] theorem res_axis_reader_kind_0_ret (v0 : Int) (v1 : List YSpan.den) (v2 : Int) : res_axis_reader_kind_0 (ret_axis_reader_kind v0 v1 v2) = v0 := rfl
def res_axis_reader_kind_1 (r : sig_axis_reader_kind.Out) : List YSpan.den := r.2.1.1
@[simp] theorem res_axis_reader_kind_1_ret (v0 : Int) (v1 : List YSpan.den) (v2 : Int) : res_axis_reader_kind_1 (ret_axis_reader_kind v0 v1 v2) = v1 := rfl
def res_axis_reader_kind_2 (r : sig_axis_reader_kind.Out) : Int := r.2.1.2.1
@[simp] theorem res_axis_reader_kind_2_ret (v0 : Int) (v1 : List YSpan.den) (v2 : Int) : res_axis_reader_kind_2 (ret_axis_reader_kind v0 v1 v2) = v2 := rfl
def os_axis_reader_kind : RegT := ⟨[], [], false⟩
def hs_axis_reader_kind : List Keep := []
@[reducible] noncomputable def env_axis_reader_kind : Env := []
theorem ok_axis_reader_kind : fnOk os_axis_reader_kind sig_axis_reader_kind Try.f110 = true := by kernel_rfl
theorem fn_axis_reader_kind : P.funcs[110]? = some Try.f110 := by kernel_rfl
noncomputable def F_axis_reader_kind : sig_axis_reader_kind.Fn := fun x y => run T (env_axis_reader_kind) os_axis_reader_kind sig_axis_reader_kind Try.f110 hs_axis_reader_kind big x y
theorem S_axis_reader_kind : Sound P 110 ⟨sig_axis_reader_kind, F_axis_reader_kind⟩ := sound_of (os := os_axis_reader_kind) (hs := hs_axis_reader_kind) (env_nil) fn_axis_reader_kind ok_axis_reader_kind (fun x y out h => ⟨big, h⟩)
theorem e_axis_reader_kind (b0_0 : List YSpan.den) (b0_1 : Int) : C_axis_reader_kind F_axis_reader_kind b0_0 b0_1 =
  (bcond (((List.length b0_0 : Int) : Int) == 0)
   (some (ret_axis_reader_kind (-1) b0_0 b0_1))
   (if 0 ≤ (0 : Int) ∧ (0 : Int) < (List.length b0_0 : Int) then
    (some (ret_axis_reader_kind (at_ (e := YSpan) b0_0 0).1 b0_0 b0_1))
   else none)) := by kernel_rfl
def sig_axis_reader_left : Sig := ⟨[.p 0], [[.fr (.list YSpan), .fr (.int .i64)]], [(false, [.fr (.int .i64)])]⟩
def C_axis_reader_left (F : sig_axis_reader_left.Fn) (b0_0 : List YSpan.den) (b0_1 : Int) : Option sig_axis_reader_left.Out := F () ((b0_0, b0_1, ()), ())
def ret_axis_reader_left (v0 : Int) (v1 : List YSpan.den) (v2 : Int) : sig_axis_reader_left.Out := (((v0, ()), ()), ((v1, v2, ()), ()))
def res_axis_reader_left_0 (r : sig_axis_reader_left.Out) : Int := r.1.1.1
@[simp] theorem res_axis_reader_left_0_ret (v0 : Int) (v1 : List YSpan.den) (v2 : Int) : res_axis_reader_left_0 (ret_axis_reader_left v0 v1 v2) = v0 := rfl
def res_axis_reader_left_1 (r : sig_axis_reader_left.Out) : List YSpan.den := r.2.1.1
@[simp] theorem res_axis_reader_left_1_ret (v0 : Int) (v1 : List YSpan.den) (v2 : Int) : res_axis_reader_left_1 (ret_axis_reader_left v0 v1 v2) = v1 := rfl
def res_axis_reader_left_2 (r : sig_axis_reader_left.Out) : Int := r.2.1.2.1
@[simp] theorem res_axis_reader_left_2_ret (v0 : Int) (v1 : List YSpan.den) (v2 : Int) : res_axis_reader_left_2 (ret_axis_reader_left v0 v1 v2) = v2 := rfl
def os_axis_reader_left : RegT := ⟨[(1, .st 0 (.st 1 (.st 2 (.st 7 (.st 8 (.st 9 (.st 3 (.st 4 (.st 5 (.st 6 (.st 10 (.st 11 (.st 12 (.nil))))))))))))))], [], false⟩
def hs_axis_reader_left : List Keep := []
@[reducible] noncomputable def env_axis_reader_left : Env := []
theorem ok_axis_reader_left : fnOk os_axis_reader_left sig_axis_reader_left Try.f112 = true := by kernel_rfl
theorem fn_axis_reader_left : P.funcs[112]? = some Try.f112 := by kernel_rfl
noncomputable def F_axis_reader_left : sig_axis_reader_left.Fn := fun x y => run T (env_axis_reader_left) os_axis_reader_left sig_axis_reader_left Try.f112 hs_axis_reader_left big x y
theorem S_axis_reader_left : Sound P 112 ⟨sig_axis_reader_left, F_axis_reader_left⟩ := sound_of (os := os_axis_reader_left) (hs := hs_axis_reader_left) (env_nil) fn_axis_reader_left ok_axis_reader_left (fun x y out h => ⟨big, h⟩)
theorem e_axis_reader_left (b0_0 : List YSpan.den) (b0_1 : Int) : C_axis_reader_left F_axis_reader_left b0_0 b0_1 =
  (if 0 ≤ (0 : Int) ∧ (0 : Int) < (List.length b0_0 : Int) then
   (some (ret_axis_reader_left (IntKind.i64.wrap ((at_ (e := YSpan) b0_0 0).2 - b0_1)) b0_0 b0_1))
  else none) := by kernel_rfl
def sig_axis_reader_take : Sig := ⟨[.p 0, .v false (.int .i64)], [[.fr (.list YSpan), .fr (.int .i64)]], []⟩
def C_axis_reader_take (F : sig_axis_reader_take.Fn) (a1 : Int) (b0_0 : List YSpan.den) (b0_1 : Int) : Option sig_axis_reader_take.Out := F (a1, ()) ((b0_0, b0_1, ()), ())
def ret_axis_reader_take (v0 : List YSpan.den) (v1 : Int) : sig_axis_reader_take.Out := ((), ((v0, v1, ()), ()))
def res_axis_reader_take_0 (r : sig_axis_reader_take.Out) : List YSpan.den := r.2.1.1
@[simp] theorem res_axis_reader_take_0_ret (v0 : List YSpan.den) (v1 : Int) : res_axis_reader_take_0 (ret_axis_reader_take v0 v1) = v0 := rfl
def res_axis_reader_take_1 (r : sig_axis_reader_take.Out) : Int := r.2.1.2.1
@[simp] theorem res_axis_reader_take_1_ret (v0 : List YSpan.den) (v1 : Int) : res_axis_reader_take_1 (ret_axis_reader_take v0 v1) = v1 := rfl
def os_axis_reader_take : RegT := ⟨[(1, .st 0 (.st 1 (.st 2 (.st 4 (.st 5 (.st 6 (.st 7 (.st 8 (.st 9 (.st 3 (.st 10 (.st 11 (.nil)))))))))))))], [], false⟩
def hs_axis_reader_take : List Keep := []
@[reducible] noncomputable def env_axis_reader_take : Env := []
theorem ok_axis_reader_take : fnOk os_axis_reader_take sig_axis_reader_take Try.f113 = true := by kernel_rfl
theorem fn_axis_reader_take : P.funcs[113]? = some Try.f113 := by kernel_rfl
noncomputable def F_axis_reader_take : sig_axis_reader_take.Fn := fun x y => run T (env_axis_reader_take) os_axis_reader_take sig_axis_reader_take Try.f113 hs_axis_reader_take big x y
theorem S_axis_reader_take : Sound P 113 ⟨sig_axis_reader_take, F_axis_reader_take⟩ := sound_of (os := os_axis_reader_take) (hs := hs_axis_reader_take) (env_nil) fn_axis_reader_take ok_axis_reader_take (fun x y out h => ⟨big, h⟩)
theorem e_axis_reader_take (a1 : Int) (b0_0 : List YSpan.den) (b0_1 : Int) : C_axis_reader_take F_axis_reader_take a1 b0_0 b0_1 =
  (if 0 ≤ (0 : Int) ∧ (0 : Int) < (List.length b0_0 : Int) then
   (bcond (((IntKind.i64.wrap (b0_1 + a1)) : Int) == (at_ (e := YSpan) b0_0 0).2)
    (if 0 ≤ ((List.length b0_0 : Int) : Int) ∧ ((List.length b0_0 : Int) : Int) ≤ (List.length b0_0 : Int) ∧ 0 ≤ (1 : Int) ∧ (1 : Int) ≤ (List.length b0_0 : Int) then
     (some (ret_axis_reader_take (List.drop (Int.toNat 1) (List.take (Int.toNat (List.length b0_0 : Int)) b0_0)) 0))
    else none)
    (some (ret_axis_reader_take b0_0 (IntKind.i64.wrap (b0_1 + a1)))))
  else none) := by kernel_rfl
def sig_axis_Undo : Sig := ⟨[.v false (.list YSpan)], [], [(false, [.fr (.list YSpan)]), (false, [.fr (.int .i64)])]⟩
def C_axis_Undo (F : sig_axis_Undo.Fn) (a0 : List YSpan.den) : Option sig_axis_Undo.Out := F (a0, ()) ()
def ret_axis_Undo (v0 : List YSpan.den) (v1 : Int) : sig_axis_Undo.Out := (((v0, ()), (v1, ()), ()), ())
def res_axis_Undo_0 (r : sig_axis_Undo.Out) : List YSpan.den := r.1.1.1
@[simp] theorem res_axis_Undo_0_ret (v0 : List YSpan.den) (v1 : Int) : res_axis_Undo_0 (ret_axis_Undo v0 v1) = v0 := rfl
def res_axis_Undo_1 (r : sig_axis_Undo.Out) : Int := r.1.2.1.1
@[simp] theorem res_axis_Undo_1_ret (v0 : List YSpan.den) (v1 : Int) : res_axis_Undo_1 (ret_axis_Undo v0 v1) = v1 := rfl
def os_axis_Undo : RegT := ⟨[(8, .st 1 (.st 5 (.st 2 (.grp [6, 0, 3, 4] (.st 7 (.nil))))))], [], false⟩
def hs_axis_Undo : List Keep := [[(5, [(0, 128, YSpan)]), (13, []), (14, []), (15, [])]]
@[reducible] noncomputable def env_axis_Undo : Env := [(108, ⟨sig_axis_Check, F_axis_Check⟩), (111, ⟨sig_axis_writer_put, F_axis_writer_put⟩), (114, ⟨sig_axis_writer_done, F_axis_writer_done⟩)]
noncomputable def L_axis_Undo_0 (n m1 : Nat) (x5_0 : List YSpan.den) (x5_1 : Int) (x5_2 : Int) (x13 : List YSpan.den) (x14 : Int) (x15 : Int) : Option sig_axis_Undo.Out :=
  loopAt T (env_axis_Undo) os_axis_Undo sig_axis_Undo Try.f48 hs_axis_Undo n [.sr, .sr, .sr, .sl, .sr, .bl] m1 (mk 31 [(5, .box [.own 128 YSpan x5_0, .val (.int .i64) x5_1, .val (.int .i64) x5_2]), (13, .cs false [.val (.list YSpan) x13]), (14, .cs false [.val (.int .i64) x14]), (15, .cs false [.val (.int .i64) x15])])
theorem L_axis_Undo_0_step (n m1 : Nat) (x5_0 : List YSpan.den) (x5_1 : Int) (x5_2 : Int) (x13 : List YSpan.den) (x14 : Int) (x15 : Int) : L_axis_Undo_0 n (m1 + 1) x5_0 x5_1 x5_2 x13 x14 x15 =
  (bcond (decide ((x15 : Int) < x14))
   (if 0 ≤ (x15 : Int) ∧ (x15 : Int) < (List.length x13 : Int) then
    (if 0 ≤ ((at_ (e := YSpan) x13 x15).1 : Int) ∧ ((at_ (e := YSpan) x13 x15).1 : Int) < (List.length [0, 2, 1] : Int) then
     ((C_axis_writer_put F_axis_writer_put (at_ (e := (.int .i64)) [0, 2, 1] (at_ (e := YSpan) x13 x15).1) (at_ (e := YSpan) x13 x15).2 x5_0 x5_1 x5_2).bind fun r1 =>
      (L_axis_Undo_0 n m1 (res_axis_writer_put_0 r1) (res_axis_writer_put_1 r1) (res_axis_writer_put_2 r1) x13 x14 (IntKind.i64.wrap (x15 + 1))))
    else none)
   else none)
   ((C_axis_writer_done F_axis_writer_done x5_0 x5_1 x5_2).bind fun r1 =>
    (some (ret_axis_Undo (res_axis_writer_done_0 r1) (res_axis_writer_done_1 r1))))) := by kernel_rfl
theorem ok_axis_Undo : fnOk os_axis_Undo sig_axis_Undo Try.f48 = true := by kernel_rfl
theorem fn_axis_Undo : P.funcs[48]? = some Try.f48 := by kernel_rfl
noncomputable def F_axis_Undo : sig_axis_Undo.Fn := fun x y => run T (env_axis_Undo) os_axis_Undo sig_axis_Undo Try.f48 hs_axis_Undo big x y
theorem S_axis_Undo : Sound P 48 ⟨sig_axis_Undo, F_axis_Undo⟩ := sound_of (os := os_axis_Undo) (hs := hs_axis_Undo) (env_cons S_axis_Check (env_cons S_axis_writer_put (env_cons S_axis_writer_done (env_nil)))) fn_axis_Undo ok_axis_Undo (fun x y out h => ⟨big, h⟩)
theorem e_axis_Undo (a0 : List YSpan.den) : C_axis_Undo F_axis_Undo a0 =
  ((C_axis_Check F_axis_Check a0).bind fun r1 =>
   (bcond (((res_axis_Check_0 r1) : Int) != 0)
    (some (ret_axis_Undo [] (res_axis_Check_0 r1)))
    (L_axis_Undo_0 big big [] 0 0 a0 (List.length a0 : Int) 0))) := by kernel_rfl
end Go.Ev
