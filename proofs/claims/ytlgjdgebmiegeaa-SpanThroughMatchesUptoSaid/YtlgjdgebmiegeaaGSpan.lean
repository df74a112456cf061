/- Functions, step by step. -/
import Derived.Test.YtlgjdgebmiegeaaGAxis
import Derived.Test.YtlgjdgebmiegeaaGDaxis
namespace Go.Ev
set_option linter.unusedVariables false
set_option maxRecDepth 100000
open Go.Proofs
def sig_span_Check : Sig := ⟨[.v false (.list YSpan)], [], [(false, [.fr (.int .i64)])]⟩
def C_span_Check (F : sig_span_Check.Fn) (a0 : List YSpan.den) : Option sig_span_Check.Out := F (a0, ()) ()
def ret_span_Check (v0 : Int) : sig_span_Check.Out := (((v0, ()), ()), ())
def res_span_Check_0 (r : sig_span_Check.Out) : Int := r.1.1.1
@[simp] theorem res_span_Check_0_ret (v0 : Int) : res_span_Check_0 (ret_span_Check v0) = v0 := rfl
def os_span_Check : RegT := ⟨[(6, .st 0 (.st 1 (.st 2 (.st 3 (.st 5 (.st 6 (.st 7 (.st 8 (.st 9 (.st 4 (.st 10 (.st 11 (.st 12 (.nil))))))))))))))], []⟩
def hs_span_Check : List Keep := [[(0, []), (5, []), (6, []), (7, [])]]
@[reducible] noncomputable def env_span_Check : Env := []
noncomputable def L_span_Check_0 (n m1 : Nat) (x0 : List YSpan.den) (x5 : List YSpan.den) (x6 : Int) (x7 : Int) : Option sig_span_Check.Out :=
  loopAt T (env_span_Check) os_span_Check sig_span_Check Try.f122 hs_span_Check n [.sr, .sl, .sr, .bl] m1 (mk 41 [(0, .cs false [.val (.list YSpan) x0]), (5, .cs false [.val (.list YSpan) x5]), (6, .cs false [.val (.int .i64) x6]), (7, .cs false [.val (.int .i64) x7])])
theorem L_span_Check_0_step (n m1 : Nat) (x0 : List YSpan.den) (x5 : List YSpan.den) (x6 : Int) (x7 : Int) : L_span_Check_0 n (m1 + 1) x0 x5 x6 x7 =
  (bcond (decide ((x7 : Int) < x6))
   (if 0 ≤ (x7 : Int) ∧ (x7 : Int) < (List.length x5 : Int) then
    (bcond ((decide (((at_ (e := YSpan) x5 x7).1 : Int) < 0)) == false)
     (bcond ((decide (((at_ (e := YSpan) x5 x7).2 : Int) ≤ (at_ (e := YSpan) x5 x7).1)) == false)
      (bcond (decide (((at_ (e := YSpan) x5 x7).2 : Int) > 2147483647))
       (some (ret_span_Check 2))
       (bcond ((decide ((x7 : Int) > 0)) == true)
        (if 0 ≤ ((IntKind.i64.wrap (x7 - 1)) : Int) ∧ ((IntKind.i64.wrap (x7 - 1)) : Int) < (List.length x0 : Int) then
         (bcond (decide (((at_ (e := YSpan) x5 x7).1 : Int) ≤ (at_ (e := YSpan) x0 (IntKind.i64.wrap (x7 - 1))).2))
          (some (ret_span_Check 5))
          (L_span_Check_0 n m1 x0 x5 x6 (IntKind.i64.wrap (x7 + 1))))
        else none)
        (L_span_Check_0 n m1 x0 x5 x6 (IntKind.i64.wrap (x7 + 1)))))
      (some (ret_span_Check 2)))
     (some (ret_span_Check 2)))
   else none)
   (some (ret_span_Check 0))) := by kernel_rfl
theorem ok_span_Check : fnOk os_span_Check sig_span_Check Try.f122 = true := by kernel_rfl
theorem fn_span_Check : P.funcs[122]? = some Try.f122 := by kernel_rfl
noncomputable def F_span_Check : sig_span_Check.Fn := fun x y => run T (env_span_Check) os_span_Check sig_span_Check Try.f122 hs_span_Check big x y
theorem S_span_Check : Sound P 122 ⟨sig_span_Check, F_span_Check⟩ := sound_of (os := os_span_Check) (hs := hs_span_Check) (env_nil) fn_span_Check ok_span_Check (fun x y out h => ⟨big, h⟩)
theorem e_span_Check (a0 : List YSpan.den) : C_span_Check F_span_Check a0 =
  (L_span_Check_0 big big a0 a0 (List.length a0 : Int) 0) := by kernel_rfl
def sig_span_add : Sig := ⟨[.o 90 YSpan, .v true YSpan], [], [(false, [.ow 90 YSpan])]⟩
def C_span_add (F : sig_span_add.Fn) (a0 : List YSpan.den) (a1 : YSpan.den) : Option sig_span_add.Out := F (a0, a1, ()) ()
def ret_span_add (v0 : List YSpan.den) : sig_span_add.Out := (((v0, ()), ()), ())
def res_span_add_0 (r : sig_span_add.Out) : List YSpan.den := r.1.1.1
@[simp] theorem res_span_add_0_ret (v0 : List YSpan.den) : res_span_add_0 (ret_span_add v0) = v0 := rfl
def os_span_add : RegT := ⟨[(2, .st 0 (.st 1 (.st 2 (.st 3 (.st 5 (.st 6 (.st 7 (.st 8 (.st 4 (.st 9 (.st 10 (.st 11 (.nil))))))))))))), (3, .st 0 (.st 1 (.st 2 (.st 3 (.st 4 (.st 5 (.st 7 (.st 6 (.st 8 (.st 9 (.st 10 (.st 11 (.st 12 (.nil))))))))))))))], []⟩
def hs_span_add : List Keep := []
@[reducible] noncomputable def env_span_add : Env := []
theorem ok_span_add : fnOk os_span_add sig_span_add Try.f125 = true := by kernel_rfl
theorem fn_span_add : P.funcs[125]? = some Try.f125 := by kernel_rfl
noncomputable def F_span_add : sig_span_add.Fn := fun x y => run T (env_span_add) os_span_add sig_span_add Try.f125 hs_span_add big x y
theorem S_span_add : Sound P 125 ⟨sig_span_add, F_span_add⟩ := sound_of (os := os_span_add) (hs := hs_span_add) (env_nil) fn_span_add ok_span_add (fun x y out h => ⟨big, h⟩)
theorem e_span_add (a0 : List YSpan.den) (a1 : YSpan.den) : C_span_add F_span_add a0 a1 =
  (bcond ((decide (((IntKind.i64.wrap ((List.length a0 : Int) - 1)) : Int) ≥ 0)) == true)
   (if 0 ≤ ((IntKind.i64.wrap ((List.length a0 : Int) - 1)) : Int) ∧ ((IntKind.i64.wrap ((List.length a0 : Int) - 1)) : Int) < (List.length a0 : Int) then
    (bcond (decide ((a1.1 : Int) ≤ (at_ (e := YSpan) a0 (IntKind.i64.wrap ((List.length a0 : Int) - 1))).2))
     (if 0 ≤ ((IntKind.i64.wrap ((List.length a0 : Int) - 1)) : Int) ∧ ((IntKind.i64.wrap ((List.length a0 : Int) - 1)) : Int) < (List.length a0 : Int) then
      (if 0 ≤ ((IntKind.i64.wrap ((List.length a0 : Int) - 1)) : Int) ∧ ((IntKind.i64.wrap ((List.length a0 : Int) - 1)) : Int) < (List.length a0 : Int) then
       (some (ret_span_add (List.set a0 (Int.toNat (IntKind.i64.wrap ((List.length a0 : Int) - 1))) ((at_ (e := YSpan) a0 (IntKind.i64.wrap ((List.length a0 : Int) - 1))).1, (if (a1.2 : Int) > (at_ (e := YSpan) a0 (IntKind.i64.wrap ((List.length a0 : Int) - 1))).2 then a1.2 else (at_ (e := YSpan) a0 (IntKind.i64.wrap ((List.length a0 : Int) - 1))).2)))))
      else none)
     else none)
     (if (List.length (a0 : List YSpan.den) + List.length ([a1] : List YSpan.den)) * 16 ≤ 140737488355328 then
      (some (ret_span_add (a0 ++ [a1])))
     else none))
   else none)
   (if (List.length (a0 : List YSpan.den) + List.length ([a1] : List YSpan.den)) * 16 ≤ 140737488355328 then
    (some (ret_span_add (a0 ++ [a1])))
   else none)) := by kernel_rfl
def sig_span_end : Sig := ⟨[.v false (.list YSpan), .v false (.int .i64)], [], [(false, [.fr (.int .i64)])]⟩
def C_span_end (F : sig_span_end.Fn) (a0 : List YSpan.den) (a1 : Int) : Option sig_span_end.Out := F (a0, a1, ()) ()
def ret_span_end (v0 : Int) : sig_span_end.Out := (((v0, ()), ()), ())
def res_span_end_0 (r : sig_span_end.Out) : Int := r.1.1.1
@[simp] theorem res_span_end_0_ret (v0 : Int) : res_span_end_0 (ret_span_end v0) = v0 := rfl
def os_span_end : RegT := ⟨[], []⟩
def hs_span_end : List Keep := []
@[reducible] noncomputable def env_span_end : Env := []
theorem ok_span_end : fnOk os_span_end sig_span_end Try.f166 = true := by kernel_rfl
theorem fn_span_end : P.funcs[166]? = some Try.f166 := by kernel_rfl
noncomputable def F_span_end : sig_span_end.Fn := fun x y => run T (env_span_end) os_span_end sig_span_end Try.f166 hs_span_end big x y
theorem S_span_end : Sound P 166 ⟨sig_span_end, F_span_end⟩ := sound_of (os := os_span_end) (hs := hs_span_end) (env_nil) fn_span_end ok_span_end (fun x y out h => ⟨big, h⟩)
theorem e_span_end (a0 : List YSpan.den) (a1 : Int) : C_span_end F_span_end a0 a1 =
  (if 2 = 0 then none else
   (bcond (((Int.tmod a1 2) : Int) == 0)
    (if 2 = 0 then none else
     (if 0 ≤ ((IntKind.i64.wrap (Int.tdiv a1 2)) : Int) ∧ ((IntKind.i64.wrap (Int.tdiv a1 2)) : Int) < (List.length a0 : Int) then
      (some (ret_span_end (at_ (e := YSpan) a0 (IntKind.i64.wrap (Int.tdiv a1 2))).1))
     else none))
    (if 2 = 0 then none else
     (if 0 ≤ ((IntKind.i64.wrap (Int.tdiv a1 2)) : Int) ∧ ((IntKind.i64.wrap (Int.tdiv a1 2)) : Int) < (List.length a0 : Int) then
      (some (ret_span_end (at_ (e := YSpan) a0 (IntKind.i64.wrap (Int.tdiv a1 2))).2))
     else none)))) := by kernel_rfl
def sig_span_Union_c1 : Sig := ⟨[.v false .bool, .v false .bool], [], [(false, [.fr .bool])]⟩
def C_span_Union_c1 (F : sig_span_Union_c1.Fn) (a0 : Bool) (a1 : Bool) : Option sig_span_Union_c1.Out := F (a0, a1, ()) ()
def ret_span_Union_c1 (v0 : Bool) : sig_span_Union_c1.Out := (((v0, ()), ()), ())
def res_span_Union_c1_0 (r : sig_span_Union_c1.Out) : Bool := r.1.1.1
@[simp] theorem res_span_Union_c1_0_ret (v0 : Bool) : res_span_Union_c1_0 (ret_span_Union_c1 v0) = v0 := rfl
def os_span_Union_c1 : RegT := ⟨[], []⟩
def hs_span_Union_c1 : List Keep := []
@[reducible] noncomputable def env_span_Union_c1 : Env := []
theorem ok_span_Union_c1 : fnOk os_span_Union_c1 sig_span_Union_c1 Try.f150 = true := by kernel_rfl
theorem fn_span_Union_c1 : P.funcs[150]? = some Try.f150 := by kernel_rfl
noncomputable def F_span_Union_c1 : sig_span_Union_c1.Fn := fun x y => run T (env_span_Union_c1) os_span_Union_c1 sig_span_Union_c1 Try.f150 hs_span_Union_c1 big x y
theorem S_span_Union_c1 : Sound P 150 ⟨sig_span_Union_c1, F_span_Union_c1⟩ := sound_of (os := os_span_Union_c1) (hs := hs_span_Union_c1) (env_nil) fn_span_Union_c1 ok_span_Union_c1 (fun x y out h => ⟨big, h⟩)
theorem e_span_Union_c1 (a0 : Bool) (a1 : Bool) : C_span_Union_c1 F_span_Union_c1 a0 a1 =
  (bcond (a0 == false)
   (some (ret_span_Union_c1 a1))
   (some (ret_span_Union_c1 true))) := by kernel_rfl
def sig_span_merged_span_Union_c1 : Sig := ⟨[.v false (.list YSpan), .v false (.list YSpan), .f 150 []], [], [(false, [.fr (.list YSpan)])]⟩
def C_span_merged_span_Union_c1 (F : sig_span_merged_span_Union_c1.Fn) (a0 : List YSpan.den) (a1 : List YSpan.den) : Option sig_span_merged_span_Union_c1.Out := F (a0, a1, ()) ()
def ret_span_merged_span_Union_c1 (v0 : List YSpan.den) : sig_span_merged_span_Union_c1.Out := (((v0, ()), ()), ())
def res_span_merged_span_Union_c1_0 (r : sig_span_merged_span_Union_c1.Out) : List YSpan.den := r.1.1.1
@[simp] theorem res_span_merged_span_Union_c1_0_ret (v0 : List YSpan.den) : res_span_merged_span_Union_c1_0 (ret_span_merged_span_Union_c1 v0) = v0 := rfl
def os_span_merged_span_Union_c1 : RegT := ⟨[], []⟩
def hs_span_merged_span_Union_c1 : List Keep := [[(0, []), (1, []), (2, []), (7, [(0, 90, YSpan)]), (8, []), (9, []), (10, [])], [(0, []), (1, []), (2, []), (7, [(0, 90, YSpan)]), (8, []), (9, []), (10, [])], [(0, []), (1, []), (2, []), (7, [(0, 90, YSpan)]), (8, []), (9, []), (10, [])]]
@[reducible] noncomputable def env_span_merged_span_Union_c1 : Env := [(166, ⟨sig_span_end, F_span_end⟩), (150, ⟨sig_span_Union_c1, F_span_Union_c1⟩), (125, ⟨sig_span_add, F_span_add⟩)]
noncomputable def L_span_merged_span_Union_c1_0 (n m1 : Nat) (x0 : List YSpan.den) (x1 : List YSpan.den) (x7 : List YSpan.den) (x8 : Int) (x9 : Int) (x10 : Int) : Option sig_span_merged_span_Union_c1.Out :=
  loopAt T (env_span_merged_span_Union_c1) os_span_merged_span_Union_c1 sig_span_merged_span_Union_c1 Try.f162 hs_span_merged_span_Union_c1 n [.sr, .sr, .sr, .sl, .bl] m1 (mk 90 [(0, .cs false [.val (.list YSpan) x0]), (1, .cs false [.val (.list YSpan) x1]), (2, .cs false [.clo 150 []]), (7, .cs false [.own 90 YSpan x7]), (8, .cs false [.val (.int .i64) x8]), (9, .cs false [.val (.int .i64) x9]), (10, .cs false [.val (.int .i64) x10])])
noncomputable def L_span_merged_span_Union_c1_1 (n m1 m2 : Nat) (x0 : List YSpan.den) (x1 : List YSpan.den) (x7 : List YSpan.den) (x8 : Int) (x9 : Int) (x10 : Int) : Option sig_span_merged_span_Union_c1.Out :=
  loopAt T (env_span_merged_span_Union_c1) os_span_merged_span_Union_c1 sig_span_merged_span_Union_c1 Try.f162 hs_span_merged_span_Union_c1 n [.sr, .sr, .sr, .sl, .bl, .lp m1, .sr, .bl, .sr, .sr, .sr, .sr, .sr, .sl, .bl] m2 (mk 90 [(0, .cs false [.val (.list YSpan) x0]), (1, .cs false [.val (.list YSpan) x1]), (2, .cs false [.clo 150 []]), (7, .cs false [.own 90 YSpan x7]), (8, .cs false [.val (.int .i64) x8]), (9, .cs false [.val (.int .i64) x9]), (10, .cs false [.val (.int .i64) x10])])
noncomputable def L_span_merged_span_Union_c1_2 (n m1 m2 : Nat) (x0 : List YSpan.den) (x1 : List YSpan.den) (x7 : List YSpan.den) (x8 : Int) (x9 : Int) (x10 : Int) : Option sig_span_merged_span_Union_c1.Out :=
  loopAt T (env_span_merged_span_Union_c1) os_span_merged_span_Union_c1 sig_span_merged_span_Union_c1 Try.f162 hs_span_merged_span_Union_c1 n [.sr, .sr, .sr, .sl, .bl, .lp m1, .sr, .bl, .sr, .sr, .sr, .sr, .sr, .sr, .bl] m2 (mk 90 [(0, .cs false [.val (.list YSpan) x0]), (1, .cs false [.val (.list YSpan) x1]), (2, .cs false [.clo 150 []]), (7, .cs false [.own 90 YSpan x7]), (8, .cs false [.val (.int .i64) x8]), (9, .cs false [.val (.int .i64) x9]), (10, .cs false [.val (.int .i64) x10])])
noncomputable def J_span_merged_span_Union_c1_0 (n m1 : Nat) (y0 : List YSpan.den) (y1 : List YSpan.den) (y7 : List YSpan.den) (y8 : Int) (y9 : Int) (y10 : Int) (y11 : Int) : Option sig_span_merged_span_Union_c1.Out :=
  (bcond ((decide ((y8 : Int) < y11)) == true)
   (if 2 = 0 then none else
    (if 2 = 0 then none else
     ((C_span_Union_c1 F_span_Union_c1 (((Int.tmod y9 2) : Int) == 1) (((Int.tmod y10 2) : Int) == 1)).bind fun r3 =>
      (bcond (res_span_Union_c1_0 r3)
       ((C_span_add F_span_add y7 (y8, y11)).bind fun r4 =>
        (L_span_merged_span_Union_c1_1 n m1 n y0 y1 (res_span_add_0 r4) y11 y9 y10))
       (L_span_merged_span_Union_c1_1 n m1 n y0 y1 y7 y11 y9 y10)))))
   (L_span_merged_span_Union_c1_1 n m1 n y0 y1 y7 y11 y9 y10))
theorem L_span_merged_span_Union_c1_0_step (n m1 : Nat) (x0 : List YSpan.den) (x1 : List YSpan.den) (x7 : List YSpan.den) (x8 : Int) (x9 : Int) (x10 : Int) : L_span_merged_span_Union_c1_0 n (m1 + 1) x0 x1 x7 x8 x9 x10 =
  (bcond ((decide ((x9 : Int) < (IntKind.i64.wrap (2 * (List.length x0 : Int))))) == false)
   (bcond (decide ((x10 : Int) < (IntKind.i64.wrap (2 * (List.length x1 : Int)))))
    (bcond (decide ((x9 : Int) < (IntKind.i64.wrap (2 * (List.length x0 : Int)))))
     ((C_span_end F_span_end x0 x9).bind fun r1 =>
      (bcond (decide ((x10 : Int) < (IntKind.i64.wrap (2 * (List.length x1 : Int)))))
       ((C_span_end F_span_end x1 x10).bind fun r2 =>
        (J_span_merged_span_Union_c1_0 n m1 x0 x1 x7 x8 x9 x10 (if ((res_span_end_0 r2) : Int) < (res_span_end_0 r1) then (res_span_end_0 r2) else (res_span_end_0 r1))))
       (J_span_merged_span_Union_c1_0 n m1 x0 x1 x7 x8 x9 x10 (res_span_end_0 r1))))
     (bcond (decide ((x10 : Int) < (IntKind.i64.wrap (2 * (List.length x1 : Int)))))
      ((C_span_end F_span_end x1 x10).bind fun r1 =>
       (J_span_merged_span_Union_c1_0 n m1 x0 x1 x7 x8 x9 x10 (if ((res_span_end_0 r1) : Int) < 2147483648 then (res_span_end_0 r1) else 2147483648)))
      (J_span_merged_span_Union_c1_0 n m1 x0 x1 x7 x8 x9 x10 2147483648)))
    (some (ret_span_merged_span_Union_c1 x7)))
   (bcond (decide ((x9 : Int) < (IntKind.i64.wrap (2 * (List.length x0 : Int)))))
    ((C_span_end F_span_end x0 x9).bind fun r1 =>
     (bcond (decide ((x10 : Int) < (IntKind.i64.wrap (2 * (List.length x1 : Int)))))
      ((C_span_end F_span_end x1 x10).bind fun r2 =>
       (J_span_merged_span_Union_c1_0 n m1 x0 x1 x7 x8 x9 x10 (if ((res_span_end_0 r2) : Int) < (res_span_end_0 r1) then (res_span_end_0 r2) else (res_span_end_0 r1))))
      (J_span_merged_span_Union_c1_0 n m1 x0 x1 x7 x8 x9 x10 (res_span_end_0 r1))))
    (bcond (decide ((x10 : Int) < (IntKind.i64.wrap (2 * (List.length x1 : Int)))))
     ((C_span_end F_span_end x1 x10).bind fun r1 =>
      (J_span_merged_span_Union_c1_0 n m1 x0 x1 x7 x8 x9 x10 (if ((res_span_end_0 r1) : Int) < 2147483648 then (res_span_end_0 r1) else 2147483648)))
     (J_span_merged_span_Union_c1_0 n m1 x0 x1 x7 x8 x9 x10 2147483648)))) := by kernel_rfl
theorem L_span_merged_span_Union_c1_1_step (n m1 m2 : Nat) (x0 : List YSpan.den) (x1 : List YSpan.den) (x7 : List YSpan.den) (x8 : Int) (x9 : Int) (x10 : Int) : L_span_merged_span_Union_c1_1 n m1 (m2 + 1) x0 x1 x7 x8 x9 x10 =
  (bcond ((decide ((x9 : Int) < (IntKind.i64.wrap (2 * (List.length x0 : Int))))) == true)
   ((C_span_end F_span_end x0 x9).bind fun r1 =>
    (bcond (((res_span_end_0 r1) : Int) == x8)
     (L_span_merged_span_Union_c1_1 n m1 m2 x0 x1 x7 x8 (IntKind.i64.wrap (x9 + 1)) x10)
     (L_span_merged_span_Union_c1_2 n m1 n x0 x1 x7 x8 x9 x10)))
   (L_span_merged_span_Union_c1_2 n m1 n x0 x1 x7 x8 x9 x10)) := by kernel_rfl
theorem L_span_merged_span_Union_c1_2_step (n m1 m2 : Nat) (x0 : List YSpan.den) (x1 : List YSpan.den) (x7 : List YSpan.den) (x8 : Int) (x9 : Int) (x10 : Int) : L_span_merged_span_Union_c1_2 n m1 (m2 + 1) x0 x1 x7 x8 x9 x10 =
  (bcond ((decide ((x10 : Int) < (IntKind.i64.wrap (2 * (List.length x1 : Int))))) == true)
   ((C_span_end F_span_end x1 x10).bind fun r1 =>
    (bcond (((res_span_end_0 r1) : Int) == x8)
     (L_span_merged_span_Union_c1_2 n m1 m2 x0 x1 x7 x8 x9 (IntKind.i64.wrap (x10 + 1)))
     (L_span_merged_span_Union_c1_0 n m1 x0 x1 x7 x8 x9 x10)))
   (L_span_merged_span_Union_c1_0 n m1 x0 x1 x7 x8 x9 x10)) := by kernel_rfl
theorem ok_span_merged_span_Union_c1 : fnOk os_span_merged_span_Union_c1 sig_span_merged_span_Union_c1 Try.f162 = true := by kernel_rfl
theorem fn_span_merged_span_Union_c1 : P.funcs[162]? = some Try.f162 := by kernel_rfl
noncomputable def F_span_merged_span_Union_c1 : sig_span_merged_span_Union_c1.Fn := fun x y => run T (env_span_merged_span_Union_c1) os_span_merged_span_Union_c1 sig_span_merged_span_Union_c1 Try.f162 hs_span_merged_span_Union_c1 big x y
theorem S_span_merged_span_Union_c1 : Sound P 162 ⟨sig_span_merged_span_Union_c1, F_span_merged_span_Union_c1⟩ := sound_of (os := os_span_merged_span_Union_c1) (hs := hs_span_merged_span_Union_c1) (env_cons S_span_end (env_cons S_span_Union_c1 (env_cons S_span_add (env_nil)))) fn_span_merged_span_Union_c1 ok_span_merged_span_Union_c1 (fun x y out h => ⟨big, h⟩)
theorem e_span_merged_span_Union_c1 (a0 : List YSpan.den) (a1 : List YSpan.den) : C_span_merged_span_Union_c1 F_span_merged_span_Union_c1 a0 a1 =
  (L_span_merged_span_Union_c1_0 big big a0 a1 [] 0 0 0) := by kernel_rfl
def sig_span_two_span_Union_c1 : Sig := ⟨[.v false (.list YSpan), .v false (.list YSpan), .f 150 []], [], [(false, [.fr (.list YSpan)]), (false, [.fr (.int .i64)])]⟩
def C_span_two_span_Union_c1 (F : sig_span_two_span_Union_c1.Fn) (a0 : List YSpan.den) (a1 : List YSpan.den) : Option sig_span_two_span_Union_c1.Out := F (a0, a1, ()) ()
def ret_span_two_span_Union_c1 (v0 : List YSpan.den) (v1 : Int) : sig_span_two_span_Union_c1.Out := (((v0, ()), (v1, ()), ()), ())
def res_span_two_span_Union_c1_0 (r : sig_span_two_span_Union_c1.Out) : List YSpan.den := r.1.1.1
@[simp] theorem res_span_two_span_Union_c1_0_ret (v0 : List YSpan.den) (v1 : Int) : res_span_two_span_Union_c1_0 (ret_span_two_span_Union_c1 v0 v1) = v0 := rfl
def res_span_two_span_Union_c1_1 (r : sig_span_two_span_Union_c1.Out) : Int := r.1.2.1.1
@[simp] theorem res_span_two_span_Union_c1_1_ret (v0 : List YSpan.den) (v1 : Int) : res_span_two_span_Union_c1_1 (ret_span_two_span_Union_c1 v0 v1) = v1 := rfl
def os_span_two_span_Union_c1 : RegT := ⟨[], []⟩
def hs_span_two_span_Union_c1 : List Keep := []
@[reducible] noncomputable def env_span_two_span_Union_c1 : Env := [(122, ⟨sig_span_Check, F_span_Check⟩), (162, ⟨sig_span_merged_span_Union_c1, F_span_merged_span_Union_c1⟩)]
theorem ok_span_two_span_Union_c1 : fnOk os_span_two_span_Union_c1 sig_span_two_span_Union_c1 Try.f149 = true := by kernel_rfl
theorem fn_span_two_span_Union_c1 : P.funcs[149]? = some Try.f149 := by kernel_rfl
noncomputable def F_span_two_span_Union_c1 : sig_span_two_span_Union_c1.Fn := fun x y => run T (env_span_two_span_Union_c1) os_span_two_span_Union_c1 sig_span_two_span_Union_c1 Try.f149 hs_span_two_span_Union_c1 big x y
theorem S_span_two_span_Union_c1 : Sound P 149 ⟨sig_span_two_span_Union_c1, F_span_two_span_Union_c1⟩ := sound_of (os := os_span_two_span_Union_c1) (hs := hs_span_two_span_Union_c1) (env_cons S_span_Check (env_cons S_span_merged_span_Union_c1 (env_nil))) fn_span_two_span_Union_c1 ok_span_two_span_Union_c1 (fun x y out h => ⟨big, h⟩)
theorem e_span_two_span_Union_c1 (a0 : List YSpan.den) (a1 : List YSpan.den) : C_span_two_span_Union_c1 F_span_two_span_Union_c1 a0 a1 =
  ((C_span_Check F_span_Check a0).bind fun r1 =>
   (bcond (((res_span_Check_0 r1) : Int) != 0)
    (some (ret_span_two_span_Union_c1 [] (res_span_Check_0 r1)))
    ((C_span_Check F_span_Check a1).bind fun r2 =>
     (bcond (((res_span_Check_0 r2) : Int) != 0)
      (some (ret_span_two_span_Union_c1 [] (res_span_Check_0 r2)))
      ((C_span_merged_span_Union_c1 F_span_merged_span_Union_c1 a0 a1).bind fun r3 =>
       (some (ret_span_two_span_Union_c1 (res_span_merged_span_Union_c1_0 r3) 0))))))) := by kernel_rfl
def sig_span_Union : Sig := ⟨[.v false (.list YSpan), .v false (.list YSpan)], [], [(false, [.fr (.list YSpan)]), (false, [.fr (.int .i64)])]⟩
def C_span_Union (F : sig_span_Union.Fn) (a0 : List YSpan.den) (a1 : List YSpan.den) : Option sig_span_Union.Out := F (a0, a1, ()) ()
def ret_span_Union (v0 : List YSpan.den) (v1 : Int) : sig_span_Union.Out := (((v0, ()), (v1, ()), ()), ())
def res_span_Union_0 (r : sig_span_Union.Out) : List YSpan.den := r.1.1.1
@[simp] theorem res_span_Union_0_ret (v0 : List YSpan.den) (v1 : Int) : res_span_Union_0 (ret_span_Union v0 v1) = v0 := rfl
def res_span_Union_1 (r : sig_span_Union.Out) : Int := r.1.2.1.1
@[simp] theorem res_span_Union_1_ret (v0 : List YSpan.den) (v1 : Int) : res_span_Union_1 (ret_span_Union v0 v1) = v1 := rfl
def os_span_Union : RegT := ⟨[], []⟩
def hs_span_Union : List Keep := []
@[reducible] noncomputable def env_span_Union : Env := [(149, ⟨sig_span_two_span_Union_c1, F_span_two_span_Union_c1⟩)]
theorem ok_span_Union : fnOk os_span_Union sig_span_Union Try.f120 = true := by kernel_rfl
theorem fn_span_Union : P.funcs[120]? = some Try.f120 := by kernel_rfl
noncomputable def F_span_Union : sig_span_Union.Fn := fun x y => run T (env_span_Union) os_span_Union sig_span_Union Try.f120 hs_span_Union big x y
theorem S_span_Union : Sound P 120 ⟨sig_span_Union, F_span_Union⟩ := sound_of (os := os_span_Union) (hs := hs_span_Union) (env_cons S_span_two_span_Union_c1 (env_nil)) fn_span_Union ok_span_Union (fun x y out h => ⟨big, h⟩)
theorem e_span_Union (a0 : List YSpan.den) (a1 : List YSpan.den) : C_span_Union F_span_Union a0 a1 =
  ((C_span_two_span_Union_c1 F_span_two_span_Union_c1 a0 a1).bind fun r1 =>
   (some (ret_span_Union (res_span_two_span_Union_c1_0 r1) (res_span_two_span_Union_c1_1 r1)))) := by kernel_rfl
def sig_axis_Gap : Sig := ⟨[.v false (.list YSpan), .v false (.int .i64), .v false .bool], [], [(false, [.fr (.int .i64)]), (false, [.fr (.int .i64)])]⟩
def C_axis_Gap (F : sig_axis_Gap.Fn) (a0 : List YSpan.den) (a1 : Int) (a2 : Bool) : Option sig_axis_Gap.Out := F (a0, a1, a2, ()) ()
def ret_axis_Gap (v0 : Int) (v1 : Int) : sig_axis_Gap.Out := (((v0, ()), (v1, ()), ()), ())
def res_axis_Gap_0 (r : sig_axis_Gap.Out) : Int := r.1.1.1
@[simp] theorem res_axis_Gap_0_ret (v0 : Int) (v1 : Int) : res_axis_Gap_0 (ret_axis_Gap v0 v1) = v0 := rfl
def res_axis_Gap_1 (r : sig_axis_Gap.Out) : Int := r.1.2.1.1
@[simp] theorem res_axis_Gap_1_ret (v0 : Int) (v1 : Int) : res_axis_Gap_1 (ret_axis_Gap v0 v1) = v1 := rfl
def os_axis_Gap : RegT := ⟨[], []⟩
def hs_axis_Gap : List Keep := [[(1, []), (2, []), (11, []), (12, []), (32, []), (33, []), (34, [])]]
@[reducible] noncomputable def env_axis_Gap : Env := [(108, ⟨sig_axis_Check, F_axis_Check⟩), (109, ⟨sig_axis_lengths, F_axis_lengths⟩)]
noncomputable def L_axis_Gap_0 (n m1 : Nat) (x1 : Int) (x2 : Bool) (x11 : Int) (x12 : Int) (x32 : List YSpan.den) (x33 : Int) (x34 : Int) : Option sig_axis_Gap.Out :=
  loopAt T (env_axis_Gap) os_axis_Gap sig_axis_Gap Try.f121 hs_axis_Gap n [.sr, .sr, .sr, .sr, .sl, .sr, .bl] m1 (mk 84 [(1, .cs false [.val (.int .i64) x1]), (2, .cs false [.val .bool x2]), (11, .cs false [.val (.int .i64) x11]), (12, .cs false [.val (.int .i64) x12]), (32, .cs false [.val (.list YSpan) x32]), (33, .cs false [.val (.int .i64) x33]), (34, .cs false [.val (.int .i64) x34])])
theorem L_axis_Gap_0_step (n m1 : Nat) (x1 : Int) (x2 : Bool) (x11 : Int) (x12 : Int) (x32 : List YSpan.den) (x33 : Int) (x34 : Int) : L_axis_Gap_0 n (m1 + 1) x1 x2 x11 x12 x32 x33 x34 =
  (bcond (decide ((x34 : Int) < x33))
   (if 0 ≤ (x34 : Int) ∧ (x34 : Int) < (List.length x32 : Int) then
    (bcond ((((at_ (e := YSpan) x32 x34).1 : Int) == 1) == true)
     (bcond (decide ((x11 : Int) < x1))
      (bcond (((at_ (e := YSpan) x32 x34).1 : Int) != 1)
       (L_axis_Gap_0 n m1 x1 x2 (IntKind.i64.wrap (x11 + (at_ (e := YSpan) x32 x34).2)) (IntKind.i64.wrap (x12 + (at_ (e := YSpan) x32 x34).2)) x32 x33 (IntKind.i64.wrap (x34 + 1)))
       (L_axis_Gap_0 n m1 x1 x2 x11 (IntKind.i64.wrap (x12 + (at_ (e := YSpan) x32 x34).2)) x32 x33 (IntKind.i64.wrap (x34 + 1))))
      (bcond ((((at_ (e := YSpan) x32 x34).1 : Int) == 1) == true)
       (bcond (((x11 : Int) == x1) == true)
        (bcond x2
         (bcond (((at_ (e := YSpan) x32 x34).1 : Int) != 1)
          (L_axis_Gap_0 n m1 x1 x2 (IntKind.i64.wrap (x11 + (at_ (e := YSpan) x32 x34).2)) (IntKind.i64.wrap (x12 + (at_ (e := YSpan) x32 x34).2)) x32 x33 (IntKind.i64.wrap (x34 + 1)))
          (L_axis_Gap_0 n m1 x1 x2 x11 (IntKind.i64.wrap (x12 + (at_ (e := YSpan) x32 x34).2)) x32 x33 (IntKind.i64.wrap (x34 + 1))))
         (bcond (((at_ (e := YSpan) x32 x34).1 : Int) == 0)
          (bcond (((at_ (e := YSpan) x32 x34).1 : Int) != 1)
           (L_axis_Gap_0 n m1 x1 x2 (IntKind.i64.wrap (x11 + (at_ (e := YSpan) x32 x34).2)) (IntKind.i64.wrap (x12 + (if ((if ((IntKind.i64.wrap (x1 - x11)) : Int) > 0 then (IntKind.i64.wrap (x1 - x11)) else 0) : Int) < (at_ (e := YSpan) x32 x34).2 then (if ((IntKind.i64.wrap (x1 - x11)) : Int) > 0 then (IntKind.i64.wrap (x1 - x11)) else 0) else (at_ (e := YSpan) x32 x34).2))) x32 x33 (IntKind.i64.wrap (x34 + 1)))
           (L_axis_Gap_0 n m1 x1 x2 x11 (IntKind.i64.wrap (x12 + (if ((if ((IntKind.i64.wrap (x1 - x11)) : Int) > 0 then (IntKind.i64.wrap (x1 - x11)) else 0) : Int) < (at_ (e := YSpan) x32 x34).2 then (if ((IntKind.i64.wrap (x1 - x11)) : Int) > 0 then (IntKind.i64.wrap (x1 - x11)) else 0) else (at_ (e := YSpan) x32 x34).2))) x32 x33 (IntKind.i64.wrap (x34 + 1))))
          (bcond (((at_ (e := YSpan) x32 x34).1 : Int) != 1)
           (L_axis_Gap_0 n m1 x1 x2 (IntKind.i64.wrap (x11 + (at_ (e := YSpan) x32 x34).2)) x12 x32 x33 (IntKind.i64.wrap (x34 + 1)))
           (L_axis_Gap_0 n m1 x1 x2 x11 x12 x32 x33 (IntKind.i64.wrap (x34 + 1))))))
        (bcond (((at_ (e := YSpan) x32 x34).1 : Int) == 0)
         (bcond (((at_ (e := YSpan) x32 x34).1 : Int) != 1)
          (L_axis_Gap_0 n m1 x1 x2 (IntKind.i64.wrap (x11 + (at_ (e := YSpan) x32 x34).2)) (IntKind.i64.wrap (x12 + (if ((if ((IntKind.i64.wrap (x1 - x11)) : Int) > 0 then (IntKind.i64.wrap (x1 - x11)) else 0) : Int) < (at_ (e := YSpan) x32 x34).2 then (if ((IntKind.i64.wrap (x1 - x11)) : Int) > 0 then (IntKind.i64.wrap (x1 - x11)) else 0) else (at_ (e := YSpan) x32 x34).2))) x32 x33 (IntKind.i64.wrap (x34 + 1)))
          (L_axis_Gap_0 n m1 x1 x2 x11 (IntKind.i64.wrap (x12 + (if ((if ((IntKind.i64.wrap (x1 - x11)) : Int) > 0 then (IntKind.i64.wrap (x1 - x11)) else 0) : Int) < (at_ (e := YSpan) x32 x34).2 then (if ((IntKind.i64.wrap (x1 - x11)) : Int) > 0 then (IntKind.i64.wrap (x1 - x11)) else 0) else (at_ (e := YSpan) x32 x34).2))) x32 x33 (IntKind.i64.wrap (x34 + 1))))
         (bcond (((at_ (e := YSpan) x32 x34).1 : Int) != 1)
          (L_axis_Gap_0 n m1 x1 x2 (IntKind.i64.wrap (x11 + (at_ (e := YSpan) x32 x34).2)) x12 x32 x33 (IntKind.i64.wrap (x34 + 1)))
          (L_axis_Gap_0 n m1 x1 x2 x11 x12 x32 x33 (IntKind.i64.wrap (x34 + 1))))))
       (bcond (((at_ (e := YSpan) x32 x34).1 : Int) == 0)
        (bcond (((at_ (e := YSpan) x32 x34).1 : Int) != 1)
         (L_axis_Gap_0 n m1 x1 x2 (IntKind.i64.wrap (x11 + (at_ (e := YSpan) x32 x34).2)) (IntKind.i64.wrap (x12 + (if ((if ((IntKind.i64.wrap (x1 - x11)) : Int) > 0 then (IntKind.i64.wrap (x1 - x11)) else 0) : Int) < (at_ (e := YSpan) x32 x34).2 then (if ((IntKind.i64.wrap (x1 - x11)) : Int) > 0 then (IntKind.i64.wrap (x1 - x11)) else 0) else (at_ (e := YSpan) x32 x34).2))) x32 x33 (IntKind.i64.wrap (x34 + 1)))
         (L_axis_Gap_0 n m1 x1 x2 x11 (IntKind.i64.wrap (x12 + (if ((if ((IntKind.i64.wrap (x1 - x11)) : Int) > 0 then (IntKind.i64.wrap (x1 - x11)) else 0) : Int) < (at_ (e := YSpan) x32 x34).2 then (if ((IntKind.i64.wrap (x1 - x11)) : Int) > 0 then (IntKind.i64.wrap (x1 - x11)) else 0) else (at_ (e := YSpan) x32 x34).2))) x32 x33 (IntKind.i64.wrap (x34 + 1))))
        (bcond (((at_ (e := YSpan) x32 x34).1 : Int) != 1)
         (L_axis_Gap_0 n m1 x1 x2 (IntKind.i64.wrap (x11 + (at_ (e := YSpan) x32 x34).2)) x12 x32 x33 (IntKind.i64.wrap (x34 + 1)))
         (L_axis_Gap_0 n m1 x1 x2 x11 x12 x32 x33 (IntKind.i64.wrap (x34 + 1)))))))
     (bcond ((((at_ (e := YSpan) x32 x34).1 : Int) == 1) == true)
      (bcond (((x11 : Int) == x1) == true)
       (bcond x2
        (bcond (((at_ (e := YSpan) x32 x34).1 : Int) != 1)
         (L_axis_Gap_0 n m1 x1 x2 (IntKind.i64.wrap (x11 + (at_ (e := YSpan) x32 x34).2)) (IntKind.i64.wrap (x12 + (at_ (e := YSpan) x32 x34).2)) x32 x33 (IntKind.i64.wrap (x34 + 1)))
         (L_axis_Gap_0 n m1 x1 x2 x11 (IntKind.i64.wrap (x12 + (at_ (e := YSpan) x32 x34).2)) x32 x33 (IntKind.i64.wrap (x34 + 1))))
        (bcond (((at_ (e := YSpan) x32 x34).1 : Int) == 0)
         (bcond (((at_ (e := YSpan) x32 x34).1 : Int) != 1)
          (L_axis_Gap_0 n m1 x1 x2 (IntKind.i64.wrap (x11 + (at_ (e := YSpan) x32 x34).2)) (IntKind.i64.wrap (x12 + (if ((if ((IntKind.i64.wrap (x1 - x11)) : Int) > 0 then (IntKind.i64.wrap (x1 - x11)) else 0) : Int) < (at_ (e := YSpan) x32 x34).2 then (if ((IntKind.i64.wrap (x1 - x11)) : Int) > 0 then (IntKind.i64.wrap (x1 - x11)) else 0) else (at_ (e := YSpan) x32 x34).2))) x32 x33 (IntKind.i64.wrap (x34 + 1)))
          (L_axis_Gap_0 n m1 x1 x2 x11 (IntKind.i64.wrap (x12 + (if ((if ((IntKind.i64.wrap (x1 - x11)) : Int) > 0 then (IntKind.i64.wrap (x1 - x11)) else 0) : Int) < (at_ (e := YSpan) x32 x34).2 then (if ((IntKind.i64.wrap (x1 - x11)) : Int) > 0 then (IntKind.i64.wrap (x1 - x11)) else 0) else (at_ (e := YSpan) x32 x34).2))) x32 x33 (IntKind.i64.wrap (x34 + 1))))
         (bcond (((at_ (e := YSpan) x32 x34).1 : Int) != 1)
          (L_axis_Gap_0 n m1 x1 x2 (IntKind.i64.wrap (x11 + (at_ (e := YSpan) x32 x34).2)) x12 x32 x33 (IntKind.i64.wrap (x34 + 1)))
          (L_axis_Gap_0 n m1 x1 x2 x11 x12 x32 x33 (IntKind.i64.wrap (x34 + 1))))))
       (bcond (((at_ (e := YSpan) x32 x34).1 : Int) == 0)
        (bcond (((at_ (e := YSpan) x32 x34).1 : Int) != 1)
         (L_axis_Gap_0 n m1 x1 x2 (IntKind.i64.wrap (x11 + (at_ (e := YSpan) x32 x34).2)) (IntKind.i64.wrap (x12 + (if ((if ((IntKind.i64.wrap (x1 - x11)) : Int) > 0 then (IntKind.i64.wrap (x1 - x11)) else 0) : Int) < (at_ (e := YSpan) x32 x34).2 then (if ((IntKind.i64.wrap (x1 - x11)) : Int) > 0 then (IntKind.i64.wrap (x1 - x11)) else 0) else (at_ (e := YSpan) x32 x34).2))) x32 x33 (IntKind.i64.wrap (x34 + 1)))
         (L_axis_Gap_0 n m1 x1 x2 x11 (IntKind.i64.wrap (x12 + (if ((if ((IntKind.i64.wrap (x1 - x11)) : Int) > 0 then (IntKind.i64.wrap (x1 - x11)) else 0) : Int) < (at_ (e := YSpan) x32 x34).2 then (if ((IntKind.i64.wrap (x1 - x11)) : Int) > 0 then (IntKind.i64.wrap (x1 - x11)) else 0) else (at_ (e := YSpan) x32 x34).2))) x32 x33 (IntKind.i64.wrap (x34 + 1))))
        (bcond (((at_ (e := YSpan) x32 x34).1 : Int) != 1)
         (L_axis_Gap_0 n m1 x1 x2 (IntKind.i64.wrap (x11 + (at_ (e := YSpan) x32 x34).2)) x12 x32 x33 (IntKind.i64.wrap (x34 + 1)))
         (L_axis_Gap_0 n m1 x1 x2 x11 x12 x32 x33 (IntKind.i64.wrap (x34 + 1))))))
      (bcond (((at_ (e := YSpan) x32 x34).1 : Int) == 0)
       (bcond (((at_ (e := YSpan) x32 x34).1 : Int) != 1)
        (L_axis_Gap_0 n m1 x1 x2 (IntKind.i64.wrap (x11 + (at_ (e := YSpan) x32 x34).2)) (IntKind.i64.wrap (x12 + (if ((if ((IntKind.i64.wrap (x1 - x11)) : Int) > 0 then (IntKind.i64.wrap (x1 - x11)) else 0) : Int) < (at_ (e := YSpan) x32 x34).2 then (if ((IntKind.i64.wrap (x1 - x11)) : Int) > 0 then (IntKind.i64.wrap (x1 - x11)) else 0) else (at_ (e := YSpan) x32 x34).2))) x32 x33 (IntKind.i64.wrap (x34 + 1)))
        (L_axis_Gap_0 n m1 x1 x2 x11 (IntKind.i64.wrap (x12 + (if ((if ((IntKind.i64.wrap (x1 - x11)) : Int) > 0 then (IntKind.i64.wrap (x1 - x11)) else 0) : Int) < (at_ (e := YSpan) x32 x34).2 then (if ((IntKind.i64.wrap (x1 - x11)) : Int) > 0 then (IntKind.i64.wrap (x1 - x11)) else 0) else (at_ (e := YSpan) x32 x34).2))) x32 x33 (IntKind.i64.wrap (x34 + 1))))
       (bcond (((at_ (e := YSpan) x32 x34).1 : Int) != 1)
        (L_axis_Gap_0 n m1 x1 x2 (IntKind.i64.wrap (x11 + (at_ (e := YSpan) x32 x34).2)) x12 x32 x33 (IntKind.i64.wrap (x34 + 1)))
        (L_axis_Gap_0 n m1 x1 x2 x11 x12 x32 x33 (IntKind.i64.wrap (x34 + 1)))))))
   else none)
   (some (ret_axis_Gap x12 0))) := by kernel_rfl
theorem ok_axis_Gap : fnOk os_axis_Gap sig_axis_Gap Try.f121 = true := by kernel_rfl
theorem fn_axis_Gap : P.funcs[121]? = some Try.f121 := by kernel_rfl
noncomputable def F_axis_Gap : sig_axis_Gap.Fn := fun x y => run T (env_axis_Gap) os_axis_Gap sig_axis_Gap Try.f121 hs_axis_Gap big x y
theorem S_axis_Gap : Sound P 121 ⟨sig_axis_Gap, F_axis_Gap⟩ := sound_of (os := os_axis_Gap) (hs := hs_axis_Gap) (env_cons S_axis_Check (env_cons S_axis_lengths (env_nil))) fn_axis_Gap ok_axis_Gap (fun x y out h => ⟨big, h⟩)
theorem e_axis_Gap (a0 : List YSpan.den) (a1 : Int) (a2 : Bool) : C_axis_Gap F_axis_Gap a0 a1 a2 =
  ((C_axis_Check F_axis_Check a0).bind fun r1 =>
   (bcond (((res_axis_Check_0 r1) : Int) != 0)
    (some (ret_axis_Gap 0 (res_axis_Check_0 r1)))
    ((C_axis_lengths F_axis_lengths a0).bind fun r2 =>
     (bcond ((decide ((a1 : Int) < 0)) == false)
      (bcond (decide ((a1 : Int) > (res_axis_lengths_0 r2)))
       (some (ret_axis_Gap 0 2))
       (L_axis_Gap_0 big big a1 a2 0 0 a0 (List.length a0 : Int) 0))
      (some (ret_axis_Gap 0 2)))))) := by kernel_rfl
def sig_axis_Hull : Sig := ⟨[.v false (.list YSpan), .v false (.int .i64), .v false (.int .i64)], [], [(false, [.fr (.int .i64)]), (false, [.fr (.int .i64)])]⟩
def C_axis_Hull (F : sig_axis_Hull.Fn) (a0 : List YSpan.den) (a1 : Int) (a2 : Int) : Option sig_axis_Hull.Out := F (a0, a1, a2, ()) ()
def ret_axis_Hull (v0 : Int) (v1 : Int) : sig_axis_Hull.Out := (((v0, ()), (v1, ()), ()), ())
def res_axis_Hull_0 (r : sig_axis_Hull.Out) : Int := r.1.1.1
@[simp] theorem res_axis_Hull_0_ret (v0 : Int) (v1 : Int) : res_axis_Hull_0 (ret_axis_Hull v0 v1) = v0 := rfl
def res_axis_Hull_1 (r : sig_axis_Hull.Out) : Int := r.1.2.1.1
@[simp] theorem res_axis_Hull_1_ret (v0 : Int) (v1 : Int) : res_axis_Hull_1 (ret_axis_Hull v0 v1) = v1 := rfl
def os_axis_Hull : RegT := ⟨[(5, .st 0 (.st 1 (.st 2 (.st 3 (.st 4 (.st 5 (.st 9 (.st 6 (.st 7 (.st 8 (.st 10 (.nil))))))))))))], []⟩
def hs_axis_Hull : List Keep := [[(1, []), (2, []), (8, []), (9, []), (10, []), (11, []), (16, []), (17, []), (18, [])]]
@[reducible] noncomputable def env_axis_Hull : Env := []
noncomputable def L_axis_Hull_0 (n m1 : Nat) (x1 : Int) (x2 : Int) (x8 : Int) (x9 : Int) (x10 : Int) (x11 : Int) (x16 : List YSpan.den) (x17 : Int) (x18 : Int) : Option sig_axis_Hull.Out :=
  loopAt T (env_axis_Hull) os_axis_Hull sig_axis_Hull Try.f124 hs_axis_Hull n [.sr, .sr, .sl, .sr, .bl] m1 (mk 68 [(1, .cs false [.val (.int .i64) x1]), (2, .cs false [.val (.int .i64) x2]), (8, .cs false [.val (.int .i64) x8]), (9, .cs false [.val (.int .i64) x9]), (10, .cs false [.val (.int .i64) x10]), (11, .cs false [.val (.int .i64) x11]), (16, .cs false [.val (.list YSpan) x16]), (17, .cs false [.val (.int .i64) x17]), (18, .cs false [.val (.int .i64) x18])])
noncomputable def J_axis_Hull_0 (n m1 : Nat) (y1 : Int) (y2 : Int) (y8 : Int) (y9 : Int) (y10 : Int) (y11 : Int) (y13 : YSpan.den) (y16 : List YSpan.den) (y17 : Int) (y18 : Int) : Option sig_axis_Hull.Out :=
  (bcond ((y13.1 : Int) != 2)
   (bcond ((y13.1 : Int) != 1)
    (L_axis_Hull_0 n m1 y1 y2 y8 y9 (IntKind.i64.wrap (y10 + y13.2)) (IntKind.i64.wrap (y11 + y13.2)) y16 y17 (IntKind.i64.wrap (y18 + 1)))
    (L_axis_Hull_0 n m1 y1 y2 y8 y9 y10 (IntKind.i64.wrap (y11 + y13.2)) y16 y17 (IntKind.i64.wrap (y18 + 1))))
   (bcond ((y13.1 : Int) != 1)
    (L_axis_Hull_0 n m1 y1 y2 y8 y9 (IntKind.i64.wrap (y10 + y13.2)) y11 y16 y17 (IntKind.i64.wrap (y18 + 1)))
    (L_axis_Hull_0 n m1 y1 y2 y8 y9 y10 y11 y16 y17 (IntKind.i64.wrap (y18 + 1)))))
theorem L_axis_Hull_0_step (n m1 : Nat) (x1 : Int) (x2 : Int) (x8 : Int) (x9 : Int) (x10 : Int) (x11 : Int) (x16 : List YSpan.den) (x17 : Int) (x18 : Int) : L_axis_Hull_0 n (m1 + 1) x1 x2 x8 x9 x10 x11 x16 x17 x18 =
  (bcond (decide ((x18 : Int) < x17))
   (if 0 ≤ (x18 : Int) ∧ (x18 : Int) < (List.length x16 : Int) then
    (bcond ((((at_ (e := YSpan) x16 x18).1 : Int) == 0) == true)
     (bcond (decide (((if (x10 : Int) > x1 then x10 else x1) : Int) < (if ((IntKind.i64.wrap (x10 + (at_ (e := YSpan) x16 x18).2)) : Int) < x2 then (IntKind.i64.wrap (x10 + (at_ (e := YSpan) x16 x18).2)) else x2)))
      (bcond ((x9 : Int) == 0)
       (J_axis_Hull_0 n m1 x1 x2 (IntKind.i64.wrap ((IntKind.i64.wrap (x11 + (if (x10 : Int) > x1 then x10 else x1))) - x10)) (IntKind.i64.wrap ((IntKind.i64.wrap (x11 + (if ((IntKind.i64.wrap (x10 + (at_ (e := YSpan) x16 x18).2)) : Int) < x2 then (IntKind.i64.wrap (x10 + (at_ (e := YSpan) x16 x18).2)) else x2))) - x10)) x10 x11 (at_ (e := YSpan) x16 x18) x16 x17 x18)
       (J_axis_Hull_0 n m1 x1 x2 x8 (IntKind.i64.wrap ((IntKind.i64.wrap (x11 + (if ((IntKind.i64.wrap (x10 + (at_ (e := YSpan) x16 x18).2)) : Int) < x2 then (IntKind.i64.wrap (x10 + (at_ (e := YSpan) x16 x18).2)) else x2))) - x10)) x10 x11 (at_ (e := YSpan) x16 x18) x16 x17 x18))
      (J_axis_Hull_0 n m1 x1 x2 x8 x9 x10 x11 (at_ (e := YSpan) x16 x18) x16 x17 x18))
     (J_axis_Hull_0 n m1 x1 x2 x8 x9 x10 x11 (at_ (e := YSpan) x16 x18) x16 x17 x18))
   else none)
   (some (ret_axis_Hull x8 x9))) := by kernel_rfl
theorem ok_axis_Hull : fnOk os_axis_Hull sig_axis_Hull Try.f124 = true := by kernel_rfl
theorem fn_axis_Hull : P.funcs[124]? = some Try.f124 := by kernel_rfl
noncomputable def F_axis_Hull : sig_axis_Hull.Fn := fun x y => run T (env_axis_Hull) os_axis_Hull sig_axis_Hull Try.f124 hs_axis_Hull big x y
theorem S_axis_Hull : Sound P 124 ⟨sig_axis_Hull, F_axis_Hull⟩ := sound_of (os := os_axis_Hull) (hs := hs_axis_Hull) (env_nil) fn_axis_Hull ok_axis_Hull (fun x y out h => ⟨big, h⟩)
theorem e_axis_Hull (a0 : List YSpan.den) (a1 : Int) (a2 : Int) : C_axis_Hull F_axis_Hull a0 a1 a2 =
  (L_axis_Hull_0 big big a1 a2 0 0 0 0 a0 (List.length a0 : Int) 0) := by kernel_rfl
def sig_axis_Rest : Sig := ⟨[.v false (.list YSpan), .v false (.int .i64), .v false (.int .i64)], [], [(false, [.fr (.int .i64)]), (false, [.fr (.int .i64)]), (false, [.fr (.int .i64)])]⟩
def C_axis_Rest (F : sig_axis_Rest.Fn) (a0 : List YSpan.den) (a1 : Int) (a2 : Int) : Option sig_axis_Rest.Out := F (a0, a1, a2, ()) ()
def ret_axis_Rest (v0 : Int) (v1 : Int) (v2 : Int) : sig_axis_Rest.Out := (((v0, ()), (v1, ()), (v2, ()), ()), ())
def res_axis_Rest_0 (r : sig_axis_Rest.Out) : Int := r.1.1.1
@[simp] theorem res_axis_Rest_0_ret (v0 : Int) (v1 : Int) (v2 : Int) : res_axis_Rest_0 (ret_axis_Rest v0 v1 v2) = v0 := rfl
def res_axis_Rest_1 (r : sig_axis_Rest.Out) : Int := r.1.2.1.1
@[simp] theorem res_axis_Rest_1_ret (v0 : Int) (v1 : Int) (v2 : Int) : res_axis_Rest_1 (ret_axis_Rest v0 v1 v2) = v1 := rfl
def res_axis_Rest_2 (r : sig_axis_Rest.Out) : Int := r.1.2.2.1.1
@[simp] theorem res_axis_Rest_2_ret (v0 : Int) (v1 : Int) (v2 : Int) : res_axis_Rest_2 (ret_axis_Rest v0 v1 v2) = v2 := rfl
def os_axis_Rest : RegT := ⟨[], []⟩
def hs_axis_Rest : List Keep := []
@[reducible] noncomputable def env_axis_Rest : Env := [(108, ⟨sig_axis_Check, F_axis_Check⟩), (109, ⟨sig_axis_lengths, F_axis_lengths⟩), (124, ⟨sig_axis_Hull, F_axis_Hull⟩)]
theorem ok_axis_Rest : fnOk os_axis_Rest sig_axis_Rest Try.f128 = true := by kernel_rfl
theorem fn_axis_Rest : P.funcs[128]? = some Try.f128 := by kernel_rfl
noncomputable def F_axis_Rest : sig_axis_Rest.Fn := fun x y => run T (env_axis_Rest) os_axis_Rest sig_axis_Rest Try.f128 hs_axis_Rest big x y
theorem S_axis_Rest : Sound P 128 ⟨sig_axis_Rest, F_axis_Rest⟩ := sound_of (os := os_axis_Rest) (hs := hs_axis_Rest) (env_cons S_axis_Check (env_cons S_axis_lengths (env_cons S_axis_Hull (env_nil)))) fn_axis_Rest ok_axis_Rest (fun x y out h => ⟨big, h⟩)
theorem e_axis_Rest (a0 : List YSpan.den) (a1 : Int) (a2 : Int) : C_axis_Rest F_axis_Rest a0 a1 a2 =
  ((C_axis_Check F_axis_Check a0).bind fun r1 =>
   (bcond (((res_axis_Check_0 r1) : Int) != 0)
    (some (ret_axis_Rest 0 0 (res_axis_Check_0 r1)))
    ((C_axis_lengths F_axis_lengths a0).bind fun r2 =>
     (bcond ((decide ((a1 : Int) < 0)) == false)
      (bcond ((decide ((a2 : Int) < a1)) == false)
       (bcond (decide ((a2 : Int) > (res_axis_lengths_0 r2)))
        (some (ret_axis_Rest 0 0 2))
        ((C_axis_Hull F_axis_Hull a0 a1 a2).bind fun r3 =>
         (some (ret_axis_Rest (res_axis_Hull_0 r3) (res_axis_Hull_1 r3) 0))))
       (some (ret_axis_Rest 0 0 2)))
      (some (ret_axis_Rest 0 0 2)))))) := by kernel_rfl
def sig_span_Move : Sig := ⟨[.v false (.list YStep), .v false (.int .i64), .v false .bool], [], [(false, [.fr (.int .i64)]), (false, [.fr (.int .i64)])]⟩
def C_span_Move (F : sig_span_Move.Fn) (a0 : List YStep.den) (a1 : Int) (a2 : Bool) : Option sig_span_Move.Out := F (a0, a1, a2, ()) ()
def ret_span_Move (v0 : Int) (v1 : Int) : sig_span_Move.Out := (((v0, ()), (v1, ()), ()), ())
def res_span_Move_0 (r : sig_span_Move.Out) : Int := r.1.1.1
@[simp] theorem res_span_Move_0_ret (v0 : Int) (v1 : Int) : res_span_Move_0 (ret_span_Move v0 v1) = v0 := rfl
def res_span_Move_1 (r : sig_span_Move.Out) : Int := r.1.2.1.1
@[simp] theorem res_span_Move_1_ret (v0 : Int) (v1 : Int) : res_span_Move_1 (ret_span_Move v0 v1) = v1 := rfl
def os_span_Move : RegT := ⟨[], []⟩
def hs_span_Move : List Keep := []
@[reducible] noncomputable def env_span_Move : Env := [(30, ⟨sig_delta_Axis, F_delta_Axis⟩), (121, ⟨sig_axis_Gap, F_axis_Gap⟩)]
theorem ok_span_Move : fnOk os_span_Move sig_span_Move Try.f56 = true := by kernel_rfl
theorem fn_span_Move : P.funcs[56]? = some Try.f56 := by kernel_rfl
noncomputable def F_span_Move : sig_span_Move.Fn := fun x y => run T (env_span_Move) os_span_Move sig_span_Move Try.f56 hs_span_Move big x y
theorem S_span_Move : Sound P 56 ⟨sig_span_Move, F_span_Move⟩ := sound_of (os := os_span_Move) (hs := hs_span_Move) (env_cons S_delta_Axis (env_cons S_axis_Gap (env_nil))) fn_span_Move ok_span_Move (fun x y out h => ⟨big, h⟩)
theorem e_span_Move (a0 : List YStep.den) (a1 : Int) (a2 : Bool) : C_span_Move F_span_Move a0 a1 a2 =
  ((C_delta_Axis F_delta_Axis a0).bind fun r1 =>
   (bcond (((res_delta_Axis_1 r1) : Int) != 0)
    (some (ret_span_Move 0 (res_delta_Axis_1 r1)))
    ((C_axis_Gap F_axis_Gap (res_delta_Axis_0 r1) a1 a2).bind fun r2 =>
     (some (ret_span_Move (res_axis_Gap_0 r2) (res_axis_Gap_1 r2)))))) := by kernel_rfl
def sig_span_Range : Sig := ⟨[.v false (.list YStep), .v true YSpan], [], [(true, [.fr YSpan]), (false, [.fr (.int .i64)])]⟩
def C_span_Range (F : sig_span_Range.Fn) (a0 : List YStep.den) (a1 : YSpan.den) : Option sig_span_Range.Out := F (a0, a1, ()) ()
def ret_span_Range (v0 : YSpan.den) (v1 : Int) : sig_span_Range.Out := (((v0, ()), (v1, ()), ()), ())
def res_span_Range_0 (r : sig_span_Range.Out) : YSpan.den := r.1.1.1
@[simp] theorem res_span_Range_0_ret (v0 : YSpan.den) (v1 : Int) : res_span_Range_0 (ret_span_Range v0 v1) = v0 := rfl
def res_span_Range_1 (r : sig_span_Range.Out) : Int := r.1.2.1.1
@[simp] theorem res_span_Range_1_ret (v0 : YSpan.den) (v1 : Int) : res_span_Range_1 (ret_span_Range v0 v1) = v1 := rfl
def os_span_Range : RegT := ⟨[], []⟩
def hs_span_Range : List Keep := []
@[reducible] noncomputable def env_span_Range : Env := [(30, ⟨sig_delta_Axis, F_delta_Axis⟩), (128, ⟨sig_axis_Rest, F_axis_Rest⟩)]
theorem ok_span_Range : fnOk os_span_Range sig_span_Range Try.f63 = true := by kernel_rfl
theorem fn_span_Range : P.funcs[63]? = some Try.f63 := by kernel_rfl
noncomputable def F_span_Range : sig_span_Range.Fn := fun x y => run T (env_span_Range) os_span_Range sig_span_Range Try.f63 hs_span_Range big x y
theorem S_span_Range : Sound P 63 ⟨sig_span_Range, F_span_Range⟩ := sound_of (os := os_span_Range) (hs := hs_span_Range) (env_cons S_delta_Axis (env_cons S_axis_Rest (env_nil))) fn_span_Range ok_span_Range (fun x y out h => ⟨big, h⟩)
theorem e_span_Range (a0 : List YStep.den) (a1 : YSpan.den) : C_span_Range F_span_Range a0 a1 =
  ((C_delta_Axis F_delta_Axis a0).bind fun r1 =>
   (bcond (((res_delta_Axis_1 r1) : Int) != 0)
    (some (ret_span_Range (0, 0) (res_delta_Axis_1 r1)))
    ((C_axis_Rest F_axis_Rest (res_delta_Axis_0 r1) a1.1 a1.2).bind fun r2 =>
     (some (ret_span_Range ((res_axis_Rest_0 r2), (res_axis_Rest_1 r2)) (res_axis_Rest_2 r2)))))) := by kernel_rfl
def sig_span_Through : Sig := ⟨[.v false (.list YStep), .v false (.list YSpan)], [], [(false, [.fr (.list YSpan)]), (false, [.fr (.int .i64)])]⟩
def C_span_Through (F : sig_span_Through.Fn) (a0 : List YStep.den) (a1 : List YSpan.den) : Option sig_span_Through.Out := F (a0, a1, ()) ()
def ret_span_Through (v0 : List YSpan.den) (v1 : Int) : sig_span_Through.Out := (((v0, ()), (v1, ()), ()), ())
def res_span_Through_0 (r : sig_span_Through.Out) : List YSpan.den := r.1.1.1
@[simp] theorem res_span_Through_0_ret (v0 : List YSpan.den) (v1 : Int) : res_span_Through_0 (ret_span_Through v0 v1) = v0 := rfl
def res_span_Through_1 (r : sig_span_Through.Out) : Int := r.1.2.1.1
@[simp] theorem res_span_Through_1_ret (v0 : List YSpan.den) (v1 : Int) : res_span_Through_1 (ret_span_Through v0 v1) = v1 := rfl
def os_span_Through : RegT := ⟨[], []⟩
def hs_span_Through : List Keep := [[(6, []), (12, [(0, 90, YSpan)]), (50, []), (51, []), (52, [])]]
@[reducible] noncomputable def env_span_Through : Env := [(30, ⟨sig_delta_Axis, F_delta_Axis⟩), (122, ⟨sig_span_Check, F_span_Check⟩), (123, ⟨sig_axis_Lengths, F_axis_Lengths⟩), (124, ⟨sig_axis_Hull, F_axis_Hull⟩), (125, ⟨sig_span_add, F_span_add⟩)]
noncomputable def L_span_Through_0 (n m1 : Nat) (x6 : List YSpan.den) (x12 : List YSpan.den) (x50 : List YSpan.den) (x51 : Int) (x52 : Int) : Option sig_span_Through.Out :=
  loopAt T (env_span_Through) os_span_Through sig_span_Through Try.f57 hs_span_Through n [.sr, .sr, .sr, .sr, .sr, .sr, .sl, .sr, .bl] m1 (mk 75 [(6, .cs false [.val (.list YSpan) x6]), (12, .cs false [.own 90 YSpan x12]), (50, .cs false [.val (.list YSpan) x50]), (51, .cs false [.val (.int .i64) x51]), (52, .cs false [.val (.int .i64) x52])])
theorem L_span_Through_0_step (n m1 : Nat) (x6 : List YSpan.den) (x12 : List YSpan.den) (x50 : List YSpan.den) (x51 : Int) (x52 : Int) : L_span_Through_0 n (m1 + 1) x6 x12 x50 x51 x52 =
  (bcond (decide ((x52 : Int) < x51))
   (if 0 ≤ (x52 : Int) ∧ (x52 : Int) < (List.length x50 : Int) then
    ((C_axis_Hull F_axis_Hull x6 (at_ (e := YSpan) x50 x52).1 (at_ (e := YSpan) x50 x52).2).bind fun r1 =>
     (bcond (decide (((res_axis_Hull_0 r1) : Int) < (res_axis_Hull_1 r1)))
      ((C_span_add F_span_add x12 ((res_axis_Hull_0 r1), (res_axis_Hull_1 r1))).bind fun r2 =>
       (L_span_Through_0 n m1 x6 (res_span_add_0 r2) x50 x51 (IntKind.i64.wrap (x52 + 1))))
      (L_span_Through_0 n m1 x6 x12 x50 x51 (IntKind.i64.wrap (x52 + 1)))))
   else none)
   (some (ret_span_Through x12 0))) := by kernel_rfl
theorem ok_span_Through : fnOk os_span_Through sig_span_Through Try.f57 = true := by kernel_rfl
theorem fn_span_Through : P.funcs[57]? = some Try.f57 := by kernel_rfl
noncomputable def F_span_Through : sig_span_Through.Fn := fun x y => run T (env_span_Through) os_span_Through sig_span_Through Try.f57 hs_span_Through big x y
theorem S_span_Through : Sound P 57 ⟨sig_span_Through, F_span_Through⟩ := sound_of (os := os_span_Through) (hs := hs_span_Through) (env_cons S_delta_Axis (env_cons S_span_Check (env_cons S_axis_Lengths (env_cons S_axis_Hull (env_cons S_span_add (env_nil)))))) fn_span_Through ok_span_Through (fun x y out h => ⟨big, h⟩)
theorem e_span_Through (a0 : List YStep.den) (a1 : List YSpan.den) : C_span_Through F_span_Through a0 a1 =
  ((C_delta_Axis F_delta_Axis a0).bind fun r1 =>
   (bcond (((res_delta_Axis_1 r1) : Int) != 0)
    (some (ret_span_Through [] (res_delta_Axis_1 r1)))
    ((C_span_Check F_span_Check a1).bind fun r2 =>
     (bcond (((res_span_Check_0 r2) : Int) != 0)
      (some (ret_span_Through [] (res_span_Check_0 r2)))
      ((C_axis_Lengths F_axis_Lengths (res_delta_Axis_0 r1)).bind fun r3 =>
       (bcond ((decide (((List.length a1 : Int) : Int) > 0)) == true)
        (if 0 ≤ ((IntKind.i64.wrap ((List.length a1 : Int) - 1)) : Int) ∧ ((IntKind.i64.wrap ((List.length a1 : Int) - 1)) : Int) < (List.length a1 : Int) then
         (bcond (decide (((at_ (e := YSpan) a1 (IntKind.i64.wrap ((List.length a1 : Int) - 1))).2 : Int) > (res_axis_Lengths_0 r3)))
          (some (ret_span_Through [] 2))
          (L_span_Through_0 big big (res_delta_Axis_0 r1) [] a1 (List.length a1 : Int) 0))
        else none)
        (L_span_Through_0 big big (res_delta_Axis_0 r1) [] a1 (List.length a1 : Int) 0))))))) := by kernel_rfl
def sig_R_Units : Sig := ⟨[.v false (.list YSpan)], [], [(false, [.fr (.list (.int .i64))])]⟩
def C_R_Units (F : sig_R_Units.Fn) (a0 : List YSpan.den) : Option sig_R_Units.Out := F (a0, ()) ()
def ret_R_Units (v0 : List (Int)) : sig_R_Units.Out := (((v0, ()), ()), ())
def res_R_Units_0 (r : sig_R_Units.Out) : List (Int) := r.1.1.1
@[simp] theorem res_R_Units_0_ret (v0 : List (Int)) : res_R_Units_0 (ret_R_Units v0) = v0 := rfl
def os_R_Units : RegT := ⟨[], []⟩
def hs_R_Units : List Keep := [[(0, []), (3, [(0, 3, (.int .i64))]), (6, []), (7, [])], [(0, []), (3, [(0, 3, (.int .i64))]), (4, []), (6, []), (7, []), (14, []), (15, [])]]
@[reducible] noncomputable def env_R_Units : Env := []
noncomputable def L_R_Units_0 (n m1 : Nat) (x0 : List YSpan.den) (x3 : List (Int)) (x6 : Int) (x7 : Int) : Option sig_R_Units.Out :=
  loopAt T (env_R_Units) os_R_Units sig_R_Units Try.f58 hs_R_Units n [.sr, .sr, .sl, .sr, .bl] m1 (mk 28 [(0, .cs false [.val (.list YSpan) x0]), (3, .cs false [.own 3 (.int .i64) x3]), (6, .cs false [.val (.int .i64) x6]), (7, .cs false [.val (.int .i64) x7])])
noncomputable def L_R_Units_1 (n m1 m2 : Nat) (x0 : List YSpan.den) (x3 : List (Int)) (x4 : Int) (x6 : Int) (x7 : Int) (x14 : Int) (x15 : Int) : Option sig_R_Units.Out :=
  loopAt T (env_R_Units) os_R_Units sig_R_Units Try.f58 hs_R_Units n [.sr, .sr, .sl, .sr, .bl, .lp m1, .sr, .sr, .sl, .bl, .sr, .sr, .bl] m2 (mk 28 [(0, .cs false [.val (.list YSpan) x0]), (3, .cs false [.own 3 (.int .i64) x3]), (4, .cs false [.val (.int .i64) x4]), (6, .cs false [.val (.int .i64) x6]), (7, .cs false [.val (.int .i64) x7]), (14, .cs false [.val (.int .i64) x14]), (15, .cs false [.val (.int .i64) x15])])
theorem L_R_Units_0_step (n m1 : Nat) (x0 : List YSpan.den) (x3 : List (Int)) (x6 : Int) (x7 : Int) : L_R_Units_0 n (m1 + 1) x0 x3 x6 x7 =
  (bcond (decide ((x7 : Int) < x6))
   (if 0 ≤ (x7 : Int) ∧ (x7 : Int) < (List.length x0 : Int) then
    (L_R_Units_1 n m1 n x0 x3 x7 x6 x7 (at_ (e := YSpan) x0 x7).2 0)
   else none)
   (some (ret_R_Units x3))) := by kernel_rfl
theorem L_R_Units_1_step (n m1 m2 : Nat) (x0 : List YSpan.den) (x3 : List (Int)) (x4 : Int) (x6 : Int) (x7 : Int) (x14 : Int) (x15 : Int) : L_R_Units_1 n m1 (m2 + 1) x0 x3 x4 x6 x7 x14 x15 =
  (bcond (decide ((x15 : Int) < x14))
   (if 0 ≤ (x4 : Int) ∧ (x4 : Int) < (List.length x0 : Int) then
    (if (List.length (x3 : List Int) + List.length ([(at_ (e := YSpan) x0 x4).1] : List Int)) * 8 ≤ 140737488355328 then
     (L_R_Units_1 n m1 m2 x0 (x3 ++ [(at_ (e := YSpan) x0 x4).1]) x4 x6 x7 x14 (IntKind.i64.wrap (x15 + 1)))
    else none)
   else none)
   (L_R_Units_0 n m1 x0 x3 x6 (IntKind.i64.wrap (x7 + 1)))) := by kernel_rfl
theorem ok_R_Units : fnOk os_R_Units sig_R_Units Try.f58 = true := by kernel_rfl
theorem fn_R_Units : P.funcs[58]? = some Try.f58 := by kernel_rfl
noncomputable def F_R_Units : sig_R_Units.Fn := fun x y => run T (env_R_Units) os_R_Units sig_R_Units Try.f58 hs_R_Units big x y
theorem S_R_Units : Sound P 58 ⟨sig_R_Units, F_R_Units⟩ := sound_of (os := os_R_Units) (hs := hs_R_Units) (env_nil) fn_R_Units ok_R_Units (fun x y out h => ⟨big, h⟩)
theorem e_R_Units (a0 : List YSpan.den) : C_R_Units F_R_Units a0 =
  (L_R_Units_0 big big a0 [] (List.length a0 : Int) 0) := by kernel_rfl
def sig_R_Olds : Sig := ⟨[.v false (.list (.int .i64))], [], [(false, [.fr (.list (.int .i64))]), (false, [.fr (.list (.int .i64))])]⟩
def C_R_Olds (F : sig_R_Olds.Fn) (a0 : List (Int)) : Option sig_R_Olds.Out := F (a0, ()) ()
def ret_R_Olds (v0 : List (Int)) (v1 : List (Int)) : sig_R_Olds.Out := (((v0, ()), (v1, ()), ()), ())
def res_R_Olds_0 (r : sig_R_Olds.Out) : List (Int) := r.1.1.1
@[simp] theorem res_R_Olds_0_ret (v0 : List (Int)) (v1 : List (Int)) : res_R_Olds_0 (ret_R_Olds v0 v1) = v0 := rfl
def res_R_Olds_1 (r : sig_R_Olds.Out) : List (Int) := r.1.2.1.1
@[simp] theorem res_R_Olds_1_ret (v0 : List (Int)) (v1 : List (Int)) : res_R_Olds_1 (ret_R_Olds v0 v1) = v1 := rfl
def os_R_Olds : RegT := ⟨[], []⟩
def hs_R_Olds : List Keep := [[(0, []), (4, [(0, 3, (.int .i64))]), (5, [(0, 3, (.int .i64))]), (6, []), (9, []), (10, [])]]
@[reducible] noncomputable def env_R_Olds : Env := []
noncomputable def L_R_Olds_0 (n m1 : Nat) (x0 : List (Int)) (x4 : List (Int)) (x5 : List (Int)) (x6 : Int) (x9 : Int) (x10 : Int) : Option sig_R_Olds.Out :=
  loopAt T (env_R_Olds) os_R_Olds sig_R_Olds Try.f126 hs_R_Olds n [.sr, .sr, .sr, .sl, .sr, .bl] m1 (mk 43 [(0, .cs false [.val (.list (.int .i64)) x0]), (4, .cs false [.own 3 (.int .i64) x4]), (5, .cs false [.own 3 (.int .i64) x5]), (6, .cs false [.val (.int .i64) x6]), (9, .cs false [.val (.int .i64) x9]), (10, .cs false [.val (.int .i64) x10])])
theorem L_R_Olds_0_step (n m1 : Nat) (x0 : List (Int)) (x4 : List (Int)) (x5 : List (Int)) (x6 : Int) (x9 : Int) (x10 : Int) : L_R_Olds_0 n (m1 + 1) x0 x4 x5 x6 x9 x10 =
  (bcond (decide ((x10 : Int) < x9))
   (if 0 ≤ (x10 : Int) ∧ (x10 : Int) < (List.length x0 : Int) then
    (bcond (((at_ (e := (.int .i64)) x0 x10) : Int) == 0)
     (if (List.length (x4 : List Int) + List.length ([x6] : List Int)) * 8 ≤ 140737488355328 then
      (if (List.length (x5 : List Int) + List.length ([x6] : List Int)) * 8 ≤ 140737488355328 then
       (L_R_Olds_0 n m1 x0 (x4 ++ [x6]) (x5 ++ [x6]) (IntKind.i64.wrap (x6 + 1)) x9 (IntKind.i64.wrap (x10 + 1)))
      else none)
     else none)
     (bcond (((at_ (e := (.int .i64)) x0 x10) : Int) == 1)
      (if (List.length (x4 : List Int) + List.length ([(-1)] : List Int)) * 8 ≤ 140737488355328 then
       (if (List.length (x5 : List Int) + List.length ([x6] : List Int)) * 8 ≤ 140737488355328 then
        (L_R_Olds_0 n m1 x0 (x4 ++ [(-1)]) (x5 ++ [x6]) x6 x9 (IntKind.i64.wrap (x10 + 1)))
       else none)
      else none)
      (L_R_Olds_0 n m1 x0 x4 x5 (IntKind.i64.wrap (x6 + 1)) x9 (IntKind.i64.wrap (x10 + 1)))))
   else none)
   (some (ret_R_Olds x4 x5))) := by kernel_rfl
theorem ok_R_Olds : fnOk os_R_Olds sig_R_Olds Try.f126 = true := by kernel_rfl
theorem fn_R_Olds : P.funcs[126]? = some Try.f126 := by kernel_rfl
noncomputable def F_R_Olds : sig_R_Olds.Fn := fun x y => run T (env_R_Olds) os_R_Olds sig_R_Olds Try.f126 hs_R_Olds big x y
theorem S_R_Olds : Sound P 126 ⟨sig_R_Olds, F_R_Olds⟩ := sound_of (os := os_R_Olds) (hs := hs_R_Olds) (env_nil) fn_R_Olds ok_R_Olds (fun x y out h => ⟨big, h⟩)
theorem e_R_Olds (a0 : List (Int)) : C_R_Olds F_R_Olds a0 =
  (L_R_Olds_0 big big a0 [] [] 0 (List.length a0 : Int) 0) := by kernel_rfl
def sig_R_Where : Sig := ⟨[.v false (.list (.int .i64)), .v false (.int .i64)], [], [(false, [.fr (.int .i64)])]⟩
def C_R_Where (F : sig_R_Where.Fn) (a0 : List (Int)) (a1 : Int) : Option sig_R_Where.Out := F (a0, a1, ()) ()
def ret_R_Where (v0 : Int) : sig_R_Where.Out := (((v0, ()), ()), ())
def res_R_Where_0 (r : sig_R_Where.Out) : Int := r.1.1.1
@[simp] theorem res_R_Where_0_ret (v0 : Int) : res_R_Where_0 (ret_R_Where v0) = v0 := rfl
def os_R_Where : RegT := ⟨[], []⟩
def hs_R_Where : List Keep := [[(1, []), (5, []), (14, []), (15, [])]]
@[reducible] noncomputable def env_R_Where : Env := [(126, ⟨sig_R_Olds, F_R_Olds⟩)]
noncomputable def L_R_Where_0 (n m1 : Nat) (x1 : Int) (x5 : List (Int)) (x14 : Int) (x15 : Int) : Option sig_R_Where.Out :=
  loopAt T (env_R_Where) os_R_Where sig_R_Where Try.f127 hs_R_Where n [.sr, .sr, .sl, .sr, .bl] m1 (mk 26 [(1, .cs false [.val (.int .i64) x1]), (5, .cs false [.val (.list (.int .i64)) x5]), (14, .cs false [.val (.int .i64) x14]), (15, .cs false [.val (.int .i64) x15])])
theorem L_R_Where_0_step (n m1 : Nat) (x1 : Int) (x5 : List (Int)) (x14 : Int) (x15 : Int) : L_R_Where_0 n (m1 + 1) x1 x5 x14 x15 =
  (bcond (decide ((x15 : Int) < x14))
   (if 0 ≤ (x15 : Int) ∧ (x15 : Int) < (List.length x5 : Int) then
    (bcond (((at_ (e := (.int .i64)) x5 x15) : Int) == x1)
     (some (ret_R_Where x15))
     (L_R_Where_0 n m1 x1 x5 x14 (IntKind.i64.wrap (x15 + 1))))
   else none)
   (some (ret_R_Where (-1)))) := by kernel_rfl
theorem ok_R_Where : fnOk os_R_Where sig_R_Where Try.f127 = true := by kernel_rfl
theorem fn_R_Where : P.funcs[127]? = some Try.f127 := by kernel_rfl
noncomputable def F_R_Where : sig_R_Where.Fn := fun x y => run T (env_R_Where) os_R_Where sig_R_Where Try.f127 hs_R_Where big x y
theorem S_R_Where : Sound P 127 ⟨sig_R_Where, F_R_Where⟩ := sound_of (os := os_R_Where) (hs := hs_R_Where) (env_cons S_R_Olds (env_nil)) fn_R_Where ok_R_Where (fun x y out h => ⟨big, h⟩)
theorem e_R_Where (a0 : List (Int)) (a1 : Int) : C_R_Where F_R_Where a0 a1 =
  ((C_R_Olds F_R_Olds a0).bind fun r1 =>
   (L_R_Where_0 big big a1 (res_R_Olds_0 r1) (List.length (res_R_Olds_0 r1) : Int) 0)) := by kernel_rfl
def sig_R_GapAt : Sig := ⟨[.v false (.list (.int .i64)), .v false (.int .i64), .v false .bool], [], [(false, [.fr (.int .i64)])]⟩
def C_R_GapAt (F : sig_R_GapAt.Fn) (a0 : List (Int)) (a1 : Int) (a2 : Bool) : Option sig_R_GapAt.Out := F (a0, a1, a2, ()) ()
def ret_R_GapAt (v0 : Int) : sig_R_GapAt.Out := (((v0, ()), ()), ())
def res_R_GapAt_0 (r : sig_R_GapAt.Out) : Int := r.1.1.1
@[simp] theorem res_R_GapAt_0_ret (v0 : Int) : res_R_GapAt_0 (ret_R_GapAt v0) = v0 := rfl
def os_R_GapAt : RegT := ⟨[], []⟩
def hs_R_GapAt : List Keep := [[(1, []), (2, []), (7, []), (8, []), (9, []), (17, []), (18, [])]]
@[reducible] noncomputable def env_R_GapAt : Env := [(126, ⟨sig_R_Olds, F_R_Olds⟩)]
noncomputable def L_R_GapAt_0 (n m1 : Nat) (x1 : Int) (x2 : Bool) (x7 : List (Int)) (x8 : List (Int)) (x9 : Int) (x17 : Int) (x18 : Int) : Option sig_R_GapAt.Out :=
  loopAt T (env_R_GapAt) os_R_GapAt sig_R_GapAt Try.f60 hs_R_GapAt n [.sr, .sr, .sr, .sl, .sr, .bl] m1 (mk 64 [(1, .cs false [.val (.int .i64) x1]), (2, .cs false [.val .bool x2]), (7, .cs false [.val (.list (.int .i64)) x7]), (8, .cs false [.val (.list (.int .i64)) x8]), (9, .cs false [.val (.int .i64) x9]), (17, .cs false [.val (.int .i64) x17]), (18, .cs false [.val (.int .i64) x18])])
theorem L_R_GapAt_0_step (n m1 : Nat) (x1 : Int) (x2 : Bool) (x7 : List (Int)) (x8 : List (Int)) (x9 : Int) (x17 : Int) (x18 : Int) : L_R_GapAt_0 n (m1 + 1) x1 x2 x7 x8 x9 x17 x18 =
  (bcond (decide ((x18 : Int) < x17))
   (if 0 ≤ (x18 : Int) ∧ (x18 : Int) < (List.length x7 : Int) then
    (bcond ((decide (((at_ (e := (.int .i64)) x7 x18) : Int) ≥ 0)) == true)
     (if 0 ≤ (x18 : Int) ∧ (x18 : Int) < (List.length x7 : Int) then
      (bcond ((decide (((at_ (e := (.int .i64)) x7 x18) : Int) < x1)) == false)
       (if 0 ≤ (x18 : Int) ∧ (x18 : Int) < (List.length x7 : Int) then
        (bcond ((decide (((at_ (e := (.int .i64)) x7 x18) : Int) < 0)) == true)
         (if 0 ≤ (x18 : Int) ∧ (x18 : Int) < (List.length x8 : Int) then
          (bcond ((decide (((at_ (e := (.int .i64)) x8 x18) : Int) < x1)) == false)
           (if 0 ≤ (x18 : Int) ∧ (x18 : Int) < (List.length x8 : Int) then
            (bcond ((((at_ (e := (.int .i64)) x8 x18) : Int) == x1) == true)
             (bcond x2
              (L_R_GapAt_0 n m1 x1 x2 x7 x8 (IntKind.i64.wrap (x9 + 1)) x17 (IntKind.i64.wrap (x18 + 1)))
              (L_R_GapAt_0 n m1 x1 x2 x7 x8 x9 x17 (IntKind.i64.wrap (x18 + 1))))
             (L_R_GapAt_0 n m1 x1 x2 x7 x8 x9 x17 (IntKind.i64.wrap (x18 + 1))))
           else none)
           (L_R_GapAt_0 n m1 x1 x2 x7 x8 (IntKind.i64.wrap (x9 + 1)) x17 (IntKind.i64.wrap (x18 + 1))))
         else none)
         (L_R_GapAt_0 n m1 x1 x2 x7 x8 x9 x17 (IntKind.i64.wrap (x18 + 1))))
       else none)
       (L_R_GapAt_0 n m1 x1 x2 x7 x8 (IntKind.i64.wrap (x9 + 1)) x17 (IntKind.i64.wrap (x18 + 1))))
     else none)
     (if 0 ≤ (x18 : Int) ∧ (x18 : Int) < (List.length x7 : Int) then
      (bcond ((decide (((at_ (e := (.int .i64)) x7 x18) : Int) < 0)) == true)
       (if 0 ≤ (x18 : Int) ∧ (x18 : Int) < (List.length x8 : Int) then
        (bcond ((decide (((at_ (e := (.int .i64)) x8 x18) : Int) < x1)) == false)
         (if 0 ≤ (x18 : Int) ∧ (x18 : Int) < (List.length x8 : Int) then
          (bcond ((((at_ (e := (.int .i64)) x8 x18) : Int) == x1) == true)
           (bcond x2
            (L_R_GapAt_0 n m1 x1 x2 x7 x8 (IntKind.i64.wrap (x9 + 1)) x17 (IntKind.i64.wrap (x18 + 1)))
            (L_R_GapAt_0 n m1 x1 x2 x7 x8 x9 x17 (IntKind.i64.wrap (x18 + 1))))
           (L_R_GapAt_0 n m1 x1 x2 x7 x8 x9 x17 (IntKind.i64.wrap (x18 + 1))))
         else none)
         (L_R_GapAt_0 n m1 x1 x2 x7 x8 (IntKind.i64.wrap (x9 + 1)) x17 (IntKind.i64.wrap (x18 + 1))))
       else none)
       (L_R_GapAt_0 n m1 x1 x2 x7 x8 x9 x17 (IntKind.i64.wrap (x18 + 1))))
     else none))
   else none)
   (some (ret_R_GapAt x9))) := by kernel_rfl
theorem ok_R_GapAt : fnOk os_R_GapAt sig_R_GapAt Try.f60 = true := by kernel_rfl
theorem fn_R_GapAt : P.funcs[60]? = some Try.f60 := by kernel_rfl
noncomputable def F_R_GapAt : sig_R_GapAt.Fn := fun x y => run T (env_R_GapAt) os_R_GapAt sig_R_GapAt Try.f60 hs_R_GapAt big x y
theorem S_R_GapAt : Sound P 60 ⟨sig_R_GapAt, F_R_GapAt⟩ := sound_of (os := os_R_GapAt) (hs := hs_R_GapAt) (env_cons S_R_Olds (env_nil)) fn_R_GapAt ok_R_GapAt (fun x y out h => ⟨big, h⟩)
theorem e_R_GapAt (a0 : List (Int)) (a1 : Int) (a2 : Bool) : C_R_GapAt F_R_GapAt a0 a1 a2 =
  ((C_R_Olds F_R_Olds a0).bind fun r1 =>
   (L_R_GapAt_0 big big a1 a2 (res_R_Olds_0 r1) (res_R_Olds_1 r1) 0 (List.length (res_R_Olds_0 r1) : Int) 0)) := by kernel_rfl
def sig_R_RestOf : Sig := ⟨[.v false (.list (.int .i64)), .v false (.int .i64), .v false (.int .i64)], [], [(false, [.fr (.int .i64)]), (false, [.fr (.int .i64)])]⟩
def C_R_RestOf (F : sig_R_RestOf.Fn) (a0 : List (Int)) (a1 : Int) (a2 : Int) : Option sig_R_RestOf.Out := F (a0, a1, a2, ()) ()
def ret_R_RestOf (v0 : Int) (v1 : Int) : sig_R_RestOf.Out := (((v0, ()), (v1, ()), ()), ())
def res_R_RestOf_0 (r : sig_R_RestOf.Out) : Int := r.1.1.1
@[simp] theorem res_R_RestOf_0_ret (v0 : Int) (v1 : Int) : res_R_RestOf_0 (ret_R_RestOf v0 v1) = v0 := rfl
def res_R_RestOf_1 (r : sig_R_RestOf.Out) : Int := r.1.2.1.1
@[simp] theorem res_R_RestOf_1_ret (v0 : Int) (v1 : Int) : res_R_RestOf_1 (ret_R_RestOf v0 v1) = v1 := rfl
def os_R_RestOf : RegT := ⟨[], []⟩
def hs_R_RestOf : List Keep := [[(0, []), (1, []), (8, []), (9, []), (10, [])]]
@[reducible] noncomputable def env_R_RestOf : Env := [(127, ⟨sig_R_Where, F_R_Where⟩)]
noncomputable def L_R_RestOf_0 (n m1 : Nat) (x0 : List (Int)) (x1 : Int) (x8 : Int) (x9 : Int) (x10 : Int) : Option sig_R_RestOf.Out :=
  loopAt T (env_R_RestOf) os_R_RestOf sig_R_RestOf Try.f62 hs_R_RestOf n [.sr, .sr, .sl, .sr, .bl] m1 (mk 31 [(0, .cs false [.val (.list (.int .i64)) x0]), (1, .cs false [.val (.int .i64) x1]), (8, .cs false [.val (.int .i64) x8]), (9, .cs false [.val (.int .i64) x9]), (10, .cs false [.val (.int .i64) x10])])
theorem L_R_RestOf_0_step (n m1 : Nat) (x0 : List (Int)) (x1 : Int) (x8 : Int) (x9 : Int) (x10 : Int) : L_R_RestOf_0 n (m1 + 1) x0 x1 x8 x9 x10 =
  (bcond (decide ((x10 : Int) ≥ x1))
   ((C_R_Where F_R_Where x0 x10).bind fun r1 =>
    (bcond (decide (((res_R_Where_0 r1) : Int) ≥ 0))
     (bcond ((x9 : Int) == 0)
      (L_R_RestOf_0 n m1 x0 x1 (res_R_Where_0 r1) (IntKind.i64.wrap ((res_R_Where_0 r1) + 1)) (IntKind.i64.wrap (x10 - 1)))
      (L_R_RestOf_0 n m1 x0 x1 (res_R_Where_0 r1) x9 (IntKind.i64.wrap (x10 - 1))))
     (L_R_RestOf_0 n m1 x0 x1 x8 x9 (IntKind.i64.wrap (x10 - 1)))))
   (some (ret_R_RestOf x8 x9))) := by kernel_rfl
theorem ok_R_RestOf : fnOk os_R_RestOf sig_R_RestOf Try.f62 = true := by kernel_rfl
theorem fn_R_RestOf : P.funcs[62]? = some Try.f62 := by kernel_rfl
noncomputable def F_R_RestOf : sig_R_RestOf.Fn := fun x y => run T (env_R_RestOf) os_R_RestOf sig_R_RestOf Try.f62 hs_R_RestOf big x y
theorem S_R_RestOf : Sound P 62 ⟨sig_R_RestOf, F_R_RestOf⟩ := sound_of (os := os_R_RestOf) (hs := hs_R_RestOf) (env_cons S_R_Where (env_nil)) fn_R_RestOf ok_R_RestOf (fun x y out h => ⟨big, h⟩)
theorem e_R_RestOf (a0 : List (Int)) (a1 : Int) (a2 : Int) : C_R_RestOf F_R_RestOf a0 a1 a2 =
  (L_R_RestOf_0 big big a0 a1 0 0 (IntKind.i64.wrap (a2 - 1))) := by kernel_rfl
def sig_law_spans : Sig := ⟨[], [], [(false, [.fr .bool])]⟩
def C_law_spans (F : sig_law_spans.Fn) : Option sig_law_spans.Out := F () ()
def ret_law_spans (v0 : Bool) : sig_law_spans.Out := (((v0, ()), ()), ())
def res_law_spans_0 (r : sig_law_spans.Out) : Bool := r.1.1.1
@[simp] theorem res_law_spans_0_ret (v0 : Bool) : res_law_spans_0 (ret_law_spans v0) = v0 := rfl
def os_law_spans : RegT := ⟨[], []⟩
def hs_law_spans : List Keep := []
@[reducible] noncomputable def env_law_spans : Env := [(120, ⟨sig_span_Union, F_span_Union⟩)]
theorem ok_law_spans : fnOk os_law_spans sig_law_spans Try.f55 = true := by kernel_rfl
theorem fn_law_spans : P.funcs[55]? = some Try.f55 := by kernel_rfl
noncomputable def F_law_spans : sig_law_spans.Fn := fun x y => run T (env_law_spans) os_law_spans sig_law_spans Try.f55 hs_law_spans big x y
theorem S_law_spans : Sound P 55 ⟨sig_law_spans, F_law_spans⟩ := sound_of (os := os_law_spans) (hs := hs_law_spans) (env_cons S_span_Union (env_nil)) fn_law_spans ok_law_spans (fun x y out h => ⟨big, h⟩)
theorem e_law_spans : C_law_spans F_law_spans =
  ((C_span_Union F_span_Union [(0, 2)] [(2, 3)]).bind fun r1 =>
   (bcond ((((res_span_Union_1 r1) : Int) == 0) == true)
    (bcond ((((List.length (res_span_Union_0 r1) : Int) : Int) == 1) == true)
     (if 0 ≤ (0 : Int) ∧ (0 : Int) < (List.length (res_span_Union_0 r1) : Int) then
      (some (ret_law_spans ((((at_ (e := YSpan) (res_span_Union_0 r1) 0).1 : Int) == 0) && ((((at_ (e := YSpan) (res_span_Union_0 r1) 0).2 : Int) == 3) && true))))
     else none)
     (some (ret_law_spans false)))
    (some (ret_law_spans false)))) := by kernel_rfl
def sig_law_setError : Sig := ⟨[.v false (.list YSpan)], [], [(false, [.fr (.int .i64)])]⟩
def C_law_setError (F : sig_law_setError.Fn) (a0 : List YSpan.den) : Option sig_law_setError.Out := F (a0, ()) ()
def ret_law_setError (v0 : Int) : sig_law_setError.Out := (((v0, ()), ()), ())
def res_law_setError_0 (r : sig_law_setError.Out) : Int := r.1.1.1
@[simp] theorem res_law_setError_0_ret (v0 : Int) : res_law_setError_0 (ret_law_setError v0) = v0 := rfl
def os_law_setError : RegT := ⟨[(4, .st 0 (.st 1 (.st 2 (.st 3 (.st 4 (.st 5 (.st 6 (.st 7 (.st 8 (.st 9 (.st 10 (.st 12 (.st 13 (.st 14 (.st 15 (.st 11 (.st 16 (.st 17 (.st 18 (.st 19 (.st 20 (.st 21 (.st 22 (.st 23 (.st 24 (.st 25 (.st 26 (.nil)))))))))))))))))))))))))))), (6, .st 0 (.st 1 (.st 2 (.st 3 (.st 4 (.st 5 (.st 6 (.st 8 (.st 9 (.st 10 (.st 11 (.st 12 (.st 7 (.st 13 (.st 14 (.st 15 (.nil)))))))))))))))))], []⟩
def hs_law_setError : List Keep := [[(0, []), (5, []), (6, [])]]
@[reducible] noncomputable def env_law_setError : Env := []
noncomputable def L_law_setError_0 (n m1 : Nat) (x0 : List YSpan.den) (x5 : Int) (x6 : Int) : Option sig_law_setError.Out :=
  loopAt T (env_law_setError) os_law_setError sig_law_setError Try.f61 hs_law_setError n [.sr, .sl, .sr, .bl] m1 (mk 53 [(0, .cs false [.val (.list YSpan) x0]), (5, .cs false [.val (.int .i64) x5]), (6, .cs false [.val (.int .i64) x6])])
theorem L_law_setError_0_step (n m1 : Nat) (x0 : List YSpan.den) (x5 : Int) (x6 : Int) : L_law_setError_0 n (m1 + 1) x0 x5 x6 =
  (bcond (decide ((x6 : Int) < x5))
   (if 0 ≤ (x6 : Int) ∧ (x6 : Int) < (List.length x0 : Int) then
    (bcond ((decide (((at_ (e := YSpan) x0 x6).1 : Int) < 0)) == false)
     (if 0 ≤ (x6 : Int) ∧ (x6 : Int) < (List.length x0 : Int) then
      (if 0 ≤ (x6 : Int) ∧ (x6 : Int) < (List.length x0 : Int) then
       (bcond ((decide (((at_ (e := YSpan) x0 x6).2 : Int) ≤ (at_ (e := YSpan) x0 x6).1)) == false)
        (if 0 ≤ (x6 : Int) ∧ (x6 : Int) < (List.length x0 : Int) then
         (bcond (decide (((at_ (e := YSpan) x0 x6).2 : Int) > 2147483647))
          (some (ret_law_setError 2))
          (bcond ((decide ((x6 : Int) > 0)) == true)
           (if 0 ≤ (x6 : Int) ∧ (x6 : Int) < (List.length x0 : Int) then
            (if 0 ≤ ((IntKind.i64.wrap (x6 - 1)) : Int) ∧ ((IntKind.i64.wrap (x6 - 1)) : Int) < (List.length x0 : Int) then
             (bcond (decide (((at_ (e := YSpan) x0 x6).1 : Int) ≤ (at_ (e := YSpan) x0 (IntKind.i64.wrap (x6 - 1))).2))
              (some (ret_law_setError 5))
              (L_law_setError_0 n m1 x0 x5 (IntKind.i64.wrap (x6 + 1))))
            else none)
           else none)
           (L_law_setError_0 n m1 x0 x5 (IntKind.i64.wrap (x6 + 1)))))
        else none)
        (some (ret_law_setError 2)))
      else none)
     else none)
     (some (ret_law_setError 2)))
   else none)
   (some (ret_law_setError 0))) := by kernel_rfl
theorem ok_law_setError : fnOk os_law_setError sig_law_setError Try.f61 = true := by kernel_rfl
theorem fn_law_setError : P.funcs[61]? = some Try.f61 := by kernel_rfl
noncomputable def F_law_setError : sig_law_setError.Fn := fun x y => run T (env_law_setError) os_law_setError sig_law_setError Try.f61 hs_law_setError big x y
theorem S_law_setError : Sound P 61 ⟨sig_law_setError, F_law_setError⟩ := sound_of (os := os_law_setError) (hs := hs_law_setError) (env_nil) fn_law_setError ok_law_setError (fun x y out h => ⟨big, h⟩)
theorem e_law_setError (a0 : List YSpan.den) : C_law_setError F_law_setError a0 =
  (L_law_setError_0 big big a0 (List.length a0 : Int) 0) := by kernel_rfl
def sig_law_SpanThroughMatches : Sig := ⟨[.v false (.list YStep), .v false (.list YSpan), .v false (.int .i64), .v false .bool], [], [(false, [.fr .bool])]⟩
def C_law_SpanThroughMatches (F : sig_law_SpanThroughMatches.Fn) (a0 : List YStep.den) (a1 : List YSpan.den) (a2 : Int) (a3 : Bool) : Option sig_law_SpanThroughMatches.Out := F (a0, a1, a2, a3, ()) ()
def ret_law_SpanThroughMatches (v0 : Bool) : sig_law_SpanThroughMatches.Out := (((v0, ()), ()), ())
def os_law_SpanThroughMatches : RegT := ⟨[(26, .st 0 (.st 1 (.st 2 (.st 3 (.st 4 (.st 6 (.st 7 (.st 8 (.st 9 (.st 5 (.st 10 (.st 11 (.st 12 (.st 13 (.st 14 (.st 15 (.st 16 (.nil)))))))))))))))))), (41, .st 0 (.st 1 (.st 2 (.st 4 (.st 5 (.st 6 (.st 3 (.st 7 (.st 8 (.nil))))))))))], []⟩
def hs_law_SpanThroughMatches : List Keep := [[(0, []), (1, []), (11, []), (12, []), (14, []), (16, [(0, 90, YSpan)]), (125, []), (126, [])], [(11, []), (16, [(0, 90, YSpan)]), (201, []), (202, [])]]
@[reducible] noncomputable def env_law_SpanThroughMatches : Env := [(55, ⟨sig_law_spans, F_law_spans⟩), (15, ⟨sig_law_deltas, F_law_deltas⟩), (56, ⟨sig_span_Move, F_span_Move⟩), (57, ⟨sig_span_Through, F_span_Through⟩), (31, ⟨sig_R_DeltaError, F_R_DeltaError⟩), (32, ⟨sig_law_short, F_law_short⟩), (21, ⟨sig_R_ActOf, F_R_ActOf⟩), (35, ⟨sig_law_plain, F_law_plain⟩), (34, ⟨sig_law_steps, F_law_steps⟩), (58, ⟨sig_R_Units, F_R_Units⟩), (59, ⟨sig_R_DeltaSize, F_R_DeltaSize⟩), (36, ⟨sig_R_In, F_R_In⟩), (61, ⟨sig_law_setError, F_law_setError⟩), (60, ⟨sig_R_GapAt, F_R_GapAt⟩), (62, ⟨sig_R_RestOf, F_R_RestOf⟩), (63, ⟨sig_span_Range, F_span_Range⟩)]
noncomputable def L_law_SpanThroughMatches_0 (n m1 : Nat) (x0 : List YStep.den) (x1 : List YSpan.den) (x11 : List YSpan.den) (x12 : Int) (x14 : List (Int)) (x16 : List YSpan.den) (x125 : Int) (x126 : Int) : Option sig_law_SpanThroughMatches.Out :=
  loopAt T (env_law_SpanThroughMatches) os_law_SpanThroughMatches sig_law_SpanThroughMatches Try.f11 hs_law_SpanThroughMatches n [.sr, .sr, .sr, .sr, .sr, .sr, .sr, .sr, .sr, .sr, .sr, .sr, .sr, .sr, .sl, .sr, .bl] m1 (mk 215 [(0, .cs false [.val (.list YStep) x0]), (1, .cs false [.val (.list YSpan) x1]), (11, .cs false [.val (.list YSpan) x11]), (12, .cs false [.val (.int .i64) x12]), (14, .cs false [.val (.list (.int .i64)) x14]), (16, .cs false [.own 90 YSpan x16]), (125, .cs false [.val (.int .i64) x125]), (126, .cs false [.val (.int .i64) x126])])
noncomputable def L_law_SpanThroughMatches_1 (n m1 : Nat) (x11 : List YSpan.den) (x16 : List YSpan.den) (x201 : Int) (x202 : Int) : Option sig_law_SpanThroughMatches.Out :=
  loopAt T (env_law_SpanThroughMatches) os_law_SpanThroughMatches sig_law_SpanThroughMatches Try.f11 hs_law_SpanThroughMatches n [.sr, .sr, .sr, .sr, .sr, .sr, .sr, .sr, .sr, .sr, .sr, .sr, .sr, .sr, .sr, .sr, .sl, .sr, .bl] m1 (mk 215 [(11, .cs false [.val (.list YSpan) x11]), (16, .cs false [.own 90 YSpan x16]), (201, .cs false [.val (.int .i64) x201]), (202, .cs false [.val (.int .i64) x202])])
noncomputable def J_law_SpanThroughMatches_0 (n : Nat) (y0 : List YStep.den) (y1 : List YSpan.den) (y11 : List YSpan.den) (y12 : Int) (y14 : List (Int)) (y15 : Int) : Option sig_law_SpanThroughMatches.Out :=
  ((C_law_setError F_law_setError y1).bind fun r13 =>
   (bcond ((((res_law_setError_0 r13) : Int) == 0) == true)
    (bcond ((decide (((List.length y1 : Int) : Int) > 0)) == true)
     (if 0 ≤ ((IntKind.i64.wrap ((List.length y1 : Int) - 1)) : Int) ∧ ((IntKind.i64.wrap ((List.length y1 : Int) - 1)) : Int) < (List.length y1 : Int) then
      (bcond (decide (((at_ (e := YSpan) y1 (IntKind.i64.wrap ((List.length y1 : Int) - 1))).2 : Int) > y15))
       (bcond ((2 : Int) != 0)
        (bcond (((y12 : Int) == 2) == true)
         (some (ret_law_SpanThroughMatches (((List.length y11 : Int) : Int) == 0)))
         (some (ret_law_SpanThroughMatches false)))
        (L_law_SpanThroughMatches_0 n n y0 y1 y11 y12 y14 [] (List.length y1 : Int) 0))
       (bcond (((res_law_setError_0 r13) : Int) != 0)
        (bcond (((y12 : Int) == (res_law_setError_0 r13)) == true)
         (some (ret_law_SpanThroughMatches (((List.length y11 : Int) : Int) == 0)))
         (some (ret_law_SpanThroughMatches false)))
        (L_law_SpanThroughMatches_0 n n y0 y1 y11 y12 y14 [] (List.length y1 : Int) 0)))
     else none)
     (bcond (((res_law_setError_0 r13) : Int) != 0)
      (bcond (((y12 : Int) == (res_law_setError_0 r13)) == true)
       (some (ret_law_SpanThroughMatches (((List.length y11 : Int) : Int) == 0)))
       (some (ret_law_SpanThroughMatches false)))
      (L_law_SpanThroughMatches_0 n n y0 y1 y11 y12 y14 [] (List.length y1 : Int) 0)))
    (bcond (((res_law_setError_0 r13) : Int) != 0)
     (bcond (((y12 : Int) == (res_law_setError_0 r13)) == true)
      (some (ret_law_SpanThroughMatches (((List.length y11 : Int) : Int) == 0)))
      (some (ret_law_SpanThroughMatches false)))
     (L_law_SpanThroughMatches_0 n n y0 y1 y11 y12 y14 [] (List.length y1 : Int) 0))))
theorem L_law_SpanThroughMatches_0_step (n m1 : Nat) (x0 : List YStep.den) (x1 : List YSpan.den) (x11 : List YSpan.den) (x12 : Int) (x14 : List (Int)) (x16 : List YSpan.den) (x125 : Int) (x126 : Int) : L_law_SpanThroughMatches_0 n (m1 + 1) x0 x1 x11 x12 x14 x16 x125 x126 =
  (bcond (decide ((x126 : Int) < x125))
   (if 0 ≤ (x126 : Int) ∧ (x126 : Int) < (List.length x1 : Int) then
    (if 0 ≤ (x126 : Int) ∧ (x126 : Int) < (List.length x1 : Int) then
     ((C_R_RestOf F_R_RestOf x14 (at_ (e := YSpan) x1 x126).1 (at_ (e := YSpan) x1 x126).2).bind fun r1 =>
      (if 0 ≤ (x126 : Int) ∧ (x126 : Int) < (List.length x1 : Int) then
       ((C_span_Range F_span_Range x0 (at_ (e := YSpan) x1 x126)).bind fun r2 =>
        (bcond ((((res_span_Range_1 r2) : Int) != 0) == false)
         (bcond (!((((res_span_Range_0 r2).1 : Int) == (res_R_RestOf_0 r1)) && ((((res_span_Range_0 r2).2 : Int) == (res_R_RestOf_1 r1)) && true)))
          (some (ret_law_SpanThroughMatches false))
          (bcond (((res_R_RestOf_0 r1) : Int) == (res_R_RestOf_1 r1))
           (L_law_SpanThroughMatches_0 n m1 x0 x1 x11 x12 x14 x16 x125 (IntKind.i64.wrap (x126 + 1)))
           (bcond ((decide (((IntKind.i64.wrap ((List.length x16 : Int) - 1)) : Int) ≥ 0)) == true)
            (if 0 ≤ ((IntKind.i64.wrap ((List.length x16 : Int) - 1)) : Int) ∧ ((IntKind.i64.wrap ((List.length x16 : Int) - 1)) : Int) < (List.length x16 : Int) then
             (bcond (((at_ (e := YSpan) x16 (IntKind.i64.wrap ((List.length x16 : Int) - 1))).2 : Int) == (res_R_RestOf_0 r1))
              (if 0 ≤ ((IntKind.i64.wrap ((List.length x16 : Int) - 1)) : Int) ∧ ((IntKind.i64.wrap ((List.length x16 : Int) - 1)) : Int) < (List.length x16 : Int) then
               (L_law_SpanThroughMatches_0 n m1 x0 x1 x11 x12 x14 (List.set x16 (Int.toNat (IntKind.i64.wrap ((List.length x16 : Int) - 1))) ((at_ (e := YSpan) x16 (IntKind.i64.wrap ((List.length x16 : Int) - 1))).1, (res_R_RestOf_1 r1))) x125 (IntKind.i64.wrap (x126 + 1)))
              else none)
              (if (List.length (x16 : List YSpan.den) + List.length ([((res_R_RestOf_0 r1), (res_R_RestOf_1 r1))] : List YSpan.den)) * 16 ≤ 140737488355328 then
               (L_law_SpanThroughMatches_0 n m1 x0 x1 x11 x12 x14 (x16 ++ [((res_R_RestOf_0 r1), (res_R_RestOf_1 r1))]) x125 (IntKind.i64.wrap (x126 + 1)))
              else none))
            else none)
            (if (List.length (x16 : List YSpan.den) + List.length ([((res_R_RestOf_0 r1), (res_R_RestOf_1 r1))] : List YSpan.den)) * 16 ≤ 140737488355328 then
             (L_law_SpanThroughMatches_0 n m1 x0 x1 x11 x12 x14 (x16 ++ [((res_R_RestOf_0 r1), (res_R_RestOf_1 r1))]) x125 (IntKind.i64.wrap (x126 + 1)))
            else none))))
         (some (ret_law_SpanThroughMatches false))))
      else none))
    else none)
   else none)
   (bcond (((x12 : Int) != 0) == false)
    (bcond (((List.length x11 : Int) : Int) != (List.length x16 : Int))
     (some (ret_law_SpanThroughMatches false))
     (L_law_SpanThroughMatches_1 n n x11 x16 (List.length x11 : Int) 0))
    (some (ret_law_SpanThroughMatches false)))) := by kernel_rfl
theorem L_law_SpanThroughMatches_1_step (n m1 : Nat) (x11 : List YSpan.den) (x16 : List YSpan.den) (x201 : Int) (x202 : Int) : L_law_SpanThroughMatches_1 n (m1 + 1) x11 x16 x201 x202 =
  (bcond (decide ((x202 : Int) < x201))
   (if 0 ≤ (x202 : Int) ∧ (x202 : Int) < (List.length x11 : Int) then
    (if 0 ≤ (x202 : Int) ∧ (x202 : Int) < (List.length x16 : Int) then
     (bcond (!((((at_ (e := YSpan) x11 x202).1 : Int) == (at_ (e := YSpan) x16 x202).1) && ((((at_ (e := YSpan) x11 x202).2 : Int) == (at_ (e := YSpan) x16 x202).2) && true)))
      (some (ret_law_SpanThroughMatches false))
      (L_law_SpanThroughMatches_1 n m1 x11 x16 x201 (IntKind.i64.wrap (x202 + 1))))
    else none)
   else none)
   (some (ret_law_SpanThroughMatches true))) := by kernel_rfl
theorem ok_law_SpanThroughMatches : fnOk os_law_SpanThroughMatches sig_law_SpanThroughMatches Try.f11 = true := by kernel_rfl
theorem fn_law_SpanThroughMatches : P.funcs[11]? = some Try.f11 := by kernel_rfl
noncomputable def F_law_SpanThroughMatches : sig_law_SpanThroughMatches.Fn := fun x y => run T (env_law_SpanThroughMatches) os_law_SpanThroughMatches sig_law_SpanThroughMatches Try.f11 hs_law_SpanThroughMatches big x y
theorem S_law_SpanThroughMatches : Sound P 11 ⟨sig_law_SpanThroughMatches, F_law_SpanThroughMatches⟩ := sound_of (os := os_law_SpanThroughMatches) (hs := hs_law_SpanThroughMatches) (env_cons S_law_spans (env_cons S_law_deltas (env_cons S_span_Move (env_cons S_span_Through (env_cons S_R_DeltaError (env_cons S_law_short (env_cons S_R_ActOf (env_cons S_law_plain (env_cons S_law_steps (env_cons S_R_Units (env_cons S_R_DeltaSize (env_cons S_R_In (env_cons S_law_setError (env_cons S_R_GapAt (env_cons S_R_RestOf (env_cons S_span_Range (env_nil))))))))))))))))) fn_law_SpanThroughMatches ok_law_SpanThroughMatches (fun x y out h => ⟨big, h⟩)
theorem e_law_SpanThroughMatches (a0 : List YStep.den) (a1 : List YSpan.den) (a2 : Int) (a3 : Bool) : C_law_SpanThroughMatches F_law_SpanThroughMatches a0 a1 a2 a3 =
  ((C_law_spans F_law_spans ).bind fun r1 =>
   (bcond ((!(res_law_spans_0 r1)) == false)
    ((C_law_deltas F_law_deltas ).bind fun r2 =>
     (bcond (!(res_law_deltas_0 r2))
      (some (ret_law_SpanThroughMatches false))
      ((C_span_Move F_span_Move a0 a2 a3).bind fun r3 =>
       ((C_span_Through F_span_Through a0 a1).bind fun r4 =>
        ((C_R_DeltaError F_R_DeltaError a0).bind fun r5 =>
         (bcond (((res_R_DeltaError_0 r5) : Int) != 0)
          (bcond ((((res_span_Move_1 r3) : Int) == (res_R_DeltaError_0 r5)) == true)
           (bcond ((((res_span_Through_1 r4) : Int) == (res_R_DeltaError_0 r5)) == true)
            (bcond ((((res_span_Move_0 r3) : Int) == 0) == true)
             (some (ret_law_SpanThroughMatches (((List.length (res_span_Through_0 r4) : Int) : Int) == 0)))
             (some (ret_law_SpanThroughMatches false)))
            (some (ret_law_SpanThroughMatches false)))
           (some (ret_law_SpanThroughMatches false)))
          ((C_law_short F_law_short a0).bind fun r6 =>
           (bcond (!(res_law_short_0 r6))
            (some (ret_law_SpanThroughMatches true))
            ((C_R_ActOf F_R_ActOf a0).bind fun r7 =>
             ((C_law_plain F_law_plain (res_R_ActOf_0 r7)).bind fun r8 =>
              ((C_law_steps F_law_steps (res_law_plain_0 r8)).bind fun r9 =>
               ((C_R_Units F_R_Units (res_law_steps_0 r9)).bind fun r10 =>
                ((C_R_DeltaSize F_R_DeltaSize a0).bind fun r11 =>
                 ((C_R_In F_R_In a2 0 (res_R_DeltaSize_0 r11)).bind fun r12 =>
                  (bcond (!(res_R_In_0 r12))
                   (bcond ((((res_span_Move_1 r3) : Int) != 2) == false)
                    (bcond (((res_span_Move_0 r3) : Int) != 0)
                     (some (ret_law_SpanThroughMatches false))
                     (J_law_SpanThroughMatches_0 big a0 a1 (res_span_Through_0 r4) (res_span_Through_1 r4) (res_R_Units_0 r10) (res_R_DeltaSize_0 r11)))
                    (some (ret_law_SpanThroughMatches false)))
                   (bcond ((((res_span_Move_1 r3) : Int) != 0) == false)
                    ((C_R_GapAt F_R_GapAt (res_R_Units_0 r10) a2 a3).bind fun r13 =>
                     (bcond (((res_span_Move_0 r3) : Int) != (res_R_GapAt_0 r13))
                      (some (ret_law_SpanThroughMatches false))
                      (J_law_SpanThroughMatches_0 big a0 a1 (res_span_Through_0 r4) (res_span_Through_1 r4) (res_R_Units_0 r10) (res_R_DeltaSize_0 r11))))
                    (some (ret_law_SpanThroughMatches false))))))))))))))))))
    (some (ret_law_SpanThroughMatches false)))) := by kernel_rfl
end Go.Ev
