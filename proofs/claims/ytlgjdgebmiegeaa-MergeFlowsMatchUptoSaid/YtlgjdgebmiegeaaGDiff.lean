/- Functions, step by step. -/
import Derived.Test.YtlgjdgebmiegeaaGTidy
namespace Go.Ev
set_option linter.unusedVariables false
set_option maxRecDepth 100000
open Go.Proofs
def sig_diff_alike : Sig := ⟨[.v true YElem, .v true YElem], [], [(false, [.fr .bool])]⟩
def C_diff_alike (F : sig_diff_alike.Fn) (a0 : YElem.den) (a1 : YElem.den) : Option sig_diff_alike.Out := F (a0, a1, ()) ()
def ret_diff_alike (v0 : Bool) : sig_diff_alike.Out := (((v0, ()), ()), ())
def res_diff_alike_0 (r : sig_diff_alike.Out) : Bool := r.1.1.1
@[simp] theorem res_diff_alike_0_ret (v0 : Bool) : res_diff_alike_0 (ret_diff_alike v0) = v0 := rfl
def os_diff_alike : RegT := ⟨[], [], false⟩
def hs_diff_alike : List Keep := []
@[reducible] noncomputable def env_diff_alike : Env := []
theorem ok_diff_alike : fnOk os_diff_alike sig_diff_alike Try.f152 = true := by kernel_rfl
theorem fn_diff_alike : P.funcs[152]? = some Try.f152 := by kernel_rfl
noncomputable def F_diff_alike : sig_diff_alike.Fn := fun x y => run T (env_diff_alike) os_diff_alike sig_diff_alike Try.f152 hs_diff_alike big x y
theorem S_diff_alike : Sound P 152 ⟨sig_diff_alike, F_diff_alike⟩ := sound_of (os := os_diff_alike) (hs := hs_diff_alike) (env_nil) fn_diff_alike ok_diff_alike (fun x y out h => ⟨big, h⟩)
theorem e_diff_alike (a0 : YElem.den) (a1 : YElem.den) : C_diff_alike F_diff_alike a0 a1 =
  (bcond (((a0.1 : Int) == a1.1) == true)
   (some (ret_diff_alike ((a0.2.1 : Int) == a1.2.1)))
   (some (ret_diff_alike false))) := by kernel_rfl
def sig_diff_price : Sig := ⟨[.v true YElem, .v true YElem], [], [(false, [.fr (.int .i64)])]⟩
def C_diff_price (F : sig_diff_price.Fn) (a0 : YElem.den) (a1 : YElem.den) : Option sig_diff_price.Out := F (a0, a1, ()) ()
def ret_diff_price (v0 : Int) : sig_diff_price.Out := (((v0, ()), ()), ())
def res_diff_price_0 (r : sig_diff_price.Out) : Int := r.1.1.1
@[simp] theorem res_diff_price_0_ret (v0 : Int) : res_diff_price_0 (ret_diff_price v0) = v0 := rfl
def os_diff_price : RegT := ⟨[], [], false⟩
def hs_diff_price : List Keep := []
@[reducible] noncomputable def env_diff_price : Env := [(134, ⟨sig_attr_Same, F_attr_Same⟩)]
theorem ok_diff_price : fnOk os_diff_price sig_diff_price Try.f153 = true := by kernel_rfl
theorem fn_diff_price : P.funcs[153]? = some Try.f153 := by kernel_rfl
noncomputable def F_diff_price : sig_diff_price.Fn := fun x y => run T (env_diff_price) os_diff_price sig_diff_price Try.f153 hs_diff_price big x y
theorem S_diff_price : Sound P 153 ⟨sig_diff_price, F_diff_price⟩ := sound_of (os := os_diff_price) (hs := hs_diff_price) (env_cons S_attr_Same (env_nil)) fn_diff_price ok_diff_price (fun x y out h => ⟨big, h⟩)
theorem e_diff_price (a0 : YElem.den) (a1 : YElem.den) : C_diff_price F_diff_price a0 a1 =
  ((C_attr_Same F_attr_Same a0.2.2 a1.2.2).bind fun r1 =>
   (bcond (res_attr_Same_0 r1)
    (some (ret_diff_price 0))
    (some (ret_diff_price 1)))) := by kernel_rfl
def sig_diff_table : Sig := ⟨[.v false (.list YElem), .v false (.list YElem)], [], [(false, [.fr (.list (.list (.int .i64)))])]⟩
def C_diff_table (F : sig_diff_table.Fn) (a0 : List YElem.den) (a1 : List YElem.den) : Option sig_diff_table.Out := F (a0, a1, ()) ()
def ret_diff_table (v0 : List (List (Int))) : sig_diff_table.Out := (((v0, ()), ()), ())
def res_diff_table_0 (r : sig_diff_table.Out) : List (List (Int)) := r.1.1.1
@[simp] theorem res_diff_table_0_ret (v0 : List (List (Int))) : res_diff_table_0 (ret_diff_table v0) = v0 := rfl
def os_diff_table : RegT := ⟨[(9, .st 0 (.st 1 (.st 2 (.st 4 (.st 5 (.st 6 (.st 7 (.st 8 (.st 10 (.st 13 (.st 14 (.st 15 (.st 17 (.st 18 (.grp [3, 9, 16, 11, 12, 19, 20, 21, 22] (.st 23 (.st 24 (.nil)))))))))))))))))), (10, .st 0 (.st 1 (.st 2 (.st 4 (.st 5 (.st 6 (.st 3 (.st 7 (.st 8 (.nil)))))))))), (11, .st 0 (.st 1 (.st 2 (.st 4 (.st 5 (.st 6 (.st 7 (.st 9 (.st 12 (.st 13 (.st 14 (.st 15 (.st 17 (.st 18 (.st 21 (.st 22 (.st 23 (.st 25 (.st 26 (.st 27 (.grp [3, 8, 16, 24, 28, 10, 11, 19, 20, 29, 30, 31] (.st 32 (.st 33 (.nil))))))))))))))))))))))))], [], true⟩
def hs_diff_table : List Keep := [[(0, []), (1, []), (5, [(0, 84, (.list (.int .i64)))]), (6, [])], [(0, []), (1, []), (5, []), (6, []), (7, []), (23, [(0, 3, (.int .i64))])]]
@[reducible] noncomputable def env_diff_table : Env := [(152, ⟨sig_diff_alike, F_diff_alike⟩), (153, ⟨sig_diff_price, F_diff_price⟩)]
noncomputable def L_diff_table_0 (n m1 : Nat) (x0 : List YElem.den) (x1 : List YElem.den) (x5 : List (List (Int))) (x6 : Int) : Option sig_diff_table.Out :=
  loopAt T1 (env_diff_table) os_diff_table sig_diff_table Try.f151 hs_diff_table n [.sr, .sr, .sl, .sr, .bl] m1 (mk 128 [(0, .cs false [.val (.list YElem) x0]), (1, .cs false [.val (.list YElem) x1]), (5, .cs false [.own 84 (.list (.int .i64)) x5]), (6, .cs false [.val (.int .i64) x6])])
noncomputable def L_diff_table_1 (n m1 m2 : Nat) (x0 : List YElem.den) (x1 : List YElem.den) (x5 : List (List (Int))) (x5i : Int) (x6 : Int) (x7 : Int) (x23 : List (Int)) : Option sig_diff_table.Out :=
  loopAt T1 (env_diff_table) os_diff_table sig_diff_table Try.f151 hs_diff_table n [.sr, .sr, .sl, .sr, .bl, .lp m1, .sr, .sl, .bl, .sr, .sr, .bl] m2 (mk 128 [(0, .cs false [.val (.list YElem) x0]), (1, .cs false [.val (.list YElem) x1]), (5, .cs false [.hol 84 (.int .i64) x5 x5i (some ⟨23, 0⟩)]), (6, .cs false [.val (.int .i64) x6]), (7, .cs false [.val (.int .i64) x7]), (23, .cs false [.own 3 (.int .i64) x23])])
theorem L_diff_table_0_step (n m1 : Nat) (x0 : List YElem.den) (x1 : List YElem.den) (x5 : List (List (Int))) (x6 : Int) : L_diff_table_0 n (m1 + 1) x0 x1 x5 x6 =
  (bcond (decide ((x6 : Int) ≥ 0))
   (if 0 ≤ ((IntKind.i64.wrap ((List.length x1 : Int) + 1)) : Int) ∧ ((IntKind.i64.wrap ((List.length x1 : Int) + 1)) : Int) = (IntKind.i64.wrap ((List.length x1 : Int) + 1)) ∧ ((IntKind.i64.wrap ((List.length x1 : Int) + 1)) : Int) * 8 ≤ 140737488355328 ∧ ((IntKind.i64.wrap ((List.length x1 : Int) + 1)) : Int) ≤ 140737488355328 then
    (if 0 ≤ (x6 : Int) ∧ (x6 : Int) < (List.length x5 : Int) then
     (L_diff_table_1 n m1 n x0 x1 x5 x6 x6 (List.length x1 : Int) (List.replicate (Int.toNat (IntKind.i64.wrap ((List.length x1 : Int) + 1))) (0 : Int)))
    else none)
   else none)
   (some (ret_diff_table x5))) := by kernel_rfl
theorem L_diff_table_1_step (n m1 m2 : Nat) (x0 : List YElem.den) (x1 : List YElem.den) (x5 : List (List (Int))) (x5i : Int) (x6 : Int) (x7 : Int) (x23 : List (Int)) : L_diff_table_1 n m1 (m2 + 1) x0 x1 x5 x5i x6 x7 x23 =
  (bcond (decide ((x7 : Int) ≥ 0))
   (bcond ((x6 : Int) == (List.length x0 : Int))
    (if 0 ≤ (x6 : Int) ∧ (x6 : Int) < (List.length x5 : Int) then
     (bcond (decide ((x6 : Int) = x5i))
      (if 0 ≤ (x7 : Int) ∧ (x7 : Int) < (List.length x23 : Int) then
       (L_diff_table_1 n m1 m2 x0 x1 x5 x5i x6 (IntKind.i64.wrap (x7 - 1)) (List.set x23 (Int.toNat x7) (IntKind.i64.wrap ((List.length x1 : Int) - x7))))
      else none)
      (if 0 ≤ (x7 : Int) ∧ (x7 : Int) < (List.length (at_ (e := (.list (.int .i64))) x5 x6) : Int) then
       none
      else none))
    else none)
    (bcond ((x7 : Int) == (List.length x1 : Int))
     (if 0 ≤ (x6 : Int) ∧ (x6 : Int) < (List.length x5 : Int) then
      (bcond (decide ((x6 : Int) = x5i))
       (if 0 ≤ (x7 : Int) ∧ (x7 : Int) < (List.length x23 : Int) then
        (L_diff_table_1 n m1 m2 x0 x1 x5 x5i x6 (IntKind.i64.wrap (x7 - 1)) (List.set x23 (Int.toNat x7) (IntKind.i64.wrap ((List.length x0 : Int) - x6))))
       else none)
       (if 0 ≤ (x7 : Int) ∧ (x7 : Int) < (List.length (at_ (e := (.list (.int .i64))) x5 x6) : Int) then
        none
       else none))
     else none)
     (if 0 ≤ (x6 : Int) ∧ (x6 : Int) < (List.length x5 : Int) then
      (if 0 ≤ ((IntKind.i64.wrap (x6 + 1)) : Int) ∧ ((IntKind.i64.wrap (x6 + 1)) : Int) < (List.length x5 : Int) then
       (if 0 ≤ (x6 : Int) ∧ (x6 : Int) < (List.length x5 : Int) then
        (if (x6 : Int) = x5i then
         (if ¬ ((IntKind.i64.wrap (x6 + 1)) : Int) = x5i then
          (if (x6 : Int) = x5i then
           (if 0 ≤ (x7 : Int) ∧ (x7 : Int) < (List.length (at_ (e := (.list (.int .i64))) x5 (IntKind.i64.wrap (x6 + 1))) : Int) then
            (if 0 ≤ ((IntKind.i64.wrap (x7 + 1)) : Int) ∧ ((IntKind.i64.wrap (x7 + 1)) : Int) < (List.length x23 : Int) then
             (if 0 ≤ (x7 : Int) ∧ (x7 : Int) < (List.length x23 : Int) then
              (if 0 ≤ (x6 : Int) ∧ (x6 : Int) < (List.length x0 : Int) then
               (if 0 ≤ (x7 : Int) ∧ (x7 : Int) < (List.length x1 : Int) then
                ((C_diff_alike F_diff_alike (at_ (e := YElem) x0 x6) (at_ (e := YElem) x1 x7)).bind fun r1 =>
                 (bcond (res_diff_alike_0 r1)
                  (if 0 ≤ (x6 : Int) ∧ (x6 : Int) < (List.length x5 : Int) then
                   (if 0 ≤ (x6 : Int) ∧ (x6 : Int) < (List.length x5 : Int) then
                    (if 0 ≤ ((IntKind.i64.wrap (x6 + 1)) : Int) ∧ ((IntKind.i64.wrap (x6 + 1)) : Int) < (List.length x5 : Int) then
                     (if 0 ≤ (x6 : Int) ∧ (x6 : Int) < (List.length x0 : Int) then
                      (if 0 ≤ (x7 : Int) ∧ (x7 : Int) < (List.length x1 : Int) then
                       (if (x6 : Int) = x5i then
                        (if (x6 : Int) = x5i then
                         (if ¬ ((IntKind.i64.wrap (x6 + 1)) : Int) = x5i then
                          (if 0 ≤ (x7 : Int) ∧ (x7 : Int) < (List.length (List.set x23 (Int.toNat x7) (IntKind.i64.wrap (1 + (if ((at_ (e := (.int .i64)) x23 (IntKind.i64.wrap (x7 + 1))) : Int) < (at_ (e := (.int .i64)) (at_ (e := (.list (.int .i64))) x5 (IntKind.i64.wrap (x6 + 1))) x7) then (at_ (e := (.int .i64)) x23 (IntKind.i64.wrap (x7 + 1))) else (at_ (e := (.int .i64)) (at_ (e := (.list (.int .i64))) x5 (IntKind.i64.wrap (x6 + 1))) x7))))) : Int) then
                           (if 0 ≤ ((IntKind.i64.wrap (x7 + 1)) : Int) ∧ ((IntKind.i64.wrap (x7 + 1)) : Int) < (List.length (at_ (e := (.list (.int .i64))) x5 (IntKind.i64.wrap (x6 + 1))) : Int) then
                            ((C_diff_price F_diff_price (at_ (e := YElem) x0 x6) (at_ (e := YElem) x1 x7)).bind fun r2 =>
                             (if 0 ≤ (x7 : Int) ∧ (x7 : Int) < (List.length (List.set x23 (Int.toNat x7) (IntKind.i64.wrap (1 + (if ((at_ (e := (.int .i64)) x23 (IntKind.i64.wrap (x7 + 1))) : Int) < (at_ (e := (.int .i64)) (at_ (e := (.list (.int .i64))) x5 (IntKind.i64.wrap (x6 + 1))) x7) then (at_ (e := (.int .i64)) x23 (IntKind.i64.wrap (x7 + 1))) else (at_ (e := (.int .i64)) (at_ (e := (.list (.int .i64))) x5 (IntKind.i64.wrap (x6 + 1))) x7))))) : Int) then
                              (L_diff_table_1 n m1 m2 x0 x1 x5 x5i x6 (IntKind.i64.wrap (x7 - 1)) (List.set (List.set x23 (Int.toNat x7) (IntKind.i64.wrap (1 + (if ((at_ (e := (.int .i64)) x23 (IntKind.i64.wrap (x7 + 1))) : Int) < (at_ (e := (.int .i64)) (at_ (e := (.list (.int .i64))) x5 (IntKind.i64.wrap (x6 + 1))) x7) then (at_ (e := (.int .i64)) x23 (IntKind.i64.wrap (x7 + 1))) else (at_ (e := (.int .i64)) (at_ (e := (.list (.int .i64))) x5 (IntKind.i64.wrap (x6 + 1))) x7))))) (Int.toNat x7) (if ((IntKind.i64.wrap ((at_ (e := (.int .i64)) (at_ (e := (.list (.int .i64))) x5 (IntKind.i64.wrap (x6 + 1))) (IntKind.i64.wrap (x7 + 1))) + (res_diff_price_0 r2))) : Int) < (at_ (e := (.int .i64)) (List.set x23 (Int.toNat x7) (IntKind.i64.wrap (1 + (if ((at_ (e := (.int .i64)) x23 (IntKind.i64.wrap (x7 + 1))) : Int) < (at_ (e := (.int .i64)) (at_ (e := (.list (.int .i64))) x5 (IntKind.i64.wrap (x6 + 1))) x7) then (at_ (e := (.int .i64)) x23 (IntKind.i64.wrap (x7 + 1))) else (at_ (e := (.int .i64)) (at_ (e := (.list (.int .i64))) x5 (IntKind.i64.wrap (x6 + 1))) x7))))) x7) then (IntKind.i64.wrap ((at_ (e := (.int .i64)) (at_ (e := (.list (.int .i64))) x5 (IntKind.i64.wrap (x6 + 1))) (IntKind.i64.wrap (x7 + 1))) + (res_diff_price_0 r2))) else (at_ (e := (.int .i64)) (List.set x23 (Int.toNat x7) (IntKind.i64.wrap (1 + (if ((at_ (e := (.int .i64)) x23 (IntKind.i64.wrap (x7 + 1))) : Int) < (at_ (e := (.int .i64)) (at_ (e := (.list (.int .i64))) x5 (IntKind.i64.wrap (x6 + 1))) x7) then (at_ (e := (.int .i64)) x23 (IntKind.i64.wrap (x7 + 1))) else (at_ (e := (.int .i64)) (at_ (e := (.list (.int .i64))) x5 (IntKind.i64.wrap (x6 + 1))) x7))))) x7))))
                             else none))
                           else none)
                          else none)
                         else none)
                        else none)
                       else none)
                      else none)
                     else none)
                    else none)
                   else none)
                  else none)
                  (L_diff_table_1 n m1 m2 x0 x1 x5 x5i x6 (IntKind.i64.wrap (x7 - 1)) (List.set x23 (Int.toNat x7) (IntKind.i64.wrap (1 + (if ((at_ (e := (.int .i64)) x23 (IntKind.i64.wrap (x7 + 1))) : Int) < (at_ (e := (.int .i64)) (at_ (e := (.list (.int .i64))) x5 (IntKind.i64.wrap (x6 + 1))) x7) then (at_ (e := (.int .i64)) x23 (IntKind.i64.wrap (x7 + 1))) else (at_ (e := (.int .i64)) (at_ (e := (.list (.int .i64))) x5 (IntKind.i64.wrap (x6 + 1))) x7))))))))
               else none)
              else none)
             else none)
            else none)
           else none)
          else none)
         else none)
        else none)
       else none)
      else none)
     else none)))
   (L_diff_table_0 n m1 x0 x1 (List.set x5 (Int.toNat x5i) x23) (IntKind.i64.wrap (x6 - 1)))) := by kernel_rfl
theorem ok_diff_table : fnOk os_diff_table sig_diff_table Try.f151 = true := by kernel_rfl
theorem fn_diff_table : P.funcs[151]? = some Try.f151 := by kernel_rfl
noncomputable def F_diff_table : sig_diff_table.Fn := fun x y => run T1 (env_diff_table) os_diff_table sig_diff_table Try.f151 hs_diff_table big x y
theorem S_diff_table : Sound P 151 ⟨sig_diff_table, F_diff_table⟩ := sound_of1 (os := os_diff_table) (hs := hs_diff_table) (env_cons S_diff_alike (env_cons S_diff_price (env_nil))) fn_diff_table ok_diff_table (fun x y out h => ⟨big, h⟩)
theorem e_diff_table (a0 : List YElem.den) (a1 : List YElem.den) : C_diff_table F_diff_table a0 a1 =
  (if 0 ≤ ((IntKind.i64.wrap ((List.length a0 : Int) + 1)) : Int) ∧ ((IntKind.i64.wrap ((List.length a0 : Int) + 1)) : Int) = (IntKind.i64.wrap ((List.length a0 : Int) + 1)) ∧ ((IntKind.i64.wrap ((List.length a0 : Int) + 1)) : Int) * 24 ≤ 140737488355328 ∧ ((IntKind.i64.wrap ((List.length a0 : Int) + 1)) : Int) ≤ 140737488355328 then
   (L_diff_table_0 big big a0 a1 (List.replicate (Int.toNat (IntKind.i64.wrap ((List.length a0 : Int) + 1))) ([] : List Int)) (List.length a0 : Int))
  else none) := by kernel_rfl
def sig_diff_Raw : Sig := ⟨[.v false (.list YElem), .v false (.list YElem)], [], [(false, [.fr (.list YStep)])]⟩
def C_diff_Raw (F : sig_diff_Raw.Fn) (a0 : List YElem.den) (a1 : List YElem.den) : Option sig_diff_Raw.Out := F (a0, a1, ()) ()
def ret_diff_Raw (v0 : List YStep.den) : sig_diff_Raw.Out := (((v0, ()), ()), ())
def res_diff_Raw_0 (r : sig_diff_Raw.Out) : List YStep.den := r.1.1.1
@[simp] theorem res_diff_Raw_0_ret (v0 : List YStep.den) : res_diff_Raw_0 (ret_diff_Raw v0) = v0 := rfl
def os_diff_Raw : RegT := ⟨[(4, .st 0 (.st 1 (.st 2 (.st 3 (.st 4 (.st 6 (.st 7 (.st 8 (.st 9 (.st 10 (.st 5 (.alt 11 (.alt 12 (.st 13 (.st 14 (.st 15 (.nil)))) (.st 13 (.st 12 (.st 14 (.st 15 (.nil)))))) (.alt 12 (.alt 11 (.st 13 (.st 14 (.st 15 (.nil)))) (.st 13 (.alt 11 (.st 14 (.st 15 (.nil))) (.st 14 (.st 11 (.st 15 (.nil))))))) (.st 13 (.alt 11 (.st 12 (.st 14 (.st 15 (.nil)))) (.st 12 (.alt 11 (.st 14 (.st 15 (.nil))) (.st 14 (.st 11 (.st 15 (.nil))))))))))))))))))))), (6, .st 0 (.st 1 (.st 2 (.st 3 (.st 4 (.st 5 (.st 6 (.st 7 (.st 8 (.st 9 (.st 10 (.st 11 (.nil))))))))))))), (13, .st 0 (.st 1 (.st 2 (.st 3 (.st 4 (.st 5 (.st 6 (.st 7 (.st 8 (.st 9 (.st 10 (.st 11 (.st 12 (.st 13 (.st 15 (.st 16 (.st 17 (.st 14 (.st 18 (.st 19 (.st 20 (.st 21 (.st 22 (.st 23 (.st 24 (.st 26 (.st 29 (.st 30 (.st 31 (.st 32 (.st 34 (.st 35 (.st 38 (.st 39 (.st 40 (.st 42 (.st 43 (.st 44 (.grp [25, 33, 41, 45, 27, 28, 36, 37, 46, 47] (.st 48 (.st 49 (.st 50 (.nil))))))))))))))))))))))))))))))))))))))))))), (14, .st 0 (.st 1 (.st 2 (.st 3 (.st 4 (.st 6 (.st 7 (.st 8 (.st 9 (.st 5 (.st 10 (.st 11 (.st 12 (.st 13 (.st 14 (.st 15 (.nil))))))))))))))))), (16, .st 0 (.st 1 (.st 2 (.st 3 (.st 4 (.st 5 (.st 6 (.st 7 (.st 8 (.st 9 (.st 10 (.st 11 (.st 12 (.st 14 (.st 17 (.st 18 (.st 19 (.st 20 (.st 22 (.grp [13, 21, 15, 16, 23, 24, 25] (.st 26 (.st 27 (.st 28 (.st 29 (.nil)))))))))))))))))))))))))], [], false⟩
def hs_diff_Raw : List Keep := [[(0, []), (1, []), (6, [(0, 30, YStep)]), (9, []), (10, [(0, 30, YStep)]), (11, []), (12, [])]]
@[reducible] noncomputable def env_diff_Raw : Env := [(87, ⟨sig_attr_Change, F_attr_Change⟩), (151, ⟨sig_diff_table, F_diff_table⟩), (152, ⟨sig_diff_alike, F_diff_alike⟩), (153, ⟨sig_diff_price, F_diff_price⟩), (16, ⟨sig_delta_Tidy, F_delta_Tidy⟩)]
noncomputable def L_diff_Raw_0 (n m1 : Nat) (x0 : List YElem.den) (x1 : List YElem.den) (x6 : List YStep.den) (x9 : List (List (Int))) (x10 : List YStep.den) (x11 : Int) (x12 : Int) : Option sig_diff_Raw.Out :=
  loopAt T (env_diff_Raw) os_diff_Raw sig_diff_Raw Try.f129 hs_diff_Raw n [.sr, .sr, .sr, .sr, .sr, .sr, .sl, .sr, .bl] m1 (mk 211 [(0, .cs false [.val (.list YElem) x0]), (1, .cs false [.val (.list YElem) x1]), (6, .cs false [.own 30 YStep x6]), (9, .cs false [.val (.list (.list (.int .i64))) x9]), (10, .cs false [.own 30 YStep x10]), (11, .cs false [.val (.int .i64) x11]), (12, .cs false [.val (.int .i64) x12])])
noncomputable def J_diff_Raw_0 (n : Nat) (y0 : List YElem.den) (y1 : List YElem.den) (y7 : YElem.den) (y8 : YElem.den) : Option sig_diff_Raw.Out :=
  ((C_attr_Change F_attr_Change y7.2.2 y8.2.2).bind fun r1 =>
   (if 0 ≤ ((IntKind.i64.wrap ((List.length y0 : Int) - 1)) : Int) ∧ ((IntKind.i64.wrap ((List.length y0 : Int) - 1)) : Int) ≤ (List.length y0 : Int) ∧ 0 ≤ (0 : Int) ∧ (0 : Int) ≤ (IntKind.i64.wrap ((List.length y0 : Int) - 1)) then
    (if 0 ≤ ((IntKind.i64.wrap ((List.length y1 : Int) - 1)) : Int) ∧ ((IntKind.i64.wrap ((List.length y1 : Int) - 1)) : Int) ≤ (List.length y1 : Int) ∧ 0 ≤ (0 : Int) ∧ (0 : Int) ≤ (IntKind.i64.wrap ((List.length y1 : Int) - 1)) then
     ((C_diff_table F_diff_table (List.drop (Int.toNat 0) (List.take (Int.toNat (IntKind.i64.wrap ((List.length y0 : Int) - 1))) y0)) (List.drop (Int.toNat 0) (List.take (Int.toNat (IntKind.i64.wrap ((List.length y1 : Int) - 1))) y1))).bind fun r2 =>
      (L_diff_Raw_0 n n (List.drop (Int.toNat 0) (List.take (Int.toNat (IntKind.i64.wrap ((List.length y0 : Int) - 1))) y0)) (List.drop (Int.toNat 0) (List.take (Int.toNat (IntKind.i64.wrap ((List.length y1 : Int) - 1))) y1)) [(0, (1, ((res_attr_Change_0 r1), [])))] (res_diff_table_0 r2) [] 0 0))
    else none)
   else none))
theorem L_diff_Raw_0_step (n m1 : Nat) (x0 : List YElem.den) (x1 : List YElem.den) (x6 : List YStep.den) (x9 : List (List (Int))) (x10 : List YStep.den) (x11 : Int) (x12 : Int) : L_diff_Raw_0 n (m1 + 1) x0 x1 x6 x9 x10 x11 x12 =
  (bcond ((decide ((x11 : Int) < (List.length x0 : Int))) == false)
   (bcond (decide ((x12 : Int) < (List.length x1 : Int)))
    (bcond ((decide ((x11 : Int) < (List.length x0 : Int))) == true)
     (bcond ((decide ((x12 : Int) < (List.length x1 : Int))) == true)
      (if 0 ≤ (x11 : Int) ∧ (x11 : Int) < (List.length x0 : Int) then
       (if 0 ≤ (x12 : Int) ∧ (x12 : Int) < (List.length x1 : Int) then
        ((C_diff_alike F_diff_alike (at_ (e := YElem) x0 x11) (at_ (e := YElem) x1 x12)).bind fun r1 =>
         (bcond ((res_diff_alike_0 r1) == true)
          (if 0 ≤ (x11 : Int) ∧ (x11 : Int) < (List.length x9 : Int) then
           (if 0 ≤ ((IntKind.i64.wrap (x11 + 1)) : Int) ∧ ((IntKind.i64.wrap (x11 + 1)) : Int) < (List.length x9 : Int) then
            (if 0 ≤ (x11 : Int) ∧ (x11 : Int) < (List.length x0 : Int) then
             (if 0 ≤ (x12 : Int) ∧ (x12 : Int) < (List.length x1 : Int) then
              (if 0 ≤ (x12 : Int) ∧ (x12 : Int) < (List.length (at_ (e := (.list (.int .i64))) x9 x11) : Int) then
               (if 0 ≤ ((IntKind.i64.wrap (x12 + 1)) : Int) ∧ ((IntKind.i64.wrap (x12 + 1)) : Int) < (List.length (at_ (e := (.list (.int .i64))) x9 (IntKind.i64.wrap (x11 + 1))) : Int) then
                ((C_diff_price F_diff_price (at_ (e := YElem) x0 x11) (at_ (e := YElem) x1 x12)).bind fun r2 =>
                 (bcond (((at_ (e := (.int .i64)) (at_ (e := (.list (.int .i64))) x9 x11) x12) : Int) == (IntKind.i64.wrap ((at_ (e := (.int .i64)) (at_ (e := (.list (.int .i64))) x9 (IntKind.i64.wrap (x11 + 1))) (IntKind.i64.wrap (x12 + 1))) + (res_diff_price_0 r2))))
                  (if 0 ≤ (x11 : Int) ∧ (x11 : Int) < (List.length x0 : Int) then
                   (if 0 ≤ (x12 : Int) ∧ (x12 : Int) < (List.length x1 : Int) then
                    ((C_attr_Change F_attr_Change (at_ (e := YElem) x0 x11).2.2 (at_ (e := YElem) x1 x12).2.2).bind fun r3 =>
                     (if (List.length (x10 : List YStep.den) + List.length ([(0, (1, ((res_attr_Change_0 r3), [])))] : List YStep.den)) * 64 ≤ 140737488355328 then
                      (L_diff_Raw_0 n m1 x0 x1 x6 x9 (x10 ++ [(0, (1, ((res_attr_Change_0 r3), [])))]) (IntKind.i64.wrap (x11 + 1)) (IntKind.i64.wrap (x12 + 1)))
                     else none))
                   else none)
                  else none)
                  (bcond ((decide ((x11 : Int) < (List.length x0 : Int))) == true)
                   (bcond (((x12 : Int) == (List.length x1 : Int)) == false)
                    (if 0 ≤ (x11 : Int) ∧ (x11 : Int) < (List.length x9 : Int) then
                     (if 0 ≤ ((IntKind.i64.wrap (x11 + 1)) : Int) ∧ ((IntKind.i64.wrap (x11 + 1)) : Int) < (List.length x9 : Int) then
                      (if 0 ≤ (x12 : Int) ∧ (x12 : Int) < (List.length (at_ (e := (.list (.int .i64))) x9 x11) : Int) then
                       (if 0 ≤ (x12 : Int) ∧ (x12 : Int) < (List.length (at_ (e := (.list (.int .i64))) x9 (IntKind.i64.wrap (x11 + 1))) : Int) then
                        (bcond (((at_ (e := (.int .i64)) (at_ (e := (.list (.int .i64))) x9 x11) x12) : Int) == (IntKind.i64.wrap (1 + (at_ (e := (.int .i64)) (at_ (e := (.list (.int .i64))) x9 (IntKind.i64.wrap (x11 + 1))) x12))))
                         (if (List.length (x10 : List YStep.den) + List.length ([(2, (1, ([], [])))] : List YStep.den)) * 64 ≤ 140737488355328 then
                          (L_diff_Raw_0 n m1 x0 x1 x6 x9 (x10 ++ [(2, (1, ([], [])))]) (IntKind.i64.wrap (x11 + 1)) x12)
                         else none)
                         (if 0 ≤ ((IntKind.i64.wrap (x12 + 1)) : Int) ∧ ((IntKind.i64.wrap (x12 + 1)) : Int) ≤ (List.length x1 : Int) ∧ 0 ≤ (x12 : Int) ∧ (x12 : Int) ≤ (IntKind.i64.wrap (x12 + 1)) then
                          (if (List.length (x10 : List YStep.den) + List.length ([(1, (0, ([], (List.drop (Int.toNat x12) (List.take (Int.toNat (IntKind.i64.wrap (x12 + 1))) x1)))))] : List YStep.den)) * 64 ≤ 140737488355328 then
                           (L_diff_Raw_0 n m1 x0 x1 x6 x9 (x10 ++ [(1, (0, ([], (List.drop (Int.toNat x12) (List.take (Int.toNat (IntKind.i64.wrap (x12 + 1))) x1)))))]) x11 (IntKind.i64.wrap (x12 + 1)))
                          else none)
                         else none))
                       else none)
                      else none)
                     else none)
                    else none)
                    (if (List.length (x10 : List YStep.den) + List.length ([(2, (1, ([], [])))] : List YStep.den)) * 64 ≤ 140737488355328 then
                     (L_diff_Raw_0 n m1 x0 x1 x6 x9 (x10 ++ [(2, (1, ([], [])))]) (IntKind.i64.wrap (x11 + 1)) x12)
                    else none))
                   (if 0 ≤ ((IntKind.i64.wrap (x12 + 1)) : Int) ∧ ((IntKind.i64.wrap (x12 + 1)) : Int) ≤ (List.length x1 : Int) ∧ 0 ≤ (x12 : Int) ∧ (x12 : Int) ≤ (IntKind.i64.wrap (x12 + 1)) then
                    (if (List.length (x10 : List YStep.den) + List.length ([(1, (0, ([], (List.drop (Int.toNat x12) (List.take (Int.toNat (IntKind.i64.wrap (x12 + 1))) x1)))))] : List YStep.den)) * 64 ≤ 140737488355328 then
                     (L_diff_Raw_0 n m1 x0 x1 x6 x9 (x10 ++ [(1, (0, ([], (List.drop (Int.toNat x12) (List.take (Int.toNat (IntKind.i64.wrap (x12 + 1))) x1)))))]) x11 (IntKind.i64.wrap (x12 + 1)))
                    else none)
                   else none))))
               else none)
              else none)
             else none)
            else none)
           else none)
          else none)
          (bcond ((decide ((x11 : Int) < (List.length x0 : Int))) == true)
           (bcond (((x12 : Int) == (List.length x1 : Int)) == false)
            (if 0 ≤ (x11 : Int) ∧ (x11 : Int) < (List.length x9 : Int) then
             (if 0 ≤ ((IntKind.i64.wrap (x11 + 1)) : Int) ∧ ((IntKind.i64.wrap (x11 + 1)) : Int) < (List.length x9 : Int) then
              (if 0 ≤ (x12 : Int) ∧ (x12 : Int) < (List.length (at_ (e := (.list (.int .i64))) x9 x11) : Int) then
               (if 0 ≤ (x12 : Int) ∧ (x12 : Int) < (List.length (at_ (e := (.list (.int .i64))) x9 (IntKind.i64.wrap (x11 + 1))) : Int) then
                (bcond (((at_ (e := (.int .i64)) (at_ (e := (.list (.int .i64))) x9 x11) x12) : Int) == (IntKind.i64.wrap (1 + (at_ (e := (.int .i64)) (at_ (e := (.list (.int .i64))) x9 (IntKind.i64.wrap (x11 + 1))) x12))))
                 (if (List.length (x10 : List YStep.den) + List.length ([(2, (1, ([], [])))] : List YStep.den)) * 64 ≤ 140737488355328 then
                  (L_diff_Raw_0 n m1 x0 x1 x6 x9 (x10 ++ [(2, (1, ([], [])))]) (IntKind.i64.wrap (x11 + 1)) x12)
                 else none)
                 (if 0 ≤ ((IntKind.i64.wrap (x12 + 1)) : Int) ∧ ((IntKind.i64.wrap (x12 + 1)) : Int) ≤ (List.length x1 : Int) ∧ 0 ≤ (x12 : Int) ∧ (x12 : Int) ≤ (IntKind.i64.wrap (x12 + 1)) then
                  (if (List.length (x10 : List YStep.den) + List.length ([(1, (0, ([], (List.drop (Int.toNat x12) (List.take (Int.toNat (IntKind.i64.wrap (x12 + 1))) x1)))))] : List YStep.den)) * 64 ≤ 140737488355328 then
                   (L_diff_Raw_0 n m1 x0 x1 x6 x9 (x10 ++ [(1, (0, ([], (List.drop (Int.toNat x12) (List.take (Int.toNat (IntKind.i64.wrap (x12 + 1))) x1)))))]) x11 (IntKind.i64.wrap (x12 + 1)))
                  else none)
                 else none))
               else none)
              else none)
             else none)
            else none)
            (if (List.length (x10 : List YStep.den) + List.length ([(2, (1, ([], [])))] : List YStep.den)) * 64 ≤ 140737488355328 then
             (L_diff_Raw_0 n m1 x0 x1 x6 x9 (x10 ++ [(2, (1, ([], [])))]) (IntKind.i64.wrap (x11 + 1)) x12)
            else none))
           (if 0 ≤ ((IntKind.i64.wrap (x12 + 1)) : Int) ∧ ((IntKind.i64.wrap (x12 + 1)) : Int) ≤ (List.length x1 : Int) ∧ 0 ≤ (x12 : Int) ∧ (x12 : Int) ≤ (IntKind.i64.wrap (x12 + 1)) then
            (if (List.length (x10 : List YStep.den) + List.length ([(1, (0, ([], (List.drop (Int.toNat x12) (List.take (Int.toNat (IntKind.i64.wrap (x12 + 1))) x1)))))] : List YStep.den)) * 64 ≤ 140737488355328 then
             (L_diff_Raw_0 n m1 x0 x1 x6 x9 (x10 ++ [(1, (0, ([], (List.drop (Int.toNat x12) (List.take (Int.toNat (IntKind.i64.wrap (x12 + 1))) x1)))))]) x11 (IntKind.i64.wrap (x12 + 1)))
            else none)
           else none))))
       else none)
      else none)
      (bcond ((decide ((x11 : Int) < (List.length x0 : Int))) == true)
       (bcond (((x12 : Int) == (List.length x1 : Int)) == false)
        (if 0 ≤ (x11 : Int) ∧ (x11 : Int) < (List.length x9 : Int) then
         (if 0 ≤ ((IntKind.i64.wrap (x11 + 1)) : Int) ∧ ((IntKind.i64.wrap (x11 + 1)) : Int) < (List.length x9 : Int) then
          (if 0 ≤ (x12 : Int) ∧ (x12 : Int) < (List.length (at_ (e := (.list (.int .i64))) x9 x11) : Int) then
           (if 0 ≤ (x12 : Int) ∧ (x12 : Int) < (List.length (at_ (e := (.list (.int .i64))) x9 (IntKind.i64.wrap (x11 + 1))) : Int) then
            (bcond (((at_ (e := (.int .i64)) (at_ (e := (.list (.int .i64))) x9 x11) x12) : Int) == (IntKind.i64.wrap (1 + (at_ (e := (.int .i64)) (at_ (e := (.list (.int .i64))) x9 (IntKind.i64.wrap (x11 + 1))) x12))))
             (if (List.length (x10 : List YStep.den) + List.length ([(2, (1, ([], [])))] : List YStep.den)) * 64 ≤ 140737488355328 then
              (L_diff_Raw_0 n m1 x0 x1 x6 x9 (x10 ++ [(2, (1, ([], [])))]) (IntKind.i64.wrap (x11 + 1)) x12)
             else none)
             (if 0 ≤ ((IntKind.i64.wrap (x12 + 1)) : Int) ∧ ((IntKind.i64.wrap (x12 + 1)) : Int) ≤ (List.length x1 : Int) ∧ 0 ≤ (x12 : Int) ∧ (x12 : Int) ≤ (IntKind.i64.wrap (x12 + 1)) then
              (if (List.length (x10 : List YStep.den) + List.length ([(1, (0, ([], (List.drop (Int.toNat x12) (List.take (Int.toNat (IntKind.i64.wrap (x12 + 1))) x1)))))] : List YStep.den)) * 64 ≤ 140737488355328 then
               (L_diff_Raw_0 n m1 x0 x1 x6 x9 (x10 ++ [(1, (0, ([], (List.drop (Int.toNat x12) (List.take (Int.toNat (IntKind.i64.wrap (x12 + 1))) x1)))))]) x11 (IntKind.i64.wrap (x12 + 1)))
              else none)
             else none))
           else none)
          else none)
         else none)
        else none)
        (if (List.length (x10 : List YStep.den) + List.length ([(2, (1, ([], [])))] : List YStep.den)) * 64 ≤ 140737488355328 then
         (L_diff_Raw_0 n m1 x0 x1 x6 x9 (x10 ++ [(2, (1, ([], [])))]) (IntKind.i64.wrap (x11 + 1)) x12)
        else none))
       (if 0 ≤ ((IntKind.i64.wrap (x12 + 1)) : Int) ∧ ((IntKind.i64.wrap (x12 + 1)) : Int) ≤ (List.length x1 : Int) ∧ 0 ≤ (x12 : Int) ∧ (x12 : Int) ≤ (IntKind.i64.wrap (x12 + 1)) then
        (if (List.length (x10 : List YStep.den) + List.length ([(1, (0, ([], (List.drop (Int.toNat x12) (List.take (Int.toNat (IntKind.i64.wrap (x12 + 1))) x1)))))] : List YStep.den)) * 64 ≤ 140737488355328 then
         (L_diff_Raw_0 n m1 x0 x1 x6 x9 (x10 ++ [(1, (0, ([], (List.drop (Int.toNat x12) (List.take (Int.toNat (IntKind.i64.wrap (x12 + 1))) x1)))))]) x11 (IntKind.i64.wrap (x12 + 1)))
        else none)
       else none)))
     (bcond ((decide ((x11 : Int) < (List.length x0 : Int))) == true)
      (bcond (((x12 : Int) == (List.length x1 : Int)) == false)
       (if 0 ≤ (x11 : Int) ∧ (x11 : Int) < (List.length x9 : Int) then
        (if 0 ≤ ((IntKind.i64.wrap (x11 + 1)) : Int) ∧ ((IntKind.i64.wrap (x11 + 1)) : Int) < (List.length x9 : Int) then
         (if 0 ≤ (x12 : Int) ∧ (x12 : Int) < (List.length (at_ (e := (.list (.int .i64))) x9 x11) : Int) then
          (if 0 ≤ (x12 : Int) ∧ (x12 : Int) < (List.length (at_ (e := (.list (.int .i64))) x9 (IntKind.i64.wrap (x11 + 1))) : Int) then
           (bcond (((at_ (e := (.int .i64)) (at_ (e := (.list (.int .i64))) x9 x11) x12) : Int) == (IntKind.i64.wrap (1 + (at_ (e := (.int .i64)) (at_ (e := (.list (.int .i64))) x9 (IntKind.i64.wrap (x11 + 1))) x12))))
            (if (List.length (x10 : List YStep.den) + List.length ([(2, (1, ([], [])))] : List YStep.den)) * 64 ≤ 140737488355328 then
             (L_diff_Raw_0 n m1 x0 x1 x6 x9 (x10 ++ [(2, (1, ([], [])))]) (IntKind.i64.wrap (x11 + 1)) x12)
            else none)
            (if 0 ≤ ((IntKind.i64.wrap (x12 + 1)) : Int) ∧ ((IntKind.i64.wrap (x12 + 1)) : Int) ≤ (List.length x1 : Int) ∧ 0 ≤ (x12 : Int) ∧ (x12 : Int) ≤ (IntKind.i64.wrap (x12 + 1)) then
             (if (List.length (x10 : List YStep.den) + List.length ([(1, (0, ([], (List.drop (Int.toNat x12) (List.take (Int.toNat (IntKind.i64.wrap (x12 + 1))) x1)))))] : List YStep.den)) * 64 ≤ 140737488355328 then
              (L_diff_Raw_0 n m1 x0 x1 x6 x9 (x10 ++ [(1, (0, ([], (List.drop (Int.toNat x12) (List.take (Int.toNat (IntKind.i64.wrap (x12 + 1))) x1)))))]) x11 (IntKind.i64.wrap (x12 + 1)))
             else none)
            else none))
          else none)
         else none)
        else none)
       else none)
       (if (List.length (x10 : List YStep.den) + List.length ([(2, (1, ([], [])))] : List YStep.den)) * 64 ≤ 140737488355328 then
        (L_diff_Raw_0 n m1 x0 x1 x6 x9 (x10 ++ [(2, (1, ([], [])))]) (IntKind.i64.wrap (x11 + 1)) x12)
       else none))
      (if 0 ≤ ((IntKind.i64.wrap (x12 + 1)) : Int) ∧ ((IntKind.i64.wrap (x12 + 1)) : Int) ≤ (List.length x1 : Int) ∧ 0 ≤ (x12 : Int) ∧ (x12 : Int) ≤ (IntKind.i64.wrap (x12 + 1)) then
       (if (List.length (x10 : List YStep.den) + List.length ([(1, (0, ([], (List.drop (Int.toNat x12) (List.take (Int.toNat (IntKind.i64.wrap (x12 + 1))) x1)))))] : List YStep.den)) * 64 ≤ 140737488355328 then
        (L_diff_Raw_0 n m1 x0 x1 x6 x9 (x10 ++ [(1, (0, ([], (List.drop (Int.toNat x12) (List.take (Int.toNat (IntKind.i64.wrap (x12 + 1))) x1)))))]) x11 (IntKind.i64.wrap (x12 + 1)))
       else none)
      else none)))
    (if (List.length (x10 : List YStep.den) + List.length (x6 : List YStep.den)) * 64 ≤ 140737488355328 then
     ((C_delta_Tidy F_delta_Tidy (x10 ++ x6)).bind fun r1 =>
      (some (ret_diff_Raw (res_delta_Tidy_0 r1))))
    else none))
   (bcond ((decide ((x11 : Int) < (List.length x0 : Int))) == true)
    (bcond ((decide ((x12 : Int) < (List.length x1 : Int))) == true)
     (if 0 ≤ (x11 : Int) ∧ (x11 : Int) < (List.length x0 : Int) then
      (if 0 ≤ (x12 : Int) ∧ (x12 : Int) < (List.length x1 : Int) then
       ((C_diff_alike F_diff_alike (at_ (e := YElem) x0 x11) (at_ (e := YElem) x1 x12)).bind fun r1 =>
        (bcond ((res_diff_alike_0 r1) == true)
         (if 0 ≤ (x11 : Int) ∧ (x11 : Int) < (List.length x9 : Int) then
          (if 0 ≤ ((IntKind.i64.wrap (x11 + 1)) : Int) ∧ ((IntKind.i64.wrap (x11 + 1)) : Int) < (List.length x9 : Int) then
           (if 0 ≤ (x11 : Int) ∧ (x11 : Int) < (List.length x0 : Int) then
            (if 0 ≤ (x12 : Int) ∧ (x12 : Int) < (List.length x1 : Int) then
             (if 0 ≤ (x12 : Int) ∧ (x12 : Int) < (List.length (at_ (e := (.list (.int .i64))) x9 x11) : Int) then
              (if 0 ≤ ((IntKind.i64.wrap (x12 + 1)) : Int) ∧ ((IntKind.i64.wrap (x12 + 1)) : Int) < (List.length (at_ (e := (.list (.int .i64))) x9 (IntKind.i64.wrap (x11 + 1))) : Int) then
               ((C_diff_price F_diff_price (at_ (e := YElem) x0 x11) (at_ (e := YElem) x1 x12)).bind fun r2 =>
                (bcond (((at_ (e := (.int .i64)) (at_ (e := (.list (.int .i64))) x9 x11) x12) : Int) == (IntKind.i64.wrap ((at_ (e := (.int .i64)) (at_ (e := (.list (.int .i64))) x9 (IntKind.i64.wrap (x11 + 1))) (IntKind.i64.wrap (x12 + 1))) + (res_diff_price_0 r2))))
                 (if 0 ≤ (x11 : Int) ∧ (x11 : Int) < (List.length x0 : Int) then
                  (if 0 ≤ (x12 : Int) ∧ (x12 : Int) < (List.length x1 : Int) then
                   ((C_attr_Change F_attr_Change (at_ (e := YElem) x0 x11).2.2 (at_ (e := YElem) x1 x12).2.2).bind fun r3 =>
                    (if (List.length (x10 : List YStep.den) + List.length ([(0, (1, ((res_attr_Change_0 r3), [])))] : List YStep.den)) * 64 ≤ 140737488355328 then
                     (L_diff_Raw_0 n m1 x0 x1 x6 x9 (x10 ++ [(0, (1, ((res_attr_Change_0 r3), [])))]) (IntKind.i64.wrap (x11 + 1)) (IntKind.i64.wrap (x12 + 1)))
                    else none))
                  else none)
                 else none)
                 (bcond ((decide ((x11 : Int) < (List.length x0 : Int))) == true)
                  (bcond (((x12 : Int) == (List.length x1 : Int)) == false)
                   (if 0 ≤ (x11 : Int) ∧ (x11 : Int) < (List.length x9 : Int) then
                    (if 0 ≤ ((IntKind.i64.wrap (x11 + 1)) : Int) ∧ ((IntKind.i64.wrap (x11 + 1)) : Int) < (List.length x9 : Int) then
                     (if 0 ≤ (x12 : Int) ∧ (x12 : Int) < (List.length (at_ (e := (.list (.int .i64))) x9 x11) : Int) then
                      (if 0 ≤ (x12 : Int) ∧ (x12 : Int) < (List.length (at_ (e := (.list (.int .i64))) x9 (IntKind.i64.wrap (x11 + 1))) : Int) then
                       (bcond (((at_ (e := (.int .i64)) (at_ (e := (.list (.int .i64))) x9 x11) x12) : Int) == (IntKind.i64.wrap (1 + (at_ (e := (.int .i64)) (at_ (e := (.list (.int .i64))) x9 (IntKind.i64.wrap (x11 + 1))) x12))))
                        (if (List.length (x10 : List YStep.den) + List.length ([(2, (1, ([], [])))] : List YStep.den)) * 64 ≤ 140737488355328 then
                         (L_diff_Raw_0 n m1 x0 x1 x6 x9 (x10 ++ [(2, (1, ([], [])))]) (IntKind.i64.wrap (x11 + 1)) x12)
                        else none)
                        (if 0 ≤ ((IntKind.i64.wrap (x12 + 1)) : Int) ∧ ((IntKind.i64.wrap (x12 + 1)) : Int) ≤ (List.length x1 : Int) ∧ 0 ≤ (x12 : Int) ∧ (x12 : Int) ≤ (IntKind.i64.wrap (x12 + 1)) then
                         (if (List.length (x10 : List YStep.den) + List.length ([(1, (0, ([], (List.drop (Int.toNat x12) (List.take (Int.toNat (IntKind.i64.wrap (x12 + 1))) x1)))))] : List YStep.den)) * 64 ≤ 140737488355328 then
                          (L_diff_Raw_0 n m1 x0 x1 x6 x9 (x10 ++ [(1, (0, ([], (List.drop (Int.toNat x12) (List.take (Int.toNat (IntKind.i64.wrap (x12 + 1))) x1)))))]) x11 (IntKind.i64.wrap (x12 + 1)))
                         else none)
                        else none))
                      else none)
                     else none)
                    else none)
                   else none)
                   (if (List.length (x10 : List YStep.den) + List.length ([(2, (1, ([], [])))] : List YStep.den)) * 64 ≤ 140737488355328 then
                    (L_diff_Raw_0 n m1 x0 x1 x6 x9 (x10 ++ [(2, (1, ([], [])))]) (IntKind.i64.wrap (x11 + 1)) x12)
                   else none))
                  (if 0 ≤ ((IntKind.i64.wrap (x12 + 1)) : Int) ∧ ((IntKind.i64.wrap (x12 + 1)) : Int) ≤ (List.length x1 : Int) ∧ 0 ≤ (x12 : Int) ∧ (x12 : Int) ≤ (IntKind.i64.wrap (x12 + 1)) then
                   (if (List.length (x10 : List YStep.den) + List.length ([(1, (0, ([], (List.drop (Int.toNat x12) (List.take (Int.toNat (IntKind.i64.wrap (x12 + 1))) x1)))))] : List YStep.den)) * 64 ≤ 140737488355328 then
                    (L_diff_Raw_0 n m1 x0 x1 x6 x9 (x10 ++ [(1, (0, ([], (List.drop (Int.toNat x12) (List.take (Int.toNat (IntKind.i64.wrap (x12 + 1))) x1)))))]) x11 (IntKind.i64.wrap (x12 + 1)))
                   else none)
                  else none))))
              else none)
             else none)
            else none)
           else none)
          else none)
         else none)
         (bcond ((decide ((x11 : Int) < (List.length x0 : Int))) == true)
          (bcond (((x12 : Int) == (List.length x1 : Int)) == false)
           (if 0 ≤ (x11 : Int) ∧ (x11 : Int) < (List.length x9 : Int) then
            (if 0 ≤ ((IntKind.i64.wrap (x11 + 1)) : Int) ∧ ((IntKind.i64.wrap (x11 + 1)) : Int) < (List.length x9 : Int) then
             (if 0 ≤ (x12 : Int) ∧ (x12 : Int) < (List.length (at_ (e := (.list (.int .i64))) x9 x11) : Int) then
              (if 0 ≤ (x12 : Int) ∧ (x12 : Int) < (List.length (at_ (e := (.list (.int .i64))) x9 (IntKind.i64.wrap (x11 + 1))) : Int) then
               (bcond (((at_ (e := (.int .i64)) (at_ (e := (.list (.int .i64))) x9 x11) x12) : Int) == (IntKind.i64.wrap (1 + (at_ (e := (.int .i64)) (at_ (e := (.list (.int .i64))) x9 (IntKind.i64.wrap (x11 + 1))) x12))))
                (if (List.length (x10 : List YStep.den) + List.length ([(2, (1, ([], [])))] : List YStep.den)) * 64 ≤ 140737488355328 then
                 (L_diff_Raw_0 n m1 x0 x1 x6 x9 (x10 ++ [(2, (1, ([], [])))]) (IntKind.i64.wrap (x11 + 1)) x12)
                else none)
                (if 0 ≤ ((IntKind.i64.wrap (x12 + 1)) : Int) ∧ ((IntKind.i64.wrap (x12 + 1)) : Int) ≤ (List.length x1 : Int) ∧ 0 ≤ (x12 : Int) ∧ (x12 : Int) ≤ (IntKind.i64.wrap (x12 + 1)) then
                 (if (List.length (x10 : List YStep.den) + List.length ([(1, (0, ([], (List.drop (Int.toNat x12) (List.take (Int.toNat (IntKind.i64.wrap (x12 + 1))) x1)))))] : List YStep.den)) * 64 ≤ 140737488355328 then
                  (L_diff_Raw_0 n m1 x0 x1 x6 x9 (x10 ++ [(1, (0, ([], (List.drop (Int.toNat x12) (List.take (Int.toNat (IntKind.i64.wrap (x12 + 1))) x1)))))]) x11 (IntKind.i64.wrap (x12 + 1)))
                 else none)
                else none))
              else none)
             else none)
            else none)
           else none)
           (if (List.length (x10 : List YStep.den) + List.length ([(2, (1, ([], [])))] : List YStep.den)) * 64 ≤ 140737488355328 then
            (L_diff_Raw_0 n m1 x0 x1 x6 x9 (x10 ++ [(2, (1, ([], [])))]) (IntKind.i64.wrap (x11 + 1)) x12)
           else none))
          (if 0 ≤ ((IntKind.i64.wrap (x12 + 1)) : Int) ∧ ((IntKind.i64.wrap (x12 + 1)) : Int) ≤ (List.length x1 : Int) ∧ 0 ≤ (x12 : Int) ∧ (x12 : Int) ≤ (IntKind.i64.wrap (x12 + 1)) then
           (if (List.length (x10 : List YStep.den) + List.length ([(1, (0, ([], (List.drop (Int.toNat x12) (List.take (Int.toNat (IntKind.i64.wrap (x12 + 1))) x1)))))] : List YStep.den)) * 64 ≤ 140737488355328 then
            (L_diff_Raw_0 n m1 x0 x1 x6 x9 (x10 ++ [(1, (0, ([], (List.drop (Int.toNat x12) (List.take (Int.toNat (IntKind.i64.wrap (x12 + 1))) x1)))))]) x11 (IntKind.i64.wrap (x12 + 1)))
           else none)
          else none))))
      else none)
     else none)
     (bcond ((decide ((x11 : Int) < (List.length x0 : Int))) == true)
      (bcond (((x12 : Int) == (List.length x1 : Int)) == false)
       (if 0 ≤ (x11 : Int) ∧ (x11 : Int) < (List.length x9 : Int) then
        (if 0 ≤ ((IntKind.i64.wrap (x11 + 1)) : Int) ∧ ((IntKind.i64.wrap (x11 + 1)) : Int) < (List.length x9 : Int) then
         (if 0 ≤ (x12 : Int) ∧ (x12 : Int) < (List.length (at_ (e := (.list (.int .i64))) x9 x11) : Int) then
          (if 0 ≤ (x12 : Int) ∧ (x12 : Int) < (List.length (at_ (e := (.list (.int .i64))) x9 (IntKind.i64.wrap (x11 + 1))) : Int) then
           (bcond (((at_ (e := (.int .i64)) (at_ (e := (.list (.int .i64))) x9 x11) x12) : Int) == (IntKind.i64.wrap (1 + (at_ (e := (.int .i64)) (at_ (e := (.list (.int .i64))) x9 (IntKind.i64.wrap (x11 + 1))) x12))))
            (if (List.length (x10 : List YStep.den) + List.length ([(2, (1, ([], [])))] : List YStep.den)) * 64 ≤ 140737488355328 then
             (L_diff_Raw_0 n m1 x0 x1 x6 x9 (x10 ++ [(2, (1, ([], [])))]) (IntKind.i64.wrap (x11 + 1)) x12)
            else none)
            (if 0 ≤ ((IntKind.i64.wrap (x12 + 1)) : Int) ∧ ((IntKind.i64.wrap (x12 + 1)) : Int) ≤ (List.length x1 : Int) ∧ 0 ≤ (x12 : Int) ∧ (x12 : Int) ≤ (IntKind.i64.wrap (x12 + 1)) then
             (if (List.length (x10 : List YStep.den) + List.length ([(1, (0, ([], (List.drop (Int.toNat x12) (List.take (Int.toNat (IntKind.i64.wrap (x12 + 1))) x1)))))] : List YStep.den)) * 64 ≤ 140737488355328 then
              (L_diff_Raw_0 n m1 x0 x1 x6 x9 (x10 ++ [(1, (0, ([], (List.drop (Int.toNat x12) (List.take (Int.toNat (IntKind.i64.wrap (x12 + 1))) x1)))))]) x11 (IntKind.i64.wrap (x12 + 1)))
             else none)
            else none))
          else none)
         else none)
        else none)
       else none)
       (if (List.length (x10 : List YStep.den) + List.length ([(2, (1, ([], [])))] : List YStep.den)) * 64 ≤ 140737488355328 then
        (L_diff_Raw_0 n m1 x0 x1 x6 x9 (x10 ++ [(2, (1, ([], [])))]) (IntKind.i64.wrap (x11 + 1)) x12)
       else none))
      (if 0 ≤ ((IntKind.i64.wrap (x12 + 1)) : Int) ∧ ((IntKind.i64.wrap (x12 + 1)) : Int) ≤ (List.length x1 : Int) ∧ 0 ≤ (x12 : Int) ∧ (x12 : Int) ≤ (IntKind.i64.wrap (x12 + 1)) then
       (if (List.length (x10 : List YStep.den) + List.length ([(1, (0, ([], (List.drop (Int.toNat x12) (List.take (Int.toNat (IntKind.i64.wrap (x12 + 1))) x1)))))] : List YStep.den)) * 64 ≤ 140737488355328 then
        (L_diff_Raw_0 n m1 x0 x1 x6 x9 (x10 ++ [(1, (0, ([], (List.drop (Int.toNat x12) (List.take (Int.toNat (IntKind.i64.wrap (x12 + 1))) x1)))))]) x11 (IntKind.i64.wrap (x12 + 1)))
       else none)
      else none)))
    (bcond ((decide ((x11 : Int) < (List.length x0 : Int))) == true)
     (bcond (((x12 : Int) == (List.length x1 : Int)) == false)
      (if 0 ≤ (x11 : Int) ∧ (x11 : Int) < (List.length x9 : Int) then
       (if 0 ≤ ((IntKind.i64.wrap (x11 + 1)) : Int) ∧ ((IntKind.i64.wrap (x11 + 1)) : Int) < (List.length x9 : Int) then
        (if 0 ≤ (x12 : Int) ∧ (x12 : Int) < (List.length (at_ (e := (.list (.int .i64))) x9 x11) : Int) then
         (if 0 ≤ (x12 : Int) ∧ (x12 : Int) < (List.length (at_ (e := (.list (.int .i64))) x9 (IntKind.i64.wrap (x11 + 1))) : Int) then
          (bcond (((at_ (e := (.int .i64)) (at_ (e := (.list (.int .i64))) x9 x11) x12) : Int) == (IntKind.i64.wrap (1 + (at_ (e := (.int .i64)) (at_ (e := (.list (.int .i64))) x9 (IntKind.i64.wrap (x11 + 1))) x12))))
           (if (List.length (x10 : List YStep.den) + List.length ([(2, (1, ([], [])))] : List YStep.den)) * 64 ≤ 140737488355328 then
            (L_diff_Raw_0 n m1 x0 x1 x6 x9 (x10 ++ [(2, (1, ([], [])))]) (IntKind.i64.wrap (x11 + 1)) x12)
           else none)
           (if 0 ≤ ((IntKind.i64.wrap (x12 + 1)) : Int) ∧ ((IntKind.i64.wrap (x12 + 1)) : Int) ≤ (List.length x1 : Int) ∧ 0 ≤ (x12 : Int) ∧ (x12 : Int) ≤ (IntKind.i64.wrap (x12 + 1)) then
            (if (List.length (x10 : List YStep.den) + List.length ([(1, (0, ([], (List.drop (Int.toNat x12) (List.take (Int.toNat (IntKind.i64.wrap (x12 + 1))) x1)))))] : List YStep.den)) * 64 ≤ 140737488355328 then
             (L_diff_Raw_0 n m1 x0 x1 x6 x9 (x10 ++ [(1, (0, ([], (List.drop (Int.toNat x12) (List.take (Int.toNat (IntKind.i64.wrap (x12 + 1))) x1)))))]) x11 (IntKind.i64.wrap (x12 + 1)))
            else none)
           else none))
         else none)
        else none)
       else none)
      else none)
      (if (List.length (x10 : List YStep.den) + List.length ([(2, (1, ([], [])))] : List YStep.den)) * 64 ≤ 140737488355328 then
       (L_diff_Raw_0 n m1 x0 x1 x6 x9 (x10 ++ [(2, (1, ([], [])))]) (IntKind.i64.wrap (x11 + 1)) x12)
      else none))
     (if 0 ≤ ((IntKind.i64.wrap (x12 + 1)) : Int) ∧ ((IntKind.i64.wrap (x12 + 1)) : Int) ≤ (List.length x1 : Int) ∧ 0 ≤ (x12 : Int) ∧ (x12 : Int) ≤ (IntKind.i64.wrap (x12 + 1)) then
      (if (List.length (x10 : List YStep.den) + List.length ([(1, (0, ([], (List.drop (Int.toNat x12) (List.take (Int.toNat (IntKind.i64.wrap (x12 + 1))) x1)))))] : List YStep.den)) * 64 ≤ 140737488355328 then
       (L_diff_Raw_0 n m1 x0 x1 x6 x9 (x10 ++ [(1, (0, ([], (List.drop (Int.toNat x12) (List.take (Int.toNat (IntKind.i64.wrap (x12 + 1))) x1)))))]) x11 (IntKind.i64.wrap (x12 + 1)))
      else none)
     else none)))) := by kernel_rfl
theorem raw_diff_Raw (n : Nat) (a0 : List YElem.den) (a1 : List YElem.den) : C_diff_Raw (fun x y => run T (env_diff_Raw) os_diff_Raw sig_diff_Raw Try.f129 hs_diff_Raw n x y) a0 a1 =
  (bcond ((decide (((List.length a0 : Int) : Int) > 0)) == true)
   (bcond ((decide (((List.length a1 : Int) : Int) > 0)) == true)
    (if 0 ≤ ((IntKind.i64.wrap ((List.length a0 : Int) - 1)) : Int) ∧ ((IntKind.i64.wrap ((List.length a0 : Int) - 1)) : Int) < (List.length a0 : Int) then
     (bcond ((((at_ (e := YElem) a0 (IntKind.i64.wrap ((List.length a0 : Int) - 1))).1 : Int) == 10) == true)
      (if 0 ≤ ((IntKind.i64.wrap ((List.length a1 : Int) - 1)) : Int) ∧ ((IntKind.i64.wrap ((List.length a1 : Int) - 1)) : Int) < (List.length a1 : Int) then
       (bcond (((at_ (e := YElem) a1 (IntKind.i64.wrap ((List.length a1 : Int) - 1))).1 : Int) == 10)
        (if 0 ≤ ((IntKind.i64.wrap ((List.length a0 : Int) - 1)) : Int) ∧ ((IntKind.i64.wrap ((List.length a0 : Int) - 1)) : Int) < (List.length a0 : Int) then
         (if 0 ≤ ((IntKind.i64.wrap ((List.length a1 : Int) - 1)) : Int) ∧ ((IntKind.i64.wrap ((List.length a1 : Int) - 1)) : Int) < (List.length a1 : Int) then
          (agree
           (agree
            (J_diff_Raw_0 n a0 a1 (at_ (e := YElem) a0 (IntKind.i64.wrap ((List.length a0 : Int) - 1))) (at_ (e := YElem) a1 (IntKind.i64.wrap ((List.length a1 : Int) - 1))))
            (J_diff_Raw_0 n a0 a1 (at_ (e := YElem) a0 (IntKind.i64.wrap ((List.length a0 : Int) - 1))) (at_ (e := YElem) a1 (IntKind.i64.wrap ((List.length a1 : Int) - 1)))))
          (agree
           (agree
            (J_diff_Raw_0 n a0 a1 (at_ (e := YElem) a0 (IntKind.i64.wrap ((List.length a0 : Int) - 1))) (at_ (e := YElem) a1 (IntKind.i64.wrap ((List.length a1 : Int) - 1))))
            (agree
             (J_diff_Raw_0 n a0 a1 (at_ (e := YElem) a0 (IntKind.i64.wrap ((List.length a0 : Int) - 1))) (at_ (e := YElem) a1 (IntKind.i64.wrap ((List.length a1 : Int) - 1))))
             (J_diff_Raw_0 n a0 a1 (at_ (e := YElem) a0 (IntKind.i64.wrap ((List.length a0 : Int) - 1))) (at_ (e := YElem) a1 (IntKind.i64.wrap ((List.length a1 : Int) - 1))))))
           (agree
            (J_diff_Raw_0 n a0 a1 (at_ (e := YElem) a0 (IntKind.i64.wrap ((List.length a0 : Int) - 1))) (at_ (e := YElem) a1 (IntKind.i64.wrap ((List.length a1 : Int) - 1))))
            (agree
             (J_diff_Raw_0 n a0 a1 (at_ (e := YElem) a0 (IntKind.i64.wrap ((List.length a0 : Int) - 1))) (at_ (e := YElem) a1 (IntKind.i64.wrap ((List.length a1 : Int) - 1))))
             (J_diff_Raw_0 n a0 a1 (at_ (e := YElem) a0 (IntKind.i64.wrap ((List.length a0 : Int) - 1))) (at_ (e := YElem) a1 (IntKind.i64.wrap ((List.length a1 : Int) - 1))))))))
         else none)
        else none)
        ((C_diff_table F_diff_table a0 a1).bind fun r1 =>
         (L_diff_Raw_0 n n a0 a1 [] (res_diff_table_0 r1) [] 0 0)))
      else none)
      ((C_diff_table F_diff_table a0 a1).bind fun r1 =>
       (L_diff_Raw_0 n n a0 a1 [] (res_diff_table_0 r1) [] 0 0)))
    else none)
    ((C_diff_table F_diff_table a0 a1).bind fun r1 =>
     (L_diff_Raw_0 n n a0 a1 [] (res_diff_table_0 r1) [] 0 0)))
   ((C_diff_table F_diff_table a0 a1).bind fun r1 =>
    (L_diff_Raw_0 n n a0 a1 [] (res_diff_table_0 r1) [] 0 0))) := by kernel_rfl
theorem run_diff_Raw (n : Nat) (a0 : List YElem.den) (a1 : List YElem.den) : C_diff_Raw (fun x y => run T (env_diff_Raw) os_diff_Raw sig_diff_Raw Try.f129 hs_diff_Raw n x y) a0 a1 =
  (bcond ((decide (((List.length a0 : Int) : Int) > 0)) == true)
   (bcond ((decide (((List.length a1 : Int) : Int) > 0)) == true)
    (if 0 ≤ ((IntKind.i64.wrap ((List.length a0 : Int) - 1)) : Int) ∧ ((IntKind.i64.wrap ((List.length a0 : Int) - 1)) : Int) < (List.length a0 : Int) then
     (bcond ((((at_ (e := YElem) a0 (IntKind.i64.wrap ((List.length a0 : Int) - 1))).1 : Int) == 10) == true)
      (if 0 ≤ ((IntKind.i64.wrap ((List.length a1 : Int) - 1)) : Int) ∧ ((IntKind.i64.wrap ((List.length a1 : Int) - 1)) : Int) < (List.length a1 : Int) then
       (bcond (((at_ (e := YElem) a1 (IntKind.i64.wrap ((List.length a1 : Int) - 1))).1 : Int) == 10)
        (if 0 ≤ ((IntKind.i64.wrap ((List.length a0 : Int) - 1)) : Int) ∧ ((IntKind.i64.wrap ((List.length a0 : Int) - 1)) : Int) < (List.length a0 : Int) then
         (if 0 ≤ ((IntKind.i64.wrap ((List.length a1 : Int) - 1)) : Int) ∧ ((IntKind.i64.wrap ((List.length a1 : Int) - 1)) : Int) < (List.length a1 : Int) then
          (J_diff_Raw_0 n a0 a1 (at_ (e := YElem) a0 (IntKind.i64.wrap ((List.length a0 : Int) - 1))) (at_ (e := YElem) a1 (IntKind.i64.wrap ((List.length a1 : Int) - 1))))
         else none)
        else none)
        ((C_diff_table F_diff_table a0 a1).bind fun r1 =>
         (L_diff_Raw_0 n n a0 a1 [] (res_diff_table_0 r1) [] 0 0)))
      else none)
      ((C_diff_table F_diff_table a0 a1).bind fun r1 =>
       (L_diff_Raw_0 n n a0 a1 [] (res_diff_table_0 r1) [] 0 0)))
    else none)
    ((C_diff_table F_diff_table a0 a1).bind fun r1 =>
     (L_diff_Raw_0 n n a0 a1 [] (res_diff_table_0 r1) [] 0 0)))
   ((C_diff_table F_diff_table a0 a1).bind fun r1 =>
    (L_diff_Raw_0 n n a0 a1 [] (res_diff_table_0 r1) [] 0 0))) := by rw [raw_diff_Raw]; simp only [agree_self]
theorem ok_diff_Raw : fnOk os_diff_Raw sig_diff_Raw Try.f129 = true := by kernel_rfl
theorem fn_diff_Raw : P.funcs[129]? = some Try.f129 := by kernel_rfl
noncomputable def F_diff_Raw : sig_diff_Raw.Fn := fun x y => run T (env_diff_Raw) os_diff_Raw sig_diff_Raw Try.f129 hs_diff_Raw big x y
theorem S_diff_Raw : Sound P 129 ⟨sig_diff_Raw, F_diff_Raw⟩ := sound_of (os := os_diff_Raw) (hs := hs_diff_Raw) (env_cons S_attr_Change (env_cons S_diff_table (env_cons S_diff_alike (env_cons S_diff_price (env_cons S_delta_Tidy (env_nil)))))) fn_diff_Raw ok_diff_Raw (fun x y out h => ⟨big, h⟩)
theorem e_diff_Raw (a0 : List YElem.den) (a1 : List YElem.den) : C_diff_Raw F_diff_Raw a0 a1 =
  (bcond ((decide (((List.length a0 : Int) : Int) > 0)) == true)
   (bcond ((decide (((List.length a1 : Int) : Int) > 0)) == true)
    (if 0 ≤ ((IntKind.i64.wrap ((List.length a0 : Int) - 1)) : Int) ∧ ((IntKind.i64.wrap ((List.length a0 : Int) - 1)) : Int) < (List.length a0 : Int) then
     (bcond ((((at_ (e := YElem) a0 (IntKind.i64.wrap ((List.length a0 : Int) - 1))).1 : Int) == 10) == true)
      (if 0 ≤ ((IntKind.i64.wrap ((List.length a1 : Int) - 1)) : Int) ∧ ((IntKind.i64.wrap ((List.length a1 : Int) - 1)) : Int) < (List.length a1 : Int) then
       (bcond (((at_ (e := YElem) a1 (IntKind.i64.wrap ((List.length a1 : Int) - 1))).1 : Int) == 10)
        (if 0 ≤ ((IntKind.i64.wrap ((List.length a0 : Int) - 1)) : Int) ∧ ((IntKind.i64.wrap ((List.length a0 : Int) - 1)) : Int) < (List.length a0 : Int) then
         (if 0 ≤ ((IntKind.i64.wrap ((List.length a1 : Int) - 1)) : Int) ∧ ((IntKind.i64.wrap ((List.length a1 : Int) - 1)) : Int) < (List.length a1 : Int) then
          (J_diff_Raw_0 big a0 a1 (at_ (e := YElem) a0 (IntKind.i64.wrap ((List.length a0 : Int) - 1))) (at_ (e := YElem) a1 (IntKind.i64.wrap ((List.length a1 : Int) - 1))))
         else none)
        else none)
        ((C_diff_table F_diff_table a0 a1).bind fun r1 =>
         (L_diff_Raw_0 big big a0 a1 [] (res_diff_table_0 r1) [] 0 0)))
      else none)
      ((C_diff_table F_diff_table a0 a1).bind fun r1 =>
       (L_diff_Raw_0 big big a0 a1 [] (res_diff_table_0 r1) [] 0 0)))
    else none)
    ((C_diff_table F_diff_table a0 a1).bind fun r1 =>
     (L_diff_Raw_0 big big a0 a1 [] (res_diff_table_0 r1) [] 0 0)))
   ((C_diff_table F_diff_table a0 a1).bind fun r1 =>
    (L_diff_Raw_0 big big a0 a1 [] (res_diff_table_0 r1) [] 0 0))) := run_diff_Raw big a0 a1
def sig_R_DiffCost : Sig := ⟨[.v false (.list YElem), .v false (.list YElem), .v false .bool], [], [(false, [.fr (.int .i64)])]⟩
def C_R_DiffCost (F : sig_R_DiffCost.Fn) (a0 : List YElem.den) (a1 : List YElem.den) (a2 : Bool) : Option sig_R_DiffCost.Out := F (a0, a1, a2, ()) ()
def ret_R_DiffCost (v0 : Int) : sig_R_DiffCost.Out := (((v0, ()), ()), ())
def res_R_DiffCost_0 (r : sig_R_DiffCost.Out) : Int := r.1.1.1
@[simp] theorem res_R_DiffCost_0_ret (v0 : Int) : res_R_DiffCost_0 (ret_R_DiffCost v0) = v0 := rfl
def os_R_DiffCost : RegT := ⟨[(3, .st 0 (.st 1 (.st 2 (.st 3 (.st 4 (.st 5 (.st 7 (.st 8 (.st 9 (.st 10 (.st 11 (.st 12 (.st 6 (.st 13 (.st 14 (.st 15 (.nil))))))))))))))))), (5, .st 0 (.st 1 (.st 2 (.st 3 (.st 4 (.st 5 (.st 6 (.st 7 (.st 8 (.st 9 (.st 10 (.st 11 (.st 12 (.st 13 (.nil))))))))))))))), (19, .st 0 (.st 1 (.st 2 (.st 3 (.st 5 (.st 6 (.st 7 (.st 4 (.st 8 (.st 9 (.st 10 (.st 11 (.nil))))))))))))), (20, .st 0 (.st 1 (.st 2 (.st 3 (.st 5 (.st 6 (.st 7 (.st 8 (.st 4 (.st 9 (.st 10 (.st 11 (.st 12 (.st 13 (.st 14 (.st 15 (.st 17 (.st 18 (.st 19 (.st 20 (.st 16 (.st 21 (.st 22 (.st 23 (.nil))))))))))))))))))))))))), (22, .st 0 (.st 1 (.st 2 (.st 3 (.st 5 (.st 6 (.st 7 (.st 8 (.st 4 (.st 9 (.st 10 (.st 11 (.nil)))))))))))))], [], false⟩
def hs_R_DiffCost : List Keep := [[(0, []), (1, []), (8, [(0, 3, (.int .i64))]), (50, []), (51, [])], [(0, []), (1, []), (8, [(0, 3, (.int .i64))]), (60, []), (61, [])], [(0, []), (1, []), (8, [(0, 3, (.int .i64))]), (10, []), (11, [(0, 3, (.int .i64))]), (60, []), (61, []), (68, []), (69, [])]]
@[reducible] noncomputable def env_R_DiffCost (F_R_DiffCost : sig_R_DiffCost.Fn) : Env := [(77, ⟨sig_R_SameAttrs, F_R_SameAttrs⟩), (69, ⟨sig_R_DiffCost, F_R_DiffCost⟩)]
noncomputable def L_R_DiffCost_0 (F_R_DiffCost : sig_R_DiffCost.Fn) (n m1 : Nat) (x0 : List YElem.den) (x1 : List YElem.den) (x8 : List (Int)) (x50 : Int) (x51 : Int) : Option sig_R_DiffCost.Out :=
  loopAt T (env_R_DiffCost F_R_DiffCost) os_R_DiffCost sig_R_DiffCost Try.f69 hs_R_DiffCost n [.sr, .sr, .sr, .sl, .sr, .bl] m1 (mk 140 [(0, .cs false [.val (.list YElem) x0]), (1, .cs false [.val (.list YElem) x1]), (8, .cs false [.own 3 (.int .i64) x8]), (50, .cs false [.val (.int .i64) x50]), (51, .cs false [.val (.int .i64) x51])])
noncomputable def L_R_DiffCost_1 (F_R_DiffCost : sig_R_DiffCost.Fn) (n m1 : Nat) (x0 : List YElem.den) (x1 : List YElem.den) (x8 : List (Int)) (x60 : Int) (x61 : Int) : Option sig_R_DiffCost.Out :=
  loopAt T (env_R_DiffCost F_R_DiffCost) os_R_DiffCost sig_R_DiffCost Try.f69 hs_R_DiffCost n [.sr, .sr, .sr, .sr, .sl, .sr, .bl] m1 (mk 140 [(0, .cs false [.val (.list YElem) x0]), (1, .cs false [.val (.list YElem) x1]), (8, .cs false [.own 3 (.int .i64) x8]), (60, .cs false [.val (.int .i64) x60]), (61, .cs false [.val (.int .i64) x61])])
noncomputable def L_R_DiffCost_2 (F_R_DiffCost : sig_R_DiffCost.Fn) (n m1 m2 : Nat) (x0 : List YElem.den) (x1 : List YElem.den) (x8 : List (Int)) (x10 : Int) (x11 : List (Int)) (x60 : Int) (x61 : Int) (x68 : Int) (x69 : Int) : Option sig_R_DiffCost.Out :=
  loopAt T (env_R_DiffCost F_R_DiffCost) os_R_DiffCost sig_R_DiffCost Try.f69 hs_R_DiffCost n [.sr, .sr, .sr, .sr, .sl, .sr, .bl, .lp m1, .sr, .sr, .sl, .bl, .sr, .sr, .sl, .sr, .bl] m2 (mk 140 [(0, .cs false [.val (.list YElem) x0]), (1, .cs false [.val (.list YElem) x1]), (8, .cs false [.own 3 (.int .i64) x8]), (10, .cs false [.val (.int .i64) x10]), (11, .cs false [.own 3 (.int .i64) x11]), (60, .cs false [.val (.int .i64) x60]), (61, .cs false [.val (.int .i64) x61]), (68, .cs false [.val (.int .i64) x68]), (69, .cs false [.val (.int .i64) x69])])
theorem L_R_DiffCost_0_step (F_R_DiffCost : sig_R_DiffCost.Fn) (n m1 : Nat) (x0 : List YElem.den) (x1 : List YElem.den) (x8 : List (Int)) (x50 : Int) (x51 : Int) : L_R_DiffCost_0 F_R_DiffCost n (m1 + 1) x0 x1 x8 x50 x51 =
  (bcond (decide ((x51 : Int) < x50))
   (if 0 ≤ (x51 : Int) ∧ (x51 : Int) < (List.length x8 : Int) then
    (L_R_DiffCost_0 F_R_DiffCost n m1 x0 x1 (List.set x8 (Int.toNat x51) x51) x50 (IntKind.i64.wrap (x51 + 1)))
   else none)
   (L_R_DiffCost_1 F_R_DiffCost n n x0 x1 x8 (List.length x0 : Int) 0)) := by kernel_rfl
theorem L_R_DiffCost_1_step (F_R_DiffCost : sig_R_DiffCost.Fn) (n m1 : Nat) (x0 : List YElem.den) (x1 : List YElem.den) (x8 : List (Int)) (x60 : Int) (x61 : Int) : L_R_DiffCost_1 F_R_DiffCost n (m1 + 1) x0 x1 x8 x60 x61 =
  (bcond (decide ((x61 : Int) < x60))
   (L_R_DiffCost_2 F_R_DiffCost n m1 n x0 x1 x8 x61 [(IntKind.i64.wrap (x61 + 1))] x60 x61 (List.length x1 : Int) 0)
   (if 0 ≤ ((List.length x1 : Int) : Int) ∧ ((List.length x1 : Int) : Int) < (List.length x8 : Int) then
    (some (ret_R_DiffCost (at_ (e := (.int .i64)) x8 (List.length x1 : Int))))
   else none)) := by kernel_rfl
theorem L_R_DiffCost_2_step (F_R_DiffCost : sig_R_DiffCost.Fn) (n m1 m2 : Nat) (x0 : List YElem.den) (x1 : List YElem.den) (x8 : List (Int)) (x10 : Int) (x11 : List (Int)) (x60 : Int) (x61 : Int) (x68 : Int) (x69 : Int) : L_R_DiffCost_2 F_R_DiffCost n m1 (m2 + 1) x0 x1 x8 x10 x11 x60 x61 x68 x69 =
  (bcond (decide ((x69 : Int) < x68))
   (if 0 ≤ ((IntKind.i64.wrap (x69 + 1)) : Int) ∧ ((IntKind.i64.wrap (x69 + 1)) : Int) < (List.length x8 : Int) then
    (if 0 ≤ (x69 : Int) ∧ (x69 : Int) < (List.length x11 : Int) then
     (if 0 ≤ (x10 : Int) ∧ (x10 : Int) < (List.length x0 : Int) then
      (if 0 ≤ (x69 : Int) ∧ (x69 : Int) < (List.length x1 : Int) then
       (bcond ((((at_ (e := YElem) x0 x10).1 : Int) == (at_ (e := YElem) x1 x69).1) == true)
        (if 0 ≤ (x10 : Int) ∧ (x10 : Int) < (List.length x0 : Int) then
         (if 0 ≤ (x69 : Int) ∧ (x69 : Int) < (List.length x1 : Int) then
          (bcond (((at_ (e := YElem) x0 x10).2.1 : Int) == (at_ (e := YElem) x1 x69).2.1)
           (if 0 ≤ (x69 : Int) ∧ (x69 : Int) < (List.length x8 : Int) then
            (if 0 ≤ (x10 : Int) ∧ (x10 : Int) < (List.length x0 : Int) then
             (if 0 ≤ (x69 : Int) ∧ (x69 : Int) < (List.length x1 : Int) then
              ((C_R_SameAttrs F_R_SameAttrs (at_ (e := YElem) x0 x10).2.2 (at_ (e := YElem) x1 x69).2.2).bind fun r1 =>
               (bcond (!(res_R_SameAttrs_0 r1))
                (if (List.length (x11 : List Int) + List.length ([(if ((IntKind.i64.wrap ((at_ (e := (.int .i64)) x8 x69) + 1)) : Int) < (IntKind.i64.wrap (1 + (if ((at_ (e := (.int .i64)) x11 x69) : Int) < (at_ (e := (.int .i64)) x8 (IntKind.i64.wrap (x69 + 1))) then (at_ (e := (.int .i64)) x11 x69) else (at_ (e := (.int .i64)) x8 (IntKind.i64.wrap (x69 + 1)))))) then (IntKind.i64.wrap ((at_ (e := (.int .i64)) x8 x69) + 1)) else (IntKind.i64.wrap (1 + (if ((at_ (e := (.int .i64)) x11 x69) : Int) < (at_ (e := (.int .i64)) x8 (IntKind.i64.wrap (x69 + 1))) then (at_ (e := (.int .i64)) x11 x69) else (at_ (e := (.int .i64)) x8 (IntKind.i64.wrap (x69 + 1)))))))] : List Int)) * 8 ≤ 140737488355328 then
                 (L_R_DiffCost_2 F_R_DiffCost n m1 m2 x0 x1 x8 x10 (x11 ++ [(if ((IntKind.i64.wrap ((at_ (e := (.int .i64)) x8 x69) + 1)) : Int) < (IntKind.i64.wrap (1 + (if ((at_ (e := (.int .i64)) x11 x69) : Int) < (at_ (e := (.int .i64)) x8 (IntKind.i64.wrap (x69 + 1))) then (at_ (e := (.int .i64)) x11 x69) else (at_ (e := (.int .i64)) x8 (IntKind.i64.wrap (x69 + 1)))))) then (IntKind.i64.wrap ((at_ (e := (.int .i64)) x8 x69) + 1)) else (IntKind.i64.wrap (1 + (if ((at_ (e := (.int .i64)) x11 x69) : Int) < (at_ (e := (.int .i64)) x8 (IntKind.i64.wrap (x69 + 1))) then (at_ (e := (.int .i64)) x11 x69) else (at_ (e := (.int .i64)) x8 (IntKind.i64.wrap (x69 + 1)))))))]) x60 x61 x68 (IntKind.i64.wrap (x69 + 1)))
                else none)
                (if (List.length (x11 : List Int) + List.length ([(if ((at_ (e := (.int .i64)) x8 x69) : Int) < (IntKind.i64.wrap (1 + (if ((at_ (e := (.int .i64)) x11 x69) : Int) < (at_ (e := (.int .i64)) x8 (IntKind.i64.wrap (x69 + 1))) then (at_ (e := (.int .i64)) x11 x69) else (at_ (e := (.int .i64)) x8 (IntKind.i64.wrap (x69 + 1)))))) then (at_ (e := (.int .i64)) x8 x69) else (IntKind.i64.wrap (1 + (if ((at_ (e := (.int .i64)) x11 x69) : Int) < (at_ (e := (.int .i64)) x8 (IntKind.i64.wrap (x69 + 1))) then (at_ (e := (.int .i64)) x11 x69) else (at_ (e := (.int .i64)) x8 (IntKind.i64.wrap (x69 + 1)))))))] : List Int)) * 8 ≤ 140737488355328 then
                 (L_R_DiffCost_2 F_R_DiffCost n m1 m2 x0 x1 x8 x10 (x11 ++ [(if ((at_ (e := (.int .i64)) x8 x69) : Int) < (IntKind.i64.wrap (1 + (if ((at_ (e := (.int .i64)) x11 x69) : Int) < (at_ (e := (.int .i64)) x8 (IntKind.i64.wrap (x69 + 1))) then (at_ (e := (.int .i64)) x11 x69) else (at_ (e := (.int .i64)) x8 (IntKind.i64.wrap (x69 + 1)))))) then (at_ (e := (.int .i64)) x8 x69) else (IntKind.i64.wrap (1 + (if ((at_ (e := (.int .i64)) x11 x69) : Int) < (at_ (e := (.int .i64)) x8 (IntKind.i64.wrap (x69 + 1))) then (at_ (e := (.int .i64)) x11 x69) else (at_ (e := (.int .i64)) x8 (IntKind.i64.wrap (x69 + 1)))))))]) x60 x61 x68 (IntKind.i64.wrap (x69 + 1)))
                else none)))
             else none)
            else none)
           else none)
           (if (List.length (x11 : List Int) + List.length ([(IntKind.i64.wrap (1 + (if ((at_ (e := (.int .i64)) x11 x69) : Int) < (at_ (e := (.int .i64)) x8 (IntKind.i64.wrap (x69 + 1))) then (at_ (e := (.int .i64)) x11 x69) else (at_ (e := (.int .i64)) x8 (IntKind.i64.wrap (x69 + 1))))))] : List Int)) * 8 ≤ 140737488355328 then
            (L_R_DiffCost_2 F_R_DiffCost n m1 m2 x0 x1 x8 x10 (x11 ++ [(IntKind.i64.wrap (1 + (if ((at_ (e := (.int .i64)) x11 x69) : Int) < (at_ (e := (.int .i64)) x8 (IntKind.i64.wrap (x69 + 1))) then (at_ (e := (.int .i64)) x11 x69) else (at_ (e := (.int .i64)) x8 (IntKind.i64.wrap (x69 + 1))))))]) x60 x61 x68 (IntKind.i64.wrap (x69 + 1)))
           else none))
         else none)
        else none)
        (if (List.length (x11 : List Int) + List.length ([(IntKind.i64.wrap (1 + (if ((at_ (e := (.int .i64)) x11 x69) : Int) < (at_ (e := (.int .i64)) x8 (IntKind.i64.wrap (x69 + 1))) then (at_ (e := (.int .i64)) x11 x69) else (at_ (e := (.int .i64)) x8 (IntKind.i64.wrap (x69 + 1))))))] : List Int)) * 8 ≤ 140737488355328 then
         (L_R_DiffCost_2 F_R_DiffCost n m1 m2 x0 x1 x8 x10 (x11 ++ [(IntKind.i64.wrap (1 + (if ((at_ (e := (.int .i64)) x11 x69) : Int) < (at_ (e := (.int .i64)) x8 (IntKind.i64.wrap (x69 + 1))) then (at_ (e := (.int .i64)) x11 x69) else (at_ (e := (.int .i64)) x8 (IntKind.i64.wrap (x69 + 1))))))]) x60 x61 x68 (IntKind.i64.wrap (x69 + 1)))
        else none))
      else none)
     else none)
    else none)
   else none)
   (L_R_DiffCost_1 F_R_DiffCost n m1 x0 x1 x11 x60 (IntKind.i64.wrap (x61 + 1)))) := by kernel_rfl
theorem run_R_DiffCost (F_R_DiffCost : sig_R_DiffCost.Fn) (n : Nat) (a0 : List YElem.den) (a1 : List YElem.den) (a2 : Bool) : C_R_DiffCost (fun x y => run T (env_R_DiffCost F_R_DiffCost) os_R_DiffCost sig_R_DiffCost Try.f69 hs_R_DiffCost n x y) a0 a1 a2 =
  (bcond a2
   (if 0 ≤ ((IntKind.i64.wrap ((List.length a0 : Int) - 1)) : Int) ∧ ((IntKind.i64.wrap ((List.length a0 : Int) - 1)) : Int) < (List.length a0 : Int) then
    (if 0 ≤ ((IntKind.i64.wrap ((List.length a1 : Int) - 1)) : Int) ∧ ((IntKind.i64.wrap ((List.length a1 : Int) - 1)) : Int) < (List.length a1 : Int) then
     ((C_R_SameAttrs F_R_SameAttrs (at_ (e := YElem) a0 (IntKind.i64.wrap ((List.length a0 : Int) - 1))).2.2 (at_ (e := YElem) a1 (IntKind.i64.wrap ((List.length a1 : Int) - 1))).2.2).bind fun r1 =>
      (bcond (!(res_R_SameAttrs_0 r1))
       (if 0 ≤ ((IntKind.i64.wrap ((List.length a0 : Int) - 1)) : Int) ∧ ((IntKind.i64.wrap ((List.length a0 : Int) - 1)) : Int) ≤ (List.length a0 : Int) ∧ 0 ≤ (0 : Int) ∧ (0 : Int) ≤ (IntKind.i64.wrap ((List.length a0 : Int) - 1)) then
        (if 0 ≤ ((IntKind.i64.wrap ((List.length a1 : Int) - 1)) : Int) ∧ ((IntKind.i64.wrap ((List.length a1 : Int) - 1)) : Int) ≤ (List.length a1 : Int) ∧ 0 ≤ (0 : Int) ∧ (0 : Int) ≤ (IntKind.i64.wrap ((List.length a1 : Int) - 1)) then
         ((C_R_DiffCost F_R_DiffCost (List.drop (Int.toNat 0) (List.take (Int.toNat (IntKind.i64.wrap ((List.length a0 : Int) - 1))) a0)) (List.drop (Int.toNat 0) (List.take (Int.toNat (IntKind.i64.wrap ((List.length a1 : Int) - 1))) a1)) false).bind fun r2 =>
          (some (ret_R_DiffCost (IntKind.i64.wrap (1 + (res_R_DiffCost_0 r2))))))
        else none)
       else none)
       (if 0 ≤ ((IntKind.i64.wrap ((List.length a0 : Int) - 1)) : Int) ∧ ((IntKind.i64.wrap ((List.length a0 : Int) - 1)) : Int) ≤ (List.length a0 : Int) ∧ 0 ≤ (0 : Int) ∧ (0 : Int) ≤ (IntKind.i64.wrap ((List.length a0 : Int) - 1)) then
        (if 0 ≤ ((IntKind.i64.wrap ((List.length a1 : Int) - 1)) : Int) ∧ ((IntKind.i64.wrap ((List.length a1 : Int) - 1)) : Int) ≤ (List.length a1 : Int) ∧ 0 ≤ (0 : Int) ∧ (0 : Int) ≤ (IntKind.i64.wrap ((List.length a1 : Int) - 1)) then
         ((C_R_DiffCost F_R_DiffCost (List.drop (Int.toNat 0) (List.take (Int.toNat (IntKind.i64.wrap ((List.length a0 : Int) - 1))) a0)) (List.drop (Int.toNat 0) (List.take (Int.toNat (IntKind.i64.wrap ((List.length a1 : Int) - 1))) a1)) false).bind fun r2 =>
          (some (ret_R_DiffCost (IntKind.i64.wrap (0 + (res_R_DiffCost_0 r2))))))
        else none)
       else none)))
    else none)
   else none)
   (if 0 ≤ ((IntKind.i64.wrap ((List.length a1 : Int) + 1)) : Int) ∧ ((IntKind.i64.wrap ((List.length a1 : Int) + 1)) : Int) = (IntKind.i64.wrap ((List.length a1 : Int) + 1)) ∧ ((IntKind.i64.wrap ((List.length a1 : Int) + 1)) : Int) * 8 ≤ 140737488355328 ∧ ((IntKind.i64.wrap ((List.length a1 : Int) + 1)) : Int) ≤ 140737488355328 then
    (L_R_DiffCost_0 F_R_DiffCost n n a0 a1 (List.replicate (Int.toNat (IntKind.i64.wrap ((List.length a1 : Int) + 1))) (0 : Int)) (List.length (List.replicate (Int.toNat (IntKind.i64.wrap ((List.length a1 : Int) + 1))) (0 : Int)) : Int) 0)
   else none)) := by kernel_rfl
theorem ok_R_DiffCost : fnOk os_R_DiffCost sig_R_DiffCost Try.f69 = true := by kernel_rfl
theorem fn_R_DiffCost : P.funcs[69]? = some Try.f69 := by kernel_rfl
noncomputable def F_R_DiffCostk : Nat → sig_R_DiffCost.Fn
  | 0 => fun _ _ => none
  | k + 1 => fun x y => run T (env_R_DiffCost (F_R_DiffCostk k)) os_R_DiffCost sig_R_DiffCost Try.f69 hs_R_DiffCost big x y
theorem S_R_DiffCostk : ∀ k, Sound P 69 ⟨sig_R_DiffCost, F_R_DiffCostk k⟩
  | 0 => sound_of (os := os_R_DiffCost) (hs := hs_R_DiffCost) (env := []) env_nil fn_R_DiffCost ok_R_DiffCost (fun x y out h => by cases h)
  | k + 1 => sound_of (os := os_R_DiffCost) (hs := hs_R_DiffCost) (env_cons S_R_SameAttrs (env_cons (S_R_DiffCostk k) (env_nil))) fn_R_DiffCost ok_R_DiffCost (fun x y out h => ⟨big, h⟩)
noncomputable def F_R_DiffCost : sig_R_DiffCost.Fn := fun x y => F_R_DiffCostk big x y
theorem S_R_DiffCost : Sound P 69 ⟨sig_R_DiffCost, F_R_DiffCost⟩ := sound_fuel S_R_DiffCostk _
theorem e_R_DiffCost (k : Nat) (a0 : List YElem.den) (a1 : List YElem.den) (a2 : Bool) : C_R_DiffCost (F_R_DiffCostk (k + 1)) a0 a1 a2 =
  (bcond a2
   (if 0 ≤ ((IntKind.i64.wrap ((List.length a0 : Int) - 1)) : Int) ∧ ((IntKind.i64.wrap ((List.length a0 : Int) - 1)) : Int) < (List.length a0 : Int) then
    (if 0 ≤ ((IntKind.i64.wrap ((List.length a1 : Int) - 1)) : Int) ∧ ((IntKind.i64.wrap ((List.length a1 : Int) - 1)) : Int) < (List.length a1 : Int) then
     ((C_R_SameAttrs F_R_SameAttrs (at_ (e := YElem) a0 (IntKind.i64.wrap ((List.length a0 : Int) - 1))).2.2 (at_ (e := YElem) a1 (IntKind.i64.wrap ((List.length a1 : Int) - 1))).2.2).bind fun r1 =>
      (bcond (!(res_R_SameAttrs_0 r1))
       (if 0 ≤ ((IntKind.i64.wrap ((List.length a0 : Int) - 1)) : Int) ∧ ((IntKind.i64.wrap ((List.length a0 : Int) - 1)) : Int) ≤ (List.length a0 : Int) ∧ 0 ≤ (0 : Int) ∧ (0 : Int) ≤ (IntKind.i64.wrap ((List.length a0 : Int) - 1)) then
        (if 0 ≤ ((IntKind.i64.wrap ((List.length a1 : Int) - 1)) : Int) ∧ ((IntKind.i64.wrap ((List.length a1 : Int) - 1)) : Int) ≤ (List.length a1 : Int) ∧ 0 ≤ (0 : Int) ∧ (0 : Int) ≤ (IntKind.i64.wrap ((List.length a1 : Int) - 1)) then
         ((C_R_DiffCost (F_R_DiffCostk k) (List.drop (Int.toNat 0) (List.take (Int.toNat (IntKind.i64.wrap ((List.length a0 : Int) - 1))) a0)) (List.drop (Int.toNat 0) (List.take (Int.toNat (IntKind.i64.wrap ((List.length a1 : Int) - 1))) a1)) false).bind fun r2 =>
          (some (ret_R_DiffCost (IntKind.i64.wrap (1 + (res_R_DiffCost_0 r2))))))
        else none)
       else none)
       (if 0 ≤ ((IntKind.i64.wrap ((List.length a0 : Int) - 1)) : Int) ∧ ((IntKind.i64.wrap ((List.length a0 : Int) - 1)) : Int) ≤ (List.length a0 : Int) ∧ 0 ≤ (0 : Int) ∧ (0 : Int) ≤ (IntKind.i64.wrap ((List.length a0 : Int) - 1)) then
        (if 0 ≤ ((IntKind.i64.wrap ((List.length a1 : Int) - 1)) : Int) ∧ ((IntKind.i64.wrap ((List.length a1 : Int) - 1)) : Int) ≤ (List.length a1 : Int) ∧ 0 ≤ (0 : Int) ∧ (0 : Int) ≤ (IntKind.i64.wrap ((List.length a1 : Int) - 1)) then
         ((C_R_DiffCost (F_R_DiffCostk k) (List.drop (Int.toNat 0) (List.take (Int.toNat (IntKind.i64.wrap ((List.length a0 : Int) - 1))) a0)) (List.drop (Int.toNat 0) (List.take (Int.toNat (IntKind.i64.wrap ((List.length a1 : Int) - 1))) a1)) false).bind fun r2 =>
          (some (ret_R_DiffCost (IntKind.i64.wrap (0 + (res_R_DiffCost_0 r2))))))
        else none)
       else none)))
    else none)
   else none)
   (if 0 ≤ ((IntKind.i64.wrap ((List.length a1 : Int) + 1)) : Int) ∧ ((IntKind.i64.wrap ((List.length a1 : Int) + 1)) : Int) = (IntKind.i64.wrap ((List.length a1 : Int) + 1)) ∧ ((IntKind.i64.wrap ((List.length a1 : Int) + 1)) : Int) * 8 ≤ 140737488355328 ∧ ((IntKind.i64.wrap ((List.length a1 : Int) + 1)) : Int) ≤ 140737488355328 then
    (L_R_DiffCost_0 (F_R_DiffCostk k) big big a0 a1 (List.replicate (Int.toNat (IntKind.i64.wrap ((List.length a1 : Int) + 1))) (0 : Int)) (List.length (List.replicate (Int.toNat (IntKind.i64.wrap ((List.length a1 : Int) + 1))) (0 : Int)) : Int) 0)
   else none)) := run_R_DiffCost (F_R_DiffCostk k) big a0 a1 a2
def sig_R_Tied : Sig := ⟨[.v false (.list YElem), .v false (.list YElem)], [], [(false, [.fr .bool])]⟩
def C_R_Tied (F : sig_R_Tied.Fn) (a0 : List YElem.den) (a1 : List YElem.den) : Option sig_R_Tied.Out := F (a0, a1, ()) ()
def ret_R_Tied (v0 : Bool) : sig_R_Tied.Out := (((v0, ()), ()), ())
def res_R_Tied_0 (r : sig_R_Tied.Out) : Bool := r.1.1.1
@[simp] theorem res_R_Tied_0_ret (v0 : Bool) : res_R_Tied_0 (ret_R_Tied v0) = v0 := rfl
def os_R_Tied : RegT := ⟨[], [], false⟩
def hs_R_Tied : List Keep := []
@[reducible] noncomputable def env_R_Tied : Env := []
theorem ok_R_Tied : fnOk os_R_Tied sig_R_Tied Try.f70 = true := by kernel_rfl
theorem fn_R_Tied : P.funcs[70]? = some Try.f70 := by kernel_rfl
noncomputable def F_R_Tied : sig_R_Tied.Fn := fun x y => run T (env_R_Tied) os_R_Tied sig_R_Tied Try.f70 hs_R_Tied big x y
theorem S_R_Tied : Sound P 70 ⟨sig_R_Tied, F_R_Tied⟩ := sound_of (os := os_R_Tied) (hs := hs_R_Tied) (env_nil) fn_R_Tied ok_R_Tied (fun x y out h => ⟨big, h⟩)
theorem e_R_Tied (a0 : List YElem.den) (a1 : List YElem.den) : C_R_Tied F_R_Tied a0 a1 =
  (bcond ((decide (((List.length a0 : Int) : Int) > 0)) == true)
   (bcond ((decide (((List.length a1 : Int) : Int) > 0)) == true)
    (if 0 ≤ ((IntKind.i64.wrap ((List.length a0 : Int) - 1)) : Int) ∧ ((IntKind.i64.wrap ((List.length a0 : Int) - 1)) : Int) < (List.length a0 : Int) then
     (bcond ((((at_ (e := YElem) a0 (IntKind.i64.wrap ((List.length a0 : Int) - 1))).1 : Int) == 10) == true)
      (if 0 ≤ ((IntKind.i64.wrap ((List.length a1 : Int) - 1)) : Int) ∧ ((IntKind.i64.wrap ((List.length a1 : Int) - 1)) : Int) < (List.length a1 : Int) then
       (some (ret_R_Tied (((at_ (e := YElem) a1 (IntKind.i64.wrap ((List.length a1 : Int) - 1))).1 : Int) == 10)))
      else none)
      (some (ret_R_Tied false)))
    else none)
    (some (ret_R_Tied false)))
   (some (ret_R_Tied false))) := by kernel_rfl
end Go.Ev
