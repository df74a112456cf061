/- Functions, step by step. -/
import Derived.Test.YtphlkpahfcainaaGAttr
namespace Go.Ev
set_option linter.unusedVariables false
set_option maxRecDepth 100000
open Go.Proofs

/-! ### chancery/attr.Both$1 -/
def sig115 : Sig := ⟨[.v true YAttr, .v true YAttr, .p 0], [[.ow 112 YAttr]], []⟩
def C115 (F : sig115.Fn) (a0 : YAttr.den) (a1 : YAttr.den) (b0_0 : List YAttr.den) : Option sig115.Out := F (a0, a1, ()) ((b0_0, ()), ())
def ret115 (v0 : List YAttr.den) : sig115.Out := ((), ((v0, ()), ()))
def res115_0 (r : sig115.Out) : List YAttr.den := r.2.1.1
@[simp] theorem res115_0_ret (v0 : List YAttr.den) : res115_0 (ret115 v0) = v0 := rfl
def os115 : List (Nat × Ord) := []
def hs115 : List Keep := []
@[reducible] def env115 : Env := []
theorem run115 (n : Nat) (a0 : YAttr.den) (a1 : YAttr.den) (b0_0 : List YAttr.den) : C115 (fun x y => run T (env115) os115 sig115 Try.f115 hs115 n x y) a0 a1 b0_0 =
  (bcond ((a1.1 : List UInt8) == [])
   (if (List.length (b0_0 : List YAttr.den) + List.length ([a0] : List YAttr.den)) * 32 ≤ 140737488355328 then
    (some (ret115 (b0_0 ++ [a0])))
   else none)
   (if (List.length (b0_0 : List YAttr.den) + List.length ([a1] : List YAttr.den)) * 32 ≤ 140737488355328 then
    (some (ret115 (b0_0 ++ [a1])))
   else none)) := by kernel_rfl
theorem ok115 : fnOk os115 sig115 Try.f115 = true := by kernel_rfl
theorem fn115 : P.funcs[115]? = some Try.f115 := by kernel_rfl
noncomputable def F115 : sig115.Fn := fun x y => run T (env115) os115 sig115 Try.f115 hs115 big x y
theorem S115 : Sound P 115 ⟨sig115, F115⟩ := sound_of (os := os115) (hs := hs115) (env_nil) fn115 ok115 (fun x y out h => ⟨big, h⟩)
theorem e115 (a0 : YAttr.den) (a1 : YAttr.den) (b0_0 : List YAttr.den) : C115 F115 a0 a1 b0_0 =
  (bcond ((a1.1 : List UInt8) == [])
   (if (List.length (b0_0 : List YAttr.den) + List.length ([a0] : List YAttr.den)) * 32 ≤ 140737488355328 then
    (some (ret115 (b0_0 ++ [a0])))
   else none)
   (if (List.length (b0_0 : List YAttr.den) + List.length ([a1] : List YAttr.den)) * 32 ≤ 140737488355328 then
    (some (ret115 (b0_0 ++ [a1])))
   else none)) := run115 big a0 a1 b0_0

/-! ### chancery/attr.both -/
def sig109_115 : Sig := ⟨[.v false (.list YAttr), .v false (.list YAttr), .f 115 [0]], [[.ow 112 YAttr]], []⟩
def C109_115 (F : sig109_115.Fn) (a0 : List YAttr.den) (a1 : List YAttr.den) (b0_0 : List YAttr.den) : Option sig109_115.Out := F (a0, a1, ()) ((b0_0, ()), ())
def ret109_115 (v0 : List YAttr.den) : sig109_115.Out := ((), ((v0, ()), ()))
def res109_115_0 (r : sig109_115.Out) : List YAttr.den := r.2.1.1
@[simp] theorem res109_115_0_ret (v0 : List YAttr.den) : res109_115_0 (ret109_115 v0) = v0 := rfl
def os109_115 : List (Nat × Ord) := [(2, .st 0 (.st 1 (.st 2 (.st 3 (.st 5 (.st 6 (.st 7 (.st 4 (.st 8 (.st 9 (.nil))))))))))), (4, .st 0 (.st 1 (.st 2 (.st 3 (.st 4 (.st 5 (.st 6 (.st 7 (.st 8 (.st 9 (.st 10 (.st 11 (.st 12 (.st 13 (.st 15 (.st 16 (.st 17 (.st 18 (.st 14 (.st 19 (.st 20 (.st 21 (.st 22 (.st 23 (.nil))))))))))))))))))))))))), (7, .st 0 (.st 1 (.st 2 (.st 3 (.st 4 (.st 5 (.st 6 (.st 7 (.st 8 (.st 10 (.st 11 (.st 12 (.st 13 (.st 9 (.st 14 (.st 15 (.st 16 (.st 17 (.nil)))))))))))))))))))]
def hs109_115 : List Keep := [[(0, []), (1, []), (2, []), (6, []), (7, []), (92, [(0, 112, YAttr)])]]
@[reducible] def env109_115 (F115 : sig115.Fn) : Env := [(115, ⟨sig115, F115⟩)]
noncomputable def L109_115_0 (F115 : sig115.Fn) (n m1 : Nat) (x0 : List YAttr.den) (x1 : List YAttr.den) (x6 : Int) (x7 : Int) (x92 : List YAttr.den) : Option sig109_115.Out :=
  loopAt T (env109_115 F115) os109_115 sig109_115 Try.f109 hs109_115 n [.sr, .bl] m1 (mk 93 [(0, .cs false [.val (.list YAttr) x0]), (1, .cs false [.val (.list YAttr) x1]), (2, .cs false [.clo 115 [92]]), (6, .cs false [.val (.int .i64) x6]), (7, .cs false [.val (.int .i64) x7]), (92, .box [.own 112 YAttr x92])])
theorem L109_115_0_step (F115 : sig115.Fn) (n m1 : Nat) (x0 : List YAttr.den) (x1 : List YAttr.den) (x6 : Int) (x7 : Int) (x92 : List YAttr.den) : L109_115_0 F115 n (m1 + 1) x0 x1 x6 x7 x92 =
  (bcond ((decide ((x6 : Int) < (List.length x0 : Int))) == false)
   (bcond (decide ((x7 : Int) < (List.length x1 : Int)))
    (bcond (((x7 : Int) == (List.length x1 : Int)) == false)
     (bcond ((decide ((x6 : Int) < (List.length x0 : Int))) == true)
      (if 0 ≤ (x6 : Int) ∧ (x6 : Int) < (List.length x0 : Int) then
       (if 0 ≤ (x7 : Int) ∧ (x7 : Int) < (List.length x1 : Int) then
        (bcond (strLess (at_ (e := YAttr) x0 x6).1 (at_ (e := YAttr) x1 x7).1)
         (if 0 ≤ (x6 : Int) ∧ (x6 : Int) < (List.length x0 : Int) then
          ((C115 F115 (at_ (e := YAttr) x0 x6) ([], []) x92).bind fun r1 =>
           (L109_115_0 F115 n m1 x0 x1 (IntKind.i64.wrap (x6 + 1)) x7 (res115_0 r1)))
         else none)
         (bcond (((x6 : Int) == (List.length x0 : Int)) == false)
          (if 0 ≤ (x7 : Int) ∧ (x7 : Int) < (List.length x1 : Int) then
           (if 0 ≤ (x6 : Int) ∧ (x6 : Int) < (List.length x0 : Int) then
            (bcond (strLess (at_ (e := YAttr) x1 x7).1 (at_ (e := YAttr) x0 x6).1)
             (if 0 ≤ (x7 : Int) ∧ (x7 : Int) < (List.length x1 : Int) then
              ((C115 F115 ([], []) (at_ (e := YAttr) x1 x7) x92).bind fun r1 =>
               (L109_115_0 F115 n m1 x0 x1 x6 (IntKind.i64.wrap (x7 + 1)) (res115_0 r1)))
             else none)
             (if 0 ≤ (x6 : Int) ∧ (x6 : Int) < (List.length x0 : Int) then
              (if 0 ≤ (x7 : Int) ∧ (x7 : Int) < (List.length x1 : Int) then
               ((C115 F115 (at_ (e := YAttr) x0 x6) (at_ (e := YAttr) x1 x7) x92).bind fun r1 =>
                (L109_115_0 F115 n m1 x0 x1 (IntKind.i64.wrap (x6 + 1)) (IntKind.i64.wrap (x7 + 1)) (res115_0 r1)))
              else none)
             else none))
           else none)
          else none)
          (if 0 ≤ (x7 : Int) ∧ (x7 : Int) < (List.length x1 : Int) then
           ((C115 F115 ([], []) (at_ (e := YAttr) x1 x7) x92).bind fun r1 =>
            (L109_115_0 F115 n m1 x0 x1 x6 (IntKind.i64.wrap (x7 + 1)) (res115_0 r1)))
          else none)))
       else none)
      else none)
      (bcond (((x6 : Int) == (List.length x0 : Int)) == false)
       (if 0 ≤ (x7 : Int) ∧ (x7 : Int) < (List.length x1 : Int) then
        (if 0 ≤ (x6 : Int) ∧ (x6 : Int) < (List.length x0 : Int) then
         (bcond (strLess (at_ (e := YAttr) x1 x7).1 (at_ (e := YAttr) x0 x6).1)
          (if 0 ≤ (x7 : Int) ∧ (x7 : Int) < (List.length x1 : Int) then
           ((C115 F115 ([], []) (at_ (e := YAttr) x1 x7) x92).bind fun r1 =>
            (L109_115_0 F115 n m1 x0 x1 x6 (IntKind.i64.wrap (x7 + 1)) (res115_0 r1)))
          else none)
          (if 0 ≤ (x6 : Int) ∧ (x6 : Int) < (List.length x0 : Int) then
           (if 0 ≤ (x7 : Int) ∧ (x7 : Int) < (List.length x1 : Int) then
            ((C115 F115 (at_ (e := YAttr) x0 x6) (at_ (e := YAttr) x1 x7) x92).bind fun r1 =>
             (L109_115_0 F115 n m1 x0 x1 (IntKind.i64.wrap (x6 + 1)) (IntKind.i64.wrap (x7 + 1)) (res115_0 r1)))
           else none)
          else none))
        else none)
       else none)
       (if 0 ≤ (x7 : Int) ∧ (x7 : Int) < (List.length x1 : Int) then
        ((C115 F115 ([], []) (at_ (e := YAttr) x1 x7) x92).bind fun r1 =>
         (L109_115_0 F115 n m1 x0 x1 x6 (IntKind.i64.wrap (x7 + 1)) (res115_0 r1)))
       else none)))
     (if 0 ≤ (x6 : Int) ∧ (x6 : Int) < (List.length x0 : Int) then
      ((C115 F115 (at_ (e := YAttr) x0 x6) ([], []) x92).bind fun r1 =>
       (L109_115_0 F115 n m1 x0 x1 (IntKind.i64.wrap (x6 + 1)) x7 (res115_0 r1)))
     else none))
    (some (ret109_115 x92)))
   (bcond (((x7 : Int) == (List.length x1 : Int)) == false)
    (bcond ((decide ((x6 : Int) < (List.length x0 : Int))) == true)
     (if 0 ≤ (x6 : Int) ∧ (x6 : Int) < (List.length x0 : Int) then
      (if 0 ≤ (x7 : Int) ∧ (x7 : Int) < (List.length x1 : Int) then
       (bcond (strLess (at_ (e := YAttr) x0 x6).1 (at_ (e := YAttr) x1 x7).1)
        (if 0 ≤ (x6 : Int) ∧ (x6 : Int) < (List.length x0 : Int) then
         ((C115 F115 (at_ (e := YAttr) x0 x6) ([], []) x92).bind fun r1 =>
          (L109_115_0 F115 n m1 x0 x1 (IntKind.i64.wrap (x6 + 1)) x7 (res115_0 r1)))
        else none)
        (bcond (((x6 : Int) == (List.length x0 : Int)) == false)
         (if 0 ≤ (x7 : Int) ∧ (x7 : Int) < (List.length x1 : Int) then
          (if 0 ≤ (x6 : Int) ∧ (x6 : Int) < (List.length x0 : Int) then
           (bcond (strLess (at_ (e := YAttr) x1 x7).1 (at_ (e := YAttr) x0 x6).1)
            (if 0 ≤ (x7 : Int) ∧ (x7 : Int) < (List.length x1 : Int) then
             ((C115 F115 ([], []) (at_ (e := YAttr) x1 x7) x92).bind fun r1 =>
              (L109_115_0 F115 n m1 x0 x1 x6 (IntKind.i64.wrap (x7 + 1)) (res115_0 r1)))
            else none)
            (if 0 ≤ (x6 : Int) ∧ (x6 : Int) < (List.length x0 : Int) then
             (if 0 ≤ (x7 : Int) ∧ (x7 : Int) < (List.length x1 : Int) then
              ((C115 F115 (at_ (e := YAttr) x0 x6) (at_ (e := YAttr) x1 x7) x92).bind fun r1 =>
               (L109_115_0 F115 n m1 x0 x1 (IntKind.i64.wrap (x6 + 1)) (IntKind.i64.wrap (x7 + 1)) (res115_0 r1)))
             else none)
            else none))
          else none)
         else none)
         (if 0 ≤ (x7 : Int) ∧ (x7 : Int) < (List.length x1 : Int) then
          ((C115 F115 ([], []) (at_ (e := YAttr) x1 x7) x92).bind fun r1 =>
           (L109_115_0 F115 n m1 x0 x1 x6 (IntKind.i64.wrap (x7 + 1)) (res115_0 r1)))
         else none)))
      else none)
     else none)
     (bcond (((x6 : Int) == (List.length x0 : Int)) == false)
      (if 0 ≤ (x7 : Int) ∧ (x7 : Int) < (List.length x1 : Int) then
       (if 0 ≤ (x6 : Int) ∧ (x6 : Int) < (List.length x0 : Int) then
        (bcond (strLess (at_ (e := YAttr) x1 x7).1 (at_ (e := YAttr) x0 x6).1)
         (if 0 ≤ (x7 : Int) ∧ (x7 : Int) < (List.length x1 : Int) then
          ((C115 F115 ([], []) (at_ (e := YAttr) x1 x7) x92).bind fun r1 =>
           (L109_115_0 F115 n m1 x0 x1 x6 (IntKind.i64.wrap (x7 + 1)) (res115_0 r1)))
         else none)
         (if 0 ≤ (x6 : Int) ∧ (x6 : Int) < (List.length x0 : Int) then
          (if 0 ≤ (x7 : Int) ∧ (x7 : Int) < (List.length x1 : Int) then
           ((C115 F115 (at_ (e := YAttr) x0 x6) (at_ (e := YAttr) x1 x7) x92).bind fun r1 =>
            (L109_115_0 F115 n m1 x0 x1 (IntKind.i64.wrap (x6 + 1)) (IntKind.i64.wrap (x7 + 1)) (res115_0 r1)))
          else none)
         else none))
       else none)
      else none)
      (if 0 ≤ (x7 : Int) ∧ (x7 : Int) < (List.length x1 : Int) then
       ((C115 F115 ([], []) (at_ (e := YAttr) x1 x7) x92).bind fun r1 =>
        (L109_115_0 F115 n m1 x0 x1 x6 (IntKind.i64.wrap (x7 + 1)) (res115_0 r1)))
      else none)))
    (if 0 ≤ (x6 : Int) ∧ (x6 : Int) < (List.length x0 : Int) then
     ((C115 F115 (at_ (e := YAttr) x0 x6) ([], []) x92).bind fun r1 =>
      (L109_115_0 F115 n m1 x0 x1 (IntKind.i64.wrap (x6 + 1)) x7 (res115_0 r1)))
    else none))) := by kernel_rfl
theorem run109_115 (F115 : sig115.Fn) (n : Nat) (a0 : List YAttr.den) (a1 : List YAttr.den) (b0_0 : List YAttr.den) : C109_115 (fun x y => run T (env109_115 F115) os109_115 sig109_115 Try.f109 hs109_115 n x y) a0 a1 b0_0 =
  (L109_115_0 F115 n n a0 a1 0 0 b0_0) := by kernel_rfl
theorem ok109_115 : fnOk os109_115 sig109_115 Try.f109 = true := by kernel_rfl
theorem fn109_115 : P.funcs[109]? = some Try.f109 := by kernel_rfl
noncomputable def F109_115 : sig109_115.Fn := fun x y => run T (env109_115 F115) os109_115 sig109_115 Try.f109 hs109_115 big x y
theorem S109_115 : Sound P 109 ⟨sig109_115, F109_115⟩ := sound_of (os := os109_115) (hs := hs109_115) (env_cons S115 (env_nil)) fn109_115 ok109_115 (fun x y out h => ⟨big, h⟩)
theorem e109_115 (a0 : List YAttr.den) (a1 : List YAttr.den) (b0_0 : List YAttr.den) : C109_115 F109_115 a0 a1 b0_0 =
  (L109_115_0 F115 big big a0 a1 0 0 b0_0) := run109_115 F115 big a0 a1 b0_0

/-! ### chancery/attr.Both -/
def sig96 : Sig := ⟨[.v false (.list YAttr), .v false (.list YAttr)], [], [(false, [.fr (.list YAttr)])]⟩
def C96 (F : sig96.Fn) (a0 : List YAttr.den) (a1 : List YAttr.den) : Option sig96.Out := F (a0, a1, ()) ()
def ret96 (v0 : List YAttr.den) : sig96.Out := (((v0, ()), ()), ())
def res96_0 (r : sig96.Out) : List YAttr.den := r.1.1.1
@[simp] theorem res96_0_ret (v0 : List YAttr.den) : res96_0 (ret96 v0) = v0 := rfl
def os96 : List (Nat × Ord) := []
def hs96 : List Keep := []
@[reducible] def env96 (F109_115 : sig109_115.Fn) : Env := [(109, ⟨sig109_115, F109_115⟩)]
theorem run96 (F109_115 : sig109_115.Fn) (n : Nat) (a0 : List YAttr.den) (a1 : List YAttr.den) : C96 (fun x y => run T (env96 F109_115) os96 sig96 Try.f96 hs96 n x y) a0 a1 =
  ((C109_115 F109_115 a0 a1 []).bind fun r1 =>
   (some (ret96 (res109_115_0 r1)))) := by kernel_rfl
theorem ok96 : fnOk os96 sig96 Try.f96 = true := by kernel_rfl
theorem fn96 : P.funcs[96]? = some Try.f96 := by kernel_rfl
noncomputable def F96 : sig96.Fn := fun x y => run T (env96 F109_115) os96 sig96 Try.f96 hs96 big x y
theorem S96 : Sound P 96 ⟨sig96, F96⟩ := sound_of (os := os96) (hs := hs96) (env_cons S109_115 (env_nil)) fn96 ok96 (fun x y out h => ⟨big, h⟩)
theorem e96 (a0 : List YAttr.den) (a1 : List YAttr.den) : C96 F96 a0 a1 =
  ((C109_115 F109_115 a0 a1 []).bind fun r1 =>
   (some (ret96 (res109_115_0 r1)))) := run96 F109_115 big a0 a1

/-! ### chancery/attr.Join -/
def sig55 : Sig := ⟨[.v false (.list YAttr), .v false (.list YAttr)], [], [(false, [.fr (.list YAttr)]), (false, [.fr (.int .i64)])]⟩
def C55 (F : sig55.Fn) (a0 : List YAttr.den) (a1 : List YAttr.den) : Option sig55.Out := F (a0, a1, ()) ()
def ret55 (v0 : List YAttr.den) (v1 : Int) : sig55.Out := (((v0, ()), (v1, ()), ()), ())
def res55_0 (r : sig55.Out) : List YAttr.den := r.1.1.1
@[simp] theorem res55_0_ret (v0 : List YAttr.den) (v1 : Int) : res55_0 (ret55 v0 v1) = v0 := rfl
def res55_1 (r : sig55.Out) : Int := r.1.2.1.1
@[simp] theorem res55_1_ret (v0 : List YAttr.den) (v1 : Int) : res55_1 (ret55 v0 v1) = v1 := rfl
def os55 : List (Nat × Ord) := []
def hs55 : List Keep := []
@[reducible] def env55 (F40 : sig40.Fn) (F96 : sig96.Fn) : Env := [(40, ⟨sig40, F40⟩), (96, ⟨sig96, F96⟩)]
theorem run55 (F40 : sig40.Fn) (F96 : sig96.Fn) (n : Nat) (a0 : List YAttr.den) (a1 : List YAttr.den) : C55 (fun x y => run T (env55 F40 F96) os55 sig55 Try.f55 hs55 n x y) a0 a1 =
  ((C40 F40 a0).bind fun r1 =>
   (bcond (((res40_0 r1) : Int) != 0)
    (some (ret55 [] (res40_0 r1)))
    ((C40 F40 a1).bind fun r2 =>
     (bcond (((res40_0 r2) : Int) != 0)
      (some (ret55 [] (res40_0 r2)))
      ((C96 F96 a0 a1).bind fun r3 =>
       (some (ret55 (res96_0 r3) 0))))))) := by kernel_rfl
theorem ok55 : fnOk os55 sig55 Try.f55 = true := by kernel_rfl
theorem fn55 : P.funcs[55]? = some Try.f55 := by kernel_rfl
noncomputable def F55 : sig55.Fn := fun x y => run T (env55 F40 F96) os55 sig55 Try.f55 hs55 big x y
theorem S55 : Sound P 55 ⟨sig55, F55⟩ := sound_of (os := os55) (hs := hs55) (env_cons S40 (env_cons S96 (env_nil))) fn55 ok55 (fun x y out h => ⟨big, h⟩)
theorem e55 (a0 : List YAttr.den) (a1 : List YAttr.den) : C55 F55 a0 a1 =
  ((C40 F40 a0).bind fun r1 =>
   (bcond (((res40_0 r1) : Int) != 0)
    (some (ret55 [] (res40_0 r1)))
    ((C40 F40 a1).bind fun r2 =>
     (bcond (((res40_0 r2) : Int) != 0)
      (some (ret55 [] (res40_0 r2)))
      ((C96 F96 a0 a1).bind fun r3 =>
       (some (ret55 (res96_0 r3) 0))))))) := run55 F40 F96 big a0 a1

/-! ### chancery/attr.Without$1 -/
def sig116 : Sig := ⟨[.v true YAttr, .v true YAttr, .p 0], [[.ow 112 YAttr]], []⟩
def C116 (F : sig116.Fn) (a0 : YAttr.den) (a1 : YAttr.den) (b0_0 : List YAttr.den) : Option sig116.Out := F (a0, a1, ()) ((b0_0, ()), ())
def ret116 (v0 : List YAttr.den) : sig116.Out := ((), ((v0, ()), ()))
def res116_0 (r : sig116.Out) : List YAttr.den := r.2.1.1
@[simp] theorem res116_0_ret (v0 : List YAttr.den) : res116_0 (ret116 v0) = v0 := rfl
def os116 : List (Nat × Ord) := []
def hs116 : List Keep := []
@[reducible] def env116 : Env := []
theorem run116 (n : Nat) (a0 : YAttr.den) (a1 : YAttr.den) (b0_0 : List YAttr.den) : C116 (fun x y => run T (env116) os116 sig116 Try.f116 hs116 n x y) a0 a1 b0_0 =
  (bcond ((a1.1 : List UInt8) == [])
   (if (List.length (b0_0 : List YAttr.den) + List.length ([a0] : List YAttr.den)) * 32 ≤ 140737488355328 then
    (some (ret116 (b0_0 ++ [a0])))
   else none)
   (some (ret116 b0_0))) := by kernel_rfl
theorem ok116 : fnOk os116 sig116 Try.f116 = true := by kernel_rfl
theorem fn116 : P.funcs[116]? = some Try.f116 := by kernel_rfl
noncomputable def F116 : sig116.Fn := fun x y => run T (env116) os116 sig116 Try.f116 hs116 big x y
theorem S116 : Sound P 116 ⟨sig116, F116⟩ := sound_of (os := os116) (hs := hs116) (env_nil) fn116 ok116 (fun x y out h => ⟨big, h⟩)
theorem e116 (a0 : YAttr.den) (a1 : YAttr.den) (b0_0 : List YAttr.den) : C116 F116 a0 a1 b0_0 =
  (bcond ((a1.1 : List UInt8) == [])
   (if (List.length (b0_0 : List YAttr.den) + List.length ([a0] : List YAttr.den)) * 32 ≤ 140737488355328 then
    (some (ret116 (b0_0 ++ [a0])))
   else none)
   (some (ret116 b0_0))) := run116 big a0 a1 b0_0

/-! ### chancery/attr.both -/
def sig109_116 : Sig := ⟨[.v false (.list YAttr), .v false (.list YAttr), .f 116 [0]], [[.ow 112 YAttr]], []⟩
def C109_116 (F : sig109_116.Fn) (a0 : List YAttr.den) (a1 : List YAttr.den) (b0_0 : List YAttr.den) : Option sig109_116.Out := F (a0, a1, ()) ((b0_0, ()), ())
def ret109_116 (v0 : List YAttr.den) : sig109_116.Out := ((), ((v0, ()), ()))
def res109_116_0 (r : sig109_116.Out) : List YAttr.den := r.2.1.1
@[simp] theorem res109_116_0_ret (v0 : List YAttr.den) : res109_116_0 (ret109_116 v0) = v0 := rfl
def os109_116 : List (Nat × Ord) := [(2, .st 0 (.st 1 (.st 2 (.st 3 (.st 5 (.st 6 (.st 7 (.st 4 (.st 8 (.st 9 (.nil))))))))))), (4, .st 0 (.st 1 (.st 2 (.st 3 (.st 4 (.st 5 (.st 6 (.st 7 (.st 8 (.st 9 (.st 10 (.st 11 (.st 12 (.st 13 (.st 15 (.st 16 (.st 17 (.st 18 (.st 14 (.st 19 (.st 20 (.st 21 (.st 22 (.st 23 (.nil))))))))))))))))))))))))), (7, .st 0 (.st 1 (.st 2 (.st 3 (.st 4 (.st 5 (.st 6 (.st 7 (.st 8 (.st 10 (.st 11 (.st 12 (.st 13 (.st 9 (.st 14 (.st 15 (.st 16 (.st 17 (.nil)))))))))))))))))))]
def hs109_116 : List Keep := [[(0, []), (1, []), (2, []), (6, []), (7, []), (92, [(0, 112, YAttr)])]]
@[reducible] def env109_116 (F116 : sig116.Fn) : Env := [(116, ⟨sig116, F116⟩)]
noncomputable def L109_116_0 (F116 : sig116.Fn) (n m1 : Nat) (x0 : List YAttr.den) (x1 : List YAttr.den) (x6 : Int) (x7 : Int) (x92 : List YAttr.den) : Option sig109_116.Out :=
  loopAt T (env109_116 F116) os109_116 sig109_116 Try.f109 hs109_116 n [.sr, .bl] m1 (mk 93 [(0, .cs false [.val (.list YAttr) x0]), (1, .cs false [.val (.list YAttr) x1]), (2, .cs false [.clo 116 [92]]), (6, .cs false [.val (.int .i64) x6]), (7, .cs false [.val (.int .i64) x7]), (92, .box [.own 112 YAttr x92])])
theorem L109_116_0_step (F116 : sig116.Fn) (n m1 : Nat) (x0 : List YAttr.den) (x1 : List YAttr.den) (x6 : Int) (x7 : Int) (x92 : List YAttr.den) : L109_116_0 F116 n (m1 + 1) x0 x1 x6 x7 x92 =
  (bcond ((decide ((x6 : Int) < (List.length x0 : Int))) == false)
   (bcond (decide ((x7 : Int) < (List.length x1 : Int)))
    (bcond (((x7 : Int) == (List.length x1 : Int)) == false)
     (bcond ((decide ((x6 : Int) < (List.length x0 : Int))) == true)
      (if 0 ≤ (x6 : Int) ∧ (x6 : Int) < (List.length x0 : Int) then
       (if 0 ≤ (x7 : Int) ∧ (x7 : Int) < (List.length x1 : Int) then
        (bcond (strLess (at_ (e := YAttr) x0 x6).1 (at_ (e := YAttr) x1 x7).1)
         (if 0 ≤ (x6 : Int) ∧ (x6 : Int) < (List.length x0 : Int) then
          ((C116 F116 (at_ (e := YAttr) x0 x6) ([], []) x92).bind fun r1 =>
           (L109_116_0 F116 n m1 x0 x1 (IntKind.i64.wrap (x6 + 1)) x7 (res116_0 r1)))
         else none)
         (bcond (((x6 : Int) == (List.length x0 : Int)) == false)
          (if 0 ≤ (x7 : Int) ∧ (x7 : Int) < (List.length x1 : Int) then
           (if 0 ≤ (x6 : Int) ∧ (x6 : Int) < (List.length x0 : Int) then
            (bcond (strLess (at_ (e := YAttr) x1 x7).1 (at_ (e := YAttr) x0 x6).1)
             (if 0 ≤ (x7 : Int) ∧ (x7 : Int) < (List.length x1 : Int) then
              ((C116 F116 ([], []) (at_ (e := YAttr) x1 x7) x92).bind fun r1 =>
               (L109_116_0 F116 n m1 x0 x1 x6 (IntKind.i64.wrap (x7 + 1)) (res116_0 r1)))
             else none)
             (if 0 ≤ (x6 : Int) ∧ (x6 : Int) < (List.length x0 : Int) then
              (if 0 ≤ (x7 : Int) ∧ (x7 : Int) < (List.length x1 : Int) then
               ((C116 F116 (at_ (e := YAttr) x0 x6) (at_ (e := YAttr) x1 x7) x92).bind fun r1 =>
                (L109_116_0 F116 n m1 x0 x1 (IntKind.i64.wrap (x6 + 1)) (IntKind.i64.wrap (x7 + 1)) (res116_0 r1)))
              else none)
             else none))
           else none)
          else none)
          (if 0 ≤ (x7 : Int) ∧ (x7 : Int) < (List.length x1 : Int) then
           ((C116 F116 ([], []) (at_ (e := YAttr) x1 x7) x92).bind fun r1 =>
            (L109_116_0 F116 n m1 x0 x1 x6 (IntKind.i64.wrap (x7 + 1)) (res116_0 r1)))
          else none)))
       else none)
      else none)
      (bcond (((x6 : Int) == (List.length x0 : Int)) == false)
       (if 0 ≤ (x7 : Int) ∧ (x7 : Int) < (List.length x1 : Int) then
        (if 0 ≤ (x6 : Int) ∧ (x6 : Int) < (List.length x0 : Int) then
         (bcond (strLess (at_ (e := YAttr) x1 x7).1 (at_ (e := YAttr) x0 x6).1)
          (if 0 ≤ (x7 : Int) ∧ (x7 : Int) < (List.length x1 : Int) then
           ((C116 F116 ([], []) (at_ (e := YAttr) x1 x7) x92).bind fun r1 =>
            (L109_116_0 F116 n m1 x0 x1 x6 (IntKind.i64.wrap (x7 + 1)) (res116_0 r1)))
          else none)
          (if 0 ≤ (x6 : Int) ∧ (x6 : Int) < (List.length x0 : Int) then
           (if 0 ≤ (x7 : Int) ∧ (x7 : Int) < (List.length x1 : Int) then
            ((C116 F116 (at_ (e := YAttr) x0 x6) (at_ (e := YAttr) x1 x7) x92).bind fun r1 =>
             (L109_116_0 F116 n m1 x0 x1 (IntKind.i64.wrap (x6 + 1)) (IntKind.i64.wrap (x7 + 1)) (res116_0 r1)))
           else none)
          else none))
        else none)
       else none)
       (if 0 ≤ (x7 : Int) ∧ (x7 : Int) < (List.length x1 : Int) then
        ((C116 F116 ([], []) (at_ (e := YAttr) x1 x7) x92).bind fun r1 =>
         (L109_116_0 F116 n m1 x0 x1 x6 (IntKind.i64.wrap (x7 + 1)) (res116_0 r1)))
       else none)))
     (if 0 ≤ (x6 : Int) ∧ (x6 : Int) < (List.length x0 : Int) then
      ((C116 F116 (at_ (e := YAttr) x0 x6) ([], []) x92).bind fun r1 =>
       (L109_116_0 F116 n m1 x0 x1 (IntKind.i64.wrap (x6 + 1)) x7 (res116_0 r1)))
     else none))
    (some (ret109_116 x92)))
   (bcond (((x7 : Int) == (List.length x1 : Int)) == false)
    (bcond ((decide ((x6 : Int) < (List.length x0 : Int))) == true)
     (if 0 ≤ (x6 : Int) ∧ (x6 : Int) < (List.length x0 : Int) then
      (if 0 ≤ (x7 : Int) ∧ (x7 : Int) < (List.length x1 : Int) then
       (bcond (strLess (at_ (e := YAttr) x0 x6).1 (at_ (e := YAttr) x1 x7).1)
        (if 0 ≤ (x6 : Int) ∧ (x6 : Int) < (List.length x0 : Int) then
         ((C116 F116 (at_ (e := YAttr) x0 x6) ([], []) x92).bind fun r1 =>
          (L109_116_0 F116 n m1 x0 x1 (IntKind.i64.wrap (x6 + 1)) x7 (res116_0 r1)))
        else none)
        (bcond (((x6 : Int) == (List.length x0 : Int)) == false)
         (if 0 ≤ (x7 : Int) ∧ (x7 : Int) < (List.length x1 : Int) then
          (if 0 ≤ (x6 : Int) ∧ (x6 : Int) < (List.length x0 : Int) then
           (bcond (strLess (at_ (e := YAttr) x1 x7).1 (at_ (e := YAttr) x0 x6).1)
            (if 0 ≤ (x7 : Int) ∧ (x7 : Int) < (List.length x1 : Int) then
             ((C116 F116 ([], []) (at_ (e := YAttr) x1 x7) x92).bind fun r1 =>
              (L109_116_0 F116 n m1 x0 x1 x6 (IntKind.i64.wrap (x7 + 1)) (res116_0 r1)))
            else none)
            (if 0 ≤ (x6 : Int) ∧ (x6 : Int) < (List.length x0 : Int) then
             (if 0 ≤ (x7 : Int) ∧ (x7 : Int) < (List.length x1 : Int) then
              ((C116 F116 (at_ (e := YAttr) x0 x6) (at_ (e := YAttr) x1 x7) x92).bind fun r1 =>
               (L109_116_0 F116 n m1 x0 x1 (IntKind.i64.wrap (x6 + 1)) (IntKind.i64.wrap (x7 + 1)) (res116_0 r1)))
             else none)
            else none))
          else none)
         else none)
         (if 0 ≤ (x7 : Int) ∧ (x7 : Int) < (List.length x1 : Int) then
          ((C116 F116 ([], []) (at_ (e := YAttr) x1 x7) x92).bind fun r1 =>
           (L109_116_0 F116 n m1 x0 x1 x6 (IntKind.i64.wrap (x7 + 1)) (res116_0 r1)))
         else none)))
      else none)
     else none)
     (bcond (((x6 : Int) == (List.length x0 : Int)) == false)
      (if 0 ≤ (x7 : Int) ∧ (x7 : Int) < (List.length x1 : Int) then
       (if 0 ≤ (x6 : Int) ∧ (x6 : Int) < (List.length x0 : Int) then
        (bcond (strLess (at_ (e := YAttr) x1 x7).1 (at_ (e := YAttr) x0 x6).1)
         (if 0 ≤ (x7 : Int) ∧ (x7 : Int) < (List.length x1 : Int) then
          ((C116 F116 ([], []) (at_ (e := YAttr) x1 x7) x92).bind fun r1 =>
           (L109_116_0 F116 n m1 x0 x1 x6 (IntKind.i64.wrap (x7 + 1)) (res116_0 r1)))
         else none)
         (if 0 ≤ (x6 : Int) ∧ (x6 : Int) < (List.length x0 : Int) then
          (if 0 ≤ (x7 : Int) ∧ (x7 : Int) < (List.length x1 : Int) then
           ((C116 F116 (at_ (e := YAttr) x0 x6) (at_ (e := YAttr) x1 x7) x92).bind fun r1 =>
            (L109_116_0 F116 n m1 x0 x1 (IntKind.i64.wrap (x6 + 1)) (IntKind.i64.wrap (x7 + 1)) (res116_0 r1)))
          else none)
         else none))
       else none)
      else none)
      (if 0 ≤ (x7 : Int) ∧ (x7 : Int) < (List.length x1 : Int) then
       ((C116 F116 ([], []) (at_ (e := YAttr) x1 x7) x92).bind fun r1 =>
        (L109_116_0 F116 n m1 x0 x1 x6 (IntKind.i64.wrap (x7 + 1)) (res116_0 r1)))
      else none)))
    (if 0 ≤ (x6 : Int) ∧ (x6 : Int) < (List.length x0 : Int) then
     ((C116 F116 (at_ (e := YAttr) x0 x6) ([], []) x92).bind fun r1 =>
      (L109_116_0 F116 n m1 x0 x1 (IntKind.i64.wrap (x6 + 1)) x7 (res116_0 r1)))
    else none))) := by kernel_rfl
theorem run109_116 (F116 : sig116.Fn) (n : Nat) (a0 : List YAttr.den) (a1 : List YAttr.den) (b0_0 : List YAttr.den) : C109_116 (fun x y => run T (env109_116 F116) os109_116 sig109_116 Try.f109 hs109_116 n x y) a0 a1 b0_0 =
  (L109_116_0 F116 n n a0 a1 0 0 b0_0) := by kernel_rfl
theorem ok109_116 : fnOk os109_116 sig109_116 Try.f109 = true := by kernel_rfl
theorem fn109_116 : P.funcs[109]? = some Try.f109 := by kernel_rfl
noncomputable def F109_116 : sig109_116.Fn := fun x y => run T (env109_116 F116) os109_116 sig109_116 Try.f109 hs109_116 big x y
theorem S109_116 : Sound P 109 ⟨sig109_116, F109_116⟩ := sound_of (os := os109_116) (hs := hs109_116) (env_cons S116 (env_nil)) fn109_116 ok109_116 (fun x y out h => ⟨big, h⟩)
theorem e109_116 (a0 : List YAttr.den) (a1 : List YAttr.den) (b0_0 : List YAttr.den) : C109_116 F109_116 a0 a1 b0_0 =
  (L109_116_0 F116 big big a0 a1 0 0 b0_0) := run109_116 F116 big a0 a1 b0_0

/-! ### chancery/attr.Without -/
def sig97 : Sig := ⟨[.v false (.list YAttr), .v false (.list YAttr)], [], [(false, [.fr (.list YAttr)])]⟩
def C97 (F : sig97.Fn) (a0 : List YAttr.den) (a1 : List YAttr.den) : Option sig97.Out := F (a0, a1, ()) ()
def ret97 (v0 : List YAttr.den) : sig97.Out := (((v0, ()), ()), ())
def res97_0 (r : sig97.Out) : List YAttr.den := r.1.1.1
@[simp] theorem res97_0_ret (v0 : List YAttr.den) : res97_0 (ret97 v0) = v0 := rfl
def os97 : List (Nat × Ord) := []
def hs97 : List Keep := []
@[reducible] def env97 (F109_116 : sig109_116.Fn) : Env := [(109, ⟨sig109_116, F109_116⟩)]
theorem run97 (F109_116 : sig109_116.Fn) (n : Nat) (a0 : List YAttr.den) (a1 : List YAttr.den) : C97 (fun x y => run T (env97 F109_116) os97 sig97 Try.f97 hs97 n x y) a0 a1 =
  ((C109_116 F109_116 a0 a1 []).bind fun r1 =>
   (some (ret97 (res109_116_0 r1)))) := by kernel_rfl
theorem ok97 : fnOk os97 sig97 Try.f97 = true := by kernel_rfl
theorem fn97 : P.funcs[97]? = some Try.f97 := by kernel_rfl
noncomputable def F97 : sig97.Fn := fun x y => run T (env97 F109_116) os97 sig97 Try.f97 hs97 big x y
theorem S97 : Sound P 97 ⟨sig97, F97⟩ := sound_of (os := os97) (hs := hs97) (env_cons S109_116 (env_nil)) fn97 ok97 (fun x y out h => ⟨big, h⟩)
theorem e97 (a0 : List YAttr.den) (a1 : List YAttr.den) : C97 F97 a0 a1 =
  ((C109_116 F109_116 a0 a1 []).bind fun r1 =>
   (some (ret97 (res109_116_0 r1)))) := run97 F109_116 big a0 a1

/-! ### chancery/attr.Pair -/
def sig56 : Sig := ⟨[.v false (.list YAttr), .v false (.list YAttr)], [], [(false, [.fr (.list YAttr)]), (false, [.fr (.list YAttr)]), (false, [.fr (.int .i64)])]⟩
def C56 (F : sig56.Fn) (a0 : List YAttr.den) (a1 : List YAttr.den) : Option sig56.Out := F (a0, a1, ()) ()
def ret56 (v0 : List YAttr.den) (v1 : List YAttr.den) (v2 : Int) : sig56.Out := (((v0, ()), (v1, ()), (v2, ()), ()), ())
def res56_0 (r : sig56.Out) : List YAttr.den := r.1.1.1
@[simp] theorem res56_0_ret (v0 : List YAttr.den) (v1 : List YAttr.den) (v2 : Int) : res56_0 (ret56 v0 v1 v2) = v0 := rfl
def res56_1 (r : sig56.Out) : List YAttr.den := r.1.2.1.1
@[simp] theorem res56_1_ret (v0 : List YAttr.den) (v1 : List YAttr.den) (v2 : Int) : res56_1 (ret56 v0 v1 v2) = v1 := rfl
def res56_2 (r : sig56.Out) : Int := r.1.2.2.1.1
@[simp] theorem res56_2_ret (v0 : List YAttr.den) (v1 : List YAttr.den) (v2 : Int) : res56_2 (ret56 v0 v1 v2) = v2 := rfl
def os56 : List (Nat × Ord) := []
def hs56 : List Keep := []
@[reducible] def env56 (F40 : sig40.Fn) (F97 : sig97.Fn) : Env := [(40, ⟨sig40, F40⟩), (97, ⟨sig97, F97⟩)]
theorem run56 (F40 : sig40.Fn) (F97 : sig97.Fn) (n : Nat) (a0 : List YAttr.den) (a1 : List YAttr.den) : C56 (fun x y => run T (env56 F40 F97) os56 sig56 Try.f56 hs56 n x y) a0 a1 =
  ((C40 F40 a0).bind fun r1 =>
   (bcond (((res40_0 r1) : Int) != 0)
    (some (ret56 [] [] (res40_0 r1)))
    ((C40 F40 a1).bind fun r2 =>
     (bcond (((res40_0 r2) : Int) != 0)
      (some (ret56 [] [] (res40_0 r2)))
      ((C97 F97 a0 a1).bind fun r3 =>
       (if List.length (a1 : List YAttr.den) * 32 ≤ 140737488355328 then
        (some (ret56 (res97_0 r3) a1 0))
       else none)))))) := by kernel_rfl
theorem ok56 : fnOk os56 sig56 Try.f56 = true := by kernel_rfl
theorem fn56 : P.funcs[56]? = some Try.f56 := by kernel_rfl
noncomputable def F56 : sig56.Fn := fun x y => run T (env56 F40 F97) os56 sig56 Try.f56 hs56 big x y
theorem S56 : Sound P 56 ⟨sig56, F56⟩ := sound_of (os := os56) (hs := hs56) (env_cons S40 (env_cons S97 (env_nil))) fn56 ok56 (fun x y out h => ⟨big, h⟩)
theorem e56 (a0 : List YAttr.den) (a1 : List YAttr.den) : C56 F56 a0 a1 =
  ((C40 F40 a0).bind fun r1 =>
   (bcond (((res40_0 r1) : Int) != 0)
    (some (ret56 [] [] (res40_0 r1)))
    ((C40 F40 a1).bind fun r2 =>
     (bcond (((res40_0 r2) : Int) != 0)
      (some (ret56 [] [] (res40_0 r2)))
      ((C97 F97 a0 a1).bind fun r3 =>
       (if List.length (a1 : List YAttr.den) * 32 ≤ 140737488355328 then
        (some (ret56 (res97_0 r3) a1 0))
       else none)))))) := run56 F40 F97 big a0 a1

/-! ### chancery/chanceryref1.put -/
def sig90 : Sig := ⟨[.v false (.list YAttr), .v true YAttr], [], [(false, [.fr (.list YAttr)])]⟩
def C90 (F : sig90.Fn) (a0 : List YAttr.den) (a1 : YAttr.den) : Option sig90.Out := F (a0, a1, ()) ()
def ret90 (v0 : List YAttr.den) : sig90.Out := (((v0, ()), ()), ())
def res90_0 (r : sig90.Out) : List YAttr.den := r.1.1.1
@[simp] theorem res90_0_ret (v0 : List YAttr.den) : res90_0 (ret90 v0) = v0 := rfl
def os90 : List (Nat × Ord) := [(6, .st 0 (.st 1 (.st 2 (.st 3 (.st 4 (.st 5 (.st 6 (.st 8 (.st 7 (.st 9 (.st 10 (.st 11 (.nil))))))))))))), (9, .st 0 (.st 1 (.st 2 (.st 3 (.st 5 (.st 4 (.st 6 (.st 7 (.nil)))))))))]
def hs90 : List Keep := [[(0, []), (3, []), (5, [(0, 112, YAttr)]), (6, []), (9, []), (10, [])]]
@[reducible] def env90 : Env := []
noncomputable def L90_0 (n m1 : Nat) (x0 : List YAttr.den) (x3_0 : List UInt8) (x3_1 : List UInt8) (x5 : List YAttr.den) (x6 : Bool) (x9 : Int) (x10 : Int) : Option sig90.Out :=
  loopAt T (env90) os90 sig90 Try.f90 hs90 n [.sr, .sr, .sr, .sl, .sr, .bl] m1 (mk 52 [(0, .cs false [.val (.list YAttr) x0]), (3, .box [.val .str x3_0, .val .str x3_1]), (5, .cs false [.own 112 YAttr x5]), (6, .cs false [.val .bool x6]), (9, .cs false [.val (.int .i64) x9]), (10, .cs false [.val (.int .i64) x10])])
theorem L90_0_step (n m1 : Nat) (x0 : List YAttr.den) (x3_0 : List UInt8) (x3_1 : List UInt8) (x5 : List YAttr.den) (x6 : Bool) (x9 : Int) (x10 : Int) : L90_0 n (m1 + 1) x0 x3_0 x3_1 x5 x6 x9 x10 =
  (bcond (decide ((x10 : Int) < x9))
   (bcond ((!x6) == true)
    (if 0 ≤ (x10 : Int) ∧ (x10 : Int) < (List.length x0 : Int) then
     (bcond (!strLess (at_ (e := YAttr) x0 x10).1 x3_0)
      (if (List.length (x5 : List YAttr.den) + List.length ([(x3_0, x3_1)] : List YAttr.den)) * 32 ≤ 140737488355328 then
       (if 0 ≤ (x10 : Int) ∧ (x10 : Int) < (List.length x0 : Int) then
        (bcond (!(((at_ (e := YAttr) x0 x10).1 : List UInt8) == x3_0))
         (if 0 ≤ (x10 : Int) ∧ (x10 : Int) < (List.length x0 : Int) then
          (if (List.length ((x5 ++ [(x3_0, x3_1)]) : List YAttr.den) + List.length ([(at_ (e := YAttr) x0 x10)] : List YAttr.den)) * 32 ≤ 140737488355328 then
           (L90_0 n m1 x0 x3_0 x3_1 ((x5 ++ [(x3_0, x3_1)]) ++ [(at_ (e := YAttr) x0 x10)]) true x9 (IntKind.i64.wrap (x10 + 1)))
          else none)
         else none)
         (L90_0 n m1 x0 x3_0 x3_1 (x5 ++ [(x3_0, x3_1)]) true x9 (IntKind.i64.wrap (x10 + 1))))
       else none)
      else none)
      (if 0 ≤ (x10 : Int) ∧ (x10 : Int) < (List.length x0 : Int) then
       (bcond (!(((at_ (e := YAttr) x0 x10).1 : List UInt8) == x3_0))
        (if 0 ≤ (x10 : Int) ∧ (x10 : Int) < (List.length x0 : Int) then
         (if (List.length (x5 : List YAttr.den) + List.length ([(at_ (e := YAttr) x0 x10)] : List YAttr.den)) * 32 ≤ 140737488355328 then
          (L90_0 n m1 x0 x3_0 x3_1 (x5 ++ [(at_ (e := YAttr) x0 x10)]) x6 x9 (IntKind.i64.wrap (x10 + 1)))
         else none)
        else none)
        (L90_0 n m1 x0 x3_0 x3_1 x5 x6 x9 (IntKind.i64.wrap (x10 + 1))))
      else none))
    else none)
    (if 0 ≤ (x10 : Int) ∧ (x10 : Int) < (List.length x0 : Int) then
     (bcond (!(((at_ (e := YAttr) x0 x10).1 : List UInt8) == x3_0))
      (if 0 ≤ (x10 : Int) ∧ (x10 : Int) < (List.length x0 : Int) then
       (if (List.length (x5 : List YAttr.den) + List.length ([(at_ (e := YAttr) x0 x10)] : List YAttr.den)) * 32 ≤ 140737488355328 then
        (L90_0 n m1 x0 x3_0 x3_1 (x5 ++ [(at_ (e := YAttr) x0 x10)]) x6 x9 (IntKind.i64.wrap (x10 + 1)))
       else none)
      else none)
      (L90_0 n m1 x0 x3_0 x3_1 x5 x6 x9 (IntKind.i64.wrap (x10 + 1))))
    else none))
   (bcond (!x6)
    (if (List.length (x5 : List YAttr.den) + List.length ([(x3_0, x3_1)] : List YAttr.den)) * 32 ≤ 140737488355328 then
     (some (ret90 (x5 ++ [(x3_0, x3_1)])))
    else none)
    (some (ret90 x5)))) := by kernel_rfl
theorem run90 (n : Nat) (a0 : List YAttr.den) (a1 : YAttr.den) : C90 (fun x y => run T (env90) os90 sig90 Try.f90 hs90 n x y) a0 a1 =
  (L90_0 n n a0 a1.1 a1.2 [] false (List.length a0 : Int) 0) := by kernel_rfl
theorem ok90 : fnOk os90 sig90 Try.f90 = true := by kernel_rfl
theorem fn90 : P.funcs[90]? = some Try.f90 := by kernel_rfl
noncomputable def F90 : sig90.Fn := fun x y => run T (env90) os90 sig90 Try.f90 hs90 big x y
theorem S90 : Sound P 90 ⟨sig90, F90⟩ := sound_of (os := os90) (hs := hs90) (env_nil) fn90 ok90 (fun x y out h => ⟨big, h⟩)
theorem e90 (a0 : List YAttr.den) (a1 : YAttr.den) : C90 F90 a0 a1 =
  (L90_0 big big a0 a1.1 a1.2 [] false (List.length a0 : Int) 0) := run90 big a0 a1

/-! ### chancery/chanceryref1.Joined -/
def sig57 : Sig := ⟨[.v false (.list YAttr), .v false (.list YAttr)], [], [(false, [.fr (.list YAttr)])]⟩
def C57 (F : sig57.Fn) (a0 : List YAttr.den) (a1 : List YAttr.den) : Option sig57.Out := F (a0, a1, ()) ()
def ret57 (v0 : List YAttr.den) : sig57.Out := (((v0, ()), ()), ())
def res57_0 (r : sig57.Out) : List YAttr.den := r.1.1.1
@[simp] theorem res57_0_ret (v0 : List YAttr.den) : res57_0 (ret57 v0) = v0 := rfl
def os57 : List (Nat × Ord) := []
def hs57 : List Keep := [[(0, []), (1, []), (5, []), (9, []), (10, [])], [(1, []), (5, []), (21, []), (22, [])]]
@[reducible] def env57 (F90 : sig90.Fn) : Env := [(90, ⟨sig90, F90⟩)]
noncomputable def L57_0 (F90 : sig90.Fn) (n m1 : Nat) (x0 : List YAttr.den) (x1 : List YAttr.den) (x9 : Int) (x10 : Int) : Option sig57.Out :=
  loopAt T (env57 F90) os57 sig57 Try.f57 hs57 n [.sr, .sr, .sl, .sr, .bl] m1 (mk 33 [(0, .cs false [.val (.list YAttr) x0]), (1, .cs false [.val (.list YAttr) x1]), (5, .cs false [.nils]), (9, .cs false [.val (.int .i64) x9]), (10, .cs false [.val (.int .i64) x10])])
noncomputable def L57_0a (F90 : sig90.Fn) (n m1 : Nat) (x0 : List YAttr.den) (x1 : List YAttr.den) (x5 : List YAttr.den) (x9 : Int) (x10 : Int) : Option sig57.Out :=
  loopAt T (env57 F90) os57 sig57 Try.f57 hs57 n [.sr, .sr, .sl, .sr, .bl] m1 (mk 33 [(0, .cs false [.val (.list YAttr) x0]), (1, .cs false [.val (.list YAttr) x1]), (5, .cs false [.val (.list YAttr) x5]), (9, .cs false [.val (.int .i64) x9]), (10, .cs false [.val (.int .i64) x10])])
noncomputable def L57_1 (F90 : sig90.Fn) (n m1 : Nat) (x1 : List YAttr.den) (x21 : Int) (x22 : Int) : Option sig57.Out :=
  loopAt T (env57 F90) os57 sig57 Try.f57 hs57 n [.sr, .sr, .sr, .sl, .sr, .bl] m1 (mk 33 [(1, .cs false [.val (.list YAttr) x1]), (5, .cs false [.nils]), (21, .cs false [.val (.int .i64) x21]), (22, .cs false [.val (.int .i64) x22])])
noncomputable def L57_1a (F90 : sig90.Fn) (n m1 : Nat) (x1 : List YAttr.den) (x5 : List YAttr.den) (x21 : Int) (x22 : Int) : Option sig57.Out :=
  loopAt T (env57 F90) os57 sig57 Try.f57 hs57 n [.sr, .sr, .sr, .sl, .sr, .bl] m1 (mk 33 [(1, .cs false [.val (.list YAttr) x1]), (5, .cs false [.val (.list YAttr) x5]), (21, .cs false [.val (.int .i64) x21]), (22, .cs false [.val (.int .i64) x22])])
theorem L57_0_step (F90 : sig90.Fn) (n m1 : Nat) (x0 : List YAttr.den) (x1 : List YAttr.den) (x9 : Int) (x10 : Int) : L57_0 F90 n (m1 + 1) x0 x1 x9 x10 =
  (bcond (decide ((x10 : Int) < x9))
   (if 0 ≤ (x10 : Int) ∧ (x10 : Int) < (List.length x0 : Int) then
    ((C90 F90 [] (at_ (e := YAttr) x0 x10)).bind fun r1 =>
     (L57_0a F90 n m1 x0 x1 (res90_0 r1) x9 (IntKind.i64.wrap (x10 + 1))))
   else none)
   (L57_1 F90 n n x1 (List.length x1 : Int) 0)) := by kernel_rfl
theorem L57_0a_step (F90 : sig90.Fn) (n m1 : Nat) (x0 : List YAttr.den) (x1 : List YAttr.den) (x5 : List YAttr.den) (x9 : Int) (x10 : Int) : L57_0a F90 n (m1 + 1) x0 x1 x5 x9 x10 =
  (bcond (decide ((x10 : Int) < x9))
   (if 0 ≤ (x10 : Int) ∧ (x10 : Int) < (List.length x0 : Int) then
    ((C90 F90 x5 (at_ (e := YAttr) x0 x10)).bind fun r1 =>
     (L57_0a F90 n m1 x0 x1 (res90_0 r1) x9 (IntKind.i64.wrap (x10 + 1))))
   else none)
   (L57_1a F90 n n x1 x5 (List.length x1 : Int) 0)) := by kernel_rfl
theorem L57_1_step (F90 : sig90.Fn) (n m1 : Nat) (x1 : List YAttr.den) (x21 : Int) (x22 : Int) : L57_1 F90 n (m1 + 1) x1 x21 x22 =
  (bcond (decide ((x22 : Int) < x21))
   (if 0 ≤ (x22 : Int) ∧ (x22 : Int) < (List.length x1 : Int) then
    ((C90 F90 [] (at_ (e := YAttr) x1 x22)).bind fun r1 =>
     (L57_1a F90 n m1 x1 (res90_0 r1) x21 (IntKind.i64.wrap (x22 + 1))))
   else none)
   (some (ret57 []))) := by kernel_rfl
theorem L57_1a_step (F90 : sig90.Fn) (n m1 : Nat) (x1 : List YAttr.den) (x5 : List YAttr.den) (x21 : Int) (x22 : Int) : L57_1a F90 n (m1 + 1) x1 x5 x21 x22 =
  (bcond (decide ((x22 : Int) < x21))
   (if 0 ≤ (x22 : Int) ∧ (x22 : Int) < (List.length x1 : Int) then
    ((C90 F90 x5 (at_ (e := YAttr) x1 x22)).bind fun r1 =>
     (L57_1a F90 n m1 x1 (res90_0 r1) x21 (IntKind.i64.wrap (x22 + 1))))
   else none)
   (some (ret57 x5))) := by kernel_rfl
theorem run57 (F90 : sig90.Fn) (n : Nat) (a0 : List YAttr.den) (a1 : List YAttr.den) : C57 (fun x y => run T (env57 F90) os57 sig57 Try.f57 hs57 n x y) a0 a1 =
  (L57_0 F90 n n a0 a1 (List.length a0 : Int) 0) := by kernel_rfl
theorem ok57 : fnOk os57 sig57 Try.f57 = true := by kernel_rfl
theorem fn57 : P.funcs[57]? = some Try.f57 := by kernel_rfl
noncomputable def F57 : sig57.Fn := fun x y => run T (env57 F90) os57 sig57 Try.f57 hs57 big x y
theorem S57 : Sound P 57 ⟨sig57, F57⟩ := sound_of (os := os57) (hs := hs57) (env_cons S90 (env_nil)) fn57 ok57 (fun x y out h => ⟨big, h⟩)
theorem e57 (a0 : List YAttr.den) (a1 : List YAttr.den) : C57 F57 a0 a1 =
  (L57_0 F90 big big a0 a1 (List.length a0 : Int) 0) := run57 F90 big a0 a1

/-! ### chancery/chanceryref1.Has -/
def sig95 : Sig := ⟨[.v false (.list YAttr), .v false .str], [], [(false, [.fr .bool])]⟩
def C95 (F : sig95.Fn) (a0 : List YAttr.den) (a1 : List UInt8) : Option sig95.Out := F (a0, a1, ()) ()
def ret95 (v0 : Bool) : sig95.Out := (((v0, ()), ()), ())
def res95_0 (r : sig95.Out) : Bool := r.1.1.1
@[simp] theorem res95_0_ret (v0 : Bool) : res95_0 (ret95 v0) = v0 := rfl
def os95 : List (Nat × Ord) := []
def hs95 : List Keep := [[(0, []), (1, []), (7, []), (8, [])]]
@[reducible] def env95 : Env := []
noncomputable def L95_0 (n m1 : Nat) (x0 : List YAttr.den) (x1 : List UInt8) (x7 : Int) (x8 : Int) : Option sig95.Out :=
  loopAt T (env95) os95 sig95 Try.f95 hs95 n [.sr, .sl, .sr, .bl] m1 (mk 19 [(0, .cs false [.val (.list YAttr) x0]), (1, .cs false [.val .str x1]), (7, .cs false [.val (.int .i64) x7]), (8, .cs false [.val (.int .i64) x8])])
theorem L95_0_step (n m1 : Nat) (x0 : List YAttr.den) (x1 : List UInt8) (x7 : Int) (x8 : Int) : L95_0 n (m1 + 1) x0 x1 x7 x8 =
  (bcond (decide ((x8 : Int) < x7))
   (if 0 ≤ (x8 : Int) ∧ (x8 : Int) < (List.length x0 : Int) then
    (bcond (((at_ (e := YAttr) x0 x8).1 : List UInt8) == x1)
     (some (ret95 true))
     (L95_0 n m1 x0 x1 x7 (IntKind.i64.wrap (x8 + 1))))
   else none)
   (some (ret95 false))) := by kernel_rfl
theorem run95 (n : Nat) (a0 : List YAttr.den) (a1 : List UInt8) : C95 (fun x y => run T (env95) os95 sig95 Try.f95 hs95 n x y) a0 a1 =
  (L95_0 n n a0 a1 (List.length a0 : Int) 0) := by kernel_rfl
theorem ok95 : fnOk os95 sig95 Try.f95 = true := by kernel_rfl
theorem fn95 : P.funcs[95]? = some Try.f95 := by kernel_rfl
noncomputable def F95 : sig95.Fn := fun x y => run T (env95) os95 sig95 Try.f95 hs95 big x y
theorem S95 : Sound P 95 ⟨sig95, F95⟩ := sound_of (os := os95) (hs := hs95) (env_nil) fn95 ok95 (fun x y out h => ⟨big, h⟩)
theorem e95 (a0 : List YAttr.den) (a1 : List UInt8) : C95 F95 a0 a1 =
  (L95_0 big big a0 a1 (List.length a0 : Int) 0) := run95 big a0 a1

/-! ### chancery/chanceryref1.Lacking -/
def sig58 : Sig := ⟨[.v false (.list YAttr), .v false (.list YAttr)], [], [(false, [.fr (.list YAttr)])]⟩
def C58 (F : sig58.Fn) (a0 : List YAttr.den) (a1 : List YAttr.den) : Option sig58.Out := F (a0, a1, ()) ()
def ret58 (v0 : List YAttr.den) : sig58.Out := (((v0, ()), ()), ())
def res58_0 (r : sig58.Out) : List YAttr.den := r.1.1.1
@[simp] theorem res58_0_ret (v0 : List YAttr.den) : res58_0 (ret58 v0) = v0 := rfl
def os58 : List (Nat × Ord) := []
def hs58 : List Keep := [[(0, []), (1, []), (5, [(0, 112, YAttr)]), (8, []), (9, [])]]
@[reducible] def env58 (F95 : sig95.Fn) : Env := [(95, ⟨sig95, F95⟩)]
noncomputable def L58_0 (F95 : sig95.Fn) (n m1 : Nat) (x0 : List YAttr.den) (x1 : List YAttr.den) (x5 : List YAttr.den) (x8 : Int) (x9 : Int) : Option sig58.Out :=
  loopAt T (env58 F95) os58 sig58 Try.f58 hs58 n [.sr, .sr, .sl, .sr, .bl] m1 (mk 29 [(0, .cs false [.val (.list YAttr) x0]), (1, .cs false [.val (.list YAttr) x1]), (5, .cs false [.own 112 YAttr x5]), (8, .cs false [.val (.int .i64) x8]), (9, .cs false [.val (.int .i64) x9])])
theorem L58_0_step (F95 : sig95.Fn) (n m1 : Nat) (x0 : List YAttr.den) (x1 : List YAttr.den) (x5 : List YAttr.den) (x8 : Int) (x9 : Int) : L58_0 F95 n (m1 + 1) x0 x1 x5 x8 x9 =
  (bcond (decide ((x9 : Int) < x8))
   (if 0 ≤ (x9 : Int) ∧ (x9 : Int) < (List.length x0 : Int) then
    ((C95 F95 x1 (at_ (e := YAttr) x0 x9).1).bind fun r1 =>
     (bcond (!(res95_0 r1))
      (if 0 ≤ (x9 : Int) ∧ (x9 : Int) < (List.length x0 : Int) then
       (if (List.length (x5 : List YAttr.den) + List.length ([(at_ (e := YAttr) x0 x9)] : List YAttr.den)) * 32 ≤ 140737488355328 then
        (L58_0 F95 n m1 x0 x1 (x5 ++ [(at_ (e := YAttr) x0 x9)]) x8 (IntKind.i64.wrap (x9 + 1)))
       else none)
      else none)
      (L58_0 F95 n m1 x0 x1 x5 x8 (IntKind.i64.wrap (x9 + 1)))))
   else none)
   (some (ret58 x5))) := by kernel_rfl
theorem run58 (F95 : sig95.Fn) (n : Nat) (a0 : List YAttr.den) (a1 : List YAttr.den) : C58 (fun x y => run T (env58 F95) os58 sig58 Try.f58 hs58 n x y) a0 a1 =
  (L58_0 F95 n n a0 a1 [] (List.length a0 : Int) 0) := by kernel_rfl
theorem ok58 : fnOk os58 sig58 Try.f58 = true := by kernel_rfl
theorem fn58 : P.funcs[58]? = some Try.f58 := by kernel_rfl
noncomputable def F58 : sig58.Fn := fun x y => run T (env58 F95) os58 sig58 Try.f58 hs58 big x y
theorem S58 : Sound P 58 ⟨sig58, F58⟩ := sound_of (os := os58) (hs := hs58) (env_cons S95 (env_nil)) fn58 ok58 (fun x y out h => ⟨big, h⟩)
theorem e58 (a0 : List YAttr.den) (a1 : List YAttr.den) : C58 F58 a0 a1 =
  (L58_0 F95 big big a0 a1 [] (List.length a0 : Int) 0) := run58 F95 big a0 a1

/-! ### chancery/chancerylaw1.AttrPairMatches -/
def sig10 : Sig := ⟨[.v false (.list YAttr), .v false (.list YAttr)], [], [(false, [.fr .bool])]⟩
def C10 (F : sig10.Fn) (a0 : List YAttr.den) (a1 : List YAttr.den) : Option sig10.Out := F (a0, a1, ()) ()
def ret10 (v0 : Bool) : sig10.Out := (((v0, ()), ()), ())
def res10_0 (r : sig10.Out) : Bool := r.1.1.1
@[simp] theorem res10_0_ret (v0 : Bool) : res10_0 (ret10 v0) = v0 := rfl
def os10 : List (Nat × Ord) := []
def hs10 : List Keep := []
@[reducible] def env10 (F35 : sig35.Fn) (F55 : sig55.Fn) (F56 : sig56.Fn) (F39 : sig39.Fn) (F57 : sig57.Fn) (F46 : sig46.Fn) (F58 : sig58.Fn) : Env := [(35, ⟨sig35, F35⟩), (55, ⟨sig55, F55⟩), (56, ⟨sig56, F56⟩), (39, ⟨sig39, F39⟩), (57, ⟨sig57, F57⟩), (46, ⟨sig46, F46⟩), (58, ⟨sig58, F58⟩)]
theorem run10 (F35 : sig35.Fn) (F55 : sig55.Fn) (F56 : sig56.Fn) (F39 : sig39.Fn) (F57 : sig57.Fn) (F46 : sig46.Fn) (F58 : sig58.Fn) (n : Nat) (a0 : List YAttr.den) (a1 : List YAttr.den) : C10 (fun x y => run T (env10 F35 F55 F56 F39 F57 F46 F58) os10 sig10 Try.f10 hs10 n x y) a0 a1 =
  ((C35 F35 ).bind fun r1 =>
   (bcond (!(res35_0 r1))
    (some (ret10 false))
    ((C55 F55 a0 a1).bind fun r2 =>
     ((C56 F56 a0 a1).bind fun r3 =>
      ((C39 F39 a0 true).bind fun r4 =>
       (bcond (((res39_0 r4) : Int) == 0)
        ((C39 F39 a1 true).bind fun r5 =>
         (bcond (((res39_0 r5) : Int) != 0)
          (bcond ((((res55_1 r2) : Int) == (res39_0 r5)) == true)
           (bcond ((((res56_2 r3) : Int) == (res39_0 r5)) == true)
            (some (ret10 (((IntKind.i64.wrap ((IntKind.i64.wrap ((List.length (res55_0 r2) : Int) + (List.length (res56_0 r3) : Int))) + (List.length (res56_1 r3) : Int))) : Int) == 0)))
            (some (ret10 false)))
           (some (ret10 false)))
          (bcond ((((res55_1 r2) : Int) == 0) == true)
           (bcond ((((res56_2 r3) : Int) == 0) == true)
            ((C57 F57 a0 a1).bind fun r6 =>
             ((C46 F46 (res55_0 r2) (res57_0 r6)).bind fun r7 =>
              (bcond ((res46_0 r7) == true)
               ((C58 F58 a0 a1).bind fun r8 =>
                ((C46 F46 (res56_0 r3) (res58_0 r8)).bind fun r9 =>
                 (bcond ((res46_0 r9) == true)
                  ((C46 F46 (res56_1 r3) a1).bind fun r10 =>
                   (some (ret10 (res46_0 r10))))
                  (some (ret10 false)))))
               (some (ret10 false)))))
            (some (ret10 false)))
           (some (ret10 false)))))
        (bcond (((res39_0 r4) : Int) != 0)
         (bcond ((((res55_1 r2) : Int) == (res39_0 r4)) == true)
          (bcond ((((res56_2 r3) : Int) == (res39_0 r4)) == true)
           (some (ret10 (((IntKind.i64.wrap ((IntKind.i64.wrap ((List.length (res55_0 r2) : Int) + (List.length (res56_0 r3) : Int))) + (List.length (res56_1 r3) : Int))) : Int) == 0)))
           (some (ret10 false)))
          (some (ret10 false)))
         (bcond ((((res55_1 r2) : Int) == 0) == true)
          (bcond ((((res56_2 r3) : Int) == 0) == true)
           ((C57 F57 a0 a1).bind fun r5 =>
            ((C46 F46 (res55_0 r2) (res57_0 r5)).bind fun r6 =>
             (bcond ((res46_0 r6) == true)
              ((C58 F58 a0 a1).bind fun r7 =>
               ((C46 F46 (res56_0 r3) (res58_0 r7)).bind fun r8 =>
                (bcond ((res46_0 r8) == true)
                 ((C46 F46 (res56_1 r3) a1).bind fun r9 =>
                  (some (ret10 (res46_0 r9))))
                 (some (ret10 false)))))
              (some (ret10 false)))))
           (some (ret10 false)))
          (some (ret10 false)))))))))) := by kernel_rfl
theorem ok10 : fnOk os10 sig10 Try.f10 = true := by kernel_rfl
theorem fn10 : P.funcs[10]? = some Try.f10 := by kernel_rfl
noncomputable def F10 : sig10.Fn := fun x y => run T (env10 F35 F55 F56 F39 F57 F46 F58) os10 sig10 Try.f10 hs10 big x y
theorem S10 : Sound P 10 ⟨sig10, F10⟩ := sound_of (os := os10) (hs := hs10) (env_cons S35 (env_cons S55 (env_cons S56 (env_cons S39 (env_cons S57 (env_cons S46 (env_cons S58 (env_nil)))))))) fn10 ok10 (fun x y out h => ⟨big, h⟩)
theorem e10 (a0 : List YAttr.den) (a1 : List YAttr.den) : C10 F10 a0 a1 =
  ((C35 F35 ).bind fun r1 =>
   (bcond (!(res35_0 r1))
    (some (ret10 false))
    ((C55 F55 a0 a1).bind fun r2 =>
     ((C56 F56 a0 a1).bind fun r3 =>
      ((C39 F39 a0 true).bind fun r4 =>
       (bcond (((res39_0 r4) : Int) == 0)
        ((C39 F39 a1 true).bind fun r5 =>
         (bcond (((res39_0 r5) : Int) != 0)
          (bcond ((((res55_1 r2) : Int) == (res39_0 r5)) == true)
           (bcond ((((res56_2 r3) : Int) == (res39_0 r5)) == true)
            (some (ret10 (((IntKind.i64.wrap ((IntKind.i64.wrap ((List.length (res55_0 r2) : Int) + (List.length (res56_0 r3) : Int))) + (List.length (res56_1 r3) : Int))) : Int) == 0)))
            (some (ret10 false)))
           (some (ret10 false)))
          (bcond ((((res55_1 r2) : Int) == 0) == true)
           (bcond ((((res56_2 r3) : Int) == 0) == true)
            ((C57 F57 a0 a1).bind fun r6 =>
             ((C46 F46 (res55_0 r2) (res57_0 r6)).bind fun r7 =>
              (bcond ((res46_0 r7) == true)
               ((C58 F58 a0 a1).bind fun r8 =>
                ((C46 F46 (res56_0 r3) (res58_0 r8)).bind fun r9 =>
                 (bcond ((res46_0 r9) == true)
                  ((C46 F46 (res56_1 r3) a1).bind fun r10 =>
                   (some (ret10 (res46_0 r10))))
                  (some (ret10 false)))))
               (some (ret10 false)))))
            (some (ret10 false)))
           (some (ret10 false)))))
        (bcond (((res39_0 r4) : Int) != 0)
         (bcond ((((res55_1 r2) : Int) == (res39_0 r4)) == true)
          (bcond ((((res56_2 r3) : Int) == (res39_0 r4)) == true)
           (some (ret10 (((IntKind.i64.wrap ((IntKind.i64.wrap ((List.length (res55_0 r2) : Int) + (List.length (res56_0 r3) : Int))) + (List.length (res56_1 r3) : Int))) : Int) == 0)))
           (some (ret10 false)))
          (some (ret10 false)))
         (bcond ((((res55_1 r2) : Int) == 0) == true)
          (bcond ((((res56_2 r3) : Int) == 0) == true)
           ((C57 F57 a0 a1).bind fun r5 =>
            ((C46 F46 (res55_0 r2) (res57_0 r5)).bind fun r6 =>
             (bcond ((res46_0 r6) == true)
              ((C58 F58 a0 a1).bind fun r7 =>
               ((C46 F46 (res56_0 r3) (res58_0 r7)).bind fun r8 =>
                (bcond ((res46_0 r8) == true)
                 ((C46 F46 (res56_1 r3) a1).bind fun r9 =>
                  (some (ret10 (res46_0 r9))))
                 (some (ret10 false)))))
              (some (ret10 false)))))
           (some (ret10 false)))
          (some (ret10 false)))))))))) := run10 F35 F55 F56 F39 F57 F46 F58 big a0 a1
end Go.Ev
