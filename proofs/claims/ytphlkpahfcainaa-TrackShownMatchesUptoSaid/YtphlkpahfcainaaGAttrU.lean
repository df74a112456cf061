/- Functions, step by step. -/
import Derived.Test.YtphlkpahfcainaaGAttrP
namespace Go.Ev
set_option linter.unusedVariables false
set_option maxRecDepth 100000
open Go.Proofs

/-! ### chancery/attr.Change$1 -/
def sig111 : Sig := ⟨[.v true YAttr, .v true YAttr, .p 0], [[.ow 112 YAttr]], []⟩
def C111 (F : sig111.Fn) (a0 : YAttr.den) (a1 : YAttr.den) (b0_0 : List YAttr.den) : Option sig111.Out := F (a0, a1, ()) ((b0_0, ()), ())
def ret111 (v0 : List YAttr.den) : sig111.Out := ((), ((v0, ()), ()))
def res111_0 (r : sig111.Out) : List YAttr.den := r.2.1.1
@[simp] theorem res111_0_ret (v0 : List YAttr.den) : res111_0 (ret111 v0) = v0 := rfl
def os111 : List (Nat × Ord) := []
def hs111 : List Keep := []
@[reducible] def env111 : Env := []
theorem run111 (n : Nat) (a0 : YAttr.den) (a1 : YAttr.den) (b0_0 : List YAttr.den) : C111 (fun x y => run T (env111) os111 sig111 Try.f111 hs111 n x y) a0 a1 b0_0 =
  (bcond ((a1.1 : List UInt8) == [])
   (if (List.length (b0_0 : List YAttr.den) + List.length ([(a0.1, [])] : List YAttr.den)) * 32 ≤ 140737488355328 then
    (some (ret111 (b0_0 ++ [(a0.1, [])])))
   else none)
   (bcond (!(((a0.1 : List UInt8) == a1.1) && (((a0.2 : List UInt8) == a1.2) && true)))
    (if (List.length (b0_0 : List YAttr.den) + List.length ([a1] : List YAttr.den)) * 32 ≤ 140737488355328 then
     (some (ret111 (b0_0 ++ [a1])))
    else none)
    (some (ret111 b0_0)))) := by kernel_rfl
theorem ok111 : fnOk os111 sig111 Try.f111 = true := by kernel_rfl
theorem fn111 : P.funcs[111]? = some Try.f111 := by kernel_rfl
noncomputable def F111 : sig111.Fn := fun x y => run T (env111) os111 sig111 Try.f111 hs111 big x y
theorem S111 : Sound P 111 ⟨sig111, F111⟩ := sound_of (os := os111) (hs := hs111) (env_nil) fn111 ok111 (fun x y out h => ⟨big, h⟩)
theorem e111 (a0 : YAttr.den) (a1 : YAttr.den) (b0_0 : List YAttr.den) : C111 F111 a0 a1 b0_0 =
  (bcond ((a1.1 : List UInt8) == [])
   (if (List.length (b0_0 : List YAttr.den) + List.length ([(a0.1, [])] : List YAttr.den)) * 32 ≤ 140737488355328 then
    (some (ret111 (b0_0 ++ [(a0.1, [])])))
   else none)
   (bcond (!(((a0.1 : List UInt8) == a1.1) && (((a0.2 : List UInt8) == a1.2) && true)))
    (if (List.length (b0_0 : List YAttr.den) + List.length ([a1] : List YAttr.den)) * 32 ≤ 140737488355328 then
     (some (ret111 (b0_0 ++ [a1])))
    else none)
    (some (ret111 b0_0)))) := run111 big a0 a1 b0_0

/-! ### chancery/attr.both -/
def sig109_111 : Sig := ⟨[.v false (.list YAttr), .v false (.list YAttr), .f 111 [0]], [[.ow 112 YAttr]], []⟩
def C109_111 (F : sig109_111.Fn) (a0 : List YAttr.den) (a1 : List YAttr.den) (b0_0 : List YAttr.den) : Option sig109_111.Out := F (a0, a1, ()) ((b0_0, ()), ())
def ret109_111 (v0 : List YAttr.den) : sig109_111.Out := ((), ((v0, ()), ()))
def res109_111_0 (r : sig109_111.Out) : List YAttr.den := r.2.1.1
@[simp] theorem res109_111_0_ret (v0 : List YAttr.den) : res109_111_0 (ret109_111 v0) = v0 := rfl
def os109_111 : List (Nat × Ord) := [(2, .st 0 (.st 1 (.st 2 (.st 3 (.st 5 (.st 6 (.st 7 (.st 4 (.st 8 (.st 9 (.nil))))))))))), (4, .st 0 (.st 1 (.st 2 (.st 3 (.st 4 (.st 5 (.st 6 (.st 7 (.st 8 (.st 9 (.st 10 (.st 11 (.st 12 (.st 13 (.st 15 (.st 16 (.st 17 (.st 18 (.st 14 (.st 19 (.st 20 (.st 21 (.st 22 (.st 23 (.nil))))))))))))))))))))))))), (7, .st 0 (.st 1 (.st 2 (.st 3 (.st 4 (.st 5 (.st 6 (.st 7 (.st 8 (.st 10 (.st 11 (.st 12 (.st 13 (.st 9 (.st 14 (.st 15 (.st 16 (.st 17 (.nil)))))))))))))))))))]
def hs109_111 : List Keep := [[(0, []), (1, []), (2, []), (6, []), (7, []), (92, [(0, 112, YAttr)])]]
@[reducible] def env109_111 (F111 : sig111.Fn) : Env := [(111, ⟨sig111, F111⟩)]
noncomputable def L109_111_0 (F111 : sig111.Fn) (n m1 : Nat) (x0 : List YAttr.den) (x1 : List YAttr.den) (x6 : Int) (x7 : Int) (x92 : List YAttr.den) : Option sig109_111.Out :=
  loopAt T (env109_111 F111) os109_111 sig109_111 Try.f109 hs109_111 n [.sr, .bl] m1 (mk 93 [(0, .cs false [.val (.list YAttr) x0]), (1, .cs false [.val (.list YAttr) x1]), (2, .cs false [.clo 111 [92]]), (6, .cs false [.val (.int .i64) x6]), (7, .cs false [.val (.int .i64) x7]), (92, .box [.own 112 YAttr x92])])
theorem L109_111_0_step (F111 : sig111.Fn) (n m1 : Nat) (x0 : List YAttr.den) (x1 : List YAttr.den) (x6 : Int) (x7 : Int) (x92 : List YAttr.den) : L109_111_0 F111 n (m1 + 1) x0 x1 x6 x7 x92 =
  (bcond ((decide ((x6 : Int) < (List.length x0 : Int))) == false)
   (bcond (decide ((x7 : Int) < (List.length x1 : Int)))
    (bcond (((x7 : Int) == (List.length x1 : Int)) == false)
     (bcond ((decide ((x6 : Int) < (List.length x0 : Int))) == true)
      (if 0 ≤ (x6 : Int) ∧ (x6 : Int) < (List.length x0 : Int) then
       (if 0 ≤ (x7 : Int) ∧ (x7 : Int) < (List.length x1 : Int) then
        (bcond (strLess (at_ (e := YAttr) x0 x6).1 (at_ (e := YAttr) x1 x7).1)
         (if 0 ≤ (x6 : Int) ∧ (x6 : Int) < (List.length x0 : Int) then
          ((C111 F111 (at_ (e := YAttr) x0 x6) ([], []) x92).bind fun r1 =>
           (L109_111_0 F111 n m1 x0 x1 (IntKind.i64.wrap (x6 + 1)) x7 (res111_0 r1)))
         else none)
         (bcond (((x6 : Int) == (List.length x0 : Int)) == false)
          (if 0 ≤ (x7 : Int) ∧ (x7 : Int) < (List.length x1 : Int) then
           (if 0 ≤ (x6 : Int) ∧ (x6 : Int) < (List.length x0 : Int) then
            (bcond (strLess (at_ (e := YAttr) x1 x7).1 (at_ (e := YAttr) x0 x6).1)
             (if 0 ≤ (x7 : Int) ∧ (x7 : Int) < (List.length x1 : Int) then
              ((C111 F111 ([], []) (at_ (e := YAttr) x1 x7) x92).bind fun r1 =>
               (L109_111_0 F111 n m1 x0 x1 x6 (IntKind.i64.wrap (x7 + 1)) (res111_0 r1)))
             else none)
             (if 0 ≤ (x6 : Int) ∧ (x6 : Int) < (List.length x0 : Int) then
              (if 0 ≤ (x7 : Int) ∧ (x7 : Int) < (List.length x1 : Int) then
               ((C111 F111 (at_ (e := YAttr) x0 x6) (at_ (e := YAttr) x1 x7) x92).bind fun r1 =>
                (L109_111_0 F111 n m1 x0 x1 (IntKind.i64.wrap (x6 + 1)) (IntKind.i64.wrap (x7 + 1)) (res111_0 r1)))
              else none)
             else none))
           else none)
          else none)
          (if 0 ≤ (x7 : Int) ∧ (x7 : Int) < (List.length x1 : Int) then
           ((C111 F111 ([], []) (at_ (e := YAttr) x1 x7) x92).bind fun r1 =>
            (L109_111_0 F111 n m1 x0 x1 x6 (IntKind.i64.wrap (x7 + 1)) (res111_0 r1)))
          else none)))
       else none)
      else none)
      (bcond (((x6 : Int) == (List.length x0 : Int)) == false)
       (if 0 ≤ (x7 : Int) ∧ (x7 : Int) < (List.length x1 : Int) then
        (if 0 ≤ (x6 : Int) ∧ (x6 : Int) < (List.length x0 : Int) then
         (bcond (strLess (at_ (e := YAttr) x1 x7).1 (at_ (e := YAttr) x0 x6).1)
          (if 0 ≤ (x7 : Int) ∧ (x7 : Int) < (List.length x1 : Int) then
           ((C111 F111 ([], []) (at_ (e := YAttr) x1 x7) x92).bind fun r1 =>
            (L109_111_0 F111 n m1 x0 x1 x6 (IntKind.i64.wrap (x7 + 1)) (res111_0 r1)))
          else none)
          (if 0 ≤ (x6 : Int) ∧ (x6 : Int) < (List.length x0 : Int) then
           (if 0 ≤ (x7 : Int) ∧ (x7 : Int) < (List.length x1 : Int) then
            ((C111 F111 (at_ (e := YAttr) x0 x6) (at_ (e := YAttr) x1 x7) x92).bind fun r1 =>
             (L109_111_0 F111 n m1 x0 x1 (IntKind.i64.wrap (x6 + 1)) (IntKind.i64.wrap (x7 + 1)) (res111_0 r1)))
           else none)
          else none))
        else none)
       else none)
       (if 0 ≤ (x7 : Int) ∧ (x7 : Int) < (List.length x1 : Int) then
        ((C111 F111 ([], []) (at_ (e := YAttr) x1 x7) x92).bind fun r1 =>
         (L109_111_0 F111 n m1 x0 x1 x6 (IntKind.i64.wrap (x7 + 1)) (res111_0 r1)))
       else none)))
     (if 0 ≤ (x6 : Int) ∧ (x6 : Int) < (List.length x0 : Int) then
      ((C111 F111 (at_ (e := YAttr) x0 x6) ([], []) x92).bind fun r1 =>
       (L109_111_0 F111 n m1 x0 x1 (IntKind.i64.wrap (x6 + 1)) x7 (res111_0 r1)))
     else none))
    (some (ret109_111 x92)))
   (bcond (((x7 : Int) == (List.length x1 : Int)) == false)
    (bcond ((decide ((x6 : Int) < (List.length x0 : Int))) == true)
     (if 0 ≤ (x6 : Int) ∧ (x6 : Int) < (List.length x0 : Int) then
      (if 0 ≤ (x7 : Int) ∧ (x7 : Int) < (List.length x1 : Int) then
       (bcond (strLess (at_ (e := YAttr) x0 x6).1 (at_ (e := YAttr) x1 x7).1)
        (if 0 ≤ (x6 : Int) ∧ (x6 : Int) < (List.length x0 : Int) then
         ((C111 F111 (at_ (e := YAttr) x0 x6) ([], []) x92).bind fun r1 =>
          (L109_111_0 F111 n m1 x0 x1 (IntKind.i64.wrap (x6 + 1)) x7 (res111_0 r1)))
        else none)
        (bcond (((x6 : Int) == (List.length x0 : Int)) == false)
         (if 0 ≤ (x7 : Int) ∧ (x7 : Int) < (List.length x1 : Int) then
          (if 0 ≤ (x6 : Int) ∧ (x6 : Int) < (List.length x0 : Int) then
           (bcond (strLess (at_ (e := YAttr) x1 x7).1 (at_ (e := YAttr) x0 x6).1)
            (if 0 ≤ (x7 : Int) ∧ (x7 : Int) < (List.length x1 : Int) then
             ((C111 F111 ([], []) (at_ (e := YAttr) x1 x7) x92).bind fun r1 =>
              (L109_111_0 F111 n m1 x0 x1 x6 (IntKind.i64.wrap (x7 + 1)) (res111_0 r1)))
            else none)
            (if 0 ≤ (x6 : Int) ∧ (x6 : Int) < (List.length x0 : Int) then
             (if 0 ≤ (x7 : Int) ∧ (x7 : Int) < (List.length x1 : Int) then
              ((C111 F111 (at_ (e := YAttr) x0 x6) (at_ (e := YAttr) x1 x7) x92).bind fun r1 =>
               (L109_111_0 F111 n m1 x0 x1 (IntKind.i64.wrap (x6 + 1)) (IntKind.i64.wrap (x7 + 1)) (res111_0 r1)))
             else none)
            else none))
          else none)
         else none)
         (if 0 ≤ (x7 : Int) ∧ (x7 : Int) < (List.length x1 : Int) then
          ((C111 F111 ([], []) (at_ (e := YAttr) x1 x7) x92).bind fun r1 =>
           (L109_111_0 F111 n m1 x0 x1 x6 (IntKind.i64.wrap (x7 + 1)) (res111_0 r1)))
         else none)))
      else none)
     else none)
     (bcond (((x6 : Int) == (List.length x0 : Int)) == false)
      (if 0 ≤ (x7 : Int) ∧ (x7 : Int) < (List.length x1 : Int) then
       (if 0 ≤ (x6 : Int) ∧ (x6 : Int) < (List.length x0 : Int) then
        (bcond (strLess (at_ (e := YAttr) x1 x7).1 (at_ (e := YAttr) x0 x6).1)
         (if 0 ≤ (x7 : Int) ∧ (x7 : Int) < (List.length x1 : Int) then
          ((C111 F111 ([], []) (at_ (e := YAttr) x1 x7) x92).bind fun r1 =>
           (L109_111_0 F111 n m1 x0 x1 x6 (IntKind.i64.wrap (x7 + 1)) (res111_0 r1)))
         else none)
         (if 0 ≤ (x6 : Int) ∧ (x6 : Int) < (List.length x0 : Int) then
          (if 0 ≤ (x7 : Int) ∧ (x7 : Int) < (List.length x1 : Int) then
           ((C111 F111 (at_ (e := YAttr) x0 x6) (at_ (e := YAttr) x1 x7) x92).bind fun r1 =>
            (L109_111_0 F111 n m1 x0 x1 (IntKind.i64.wrap (x6 + 1)) (IntKind.i64.wrap (x7 + 1)) (res111_0 r1)))
          else none)
         else none))
       else none)
      else none)
      (if 0 ≤ (x7 : Int) ∧ (x7 : Int) < (List.length x1 : Int) then
       ((C111 F111 ([], []) (at_ (e := YAttr) x1 x7) x92).bind fun r1 =>
        (L109_111_0 F111 n m1 x0 x1 x6 (IntKind.i64.wrap (x7 + 1)) (res111_0 r1)))
      else none)))
    (if 0 ≤ (x6 : Int) ∧ (x6 : Int) < (List.length x0 : Int) then
     ((C111 F111 (at_ (e := YAttr) x0 x6) ([], []) x92).bind fun r1 =>
      (L109_111_0 F111 n m1 x0 x1 (IntKind.i64.wrap (x6 + 1)) x7 (res111_0 r1)))
    else none))) := by kernel_rfl
theorem run109_111 (F111 : sig111.Fn) (n : Nat) (a0 : List YAttr.den) (a1 : List YAttr.den) (b0_0 : List YAttr.den) : C109_111 (fun x y => run T (env109_111 F111) os109_111 sig109_111 Try.f109 hs109_111 n x y) a0 a1 b0_0 =
  (L109_111_0 F111 n n a0 a1 0 0 b0_0) := by kernel_rfl
theorem ok109_111 : fnOk os109_111 sig109_111 Try.f109 = true := by kernel_rfl
theorem fn109_111 : P.funcs[109]? = some Try.f109 := by kernel_rfl
noncomputable def F109_111 : sig109_111.Fn := fun x y => run T (env109_111 F111) os109_111 sig109_111 Try.f109 hs109_111 big x y
theorem S109_111 : Sound P 109 ⟨sig109_111, F109_111⟩ := sound_of (os := os109_111) (hs := hs109_111) (env_cons S111 (env_nil)) fn109_111 ok109_111 (fun x y out h => ⟨big, h⟩)
theorem e109_111 (a0 : List YAttr.den) (a1 : List YAttr.den) (b0_0 : List YAttr.den) : C109_111 F109_111 a0 a1 b0_0 =
  (L109_111_0 F111 big big a0 a1 0 0 b0_0) := run109_111 F111 big a0 a1 b0_0

/-! ### chancery/attr.Change -/
def sig89 : Sig := ⟨[.v false (.list YAttr), .v false (.list YAttr)], [], [(false, [.fr (.list YAttr)])]⟩
def C89 (F : sig89.Fn) (a0 : List YAttr.den) (a1 : List YAttr.den) : Option sig89.Out := F (a0, a1, ()) ()
def ret89 (v0 : List YAttr.den) : sig89.Out := (((v0, ()), ()), ())
def res89_0 (r : sig89.Out) : List YAttr.den := r.1.1.1
@[simp] theorem res89_0_ret (v0 : List YAttr.den) : res89_0 (ret89 v0) = v0 := rfl
def os89 : List (Nat × Ord) := []
def hs89 : List Keep := []
@[reducible] def env89 (F109_111 : sig109_111.Fn) : Env := [(109, ⟨sig109_111, F109_111⟩)]
theorem run89 (F109_111 : sig109_111.Fn) (n : Nat) (a0 : List YAttr.den) (a1 : List YAttr.den) : C89 (fun x y => run T (env89 F109_111) os89 sig89 Try.f89 hs89 n x y) a0 a1 =
  ((C109_111 F109_111 a0 a1 []).bind fun r1 =>
   (some (ret89 (res109_111_0 r1)))) := by kernel_rfl
theorem ok89 : fnOk os89 sig89 Try.f89 = true := by kernel_rfl
theorem fn89 : P.funcs[89]? = some Try.f89 := by kernel_rfl
noncomputable def F89 : sig89.Fn := fun x y => run T (env89 F109_111) os89 sig89 Try.f89 hs89 big x y
theorem S89 : Sound P 89 ⟨sig89, F89⟩ := sound_of (os := os89) (hs := hs89) (env_cons S109_111 (env_nil)) fn89 ok89 (fun x y out h => ⟨big, h⟩)
theorem e89 (a0 : List YAttr.den) (a1 : List YAttr.den) : C89 F89 a0 a1 =
  ((C109_111 F109_111 a0 a1 []).bind fun r1 =>
   (some (ret89 (res109_111_0 r1)))) := run89 F109_111 big a0 a1

/-! ### chancery/attr.Undo -/
def sig44 : Sig := ⟨[.v false (.list YAttr), .v false (.list YAttr)], [], [(false, [.fr (.list YAttr)]), (false, [.fr (.int .i64)])]⟩
def C44 (F : sig44.Fn) (a0 : List YAttr.den) (a1 : List YAttr.den) : Option sig44.Out := F (a0, a1, ()) ()
def ret44 (v0 : List YAttr.den) (v1 : Int) : sig44.Out := (((v0, ()), (v1, ()), ()), ())
def res44_0 (r : sig44.Out) : List YAttr.den := r.1.1.1
@[simp] theorem res44_0_ret (v0 : List YAttr.den) (v1 : Int) : res44_0 (ret44 v0 v1) = v0 := rfl
def res44_1 (r : sig44.Out) : Int := r.1.2.1.1
@[simp] theorem res44_1_ret (v0 : List YAttr.den) (v1 : Int) : res44_1 (ret44 v0 v1) = v1 := rfl
def os44 : List (Nat × Ord) := []
def hs44 : List Keep := []
@[reducible] def env44 (F43 : sig43.Fn) (F89 : sig89.Fn) : Env := [(43, ⟨sig43, F43⟩), (89, ⟨sig89, F89⟩)]
theorem run44 (F43 : sig43.Fn) (F89 : sig89.Fn) (n : Nat) (a0 : List YAttr.den) (a1 : List YAttr.den) : C44 (fun x y => run T (env44 F43 F89) os44 sig44 Try.f44 hs44 n x y) a0 a1 =
  ((C43 F43 a0 a1).bind fun r1 =>
   (bcond (((res43_1 r1) : Int) != 0)
    (some (ret44 [] (res43_1 r1)))
    ((C89 F89 (res43_0 r1) a0).bind fun r2 =>
     (some (ret44 (res89_0 r2) 0))))) := by kernel_rfl
theorem ok44 : fnOk os44 sig44 Try.f44 = true := by kernel_rfl
theorem fn44 : P.funcs[44]? = some Try.f44 := by kernel_rfl
noncomputable def F44 : sig44.Fn := fun x y => run T (env44 F43 F89) os44 sig44 Try.f44 hs44 big x y
theorem S44 : Sound P 44 ⟨sig44, F44⟩ := sound_of (os := os44) (hs := hs44) (env_cons S43 (env_cons S89 (env_nil))) fn44 ok44 (fun x y out h => ⟨big, h⟩)
theorem e44 (a0 : List YAttr.den) (a1 : List YAttr.den) : C44 F44 a0 a1 =
  ((C43 F43 a0 a1).bind fun r1 =>
   (bcond (((res43_1 r1) : Int) != 0)
    (some (ret44 [] (res43_1 r1)))
    ((C89 F89 (res43_0 r1) a0).bind fun r2 =>
     (some (ret44 (res89_0 r2) 0))))) := run44 F43 F89 big a0 a1

/-! ### chancery/attr.Between -/
def sig54 : Sig := ⟨[.v false (.list YAttr), .v false (.list YAttr)], [], [(false, [.fr (.list YAttr)]), (false, [.fr (.int .i64)])]⟩
def C54 (F : sig54.Fn) (a0 : List YAttr.den) (a1 : List YAttr.den) : Option sig54.Out := F (a0, a1, ()) ()
def ret54 (v0 : List YAttr.den) (v1 : Int) : sig54.Out := (((v0, ()), (v1, ()), ()), ())
def res54_0 (r : sig54.Out) : List YAttr.den := r.1.1.1
@[simp] theorem res54_0_ret (v0 : List YAttr.den) (v1 : Int) : res54_0 (ret54 v0 v1) = v0 := rfl
def res54_1 (r : sig54.Out) : Int := r.1.2.1.1
@[simp] theorem res54_1_ret (v0 : List YAttr.den) (v1 : Int) : res54_1 (ret54 v0 v1) = v1 := rfl
def os54 : List (Nat × Ord) := []
def hs54 : List Keep := []
@[reducible] def env54 (F38 : sig38.Fn) (F89 : sig89.Fn) : Env := [(38, ⟨sig38, F38⟩), (89, ⟨sig89, F89⟩)]
theorem run54 (F38 : sig38.Fn) (F89 : sig89.Fn) (n : Nat) (a0 : List YAttr.den) (a1 : List YAttr.den) : C54 (fun x y => run T (env54 F38 F89) os54 sig54 Try.f54 hs54 n x y) a0 a1 =
  ((C38 F38 a0).bind fun r1 =>
   (bcond (((res38_0 r1) : Int) != 0)
    (some (ret54 [] (res38_0 r1)))
    ((C38 F38 a1).bind fun r2 =>
     (bcond (((res38_0 r2) : Int) != 0)
      (some (ret54 [] (res38_0 r2)))
      ((C89 F89 a0 a1).bind fun r3 =>
       (some (ret54 (res89_0 r3) 0))))))) := by kernel_rfl
theorem ok54 : fnOk os54 sig54 Try.f54 = true := by kernel_rfl
theorem fn54 : P.funcs[54]? = some Try.f54 := by kernel_rfl
noncomputable def F54 : sig54.Fn := fun x y => run T (env54 F38 F89) os54 sig54 Try.f54 hs54 big x y
theorem S54 : Sound P 54 ⟨sig54, F54⟩ := sound_of (os := os54) (hs := hs54) (env_cons S38 (env_cons S89 (env_nil))) fn54 ok54 (fun x y out h => ⟨big, h⟩)
theorem e54 (a0 : List YAttr.den) (a1 : List YAttr.den) : C54 F54 a0 a1 =
  ((C38 F38 a0).bind fun r1 =>
   (bcond (((res38_0 r1) : Int) != 0)
    (some (ret54 [] (res38_0 r1)))
    ((C38 F38 a1).bind fun r2 =>
     (bcond (((res38_0 r2) : Int) != 0)
      (some (ret54 [] (res38_0 r2)))
      ((C89 F89 a0 a1).bind fun r3 =>
       (some (ret54 (res89_0 r3) 0))))))) := run54 F38 F89 big a0 a1

/-! ### chancery/chanceryref1.Changed -/
def sig45 : Sig := ⟨[.v false (.list YAttr), .v false (.list YAttr)], [], [(false, [.fr (.list YAttr)])]⟩
def C45 (F : sig45.Fn) (a0 : List YAttr.den) (a1 : List YAttr.den) : Option sig45.Out := F (a0, a1, ()) ()
def ret45 (v0 : List YAttr.den) : sig45.Out := (((v0, ()), ()), ())
def res45_0 (r : sig45.Out) : List YAttr.den := r.1.1.1
@[simp] theorem res45_0_ret (v0 : List YAttr.den) : res45_0 (ret45 v0) = v0 := rfl
def os45 : List (Nat × Ord) := []
def hs45 : List Keep := [[(0, []), (1, []), (5, []), (11, []), (12, [])], [(1, []), (5, []), (23, []), (24, [])], [(5, []), (8, [(0, 112, YAttr)]), (35, []), (36, [])]]
@[reducible] def env45 (F90 : sig90.Fn) : Env := [(90, ⟨sig90, F90⟩)]
noncomputable def L45_0 (F90 : sig90.Fn) (n m1 : Nat) (x0 : List YAttr.den) (x1 : List YAttr.den) (x11 : Int) (x12 : Int) : Option sig45.Out :=
  loopAt T (env45 F90) os45 sig45 Try.f45 hs45 n [.sr, .sr, .sl, .sr, .bl] m1 (mk 54 [(0, .cs false [.val (.list YAttr) x0]), (1, .cs false [.val (.list YAttr) x1]), (5, .cs false [.nils]), (11, .cs false [.val (.int .i64) x11]), (12, .cs false [.val (.int .i64) x12])])
noncomputable def L45_0a (F90 : sig90.Fn) (n m1 : Nat) (x0 : List YAttr.den) (x1 : List YAttr.den) (x5 : List YAttr.den) (x11 : Int) (x12 : Int) : Option sig45.Out :=
  loopAt T (env45 F90) os45 sig45 Try.f45 hs45 n [.sr, .sr, .sl, .sr, .bl] m1 (mk 54 [(0, .cs false [.val (.list YAttr) x0]), (1, .cs false [.val (.list YAttr) x1]), (5, .cs false [.val (.list YAttr) x5]), (11, .cs false [.val (.int .i64) x11]), (12, .cs false [.val (.int .i64) x12])])
noncomputable def L45_1 (F90 : sig90.Fn) (n m1 : Nat) (x1 : List YAttr.den) (x23 : Int) (x24 : Int) : Option sig45.Out :=
  loopAt T (env45 F90) os45 sig45 Try.f45 hs45 n [.sr, .sr, .sr, .sl, .sr, .bl] m1 (mk 54 [(1, .cs false [.val (.list YAttr) x1]), (5, .cs false [.nils]), (23, .cs false [.val (.int .i64) x23]), (24, .cs false [.val (.int .i64) x24])])
noncomputable def L45_1a (F90 : sig90.Fn) (n m1 : Nat) (x1 : List YAttr.den) (x5 : List YAttr.den) (x23 : Int) (x24 : Int) : Option sig45.Out :=
  loopAt T (env45 F90) os45 sig45 Try.f45 hs45 n [.sr, .sr, .sr, .sl, .sr, .bl] m1 (mk 54 [(1, .cs false [.val (.list YAttr) x1]), (5, .cs false [.val (.list YAttr) x5]), (23, .cs false [.val (.int .i64) x23]), (24, .cs false [.val (.int .i64) x24])])
noncomputable def L45_2 (F90 : sig90.Fn) (n m1 : Nat) (x8 : List YAttr.den) (x35 : Int) (x36 : Int) : Option sig45.Out :=
  loopAt T (env45 F90) os45 sig45 Try.f45 hs45 n [.sr, .sr, .sr, .sr, .sr, .sl, .sr, .bl] m1 (mk 54 [(5, .cs false [.nils]), (8, .cs false [.own 112 YAttr x8]), (35, .cs false [.val (.int .i64) x35]), (36, .cs false [.val (.int .i64) x36])])
noncomputable def L45_2a (F90 : sig90.Fn) (n m1 : Nat) (x5 : List YAttr.den) (x8 : List YAttr.den) (x35 : Int) (x36 : Int) : Option sig45.Out :=
  loopAt T (env45 F90) os45 sig45 Try.f45 hs45 n [.sr, .sr, .sr, .sr, .sr, .sl, .sr, .bl] m1 (mk 54 [(5, .cs false [.val (.list YAttr) x5]), (8, .cs false [.own 112 YAttr x8]), (35, .cs false [.val (.int .i64) x35]), (36, .cs false [.val (.int .i64) x36])])
theorem L45_0_step (F90 : sig90.Fn) (n m1 : Nat) (x0 : List YAttr.den) (x1 : List YAttr.den) (x11 : Int) (x12 : Int) : L45_0 F90 n (m1 + 1) x0 x1 x11 x12 =
  (bcond (decide ((x12 : Int) < x11))
   (if 0 ≤ (x12 : Int) ∧ (x12 : Int) < (List.length x0 : Int) then
    ((C90 F90 [] (at_ (e := YAttr) x0 x12)).bind fun r1 =>
     (L45_0a F90 n m1 x0 x1 (res90_0 r1) x11 (IntKind.i64.wrap (x12 + 1))))
   else none)
   (L45_1 F90 n n x1 (List.length x1 : Int) 0)) := by kernel_rfl
theorem L45_0a_step (F90 : sig90.Fn) (n m1 : Nat) (x0 : List YAttr.den) (x1 : List YAttr.den) (x5 : List YAttr.den) (x11 : Int) (x12 : Int) : L45_0a F90 n (m1 + 1) x0 x1 x5 x11 x12 =
  (bcond (decide ((x12 : Int) < x11))
   (if 0 ≤ (x12 : Int) ∧ (x12 : Int) < (List.length x0 : Int) then
    ((C90 F90 x5 (at_ (e := YAttr) x0 x12)).bind fun r1 =>
     (L45_0a F90 n m1 x0 x1 (res90_0 r1) x11 (IntKind.i64.wrap (x12 + 1))))
   else none)
   (L45_1a F90 n n x1 x5 (List.length x1 : Int) 0)) := by kernel_rfl
theorem L45_1_step (F90 : sig90.Fn) (n m1 : Nat) (x1 : List YAttr.den) (x23 : Int) (x24 : Int) : L45_1 F90 n (m1 + 1) x1 x23 x24 =
  (bcond (decide ((x24 : Int) < x23))
   (if 0 ≤ (x24 : Int) ∧ (x24 : Int) < (List.length x1 : Int) then
    ((C90 F90 [] (at_ (e := YAttr) x1 x24)).bind fun r1 =>
     (L45_1a F90 n m1 x1 (res90_0 r1) x23 (IntKind.i64.wrap (x24 + 1))))
   else none)
   (L45_2 F90 n n [] 0 0)) := by kernel_rfl
theorem L45_1a_step (F90 : sig90.Fn) (n m1 : Nat) (x1 : List YAttr.den) (x5 : List YAttr.den) (x23 : Int) (x24 : Int) : L45_1a F90 n (m1 + 1) x1 x5 x23 x24 =
  (bcond (decide ((x24 : Int) < x23))
   (if 0 ≤ (x24 : Int) ∧ (x24 : Int) < (List.length x1 : Int) then
    ((C90 F90 x5 (at_ (e := YAttr) x1 x24)).bind fun r1 =>
     (L45_1a F90 n m1 x1 (res90_0 r1) x23 (IntKind.i64.wrap (x24 + 1))))
   else none)
   (L45_2a F90 n n x5 [] (List.length x5 : Int) 0)) := by kernel_rfl
theorem L45_2_step (F90 : sig90.Fn) (n m1 : Nat) (x8 : List YAttr.den) (x35 : Int) (x36 : Int) : L45_2 F90 n (m1 + 1) x8 x35 x36 =
  (bcond (decide ((x36 : Int) < x35))
   none
   (some (ret45 x8))) := by kernel_rfl
theorem L45_2a_step (F90 : sig90.Fn) (n m1 : Nat) (x5 : List YAttr.den) (x8 : List YAttr.den) (x35 : Int) (x36 : Int) : L45_2a F90 n (m1 + 1) x5 x8 x35 x36 =
  (bcond (decide ((x36 : Int) < x35))
   (if 0 ≤ (x36 : Int) ∧ (x36 : Int) < (List.length x5 : Int) then
    (bcond (!(((at_ (e := YAttr) x5 x36).2 : List UInt8) == []))
     (if 0 ≤ (x36 : Int) ∧ (x36 : Int) < (List.length x5 : Int) then
      (if (List.length (x8 : List YAttr.den) + List.length ([(at_ (e := YAttr) x5 x36)] : List YAttr.den)) * 32 ≤ 140737488355328 then
       (L45_2a F90 n m1 x5 (x8 ++ [(at_ (e := YAttr) x5 x36)]) x35 (IntKind.i64.wrap (x36 + 1)))
      else none)
     else none)
     (L45_2a F90 n m1 x5 x8 x35 (IntKind.i64.wrap (x36 + 1))))
   else none)
   (some (ret45 x8))) := by kernel_rfl
theorem run45 (F90 : sig90.Fn) (n : Nat) (a0 : List YAttr.den) (a1 : List YAttr.den) : C45 (fun x y => run T (env45 F90) os45 sig45 Try.f45 hs45 n x y) a0 a1 =
  (L45_0 F90 n n a0 a1 (List.length a0 : Int) 0) := by kernel_rfl
theorem ok45 : fnOk os45 sig45 Try.f45 = true := by kernel_rfl
theorem fn45 : P.funcs[45]? = some Try.f45 := by kernel_rfl
noncomputable def F45 : sig45.Fn := fun x y => run T (env45 F90) os45 sig45 Try.f45 hs45 big x y
theorem S45 : Sound P 45 ⟨sig45, F45⟩ := sound_of (os := os45) (hs := hs45) (env_cons S90 (env_nil)) fn45 ok45 (fun x y out h => ⟨big, h⟩)
theorem e45 (a0 : List YAttr.den) (a1 : List YAttr.den) : C45 F45 a0 a1 =
  (L45_0 F90 big big a0 a1 (List.length a0 : Int) 0) := run45 F90 big a0 a1

/-! ### chancery/chanceryref1.Between -/
def sig47 : Sig := ⟨[.v false (.list YAttr), .v false (.list YAttr)], [], [(false, [.fr (.list YAttr)])]⟩
def C47 (F : sig47.Fn) (a0 : List YAttr.den) (a1 : List YAttr.den) : Option sig47.Out := F (a0, a1, ()) ()
def ret47 (v0 : List YAttr.den) : sig47.Out := (((v0, ()), ()), ())
def res47_0 (r : sig47.Out) : List YAttr.den := r.1.1.1
@[simp] theorem res47_0_ret (v0 : List YAttr.den) : res47_0 (ret47 v0) = v0 := rfl
def os47 : List (Nat × Ord) := [(5, .st 0 (.st 1 (.st 2 (.st 3 (.st 4 (.st 7 (.st 8 (.st 9 (.st 10 (.st 5 (.alt 6 (.st 11 (.st 12 (.nil))) (.st 11 (.st 6 (.st 12 (.nil)))))))))))))))]
def hs47 : List Keep := [[(0, []), (1, []), (5, []), (9, []), (10, [])], [(0, []), (1, []), (5, []), (34, []), (35, [])]]
@[reducible] def env47 (F42 : sig42.Fn) (F90 : sig90.Fn) : Env := [(42, ⟨sig42, F42⟩), (90, ⟨sig90, F90⟩)]
noncomputable def L47_0 (F42 : sig42.Fn) (F90 : sig90.Fn) (n m1 : Nat) (x0 : List YAttr.den) (x1 : List YAttr.den) (x9 : Int) (x10 : Int) : Option sig47.Out :=
  loopAt T (env47 F42 F90) os47 sig47 Try.f47 hs47 n [.sr, .sr, .sl, .sr, .bl] m1 (mk 56 [(0, .cs false [.val (.list YAttr) x0]), (1, .cs false [.val (.list YAttr) x1]), (5, .cs false [.nils]), (9, .cs false [.val (.int .i64) x9]), (10, .cs false [.val (.int .i64) x10])])
noncomputable def L47_0a (F42 : sig42.Fn) (F90 : sig90.Fn) (n m1 : Nat) (x0 : List YAttr.den) (x1 : List YAttr.den) (x5 : List YAttr.den) (x9 : Int) (x10 : Int) : Option sig47.Out :=
  loopAt T (env47 F42 F90) os47 sig47 Try.f47 hs47 n [.sr, .sr, .sl, .sr, .bl] m1 (mk 56 [(0, .cs false [.val (.list YAttr) x0]), (1, .cs false [.val (.list YAttr) x1]), (5, .cs false [.val (.list YAttr) x5]), (9, .cs false [.val (.int .i64) x9]), (10, .cs false [.val (.int .i64) x10])])
noncomputable def L47_1 (F42 : sig42.Fn) (F90 : sig90.Fn) (n m1 : Nat) (x0 : List YAttr.den) (x1 : List YAttr.den) (x34 : Int) (x35 : Int) : Option sig47.Out :=
  loopAt T (env47 F42 F90) os47 sig47 Try.f47 hs47 n [.sr, .sr, .sr, .sl, .sr, .bl] m1 (mk 56 [(0, .cs false [.val (.list YAttr) x0]), (1, .cs false [.val (.list YAttr) x1]), (5, .cs false [.nils]), (34, .cs false [.val (.int .i64) x34]), (35, .cs false [.val (.int .i64) x35])])
noncomputable def L47_1a (F42 : sig42.Fn) (F90 : sig90.Fn) (n m1 : Nat) (x0 : List YAttr.den) (x1 : List YAttr.den) (x5 : List YAttr.den) (x34 : Int) (x35 : Int) : Option sig47.Out :=
  loopAt T (env47 F42 F90) os47 sig47 Try.f47 hs47 n [.sr, .sr, .sr, .sl, .sr, .bl] m1 (mk 56 [(0, .cs false [.val (.list YAttr) x0]), (1, .cs false [.val (.list YAttr) x1]), (5, .cs false [.val (.list YAttr) x5]), (34, .cs false [.val (.int .i64) x34]), (35, .cs false [.val (.int .i64) x35])])
theorem L47_0_raw (F42 : sig42.Fn) (F90 : sig90.Fn) (n m1 : Nat) (x0 : List YAttr.den) (x1 : List YAttr.den) (x9 : Int) (x10 : Int) : L47_0 F42 F90 n (m1 + 1) x0 x1 x9 x10 =
  (bcond (decide ((x10 : Int) < x9))
   (if 0 ≤ (x10 : Int) ∧ (x10 : Int) < (List.length x1 : Int) then
    (if 0 ≤ (x10 : Int) ∧ (x10 : Int) < (List.length x1 : Int) then
     (agree
      ((C42 F42 x0 (at_ (e := YAttr) x1 x10).1).bind fun r1 =>
       (bcond (!(((res42_0 r1) : List UInt8) == (at_ (e := YAttr) x1 x10).2))
        (if 0 ≤ (x10 : Int) ∧ (x10 : Int) < (List.length x1 : Int) then
         ((C90 F90 [] (at_ (e := YAttr) x1 x10)).bind fun r2 =>
          (L47_0a F42 F90 n m1 x0 x1 (res90_0 r2) x9 (IntKind.i64.wrap (x10 + 1))))
        else none)
        (L47_0 F42 F90 n m1 x0 x1 x9 (IntKind.i64.wrap (x10 + 1)))))
      ((C42 F42 x0 (at_ (e := YAttr) x1 x10).1).bind fun r1 =>
       (bcond (!(((res42_0 r1) : List UInt8) == (at_ (e := YAttr) x1 x10).2))
        (if 0 ≤ (x10 : Int) ∧ (x10 : Int) < (List.length x1 : Int) then
         ((C90 F90 [] (at_ (e := YAttr) x1 x10)).bind fun r2 =>
          (L47_0a F42 F90 n m1 x0 x1 (res90_0 r2) x9 (IntKind.i64.wrap (x10 + 1))))
        else none)
        (L47_0 F42 F90 n m1 x0 x1 x9 (IntKind.i64.wrap (x10 + 1))))))
    else none)
   else none)
   (L47_1 F42 F90 n n x0 x1 (List.length x0 : Int) 0)) := by kernel_rfl
theorem L47_0_step (F42 : sig42.Fn) (F90 : sig90.Fn) (n m1 : Nat) (x0 : List YAttr.den) (x1 : List YAttr.den) (x9 : Int) (x10 : Int) : L47_0 F42 F90 n (m1 + 1) x0 x1 x9 x10 =
  (bcond (decide ((x10 : Int) < x9))
   (if 0 ≤ (x10 : Int) ∧ (x10 : Int) < (List.length x1 : Int) then
    (if 0 ≤ (x10 : Int) ∧ (x10 : Int) < (List.length x1 : Int) then
     ((C42 F42 x0 (at_ (e := YAttr) x1 x10).1).bind fun r1 =>
      (bcond (!(((res42_0 r1) : List UInt8) == (at_ (e := YAttr) x1 x10).2))
       (if 0 ≤ (x10 : Int) ∧ (x10 : Int) < (List.length x1 : Int) then
        ((C90 F90 [] (at_ (e := YAttr) x1 x10)).bind fun r2 =>
         (L47_0a F42 F90 n m1 x0 x1 (res90_0 r2) x9 (IntKind.i64.wrap (x10 + 1))))
       else none)
       (L47_0 F42 F90 n m1 x0 x1 x9 (IntKind.i64.wrap (x10 + 1)))))
    else none)
   else none)
   (L47_1 F42 F90 n n x0 x1 (List.length x0 : Int) 0)) := by rw [L47_0_raw]; simp only [agree_self]
theorem L47_0a_raw (F42 : sig42.Fn) (F90 : sig90.Fn) (n m1 : Nat) (x0 : List YAttr.den) (x1 : List YAttr.den) (x5 : List YAttr.den) (x9 : Int) (x10 : Int) : L47_0a F42 F90 n (m1 + 1) x0 x1 x5 x9 x10 =
  (bcond (decide ((x10 : Int) < x9))
   (if 0 ≤ (x10 : Int) ∧ (x10 : Int) < (List.length x1 : Int) then
    (if 0 ≤ (x10 : Int) ∧ (x10 : Int) < (List.length x1 : Int) then
     (agree
      ((C42 F42 x0 (at_ (e := YAttr) x1 x10).1).bind fun r1 =>
       (bcond (!(((res42_0 r1) : List UInt8) == (at_ (e := YAttr) x1 x10).2))
        (if 0 ≤ (x10 : Int) ∧ (x10 : Int) < (List.length x1 : Int) then
         ((C90 F90 x5 (at_ (e := YAttr) x1 x10)).bind fun r2 =>
          (L47_0a F42 F90 n m1 x0 x1 (res90_0 r2) x9 (IntKind.i64.wrap (x10 + 1))))
        else none)
        (L47_0a F42 F90 n m1 x0 x1 x5 x9 (IntKind.i64.wrap (x10 + 1)))))
      ((C42 F42 x0 (at_ (e := YAttr) x1 x10).1).bind fun r1 =>
       (bcond (!(((res42_0 r1) : List UInt8) == (at_ (e := YAttr) x1 x10).2))
        (if 0 ≤ (x10 : Int) ∧ (x10 : Int) < (List.length x1 : Int) then
         ((C90 F90 x5 (at_ (e := YAttr) x1 x10)).bind fun r2 =>
          (L47_0a F42 F90 n m1 x0 x1 (res90_0 r2) x9 (IntKind.i64.wrap (x10 + 1))))
        else none)
        (L47_0a F42 F90 n m1 x0 x1 x5 x9 (IntKind.i64.wrap (x10 + 1))))))
    else none)
   else none)
   (L47_1a F42 F90 n n x0 x1 x5 (List.length x0 : Int) 0)) := by kernel_rfl
theorem L47_0a_step (F42 : sig42.Fn) (F90 : sig90.Fn) (n m1 : Nat) (x0 : List YAttr.den) (x1 : List YAttr.den) (x5 : List YAttr.den) (x9 : Int) (x10 : Int) : L47_0a F42 F90 n (m1 + 1) x0 x1 x5 x9 x10 =
  (bcond (decide ((x10 : Int) < x9))
   (if 0 ≤ (x10 : Int) ∧ (x10 : Int) < (List.length x1 : Int) then
    (if 0 ≤ (x10 : Int) ∧ (x10 : Int) < (List.length x1 : Int) then
     ((C42 F42 x0 (at_ (e := YAttr) x1 x10).1).bind fun r1 =>
      (bcond (!(((res42_0 r1) : List UInt8) == (at_ (e := YAttr) x1 x10).2))
       (if 0 ≤ (x10 : Int) ∧ (x10 : Int) < (List.length x1 : Int) then
        ((C90 F90 x5 (at_ (e := YAttr) x1 x10)).bind fun r2 =>
         (L47_0a F42 F90 n m1 x0 x1 (res90_0 r2) x9 (IntKind.i64.wrap (x10 + 1))))
       else none)
       (L47_0a F42 F90 n m1 x0 x1 x5 x9 (IntKind.i64.wrap (x10 + 1)))))
    else none)
   else none)
   (L47_1a F42 F90 n n x0 x1 x5 (List.length x0 : Int) 0)) := by rw [L47_0a_raw]; simp only [agree_self]
theorem L47_1_step (F42 : sig42.Fn) (F90 : sig90.Fn) (n m1 : Nat) (x0 : List YAttr.den) (x1 : List YAttr.den) (x34 : Int) (x35 : Int) : L47_1 F42 F90 n (m1 + 1) x0 x1 x34 x35 =
  (bcond (decide ((x35 : Int) < x34))
   (if 0 ≤ (x35 : Int) ∧ (x35 : Int) < (List.length x0 : Int) then
    ((C42 F42 x1 (at_ (e := YAttr) x0 x35).1).bind fun r1 =>
     (bcond (((res42_0 r1) : List UInt8) == [])
      (if 0 ≤ (x35 : Int) ∧ (x35 : Int) < (List.length x0 : Int) then
       ((C90 F90 [] ((at_ (e := YAttr) x0 x35).1, [])).bind fun r2 =>
        (L47_1a F42 F90 n m1 x0 x1 (res90_0 r2) x34 (IntKind.i64.wrap (x35 + 1))))
      else none)
      (L47_1 F42 F90 n m1 x0 x1 x34 (IntKind.i64.wrap (x35 + 1)))))
   else none)
   (some (ret47 []))) := by kernel_rfl
theorem L47_1a_step (F42 : sig42.Fn) (F90 : sig90.Fn) (n m1 : Nat) (x0 : List YAttr.den) (x1 : List YAttr.den) (x5 : List YAttr.den) (x34 : Int) (x35 : Int) : L47_1a F42 F90 n (m1 + 1) x0 x1 x5 x34 x35 =
  (bcond (decide ((x35 : Int) < x34))
   (if 0 ≤ (x35 : Int) ∧ (x35 : Int) < (List.length x0 : Int) then
    ((C42 F42 x1 (at_ (e := YAttr) x0 x35).1).bind fun r1 =>
     (bcond (((res42_0 r1) : List UInt8) == [])
      (if 0 ≤ (x35 : Int) ∧ (x35 : Int) < (List.length x0 : Int) then
       ((C90 F90 x5 ((at_ (e := YAttr) x0 x35).1, [])).bind fun r2 =>
        (L47_1a F42 F90 n m1 x0 x1 (res90_0 r2) x34 (IntKind.i64.wrap (x35 + 1))))
      else none)
      (L47_1a F42 F90 n m1 x0 x1 x5 x34 (IntKind.i64.wrap (x35 + 1)))))
   else none)
   (some (ret47 x5))) := by kernel_rfl
theorem run47 (F42 : sig42.Fn) (F90 : sig90.Fn) (n : Nat) (a0 : List YAttr.den) (a1 : List YAttr.den) : C47 (fun x y => run T (env47 F42 F90) os47 sig47 Try.f47 hs47 n x y) a0 a1 =
  (L47_0 F42 F90 n n a0 a1 (List.length a1 : Int) 0) := by kernel_rfl
theorem ok47 : fnOk os47 sig47 Try.f47 = true := by kernel_rfl
theorem fn47 : P.funcs[47]? = some Try.f47 := by kernel_rfl
noncomputable def F47 : sig47.Fn := fun x y => run T (env47 F42 F90) os47 sig47 Try.f47 hs47 big x y
theorem S47 : Sound P 47 ⟨sig47, F47⟩ := sound_of (os := os47) (hs := hs47) (env_cons S42 (env_cons S90 (env_nil))) fn47 ok47 (fun x y out h => ⟨big, h⟩)
theorem e47 (a0 : List YAttr.den) (a1 : List YAttr.den) : C47 F47 a0 a1 =
  (L47_0 F42 F90 big big a0 a1 (List.length a1 : Int) 0) := run47 F42 F90 big a0 a1

/-! ### chancery/attr.Same -/
def sig53 : Sig := ⟨[.v false (.list YAttr), .v false (.list YAttr)], [], [(false, [.fr .bool])]⟩
def C53 (F : sig53.Fn) (a0 : List YAttr.den) (a1 : List YAttr.den) : Option sig53.Out := F (a0, a1, ()) ()
def ret53 (v0 : Bool) : sig53.Out := (((v0, ()), ()), ())
def res53_0 (r : sig53.Out) : Bool := r.1.1.1
@[simp] theorem res53_0_ret (v0 : Bool) : res53_0 (ret53 v0) = v0 := rfl
def os53 : List (Nat × Ord) := [(6, .st 0 (.st 1 (.st 2 (.st 4 (.st 5 (.st 6 (.st 3 (.st 7 (.st 8 (.nil))))))))))]
def hs53 : List Keep := [[(0, []), (1, []), (12, []), (13, [])]]
@[reducible] def env53 : Env := []
noncomputable def L53_0 (n m1 : Nat) (x0 : List YAttr.den) (x1 : List YAttr.den) (x12 : Int) (x13 : Int) : Option sig53.Out :=
  loopAt T (env53) os53 sig53 Try.f53 hs53 n [.sr, .sr, .sl, .sr, .bl] m1 (mk 26 [(0, .cs false [.val (.list YAttr) x0]), (1, .cs false [.val (.list YAttr) x1]), (12, .cs false [.val (.int .i64) x12]), (13, .cs false [.val (.int .i64) x13])])
theorem L53_0_step (n m1 : Nat) (x0 : List YAttr.den) (x1 : List YAttr.den) (x12 : Int) (x13 : Int) : L53_0 n (m1 + 1) x0 x1 x12 x13 =
  (bcond (decide ((x13 : Int) < x12))
   (if 0 ≤ (x13 : Int) ∧ (x13 : Int) < (List.length x0 : Int) then
    (if 0 ≤ (x13 : Int) ∧ (x13 : Int) < (List.length x1 : Int) then
     (bcond (!((((at_ (e := YAttr) x0 x13).1 : List UInt8) == (at_ (e := YAttr) x1 x13).1) && ((((at_ (e := YAttr) x0 x13).2 : List UInt8) == (at_ (e := YAttr) x1 x13).2) && true)))
      (some (ret53 false))
      (L53_0 n m1 x0 x1 x12 (IntKind.i64.wrap (x13 + 1))))
    else none)
   else none)
   (some (ret53 true))) := by kernel_rfl
theorem run53 (n : Nat) (a0 : List YAttr.den) (a1 : List YAttr.den) : C53 (fun x y => run T (env53) os53 sig53 Try.f53 hs53 n x y) a0 a1 =
  (bcond (((List.length a0 : Int) : Int) != (List.length a1 : Int))
   (some (ret53 false))
   (L53_0 n n a0 a1 (List.length a0 : Int) 0)) := by kernel_rfl
theorem ok53 : fnOk os53 sig53 Try.f53 = true := by kernel_rfl
theorem fn53 : P.funcs[53]? = some Try.f53 := by kernel_rfl
noncomputable def F53 : sig53.Fn := fun x y => run T (env53) os53 sig53 Try.f53 hs53 big x y
theorem S53 : Sound P 53 ⟨sig53, F53⟩ := sound_of (os := os53) (hs := hs53) (env_nil) fn53 ok53 (fun x y out h => ⟨big, h⟩)
theorem e53 (a0 : List YAttr.den) (a1 : List YAttr.den) : C53 F53 a0 a1 =
  (bcond (((List.length a0 : Int) : Int) != (List.length a1 : Int))
   (some (ret53 false))
   (L53_0 big big a0 a1 (List.length a0 : Int) 0)) := run53 big a0 a1

/-! ### chancery/chancerylaw1.AttrApplyMatches -/
def sig7 : Sig := ⟨[.v false (.list YAttr), .v false (.list YAttr)], [], [(false, [.fr .bool])]⟩
def C7 (F : sig7.Fn) (a0 : List YAttr.den) (a1 : List YAttr.den) : Option sig7.Out := F (a0, a1, ()) ()
def ret7 (v0 : Bool) : sig7.Out := (((v0, ()), ()), ())
def res7_0 (r : sig7.Out) : Bool := r.1.1.1
@[simp] theorem res7_0_ret (v0 : Bool) : res7_0 (ret7 v0) = v0 := rfl
def os7 : List (Nat × Ord) := []
def hs7 : List Keep := []
@[reducible] def env7 (F35 : sig35.Fn) (F43 : sig43.Fn) (F44 : sig44.Fn) (F39 : sig39.Fn) (F45 : sig45.Fn) (F46 : sig46.Fn) (F47 : sig47.Fn) : Env := [(35, ⟨sig35, F35⟩), (43, ⟨sig43, F43⟩), (44, ⟨sig44, F44⟩), (39, ⟨sig39, F39⟩), (45, ⟨sig45, F45⟩), (46, ⟨sig46, F46⟩), (47, ⟨sig47, F47⟩)]
theorem run7 (F35 : sig35.Fn) (F43 : sig43.Fn) (F44 : sig44.Fn) (F39 : sig39.Fn) (F45 : sig45.Fn) (F46 : sig46.Fn) (F47 : sig47.Fn) (n : Nat) (a0 : List YAttr.den) (a1 : List YAttr.den) : C7 (fun x y => run T (env7 F35 F43 F44 F39 F45 F46 F47) os7 sig7 Try.f7 hs7 n x y) a0 a1 =
  ((C35 F35 ).bind fun r1 =>
   (bcond (!(res35_0 r1))
    (some (ret7 false))
    ((C43 F43 a0 a1).bind fun r2 =>
     ((C44 F44 a0 a1).bind fun r3 =>
      ((C39 F39 a0 false).bind fun r4 =>
       (bcond (((res39_0 r4) : Int) == 0)
        ((C39 F39 a1 true).bind fun r5 =>
         (bcond (((res39_0 r5) : Int) != 0)
          (bcond ((((res43_1 r2) : Int) == (res39_0 r5)) == true)
           (bcond ((((res44_1 r3) : Int) == (res39_0 r5)) == true)
            (some (ret7 (((IntKind.i64.wrap ((List.length (res43_0 r2) : Int) + (List.length (res44_0 r3) : Int))) : Int) == 0)))
            (some (ret7 false)))
           (some (ret7 false)))
          ((C45 F45 a0 a1).bind fun r6 =>
           (bcond ((((res43_1 r2) : Int) == 0) == true)
            (bcond ((((res44_1 r3) : Int) == 0) == true)
             ((C46 F46 (res43_0 r2) (res45_0 r6)).bind fun r7 =>
              (bcond ((res46_0 r7) == true)
               ((C47 F47 (res45_0 r6) a0).bind fun r8 =>
                ((C46 F46 (res44_0 r3) (res47_0 r8)).bind fun r9 =>
                 (some (ret7 (res46_0 r9)))))
               (some (ret7 false))))
             (some (ret7 false)))
            (some (ret7 false))))))
        (bcond (((res39_0 r4) : Int) != 0)
         (bcond ((((res43_1 r2) : Int) == (res39_0 r4)) == true)
          (bcond ((((res44_1 r3) : Int) == (res39_0 r4)) == true)
           (some (ret7 (((IntKind.i64.wrap ((List.length (res43_0 r2) : Int) + (List.length (res44_0 r3) : Int))) : Int) == 0)))
           (some (ret7 false)))
          (some (ret7 false)))
         ((C45 F45 a0 a1).bind fun r5 =>
          (bcond ((((res43_1 r2) : Int) == 0) == true)
           (bcond ((((res44_1 r3) : Int) == 0) == true)
            ((C46 F46 (res43_0 r2) (res45_0 r5)).bind fun r6 =>
             (bcond ((res46_0 r6) == true)
              ((C47 F47 (res45_0 r5) a0).bind fun r7 =>
               ((C46 F46 (res44_0 r3) (res47_0 r7)).bind fun r8 =>
                (some (ret7 (res46_0 r8)))))
              (some (ret7 false))))
            (some (ret7 false)))
           (some (ret7 false))))))))))) := by kernel_rfl
theorem ok7 : fnOk os7 sig7 Try.f7 = true := by kernel_rfl
theorem fn7 : P.funcs[7]? = some Try.f7 := by kernel_rfl
noncomputable def F7 : sig7.Fn := fun x y => run T (env7 F35 F43 F44 F39 F45 F46 F47) os7 sig7 Try.f7 hs7 big x y
theorem S7 : Sound P 7 ⟨sig7, F7⟩ := sound_of (os := os7) (hs := hs7) (env_cons S35 (env_cons S43 (env_cons S44 (env_cons S39 (env_cons S45 (env_cons S46 (env_cons S47 (env_nil)))))))) fn7 ok7 (fun x y out h => ⟨big, h⟩)
theorem e7 (a0 : List YAttr.den) (a1 : List YAttr.den) : C7 F7 a0 a1 =
  ((C35 F35 ).bind fun r1 =>
   (bcond (!(res35_0 r1))
    (some (ret7 false))
    ((C43 F43 a0 a1).bind fun r2 =>
     ((C44 F44 a0 a1).bind fun r3 =>
      ((C39 F39 a0 false).bind fun r4 =>
       (bcond (((res39_0 r4) : Int) == 0)
        ((C39 F39 a1 true).bind fun r5 =>
         (bcond (((res39_0 r5) : Int) != 0)
          (bcond ((((res43_1 r2) : Int) == (res39_0 r5)) == true)
           (bcond ((((res44_1 r3) : Int) == (res39_0 r5)) == true)
            (some (ret7 (((IntKind.i64.wrap ((List.length (res43_0 r2) : Int) + (List.length (res44_0 r3) : Int))) : Int) == 0)))
            (some (ret7 false)))
           (some (ret7 false)))
          ((C45 F45 a0 a1).bind fun r6 =>
           (bcond ((((res43_1 r2) : Int) == 0) == true)
            (bcond ((((res44_1 r3) : Int) == 0) == true)
             ((C46 F46 (res43_0 r2) (res45_0 r6)).bind fun r7 =>
              (bcond ((res46_0 r7) == true)
               ((C47 F47 (res45_0 r6) a0).bind fun r8 =>
                ((C46 F46 (res44_0 r3) (res47_0 r8)).bind fun r9 =>
                 (some (ret7 (res46_0 r9)))))
               (some (ret7 false))))
             (some (ret7 false)))
            (some (ret7 false))))))
        (bcond (((res39_0 r4) : Int) != 0)
         (bcond ((((res43_1 r2) : Int) == (res39_0 r4)) == true)
          (bcond ((((res44_1 r3) : Int) == (res39_0 r4)) == true)
           (some (ret7 (((IntKind.i64.wrap ((List.length (res43_0 r2) : Int) + (List.length (res44_0 r3) : Int))) : Int) == 0)))
           (some (ret7 false)))
          (some (ret7 false)))
         ((C45 F45 a0 a1).bind fun r5 =>
          (bcond ((((res43_1 r2) : Int) == 0) == true)
           (bcond ((((res44_1 r3) : Int) == 0) == true)
            ((C46 F46 (res43_0 r2) (res45_0 r5)).bind fun r6 =>
             (bcond ((res46_0 r6) == true)
              ((C47 F47 (res45_0 r5) a0).bind fun r7 =>
               ((C46 F46 (res44_0 r3) (res47_0 r7)).bind fun r8 =>
                (some (ret7 (res46_0 r8)))))
              (some (ret7 false))))
            (some (ret7 false)))
           (some (ret7 false))))))))))) := run7 F35 F43 F44 F39 F45 F46 F47 big a0 a1

/-! ### chancery/chancerylaw1.AttrBetweenMatches -/
def sig9 : Sig := ⟨[.v false (.list YAttr), .v false (.list YAttr)], [], [(false, [.fr .bool])]⟩
def C9 (F : sig9.Fn) (a0 : List YAttr.den) (a1 : List YAttr.den) : Option sig9.Out := F (a0, a1, ()) ()
def ret9 (v0 : Bool) : sig9.Out := (((v0, ()), ()), ())
def res9_0 (r : sig9.Out) : Bool := r.1.1.1
@[simp] theorem res9_0_ret (v0 : Bool) : res9_0 (ret9 v0) = v0 := rfl
def os9 : List (Nat × Ord) := []
def hs9 : List Keep := []
@[reducible] def env9 (F35 : sig35.Fn) (F53 : sig53.Fn) (F46 : sig46.Fn) (F54 : sig54.Fn) (F39 : sig39.Fn) (F47 : sig47.Fn) : Env := [(35, ⟨sig35, F35⟩), (53, ⟨sig53, F53⟩), (46, ⟨sig46, F46⟩), (54, ⟨sig54, F54⟩), (39, ⟨sig39, F39⟩), (47, ⟨sig47, F47⟩)]
theorem run9 (F35 : sig35.Fn) (F53 : sig53.Fn) (F46 : sig46.Fn) (F54 : sig54.Fn) (F39 : sig39.Fn) (F47 : sig47.Fn) (n : Nat) (a0 : List YAttr.den) (a1 : List YAttr.den) : C9 (fun x y => run T (env9 F35 F53 F46 F54 F39 F47) os9 sig9 Try.f9 hs9 n x y) a0 a1 =
  ((C35 F35 ).bind fun r1 =>
   (bcond ((!(res35_0 r1)) == false)
    ((C53 F53 a0 a1).bind fun r2 =>
     ((C46 F46 a0 a1).bind fun r3 =>
      (bcond (((res53_0 r2) : Bool) != (res46_0 r3))
       (some (ret9 false))
       ((C54 F54 a0 a1).bind fun r4 =>
        ((C39 F39 a0 false).bind fun r5 =>
         (bcond (((res39_0 r5) : Int) == 0)
          ((C39 F39 a1 false).bind fun r6 =>
           (bcond (((res39_0 r6) : Int) != 0)
            (bcond ((((res54_1 r4) : Int) == (res39_0 r6)) == true)
             (some (ret9 (((List.length (res54_0 r4) : Int) : Int) == 0)))
             (some (ret9 false)))
            (bcond ((((res54_1 r4) : Int) == 0) == true)
             ((C47 F47 a0 a1).bind fun r7 =>
              ((C46 F46 (res54_0 r4) (res47_0 r7)).bind fun r8 =>
               (some (ret9 (res46_0 r8)))))
             (some (ret9 false)))))
          (bcond (((res39_0 r5) : Int) != 0)
           (bcond ((((res54_1 r4) : Int) == (res39_0 r5)) == true)
            (some (ret9 (((List.length (res54_0 r4) : Int) : Int) == 0)))
            (some (ret9 false)))
           (bcond ((((res54_1 r4) : Int) == 0) == true)
            ((C47 F47 a0 a1).bind fun r6 =>
             ((C46 F46 (res54_0 r4) (res47_0 r6)).bind fun r7 =>
              (some (ret9 (res46_0 r7)))))
            (some (ret9 false))))))))))
    (some (ret9 false)))) := by kernel_rfl
theorem ok9 : fnOk os9 sig9 Try.f9 = true := by kernel_rfl
theorem fn9 : P.funcs[9]? = some Try.f9 := by kernel_rfl
noncomputable def F9 : sig9.Fn := fun x y => run T (env9 F35 F53 F46 F54 F39 F47) os9 sig9 Try.f9 hs9 big x y
theorem S9 : Sound P 9 ⟨sig9, F9⟩ := sound_of (os := os9) (hs := hs9) (env_cons S35 (env_cons S53 (env_cons S46 (env_cons S54 (env_cons S39 (env_cons S47 (env_nil))))))) fn9 ok9 (fun x y out h => ⟨big, h⟩)
theorem e9 (a0 : List YAttr.den) (a1 : List YAttr.den) : C9 F9 a0 a1 =
  ((C35 F35 ).bind fun r1 =>
   (bcond ((!(res35_0 r1)) == false)
    ((C53 F53 a0 a1).bind fun r2 =>
     ((C46 F46 a0 a1).bind fun r3 =>
      (bcond (((res53_0 r2) : Bool) != (res46_0 r3))
       (some (ret9 false))
       ((C54 F54 a0 a1).bind fun r4 =>
        ((C39 F39 a0 false).bind fun r5 =>
         (bcond (((res39_0 r5) : Int) == 0)
          ((C39 F39 a1 false).bind fun r6 =>
           (bcond (((res39_0 r6) : Int) != 0)
            (bcond ((((res54_1 r4) : Int) == (res39_0 r6)) == true)
             (some (ret9 (((List.length (res54_0 r4) : Int) : Int) == 0)))
             (some (ret9 false)))
            (bcond ((((res54_1 r4) : Int) == 0) == true)
             ((C47 F47 a0 a1).bind fun r7 =>
              ((C46 F46 (res54_0 r4) (res47_0 r7)).bind fun r8 =>
               (some (ret9 (res46_0 r8)))))
             (some (ret9 false)))))
          (bcond (((res39_0 r5) : Int) != 0)
           (bcond ((((res54_1 r4) : Int) == (res39_0 r5)) == true)
            (some (ret9 (((List.length (res54_0 r4) : Int) : Int) == 0)))
            (some (ret9 false)))
           (bcond ((((res54_1 r4) : Int) == 0) == true)
            ((C47 F47 a0 a1).bind fun r6 =>
             ((C46 F46 (res54_0 r4) (res47_0 r6)).bind fun r7 =>
              (some (ret9 (res46_0 r7)))))
            (some (ret9 false))))))))))
    (some (ret9 false)))) := run9 F35 F53 F46 F54 F39 F47 big a0 a1
end Go.Ev
