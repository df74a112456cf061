/- Functions, step by step. -/
import Derived.Test.YthbpjpeogchkpaaGAttr
namespace Go.Ev
set_option linter.unusedVariables false
set_option maxRecDepth 100000
open Go.Proofs

/-! ### chancery/chanceryref1.Char -/
def sig67 : Sig := ⟨[.v false (.int .i64)], [], [(false, [.fr .bool])]⟩
def C67 (F : sig67.Fn) (a0 : Int) : Option sig67.Out := F (a0, ()) ()
def ret67 (v0 : Bool) : sig67.Out := (((v0, ()), ()), ())
def res67_0 (r : sig67.Out) : Bool := r.1.1.1
@[simp] theorem res67_0_ret (v0 : Bool) : res67_0 (ret67 v0) = v0 := rfl
def os67 : List (Nat × Ord) := []
def hs67 : List Keep := []
@[reducible] def env67 (F31 : sig31.Fn) : Env := [(31, ⟨sig31, F31⟩)]
theorem run67 (F31 : sig31.Fn) (n : Nat) (a0 : Int) : C67 (fun x y => run T (env67 F31) os67 sig67 Try.f67 hs67 n x y) a0 =
  (bcond (((a0 : Int) == 9) == false)
   (bcond (((a0 : Int) == 10) == false)
    ((C31 F31 a0 32 126).bind fun r1 =>
     (bcond ((res31_0 r1) == false)
      ((C31 F31 a0 160 55295).bind fun r2 =>
       (bcond ((res31_0 r2) == false)
        ((C31 F31 a0 57344 1114111).bind fun r3 =>
         (some (ret67 (res31_0 r3))))
        (some (ret67 true))))
      (some (ret67 true))))
    (some (ret67 true)))
   (some (ret67 true))) := by kernel_rfl
theorem ok67 : fnOk os67 sig67 Try.f67 = true := by kernel_rfl
theorem fn67 : P.funcs[67]? = some Try.f67 := by kernel_rfl
noncomputable def F67 : sig67.Fn := fun x y => run T (env67 F31) os67 sig67 Try.f67 hs67 big x y
theorem S67 : Sound P 67 ⟨sig67, F67⟩ := sound_of (os := os67) (hs := hs67) (env_cons S31 (env_nil)) fn67 ok67 (fun x y out h => ⟨big, h⟩)
theorem e67 (a0 : Int) : C67 F67 a0 =
  (bcond (((a0 : Int) == 9) == false)
   (bcond (((a0 : Int) == 10) == false)
    ((C31 F31 a0 32 126).bind fun r1 =>
     (bcond ((res31_0 r1) == false)
      ((C31 F31 a0 160 55295).bind fun r2 =>
       (bcond ((res31_0 r2) == false)
        ((C31 F31 a0 57344 1114111).bind fun r3 =>
         (some (ret67 (res31_0 r3))))
        (some (ret67 true))))
      (some (ret67 true))))
    (some (ret67 true)))
   (some (ret67 true))) := run67 F31 big a0

/-! ### chancery/chanceryref1.ElemError -/
def sig56 : Sig := ⟨[.v true YElem], [], [(false, [.fr (.int .i64)])]⟩
def C56 (F : sig56.Fn) (a0 : YElem.den) : Option sig56.Out := F (a0, ()) ()
def ret56 (v0 : Int) : sig56.Out := (((v0, ()), ()), ())
def res56_0 (r : sig56.Out) : Int := r.1.1.1
@[simp] theorem res56_0_ret (v0 : Int) : res56_0 (ret56 v0) = v0 := rfl
def os56 : List (Nat × Ord) := []
def hs56 : List Keep := []
@[reducible] def env56 (F67 : sig67.Fn) (F31 : sig31.Fn) (F14 : sig14.Fn) : Env := [(67, ⟨sig67, F67⟩), (31, ⟨sig31, F31⟩), (14, ⟨sig14, F14⟩)]
theorem run56 (F67 : sig67.Fn) (F31 : sig31.Fn) (F14 : sig14.Fn) (n : Nat) (a0 : YElem.den) : C56 (fun x y => run T (env56 F67 F31 F14) os56 sig56 Try.f56 hs56 n x y) a0 =
  (bcond (((a0.1 : Int) == 0) == true)
   (bcond (((a0.2.1 : Int) == 0) == false)
    (bcond (((a0.1 : Int) != 0) == true)
     (bcond ((a0.2.1 : Int) != 0)
      (some (ret56 4))
      (bcond (((a0.1 : Int) != 0) == true)
       ((C67 F67 a0.1).bind fun r1 =>
        (bcond ((!(res67_0 r1)) == false)
         (bcond (((a0.2.1 : Int) != 0) == true)
          ((C31 F31 a0.2.1 1 1073741824).bind fun r2 =>
           (bcond (!(res31_0 r2))
            (some (ret56 2))
            ((C14 F14 a0.2.2 false).bind fun r3 =>
             (some (ret56 (res14_0 r3))))))
          ((C14 F14 a0.2.2 false).bind fun r2 =>
           (some (ret56 (res14_0 r2)))))
         (some (ret56 2))))
       (bcond (((a0.2.1 : Int) != 0) == true)
        ((C31 F31 a0.2.1 1 1073741824).bind fun r1 =>
         (bcond (!(res31_0 r1))
          (some (ret56 2))
          ((C14 F14 a0.2.2 false).bind fun r2 =>
           (some (ret56 (res14_0 r2))))))
        ((C14 F14 a0.2.2 false).bind fun r1 =>
         (some (ret56 (res14_0 r1)))))))
     (bcond (((a0.1 : Int) != 0) == true)
      ((C67 F67 a0.1).bind fun r1 =>
       (bcond ((!(res67_0 r1)) == false)
        (bcond (((a0.2.1 : Int) != 0) == true)
         ((C31 F31 a0.2.1 1 1073741824).bind fun r2 =>
          (bcond (!(res31_0 r2))
           (some (ret56 2))
           ((C14 F14 a0.2.2 false).bind fun r3 =>
            (some (ret56 (res14_0 r3))))))
         ((C14 F14 a0.2.2 false).bind fun r2 =>
          (some (ret56 (res14_0 r2)))))
        (some (ret56 2))))
      (bcond (((a0.2.1 : Int) != 0) == true)
       ((C31 F31 a0.2.1 1 1073741824).bind fun r1 =>
        (bcond (!(res31_0 r1))
         (some (ret56 2))
         ((C14 F14 a0.2.2 false).bind fun r2 =>
          (some (ret56 (res14_0 r2))))))
       ((C14 F14 a0.2.2 false).bind fun r1 =>
        (some (ret56 (res14_0 r1)))))))
    (some (ret56 4)))
   (bcond (((a0.1 : Int) != 0) == true)
    (bcond ((a0.2.1 : Int) != 0)
     (some (ret56 4))
     (bcond (((a0.1 : Int) != 0) == true)
      ((C67 F67 a0.1).bind fun r1 =>
       (bcond ((!(res67_0 r1)) == false)
        (bcond (((a0.2.1 : Int) != 0) == true)
         ((C31 F31 a0.2.1 1 1073741824).bind fun r2 =>
          (bcond (!(res31_0 r2))
           (some (ret56 2))
           ((C14 F14 a0.2.2 false).bind fun r3 =>
            (some (ret56 (res14_0 r3))))))
         ((C14 F14 a0.2.2 false).bind fun r2 =>
          (some (ret56 (res14_0 r2)))))
        (some (ret56 2))))
      (bcond (((a0.2.1 : Int) != 0) == true)
       ((C31 F31 a0.2.1 1 1073741824).bind fun r1 =>
        (bcond (!(res31_0 r1))
         (some (ret56 2))
         ((C14 F14 a0.2.2 false).bind fun r2 =>
          (some (ret56 (res14_0 r2))))))
       ((C14 F14 a0.2.2 false).bind fun r1 =>
        (some (ret56 (res14_0 r1)))))))
    (bcond (((a0.1 : Int) != 0) == true)
     ((C67 F67 a0.1).bind fun r1 =>
      (bcond ((!(res67_0 r1)) == false)
       (bcond (((a0.2.1 : Int) != 0) == true)
        ((C31 F31 a0.2.1 1 1073741824).bind fun r2 =>
         (bcond (!(res31_0 r2))
          (some (ret56 2))
          ((C14 F14 a0.2.2 false).bind fun r3 =>
           (some (ret56 (res14_0 r3))))))
        ((C14 F14 a0.2.2 false).bind fun r2 =>
         (some (ret56 (res14_0 r2)))))
       (some (ret56 2))))
     (bcond (((a0.2.1 : Int) != 0) == true)
      ((C31 F31 a0.2.1 1 1073741824).bind fun r1 =>
       (bcond (!(res31_0 r1))
        (some (ret56 2))
        ((C14 F14 a0.2.2 false).bind fun r2 =>
         (some (ret56 (res14_0 r2))))))
      ((C14 F14 a0.2.2 false).bind fun r1 =>
       (some (ret56 (res14_0 r1)))))))) := by kernel_rfl
theorem ok56 : fnOk os56 sig56 Try.f56 = true := by kernel_rfl
theorem fn56 : P.funcs[56]? = some Try.f56 := by kernel_rfl
noncomputable def F56 : sig56.Fn := fun x y => run T (env56 F67 F31 F14) os56 sig56 Try.f56 hs56 big x y
theorem S56 : Sound P 56 ⟨sig56, F56⟩ := sound_of (os := os56) (hs := hs56) (env_cons S67 (env_cons S31 (env_cons S14 (env_nil)))) fn56 ok56 (fun x y out h => ⟨big, h⟩)
theorem e56 (a0 : YElem.den) : C56 F56 a0 =
  (bcond (((a0.1 : Int) == 0) == true)
   (bcond (((a0.2.1 : Int) == 0) == false)
    (bcond (((a0.1 : Int) != 0) == true)
     (bcond ((a0.2.1 : Int) != 0)
      (some (ret56 4))
      (bcond (((a0.1 : Int) != 0) == true)
       ((C67 F67 a0.1).bind fun r1 =>
        (bcond ((!(res67_0 r1)) == false)
         (bcond (((a0.2.1 : Int) != 0) == true)
          ((C31 F31 a0.2.1 1 1073741824).bind fun r2 =>
           (bcond (!(res31_0 r2))
            (some (ret56 2))
            ((C14 F14 a0.2.2 false).bind fun r3 =>
             (some (ret56 (res14_0 r3))))))
          ((C14 F14 a0.2.2 false).bind fun r2 =>
           (some (ret56 (res14_0 r2)))))
         (some (ret56 2))))
       (bcond (((a0.2.1 : Int) != 0) == true)
        ((C31 F31 a0.2.1 1 1073741824).bind fun r1 =>
         (bcond (!(res31_0 r1))
          (some (ret56 2))
          ((C14 F14 a0.2.2 false).bind fun r2 =>
           (some (ret56 (res14_0 r2))))))
        ((C14 F14 a0.2.2 false).bind fun r1 =>
         (some (ret56 (res14_0 r1)))))))
     (bcond (((a0.1 : Int) != 0) == true)
      ((C67 F67 a0.1).bind fun r1 =>
       (bcond ((!(res67_0 r1)) == false)
        (bcond (((a0.2.1 : Int) != 0) == true)
         ((C31 F31 a0.2.1 1 1073741824).bind fun r2 =>
          (bcond (!(res31_0 r2))
           (some (ret56 2))
           ((C14 F14 a0.2.2 false).bind fun r3 =>
            (some (ret56 (res14_0 r3))))))
         ((C14 F14 a0.2.2 false).bind fun r2 =>
          (some (ret56 (res14_0 r2)))))
        (some (ret56 2))))
      (bcond (((a0.2.1 : Int) != 0) == true)
       ((C31 F31 a0.2.1 1 1073741824).bind fun r1 =>
        (bcond (!(res31_0 r1))
         (some (ret56 2))
         ((C14 F14 a0.2.2 false).bind fun r2 =>
          (some (ret56 (res14_0 r2))))))
       ((C14 F14 a0.2.2 false).bind fun r1 =>
        (some (ret56 (res14_0 r1)))))))
    (some (ret56 4)))
   (bcond (((a0.1 : Int) != 0) == true)
    (bcond ((a0.2.1 : Int) != 0)
     (some (ret56 4))
     (bcond (((a0.1 : Int) != 0) == true)
      ((C67 F67 a0.1).bind fun r1 =>
       (bcond ((!(res67_0 r1)) == false)
        (bcond (((a0.2.1 : Int) != 0) == true)
         ((C31 F31 a0.2.1 1 1073741824).bind fun r2 =>
          (bcond (!(res31_0 r2))
           (some (ret56 2))
           ((C14 F14 a0.2.2 false).bind fun r3 =>
            (some (ret56 (res14_0 r3))))))
         ((C14 F14 a0.2.2 false).bind fun r2 =>
          (some (ret56 (res14_0 r2)))))
        (some (ret56 2))))
      (bcond (((a0.2.1 : Int) != 0) == true)
       ((C31 F31 a0.2.1 1 1073741824).bind fun r1 =>
        (bcond (!(res31_0 r1))
         (some (ret56 2))
         ((C14 F14 a0.2.2 false).bind fun r2 =>
          (some (ret56 (res14_0 r2))))))
       ((C14 F14 a0.2.2 false).bind fun r1 =>
        (some (ret56 (res14_0 r1)))))))
    (bcond (((a0.1 : Int) != 0) == true)
     ((C67 F67 a0.1).bind fun r1 =>
      (bcond ((!(res67_0 r1)) == false)
       (bcond (((a0.2.1 : Int) != 0) == true)
        ((C31 F31 a0.2.1 1 1073741824).bind fun r2 =>
         (bcond (!(res31_0 r2))
          (some (ret56 2))
          ((C14 F14 a0.2.2 false).bind fun r3 =>
           (some (ret56 (res14_0 r3))))))
        ((C14 F14 a0.2.2 false).bind fun r2 =>
         (some (ret56 (res14_0 r2)))))
       (some (ret56 2))))
     (bcond (((a0.2.1 : Int) != 0) == true)
      ((C31 F31 a0.2.1 1 1073741824).bind fun r1 =>
       (bcond (!(res31_0 r1))
        (some (ret56 2))
        ((C14 F14 a0.2.2 false).bind fun r2 =>
         (some (ret56 (res14_0 r2))))))
      ((C14 F14 a0.2.2 false).bind fun r1 =>
       (some (ret56 (res14_0 r1)))))))) := run56 F67 F31 F14 big a0

/-! ### chancery/chanceryref1.PartError -/
def sig32 : Sig := ⟨[.v false (.list YElem)], [], [(false, [.fr (.int .i64)])]⟩
def C32 (F : sig32.Fn) (a0 : List YElem.den) : Option sig32.Out := F (a0, ()) ()
def ret32 (v0 : Int) : sig32.Out := (((v0, ()), ()), ())
def res32_0 (r : sig32.Out) : Int := r.1.1.1
@[simp] theorem res32_0_ret (v0 : Int) : res32_0 (ret32 v0) = v0 := rfl
def os32 : List (Nat × Ord) := []
def hs32 : List Keep := [[(0, []), (6, []), (7, [])]]
@[reducible] def env32 (F56 : sig56.Fn) : Env := [(56, ⟨sig56, F56⟩)]
noncomputable def L32_0 (F56 : sig56.Fn) (n m1 : Nat) (x0 : List YElem.den) (x6 : Int) (x7 : Int) : Option sig32.Out :=
  loopAt T (env32 F56) os32 sig32 Try.f32 hs32 n [.sr, .sl, .sr, .bl] m1 (mk 19 [(0, .cs false [.val (.list YElem) x0]), (6, .cs false [.val (.int .i64) x6]), (7, .cs false [.val (.int .i64) x7])])
theorem L32_0_step (F56 : sig56.Fn) (n m1 : Nat) (x0 : List YElem.den) (x6 : Int) (x7 : Int) : L32_0 F56 n (m1 + 1) x0 x6 x7 =
  (bcond (decide ((x7 : Int) < x6))
   (if 0 ≤ (x7 : Int) ∧ (x7 : Int) < (List.length x0 : Int) then
    ((C56 F56 (at_ (e := YElem) x0 x7)).bind fun r1 =>
     (bcond (((res56_0 r1) : Int) != 0)
      (some (ret32 (res56_0 r1)))
      (L32_0 F56 n m1 x0 x6 (IntKind.i64.wrap (x7 + 1)))))
   else none)
   (some (ret32 0))) := by kernel_rfl
theorem run32 (F56 : sig56.Fn) (n : Nat) (a0 : List YElem.den) : C32 (fun x y => run T (env32 F56) os32 sig32 Try.f32 hs32 n x y) a0 =
  (L32_0 F56 n n a0 (List.length a0 : Int) 0) := by kernel_rfl
theorem ok32 : fnOk os32 sig32 Try.f32 = true := by kernel_rfl
theorem fn32 : P.funcs[32]? = some Try.f32 := by kernel_rfl
noncomputable def F32 : sig32.Fn := fun x y => run T (env32 F56) os32 sig32 Try.f32 hs32 big x y
theorem S32 : Sound P 32 ⟨sig32, F32⟩ := sound_of (os := os32) (hs := hs32) (env_cons S56 (env_nil)) fn32 ok32 (fun x y out h => ⟨big, h⟩)
theorem e32 (a0 : List YElem.den) : C32 F32 a0 =
  (L32_0 F56 big big a0 (List.length a0 : Int) 0) := run32 F56 big a0

/-! ### chancery/chanceryref1.SameElem -/
def sig51 : Sig := ⟨[.v true YElem, .v true YElem], [], [(false, [.fr .bool])]⟩
def C51 (F : sig51.Fn) (a0 : YElem.den) (a1 : YElem.den) : Option sig51.Out := F (a0, a1, ()) ()
def ret51 (v0 : Bool) : sig51.Out := (((v0, ()), ()), ())
def res51_0 (r : sig51.Out) : Bool := r.1.1.1
@[simp] theorem res51_0_ret (v0 : Bool) : res51_0 (ret51 v0) = v0 := rfl
def os51 : List (Nat × Ord) := []
def hs51 : List Keep := []
@[reducible] def env51 (F35 : sig35.Fn) : Env := [(35, ⟨sig35, F35⟩)]
theorem run51 (F35 : sig35.Fn) (n : Nat) (a0 : YElem.den) (a1 : YElem.den) : C51 (fun x y => run T (env51 F35) os51 sig51 Try.f51 hs51 n x y) a0 a1 =
  (bcond (((a0.1 : Int) == a1.1) == true)
   (bcond (((a0.2.1 : Int) == a1.2.1) == true)
    ((C35 F35 a0.2.2 a1.2.2).bind fun r1 =>
     (some (ret51 (res35_0 r1))))
    (some (ret51 false)))
   (some (ret51 false))) := by kernel_rfl
theorem ok51 : fnOk os51 sig51 Try.f51 = true := by kernel_rfl
theorem fn51 : P.funcs[51]? = some Try.f51 := by kernel_rfl
noncomputable def F51 : sig51.Fn := fun x y => run T (env51 F35) os51 sig51 Try.f51 hs51 big x y
theorem S51 : Sound P 51 ⟨sig51, F51⟩ := sound_of (os := os51) (hs := hs51) (env_cons S35 (env_nil)) fn51 ok51 (fun x y out h => ⟨big, h⟩)
theorem e51 (a0 : YElem.den) (a1 : YElem.den) : C51 F51 a0 a1 =
  (bcond (((a0.1 : Int) == a1.1) == true)
   (bcond (((a0.2.1 : Int) == a1.2.1) == true)
    ((C35 F35 a0.2.2 a1.2.2).bind fun r1 =>
     (some (ret51 (res35_0 r1))))
    (some (ret51 false)))
   (some (ret51 false))) := run51 F35 big a0 a1

/-! ### chancery/chanceryref1.SameFlow -/
def sig21 : Sig := ⟨[.v false (.list YElem), .v false (.list YElem)], [], [(false, [.fr .bool])]⟩
def C21 (F : sig21.Fn) (a0 : List YElem.den) (a1 : List YElem.den) : Option sig21.Out := F (a0, a1, ()) ()
def ret21 (v0 : Bool) : sig21.Out := (((v0, ()), ()), ())
def res21_0 (r : sig21.Out) : Bool := r.1.1.1
@[simp] theorem res21_0_ret (v0 : Bool) : res21_0 (ret21 v0) = v0 := rfl
def os21 : List (Nat × Ord) := [(6, .st 0 (.st 1 (.st 2 (.st 4 (.st 5 (.st 6 (.st 3 (.st 7 (.st 8 (.st 9 (.nil)))))))))))]
def hs21 : List Keep := [[(0, []), (1, []), (12, []), (13, [])]]
@[reducible] def env21 (F51 : sig51.Fn) : Env := [(51, ⟨sig51, F51⟩)]
noncomputable def L21_0 (F51 : sig51.Fn) (n m1 : Nat) (x0 : List YElem.den) (x1 : List YElem.den) (x12 : Int) (x13 : Int) : Option sig21.Out :=
  loopAt T (env21 F51) os21 sig21 Try.f21 hs21 n [.sr, .sr, .sl, .sr, .bl] m1 (mk 27 [(0, .cs false [.val (.list YElem) x0]), (1, .cs false [.val (.list YElem) x1]), (12, .cs false [.val (.int .i64) x12]), (13, .cs false [.val (.int .i64) x13])])
theorem L21_0_step (F51 : sig51.Fn) (n m1 : Nat) (x0 : List YElem.den) (x1 : List YElem.den) (x12 : Int) (x13 : Int) : L21_0 F51 n (m1 + 1) x0 x1 x12 x13 =
  (bcond (decide ((x13 : Int) < x12))
   (if 0 ≤ (x13 : Int) ∧ (x13 : Int) < (List.length x0 : Int) then
    (if 0 ≤ (x13 : Int) ∧ (x13 : Int) < (List.length x1 : Int) then
     ((C51 F51 (at_ (e := YElem) x0 x13) (at_ (e := YElem) x1 x13)).bind fun r1 =>
      (bcond (!(res51_0 r1))
       (some (ret21 false))
       (L21_0 F51 n m1 x0 x1 x12 (IntKind.i64.wrap (x13 + 1)))))
    else none)
   else none)
   (some (ret21 true))) := by kernel_rfl
theorem run21 (F51 : sig51.Fn) (n : Nat) (a0 : List YElem.den) (a1 : List YElem.den) : C21 (fun x y => run T (env21 F51) os21 sig21 Try.f21 hs21 n x y) a0 a1 =
  (bcond (((List.length a0 : Int) : Int) != (List.length a1 : Int))
   (some (ret21 false))
   (L21_0 F51 n n a0 a1 (List.length a0 : Int) 0)) := by kernel_rfl
theorem ok21 : fnOk os21 sig21 Try.f21 = true := by kernel_rfl
theorem fn21 : P.funcs[21]? = some Try.f21 := by kernel_rfl
noncomputable def F21 : sig21.Fn := fun x y => run T (env21 F51) os21 sig21 Try.f21 hs21 big x y
theorem S21 : Sound P 21 ⟨sig21, F21⟩ := sound_of (os := os21) (hs := hs21) (env_cons S51 (env_nil)) fn21 ok21 (fun x y out h => ⟨big, h⟩)
theorem e21 (a0 : List YElem.den) (a1 : List YElem.den) : C21 F21 a0 a1 =
  (bcond (((List.length a0 : Int) : Int) != (List.length a1 : Int))
   (some (ret21 false))
   (L21_0 F51 big big a0 a1 (List.length a0 : Int) 0)) := run21 F51 big a0 a1

/-! ### chancery/flow.Char -/
def sig70 : Sig := ⟨[.v false (.int .i64)], [], [(false, [.fr .bool])]⟩
def C70 (F : sig70.Fn) (a0 : Int) : Option sig70.Out := F (a0, ()) ()
def ret70 (v0 : Bool) : sig70.Out := (((v0, ()), ()), ())
def res70_0 (r : sig70.Out) : Bool := r.1.1.1
@[simp] theorem res70_0_ret (v0 : Bool) : res70_0 (ret70 v0) = v0 := rfl
def os70 : List (Nat × Ord) := []
def hs70 : List Keep := []
@[reducible] def env70 : Env := []
theorem run70 (n : Nat) (a0 : Int) : C70 (fun x y => run T (env70) os70 sig70 Try.f70 hs70 n x y) a0 =
  (bcond (((a0 : Int) == 9) == false)
   (bcond (((a0 : Int) == 10) == false)
    (bcond ((decide ((a0 : Int) ≥ 32)) == true)
     (bcond ((decide ((a0 : Int) < 127)) == false)
      (bcond ((decide ((a0 : Int) ≥ 160)) == true)
       (bcond ((decide ((a0 : Int) < 55296)) == false)
        (bcond ((decide ((a0 : Int) > 57343)) == true)
         (some (ret70 (decide ((a0 : Int) ≤ 1114111))))
         (some (ret70 false)))
        (some (ret70 true)))
       (bcond ((decide ((a0 : Int) > 57343)) == true)
        (some (ret70 (decide ((a0 : Int) ≤ 1114111))))
        (some (ret70 false))))
      (some (ret70 true)))
     (bcond ((decide ((a0 : Int) ≥ 160)) == true)
      (bcond ((decide ((a0 : Int) < 55296)) == false)
       (bcond ((decide ((a0 : Int) > 57343)) == true)
        (some (ret70 (decide ((a0 : Int) ≤ 1114111))))
        (some (ret70 false)))
       (some (ret70 true)))
      (bcond ((decide ((a0 : Int) > 57343)) == true)
       (some (ret70 (decide ((a0 : Int) ≤ 1114111))))
       (some (ret70 false)))))
    (some (ret70 true)))
   (some (ret70 true))) := by kernel_rfl
theorem ok70 : fnOk os70 sig70 Try.f70 = true := by kernel_rfl
theorem fn70 : P.funcs[70]? = some Try.f70 := by kernel_rfl
noncomputable def F70 : sig70.Fn := fun x y => run T (env70) os70 sig70 Try.f70 hs70 big x y
theorem S70 : Sound P 70 ⟨sig70, F70⟩ := sound_of (os := os70) (hs := hs70) (env_nil) fn70 ok70 (fun x y out h => ⟨big, h⟩)
theorem e70 (a0 : Int) : C70 F70 a0 =
  (bcond (((a0 : Int) == 9) == false)
   (bcond (((a0 : Int) == 10) == false)
    (bcond ((decide ((a0 : Int) ≥ 32)) == true)
     (bcond ((decide ((a0 : Int) < 127)) == false)
      (bcond ((decide ((a0 : Int) ≥ 160)) == true)
       (bcond ((decide ((a0 : Int) < 55296)) == false)
        (bcond ((decide ((a0 : Int) > 57343)) == true)
         (some (ret70 (decide ((a0 : Int) ≤ 1114111))))
         (some (ret70 false)))
        (some (ret70 true)))
       (bcond ((decide ((a0 : Int) > 57343)) == true)
        (some (ret70 (decide ((a0 : Int) ≤ 1114111))))
        (some (ret70 false))))
      (some (ret70 true)))
     (bcond ((decide ((a0 : Int) ≥ 160)) == true)
      (bcond ((decide ((a0 : Int) < 55296)) == false)
       (bcond ((decide ((a0 : Int) > 57343)) == true)
        (some (ret70 (decide ((a0 : Int) ≤ 1114111))))
        (some (ret70 false)))
       (some (ret70 true)))
      (bcond ((decide ((a0 : Int) > 57343)) == true)
       (some (ret70 (decide ((a0 : Int) ≤ 1114111))))
       (some (ret70 false)))))
    (some (ret70 true)))
   (some (ret70 true))) := run70 big a0

/-! ### chancery/flow.elem -/
def sig66 : Sig := ⟨[.v true YElem], [], [(false, [.fr (.int .i64)])]⟩
def C66 (F : sig66.Fn) (a0 : YElem.den) : Option sig66.Out := F (a0, ()) ()
def ret66 (v0 : Int) : sig66.Out := (((v0, ()), ()), ())
def res66_0 (r : sig66.Out) : Int := r.1.1.1
@[simp] theorem res66_0_ret (v0 : Int) : res66_0 (ret66 v0) = v0 := rfl
def os66 : List (Nat × Ord) := []
def hs66 : List Keep := []
@[reducible] def env66 (F70 : sig70.Fn) (F71 : sig71.Fn) : Env := [(70, ⟨sig70, F70⟩), (71, ⟨sig71, F71⟩)]
theorem run66 (F70 : sig70.Fn) (F71 : sig71.Fn) (n : Nat) (a0 : YElem.den) : C66 (fun x y => run T (env66 F70 F71) os66 sig66 Try.f66 hs66 n x y) a0 =
  (bcond ((((a0.1 : Int) != 0) : Bool) == ((a0.2.1 : Int) != 0))
   (some (ret66 4))
   (bcond (((a0.2.1 : Int) == 0) == true)
    ((C70 F70 a0.1).bind fun r1 =>
     (bcond (!(res70_0 r1))
      (some (ret66 2))
      (bcond (((a0.2.1 : Int) != 0) == true)
       (bcond ((decide ((a0.2.1 : Int) < 1)) == false)
        (bcond (decide ((a0.2.1 : Int) > 1073741824))
         (some (ret66 2))
         ((C71 F71 a0.2.2).bind fun r2 =>
          (some (ret66 (res71_0 r2)))))
        (some (ret66 2)))
       ((C71 F71 a0.2.2).bind fun r2 =>
        (some (ret66 (res71_0 r2)))))))
    (bcond (((a0.2.1 : Int) != 0) == true)
     (bcond ((decide ((a0.2.1 : Int) < 1)) == false)
      (bcond (decide ((a0.2.1 : Int) > 1073741824))
       (some (ret66 2))
       ((C71 F71 a0.2.2).bind fun r1 =>
        (some (ret66 (res71_0 r1)))))
      (some (ret66 2)))
     ((C71 F71 a0.2.2).bind fun r1 =>
      (some (ret66 (res71_0 r1))))))) := by kernel_rfl
theorem ok66 : fnOk os66 sig66 Try.f66 = true := by kernel_rfl
theorem fn66 : P.funcs[66]? = some Try.f66 := by kernel_rfl
noncomputable def F66 : sig66.Fn := fun x y => run T (env66 F70 F71) os66 sig66 Try.f66 hs66 big x y
theorem S66 : Sound P 66 ⟨sig66, F66⟩ := sound_of (os := os66) (hs := hs66) (env_cons S70 (env_cons S71 (env_nil))) fn66 ok66 (fun x y out h => ⟨big, h⟩)
theorem e66 (a0 : YElem.den) : C66 F66 a0 =
  (bcond ((((a0.1 : Int) != 0) : Bool) == ((a0.2.1 : Int) != 0))
   (some (ret66 4))
   (bcond (((a0.2.1 : Int) == 0) == true)
    ((C70 F70 a0.1).bind fun r1 =>
     (bcond (!(res70_0 r1))
      (some (ret66 2))
      (bcond (((a0.2.1 : Int) != 0) == true)
       (bcond ((decide ((a0.2.1 : Int) < 1)) == false)
        (bcond (decide ((a0.2.1 : Int) > 1073741824))
         (some (ret66 2))
         ((C71 F71 a0.2.2).bind fun r2 =>
          (some (ret66 (res71_0 r2)))))
        (some (ret66 2)))
       ((C71 F71 a0.2.2).bind fun r2 =>
        (some (ret66 (res71_0 r2)))))))
    (bcond (((a0.2.1 : Int) != 0) == true)
     (bcond ((decide ((a0.2.1 : Int) < 1)) == false)
      (bcond (decide ((a0.2.1 : Int) > 1073741824))
       (some (ret66 2))
       ((C71 F71 a0.2.2).bind fun r1 =>
        (some (ret66 (res71_0 r1)))))
      (some (ret66 2)))
     ((C71 F71 a0.2.2).bind fun r1 =>
      (some (ret66 (res71_0 r1))))))) := run66 F70 F71 big a0

/-! ### chancery/flow.CheckPart -/
def sig55 : Sig := ⟨[.v false (.list YElem)], [], [(false, [.fr (.int .i64)])]⟩
def C55 (F : sig55.Fn) (a0 : List YElem.den) : Option sig55.Out := F (a0, ()) ()
def ret55 (v0 : Int) : sig55.Out := (((v0, ()), ()), ())
def res55_0 (r : sig55.Out) : Int := r.1.1.1
@[simp] theorem res55_0_ret (v0 : Int) : res55_0 (ret55 v0) = v0 := rfl
def os55 : List (Nat × Ord) := []
def hs55 : List Keep := [[(6, []), (7, []), (8, [])]]
@[reducible] def env55 (F66 : sig66.Fn) : Env := [(66, ⟨sig66, F66⟩)]
noncomputable def L55_0 (F66 : sig66.Fn) (n m1 : Nat) (x6 : List YElem.den) (x7 : Int) (x8 : Int) : Option sig55.Out :=
  loopAt T (env55 F66) os55 sig55 Try.f55 hs55 n [.sr, .sl, .sr, .bl] m1 (mk 18 [(6, .cs false [.val (.list YElem) x6]), (7, .cs false [.val (.int .i64) x7]), (8, .cs false [.val (.int .i64) x8])])
theorem L55_0_step (F66 : sig66.Fn) (n m1 : Nat) (x6 : List YElem.den) (x7 : Int) (x8 : Int) : L55_0 F66 n (m1 + 1) x6 x7 x8 =
  (bcond (decide ((x8 : Int) < x7))
   (if 0 ≤ (x8 : Int) ∧ (x8 : Int) < (List.length x6 : Int) then
    ((C66 F66 (at_ (e := YElem) x6 x8)).bind fun r1 =>
     (bcond (((res66_0 r1) : Int) != 0)
      (some (ret55 (res66_0 r1)))
      (L55_0 F66 n m1 x6 x7 (IntKind.i64.wrap (x8 + 1)))))
   else none)
   (some (ret55 0))) := by kernel_rfl
theorem run55 (F66 : sig66.Fn) (n : Nat) (a0 : List YElem.den) : C55 (fun x y => run T (env55 F66) os55 sig55 Try.f55 hs55 n x y) a0 =
  (L55_0 F66 n n a0 (List.length a0 : Int) 0) := by kernel_rfl
theorem ok55 : fnOk os55 sig55 Try.f55 = true := by kernel_rfl
theorem fn55 : P.funcs[55]? = some Try.f55 := by kernel_rfl
noncomputable def F55 : sig55.Fn := fun x y => run T (env55 F66) os55 sig55 Try.f55 hs55 big x y
theorem S55 : Sound P 55 ⟨sig55, F55⟩ := sound_of (os := os55) (hs := hs55) (env_cons S66 (env_nil)) fn55 ok55 (fun x y out h => ⟨big, h⟩)
theorem e55 (a0 : List YElem.den) : C55 F55 a0 =
  (L55_0 F66 big big a0 (List.length a0 : Int) 0) := run55 F66 big a0

/-! ### chancery/flow.Copy -/
def sig59 : Sig := ⟨[.v false (.list YElem)], [], [(false, [.fr (.list YElem)])]⟩
def C59 (F : sig59.Fn) (a0 : List YElem.den) : Option sig59.Out := F (a0, ()) ()
def ret59 (v0 : List YElem.den) : sig59.Out := (((v0, ()), ()), ())
def res59_0 (r : sig59.Out) : List YElem.den := r.1.1.1
@[simp] theorem res59_0_ret (v0 : List YElem.den) : res59_0 (ret59 v0) = v0 := rfl
def os59 : List (Nat × Ord) := [(5, .st 0 (.st 1 (.st 2 (.st 4 (.st 6 (.st 7 (.alt 3 (.alt 5 (.st 8 (.st 9 (.st 10 (.st 11 (.nil))))) (.st 8 (.st 5 (.st 9 (.st 10 (.st 11 (.nil))))))) (.alt 5 (.alt 3 (.st 8 (.st 9 (.st 10 (.st 11 (.nil))))) (.st 8 (.st 3 (.st 9 (.st 10 (.st 11 (.nil))))))) (.st 8 (.st 3 (.st 5 (.st 9 (.st 10 (.st 11 (.nil)))))))))))))))]
def hs59 : List Keep := [[(3, [(0, 67, YElem)]), (9, []), (10, []), (11, [])]]
@[reducible] def env59 : Env := []
noncomputable def L59_0 (n m1 : Nat) (x3 : List YElem.den) (x9 : List YElem.den) (x10 : Int) (x11 : Int) : Option sig59.Out :=
  loopAt T (env59) os59 sig59 Try.f59 hs59 n [.sr, .sr, .sl, .sr, .bl] m1 (mk 29 [(3, .cs false [.own 67 YElem x3]), (9, .cs false [.val (.list YElem) x9]), (10, .cs false [.val (.int .i64) x10]), (11, .cs false [.val (.int .i64) x11])])
theorem L59_0_raw (n m1 : Nat) (x3 : List YElem.den) (x9 : List YElem.den) (x10 : Int) (x11 : Int) : L59_0 n (m1 + 1) x3 x9 x10 x11 =
  (bcond (decide ((x11 : Int) < x10))
   (if 0 ≤ (x11 : Int) ∧ (x11 : Int) < (List.length x9 : Int) then
    (agree
     (agree
      (if List.length ((at_ (e := YElem) x9 x11).2.2 : List YAttr.den) * 32 ≤ 140737488355328 then
       (if 0 ≤ (x11 : Int) ∧ (x11 : Int) < (List.length x3 : Int) then
        (L59_0 n m1 (List.set x3 (Int.toNat x11) (at_ (e := YElem) x9 x11)) x9 x10 (IntKind.i64.wrap (x11 + 1)))
       else none)
      else none)
      (if List.length ((at_ (e := YElem) x9 x11).2.2 : List YAttr.den) * 32 ≤ 140737488355328 then
       (if 0 ≤ (x11 : Int) ∧ (x11 : Int) < (List.length x3 : Int) then
        (L59_0 n m1 (List.set x3 (Int.toNat x11) (at_ (e := YElem) x9 x11)) x9 x10 (IntKind.i64.wrap (x11 + 1)))
       else none)
      else none))
    (agree
     (agree
      (if List.length ((at_ (e := YElem) x9 x11).2.2 : List YAttr.den) * 32 ≤ 140737488355328 then
       (if 0 ≤ (x11 : Int) ∧ (x11 : Int) < (List.length x3 : Int) then
        (L59_0 n m1 (List.set x3 (Int.toNat x11) (at_ (e := YElem) x9 x11)) x9 x10 (IntKind.i64.wrap (x11 + 1)))
       else none)
      else none)
      (if List.length ((at_ (e := YElem) x9 x11).2.2 : List YAttr.den) * 32 ≤ 140737488355328 then
       (if 0 ≤ (x11 : Int) ∧ (x11 : Int) < (List.length x3 : Int) then
        (L59_0 n m1 (List.set x3 (Int.toNat x11) (at_ (e := YElem) x9 x11)) x9 x10 (IntKind.i64.wrap (x11 + 1)))
       else none)
      else none))
     (if List.length ((at_ (e := YElem) x9 x11).2.2 : List YAttr.den) * 32 ≤ 140737488355328 then
      (if 0 ≤ (x11 : Int) ∧ (x11 : Int) < (List.length x3 : Int) then
       (L59_0 n m1 (List.set x3 (Int.toNat x11) (at_ (e := YElem) x9 x11)) x9 x10 (IntKind.i64.wrap (x11 + 1)))
      else none)
     else none)))
   else none)
   (some (ret59 x3))) := by kernel_rfl
theorem L59_0_step (n m1 : Nat) (x3 : List YElem.den) (x9 : List YElem.den) (x10 : Int) (x11 : Int) : L59_0 n (m1 + 1) x3 x9 x10 x11 =
  (bcond (decide ((x11 : Int) < x10))
   (if 0 ≤ (x11 : Int) ∧ (x11 : Int) < (List.length x9 : Int) then
    (if List.length ((at_ (e := YElem) x9 x11).2.2 : List YAttr.den) * 32 ≤ 140737488355328 then
     (if 0 ≤ (x11 : Int) ∧ (x11 : Int) < (List.length x3 : Int) then
      (L59_0 n m1 (List.set x3 (Int.toNat x11) (at_ (e := YElem) x9 x11)) x9 x10 (IntKind.i64.wrap (x11 + 1)))
     else none)
    else none)
   else none)
   (some (ret59 x3))) := by rw [L59_0_raw]; simp only [agree_self]
theorem run59 (n : Nat) (a0 : List YElem.den) : C59 (fun x y => run T (env59) os59 sig59 Try.f59 hs59 n x y) a0 =
  (if 0 ≤ ((List.length a0 : Int) : Int) ∧ ((List.length a0 : Int) : Int) = (List.length a0 : Int) ∧ ((List.length a0 : Int) : Int) * 40 ≤ 140737488355328 ∧ ((List.length a0 : Int) : Int) ≤ 140737488355328 then
   (L59_0 n n (List.replicate (Int.toNat (List.length a0 : Int)) (0, (0, []))) a0 (List.length a0 : Int) 0)
  else none) := by kernel_rfl
theorem ok59 : fnOk os59 sig59 Try.f59 = true := by kernel_rfl
theorem fn59 : P.funcs[59]? = some Try.f59 := by kernel_rfl
noncomputable def F59 : sig59.Fn := fun x y => run T (env59) os59 sig59 Try.f59 hs59 big x y
theorem S59 : Sound P 59 ⟨sig59, F59⟩ := sound_of (os := os59) (hs := hs59) (env_nil) fn59 ok59 (fun x y out h => ⟨big, h⟩)
theorem e59 (a0 : List YElem.den) : C59 F59 a0 =
  (if 0 ≤ ((List.length a0 : Int) : Int) ∧ ((List.length a0 : Int) : Int) = (List.length a0 : Int) ∧ ((List.length a0 : Int) : Int) * 40 ≤ 140737488355328 ∧ ((List.length a0 : Int) : Int) ≤ 140737488355328 then
   (L59_0 big big (List.replicate (Int.toNat (List.length a0 : Int)) (0, (0, []))) a0 (List.length a0 : Int) 0)
  else none) := run59 big a0
end Go.Ev
