/- Functions, step by step. -/
import Derived.Test.YthbpjpeogchkpaaGFlow
namespace Go.Ev
set_option linter.unusedVariables false
set_option maxRecDepth 100000
open Go.Proofs

/-! ### chancery/delta.size -/
def sig39 : Sig := ⟨[.v true YStep], [], [(false, [.fr (.int .i64)])]⟩
def C39 (F : sig39.Fn) (a0 : YStep.den) : Option sig39.Out := F (a0, ()) ()
def ret39 (v0 : Int) : sig39.Out := (((v0, ()), ()), ())
def res39_0 (r : sig39.Out) : Int := r.1.1.1
@[simp] theorem res39_0_ret (v0 : Int) : res39_0 (ret39 v0) = v0 := rfl
def os39 : List (Nat × Ord) := []
def hs39 : List Keep := []
@[reducible] def env39 : Env := []
theorem run39 (n : Nat) (a0 : YStep.den) : C39 (fun x y => run T (env39) os39 sig39 Try.f39 hs39 n x y) a0 =
  (bcond ((a0.1 : Int) == 1)
   (some (ret39 (List.length a0.2.2.2 : Int)))
   (some (ret39 a0.2.1))) := by kernel_rfl
theorem ok39 : fnOk os39 sig39 Try.f39 = true := by kernel_rfl
theorem fn39 : P.funcs[39]? = some Try.f39 := by kernel_rfl
noncomputable def F39 : sig39.Fn := fun x y => run T (env39) os39 sig39 Try.f39 hs39 big x y
theorem S39 : Sound P 39 ⟨sig39, F39⟩ := sound_of (os := os39) (hs := hs39) (env_nil) fn39 ok39 (fun x y out h => ⟨big, h⟩)
theorem e39 (a0 : YStep.den) : C39 F39 a0 =
  (bcond ((a0.1 : Int) == 1)
   (some (ret39 (List.length a0.2.2.2 : Int)))
   (some (ret39 a0.2.1))) := run39 big a0

/-! ### chancery/delta.step -/
def sig37 : Sig := ⟨[.v true YStep], [], [(false, [.fr (.int .i64)])]⟩
def C37 (F : sig37.Fn) (a0 : YStep.den) : Option sig37.Out := F (a0, ()) ()
def ret37 (v0 : Int) : sig37.Out := (((v0, ()), ()), ())
def res37_0 (r : sig37.Out) : Int := r.1.1.1
@[simp] theorem res37_0_ret (v0 : Int) : res37_0 (ret37 v0) = v0 := rfl
def os37 : List (Nat × Ord) := []
def hs37 : List Keep := []
@[reducible] def env37 (F40 : sig40.Fn) (F55 : sig55.Fn) : Env := [(40, ⟨sig40, F40⟩), (55, ⟨sig55, F55⟩)]
theorem run37 (F40 : sig40.Fn) (F55 : sig55.Fn) (n : Nat) (a0 : YStep.den) : C37 (fun x y => run T (env37 F40 F55) os37 sig37 Try.f37 hs37 n x y) a0 =
  (bcond ((a0.1 : Int) == 0)
   (bcond ((decide (((List.length a0.2.2.2 : Int) : Int) > 0)) == false)
    (bcond (((a0.1 : Int) == 2) == true)
     (bcond (decide (((List.length a0.2.2.1 : Int) : Int) > 0))
      (some (ret37 4))
      (bcond ((decide ((a0.2.1 : Int) < 1)) == false)
       (bcond (decide ((a0.2.1 : Int) > 2147483647))
        (some (ret37 2))
        ((C40 F40 a0.2.2.1).bind fun r1 =>
         (some (ret37 (res40_0 r1)))))
       (some (ret37 2))))
     (bcond ((decide ((a0.2.1 : Int) < 1)) == false)
      (bcond (decide ((a0.2.1 : Int) > 2147483647))
       (some (ret37 2))
       ((C40 F40 a0.2.2.1).bind fun r1 =>
        (some (ret37 (res40_0 r1)))))
      (some (ret37 2))))
    (some (ret37 4)))
   (bcond ((a0.1 : Int) == 2)
    (bcond ((decide (((List.length a0.2.2.2 : Int) : Int) > 0)) == false)
     (bcond (((a0.1 : Int) == 2) == true)
      (bcond (decide (((List.length a0.2.2.1 : Int) : Int) > 0))
       (some (ret37 4))
       (bcond ((decide ((a0.2.1 : Int) < 1)) == false)
        (bcond (decide ((a0.2.1 : Int) > 2147483647))
         (some (ret37 2))
         ((C40 F40 a0.2.2.1).bind fun r1 =>
          (some (ret37 (res40_0 r1)))))
        (some (ret37 2))))
      (bcond ((decide ((a0.2.1 : Int) < 1)) == false)
       (bcond (decide ((a0.2.1 : Int) > 2147483647))
        (some (ret37 2))
        ((C40 F40 a0.2.2.1).bind fun r1 =>
         (some (ret37 (res40_0 r1)))))
       (some (ret37 2))))
     (some (ret37 4)))
    (bcond ((a0.1 : Int) == 1)
     (bcond (((a0.2.1 : Int) != 0) == false)
      (bcond (decide (((List.length a0.2.2.1 : Int) : Int) > 0))
       (some (ret37 4))
       (bcond (((List.length a0.2.2.2 : Int) : Int) == 0)
        (some (ret37 11))
        ((C55 F55 a0.2.2.2).bind fun r1 =>
         (some (ret37 (res55_0 r1))))))
      (some (ret37 4)))
     (some (ret37 8))))) := by kernel_rfl
theorem ok37 : fnOk os37 sig37 Try.f37 = true := by kernel_rfl
theorem fn37 : P.funcs[37]? = some Try.f37 := by kernel_rfl
noncomputable def F37 : sig37.Fn := fun x y => run T (env37 F40 F55) os37 sig37 Try.f37 hs37 big x y
theorem S37 : Sound P 37 ⟨sig37, F37⟩ := sound_of (os := os37) (hs := hs37) (env_cons S40 (env_cons S55 (env_nil))) fn37 ok37 (fun x y out h => ⟨big, h⟩)
theorem e37 (a0 : YStep.den) : C37 F37 a0 =
  (bcond ((a0.1 : Int) == 0)
   (bcond ((decide (((List.length a0.2.2.2 : Int) : Int) > 0)) == false)
    (bcond (((a0.1 : Int) == 2) == true)
     (bcond (decide (((List.length a0.2.2.1 : Int) : Int) > 0))
      (some (ret37 4))
      (bcond ((decide ((a0.2.1 : Int) < 1)) == false)
       (bcond (decide ((a0.2.1 : Int) > 2147483647))
        (some (ret37 2))
        ((C40 F40 a0.2.2.1).bind fun r1 =>
         (some (ret37 (res40_0 r1)))))
       (some (ret37 2))))
     (bcond ((decide ((a0.2.1 : Int) < 1)) == false)
      (bcond (decide ((a0.2.1 : Int) > 2147483647))
       (some (ret37 2))
       ((C40 F40 a0.2.2.1).bind fun r1 =>
        (some (ret37 (res40_0 r1)))))
      (some (ret37 2))))
    (some (ret37 4)))
   (bcond ((a0.1 : Int) == 2)
    (bcond ((decide (((List.length a0.2.2.2 : Int) : Int) > 0)) == false)
     (bcond (((a0.1 : Int) == 2) == true)
      (bcond (decide (((List.length a0.2.2.1 : Int) : Int) > 0))
       (some (ret37 4))
       (bcond ((decide ((a0.2.1 : Int) < 1)) == false)
        (bcond (decide ((a0.2.1 : Int) > 2147483647))
         (some (ret37 2))
         ((C40 F40 a0.2.2.1).bind fun r1 =>
          (some (ret37 (res40_0 r1)))))
        (some (ret37 2))))
      (bcond ((decide ((a0.2.1 : Int) < 1)) == false)
       (bcond (decide ((a0.2.1 : Int) > 2147483647))
        (some (ret37 2))
        ((C40 F40 a0.2.2.1).bind fun r1 =>
         (some (ret37 (res40_0 r1)))))
       (some (ret37 2))))
     (some (ret37 4)))
    (bcond ((a0.1 : Int) == 1)
     (bcond (((a0.2.1 : Int) != 0) == false)
      (bcond (decide (((List.length a0.2.2.1 : Int) : Int) > 0))
       (some (ret37 4))
       (bcond (((List.length a0.2.2.2 : Int) : Int) == 0)
        (some (ret37 11))
        ((C55 F55 a0.2.2.2).bind fun r1 =>
         (some (ret37 (res55_0 r1))))))
      (some (ret37 4)))
     (some (ret37 8))))) := run37 F40 F55 big a0

/-! ### chancery/delta.Check -/
def sig10 : Sig := ⟨[.v false (.list YStep)], [], [(false, [.fr (.int .i64)])]⟩
def C10 (F : sig10.Fn) (a0 : List YStep.den) : Option sig10.Out := F (a0, ()) ()
def ret10 (v0 : Int) : sig10.Out := (((v0, ()), ()), ())
def res10_0 (r : sig10.Out) : Int := r.1.1.1
@[simp] theorem res10_0_ret (v0 : Int) : res10_0 (ret10 v0) = v0 := rfl
def os10 : List (Nat × Ord) := []
def hs10 : List Keep := [[(0, []), (3, []), (4, []), (9, []), (10, []), (11, [])]]
@[reducible] def env10 (F37 : sig37.Fn) (F38 : sig38.Fn) (F39 : sig39.Fn) : Env := [(37, ⟨sig37, F37⟩), (38, ⟨sig38, F38⟩), (39, ⟨sig39, F39⟩)]
noncomputable def L10_0 (F37 : sig37.Fn) (F38 : sig38.Fn) (F39 : sig39.Fn) (n m1 : Nat) (x0 : List YStep.den) (x3 : Int) (x4 : Int) (x9 : List YStep.den) (x10 : Int) (x11 : Int) : Option sig10.Out :=
  loopAt T (env10 F37 F38 F39) os10 sig10 Try.f10 hs10 n [.sr, .sr, .sl, .sr, .bl] m1 (mk 78 [(0, .cs false [.val (.list YStep) x0]), (3, .cs false [.val (.int .i64) x3]), (4, .cs false [.val (.int .i64) x4]), (9, .cs false [.val (.list YStep) x9]), (10, .cs false [.val (.int .i64) x10]), (11, .cs false [.val (.int .i64) x11])])
theorem L10_0_step (F37 : sig37.Fn) (F38 : sig38.Fn) (F39 : sig39.Fn) (n m1 : Nat) (x0 : List YStep.den) (x3 : Int) (x4 : Int) (x9 : List YStep.den) (x10 : Int) (x11 : Int) : L10_0 F37 F38 F39 n (m1 + 1) x0 x3 x4 x9 x10 x11 =
  (bcond (decide ((x11 : Int) < x10))
   (if 0 ≤ (x11 : Int) ∧ (x11 : Int) < (List.length x9 : Int) then
    ((C37 F37 (at_ (e := YStep) x9 x11)).bind fun r1 =>
     (bcond (((res37_0 r1) : Int) != 0)
      (some (ret10 (res37_0 r1)))
      (bcond (decide ((x11 : Int) > 0))
       (if 0 ≤ ((IntKind.i64.wrap (x11 - 1)) : Int) ∧ ((IntKind.i64.wrap (x11 - 1)) : Int) < (List.length x0 : Int) then
        (bcond ((((at_ (e := YStep) x0 (IntKind.i64.wrap (x11 - 1))).1 : Int) == (at_ (e := YStep) x9 x11).1) == true)
         (bcond ((((at_ (e := YStep) x9 x11).1 : Int) != 0) == false)
          ((C38 F38 (at_ (e := YStep) x0 (IntKind.i64.wrap (x11 - 1))).2.2.1 (at_ (e := YStep) x9 x11).2.2.1).bind fun r2 =>
           (bcond ((res38_0 r2) == false)
            (bcond ((((at_ (e := YStep) x0 (IntKind.i64.wrap (x11 - 1))).1 : Int) == 2) == true)
             (bcond (((at_ (e := YStep) x9 x11).1 : Int) == 1)
              (some (ret10 5))
              (bcond (((at_ (e := YStep) x9 x11).1 : Int) != 1)
               (bcond (((at_ (e := YStep) x9 x11).1 : Int) != 2)
                ((C39 F39 (at_ (e := YStep) x9 x11)).bind fun r3 =>
                 (L10_0 F37 F38 F39 n m1 x0 (if (2147483648 : Int) < (IntKind.i64.wrap (x3 + (at_ (e := YStep) x9 x11).2.1)) then 2147483648 else (IntKind.i64.wrap (x3 + (at_ (e := YStep) x9 x11).2.1))) (if (2147483648 : Int) < (IntKind.i64.wrap (x4 + (res39_0 r3))) then 2147483648 else (IntKind.i64.wrap (x4 + (res39_0 r3)))) x9 x10 (IntKind.i64.wrap (x11 + 1))))
                (L10_0 F37 F38 F39 n m1 x0 (if (2147483648 : Int) < (IntKind.i64.wrap (x3 + (at_ (e := YStep) x9 x11).2.1)) then 2147483648 else (IntKind.i64.wrap (x3 + (at_ (e := YStep) x9 x11).2.1))) x4 x9 x10 (IntKind.i64.wrap (x11 + 1))))
               (bcond (((at_ (e := YStep) x9 x11).1 : Int) != 2)
                ((C39 F39 (at_ (e := YStep) x9 x11)).bind fun r3 =>
                 (L10_0 F37 F38 F39 n m1 x0 x3 (if (2147483648 : Int) < (IntKind.i64.wrap (x4 + (res39_0 r3))) then 2147483648 else (IntKind.i64.wrap (x4 + (res39_0 r3)))) x9 x10 (IntKind.i64.wrap (x11 + 1))))
                (L10_0 F37 F38 F39 n m1 x0 x3 x4 x9 x10 (IntKind.i64.wrap (x11 + 1))))))
             (bcond (((at_ (e := YStep) x9 x11).1 : Int) != 1)
              (bcond (((at_ (e := YStep) x9 x11).1 : Int) != 2)
               ((C39 F39 (at_ (e := YStep) x9 x11)).bind fun r3 =>
                (L10_0 F37 F38 F39 n m1 x0 (if (2147483648 : Int) < (IntKind.i64.wrap (x3 + (at_ (e := YStep) x9 x11).2.1)) then 2147483648 else (IntKind.i64.wrap (x3 + (at_ (e := YStep) x9 x11).2.1))) (if (2147483648 : Int) < (IntKind.i64.wrap (x4 + (res39_0 r3))) then 2147483648 else (IntKind.i64.wrap (x4 + (res39_0 r3)))) x9 x10 (IntKind.i64.wrap (x11 + 1))))
               (L10_0 F37 F38 F39 n m1 x0 (if (2147483648 : Int) < (IntKind.i64.wrap (x3 + (at_ (e := YStep) x9 x11).2.1)) then 2147483648 else (IntKind.i64.wrap (x3 + (at_ (e := YStep) x9 x11).2.1))) x4 x9 x10 (IntKind.i64.wrap (x11 + 1))))
              (bcond (((at_ (e := YStep) x9 x11).1 : Int) != 2)
               ((C39 F39 (at_ (e := YStep) x9 x11)).bind fun r3 =>
                (L10_0 F37 F38 F39 n m1 x0 x3 (if (2147483648 : Int) < (IntKind.i64.wrap (x4 + (res39_0 r3))) then 2147483648 else (IntKind.i64.wrap (x4 + (res39_0 r3)))) x9 x10 (IntKind.i64.wrap (x11 + 1))))
               (L10_0 F37 F38 F39 n m1 x0 x3 x4 x9 x10 (IntKind.i64.wrap (x11 + 1))))))
            (some (ret10 5))))
          (some (ret10 5)))
         (bcond ((((at_ (e := YStep) x0 (IntKind.i64.wrap (x11 - 1))).1 : Int) == 2) == true)
          (bcond (((at_ (e := YStep) x9 x11).1 : Int) == 1)
           (some (ret10 5))
           (bcond (((at_ (e := YStep) x9 x11).1 : Int) != 1)
            (bcond (((at_ (e := YStep) x9 x11).1 : Int) != 2)
             ((C39 F39 (at_ (e := YStep) x9 x11)).bind fun r2 =>
              (L10_0 F37 F38 F39 n m1 x0 (if (2147483648 : Int) < (IntKind.i64.wrap (x3 + (at_ (e := YStep) x9 x11).2.1)) then 2147483648 else (IntKind.i64.wrap (x3 + (at_ (e := YStep) x9 x11).2.1))) (if (2147483648 : Int) < (IntKind.i64.wrap (x4 + (res39_0 r2))) then 2147483648 else (IntKind.i64.wrap (x4 + (res39_0 r2)))) x9 x10 (IntKind.i64.wrap (x11 + 1))))
             (L10_0 F37 F38 F39 n m1 x0 (if (2147483648 : Int) < (IntKind.i64.wrap (x3 + (at_ (e := YStep) x9 x11).2.1)) then 2147483648 else (IntKind.i64.wrap (x3 + (at_ (e := YStep) x9 x11).2.1))) x4 x9 x10 (IntKind.i64.wrap (x11 + 1))))
            (bcond (((at_ (e := YStep) x9 x11).1 : Int) != 2)
             ((C39 F39 (at_ (e := YStep) x9 x11)).bind fun r2 =>
              (L10_0 F37 F38 F39 n m1 x0 x3 (if (2147483648 : Int) < (IntKind.i64.wrap (x4 + (res39_0 r2))) then 2147483648 else (IntKind.i64.wrap (x4 + (res39_0 r2)))) x9 x10 (IntKind.i64.wrap (x11 + 1))))
             (L10_0 F37 F38 F39 n m1 x0 x3 x4 x9 x10 (IntKind.i64.wrap (x11 + 1))))))
          (bcond (((at_ (e := YStep) x9 x11).1 : Int) != 1)
           (bcond (((at_ (e := YStep) x9 x11).1 : Int) != 2)
            ((C39 F39 (at_ (e := YStep) x9 x11)).bind fun r2 =>
             (L10_0 F37 F38 F39 n m1 x0 (if (2147483648 : Int) < (IntKind.i64.wrap (x3 + (at_ (e := YStep) x9 x11).2.1)) then 2147483648 else (IntKind.i64.wrap (x3 + (at_ (e := YStep) x9 x11).2.1))) (if (2147483648 : Int) < (IntKind.i64.wrap (x4 + (res39_0 r2))) then 2147483648 else (IntKind.i64.wrap (x4 + (res39_0 r2)))) x9 x10 (IntKind.i64.wrap (x11 + 1))))
            (L10_0 F37 F38 F39 n m1 x0 (if (2147483648 : Int) < (IntKind.i64.wrap (x3 + (at_ (e := YStep) x9 x11).2.1)) then 2147483648 else (IntKind.i64.wrap (x3 + (at_ (e := YStep) x9 x11).2.1))) x4 x9 x10 (IntKind.i64.wrap (x11 + 1))))
           (bcond (((at_ (e := YStep) x9 x11).1 : Int) != 2)
            ((C39 F39 (at_ (e := YStep) x9 x11)).bind fun r2 =>
             (L10_0 F37 F38 F39 n m1 x0 x3 (if (2147483648 : Int) < (IntKind.i64.wrap (x4 + (res39_0 r2))) then 2147483648 else (IntKind.i64.wrap (x4 + (res39_0 r2)))) x9 x10 (IntKind.i64.wrap (x11 + 1))))
            (L10_0 F37 F38 F39 n m1 x0 x3 x4 x9 x10 (IntKind.i64.wrap (x11 + 1)))))))
       else none)
       (bcond (((at_ (e := YStep) x9 x11).1 : Int) != 1)
        (bcond (((at_ (e := YStep) x9 x11).1 : Int) != 2)
         ((C39 F39 (at_ (e := YStep) x9 x11)).bind fun r2 =>
          (L10_0 F37 F38 F39 n m1 x0 (if (2147483648 : Int) < (IntKind.i64.wrap (x3 + (at_ (e := YStep) x9 x11).2.1)) then 2147483648 else (IntKind.i64.wrap (x3 + (at_ (e := YStep) x9 x11).2.1))) (if (2147483648 : Int) < (IntKind.i64.wrap (x4 + (res39_0 r2))) then 2147483648 else (IntKind.i64.wrap (x4 + (res39_0 r2)))) x9 x10 (IntKind.i64.wrap (x11 + 1))))
         (L10_0 F37 F38 F39 n m1 x0 (if (2147483648 : Int) < (IntKind.i64.wrap (x3 + (at_ (e := YStep) x9 x11).2.1)) then 2147483648 else (IntKind.i64.wrap (x3 + (at_ (e := YStep) x9 x11).2.1))) x4 x9 x10 (IntKind.i64.wrap (x11 + 1))))
        (bcond (((at_ (e := YStep) x9 x11).1 : Int) != 2)
         ((C39 F39 (at_ (e := YStep) x9 x11)).bind fun r2 =>
          (L10_0 F37 F38 F39 n m1 x0 x3 (if (2147483648 : Int) < (IntKind.i64.wrap (x4 + (res39_0 r2))) then 2147483648 else (IntKind.i64.wrap (x4 + (res39_0 r2)))) x9 x10 (IntKind.i64.wrap (x11 + 1))))
         (L10_0 F37 F38 F39 n m1 x0 x3 x4 x9 x10 (IntKind.i64.wrap (x11 + 1))))))))
   else none)
   (bcond ((decide ((x3 : Int) > 2147483647)) == false)
    (bcond (decide ((x4 : Int) > 2147483647))
     (some (ret10 3))
     (some (ret10 0)))
    (some (ret10 3)))) := by kernel_rfl
theorem run10 (F37 : sig37.Fn) (F38 : sig38.Fn) (F39 : sig39.Fn) (n : Nat) (a0 : List YStep.den) : C10 (fun x y => run T (env10 F37 F38 F39) os10 sig10 Try.f10 hs10 n x y) a0 =
  (L10_0 F37 F38 F39 n n a0 0 0 a0 (List.length a0 : Int) 0) := by kernel_rfl
theorem ok10 : fnOk os10 sig10 Try.f10 = true := by kernel_rfl
theorem fn10 : P.funcs[10]? = some Try.f10 := by kernel_rfl
noncomputable def F10 : sig10.Fn := fun x y => run T (env10 F37 F38 F39) os10 sig10 Try.f10 hs10 big x y
theorem S10 : Sound P 10 ⟨sig10, F10⟩ := sound_of (os := os10) (hs := hs10) (env_cons S37 (env_cons S38 (env_cons S39 (env_nil)))) fn10 ok10 (fun x y out h => ⟨big, h⟩)
theorem e10 (a0 : List YStep.den) : C10 F10 a0 =
  (L10_0 F37 F38 F39 big big a0 0 0 a0 (List.length a0 : Int) 0) := run10 F37 F38 F39 big a0

/-! ### chancery/delta.lengths -/
def sig36 : Sig := ⟨[.v false (.list YStep)], [], [(false, [.fr (.int .i64)]), (false, [.fr (.int .i64)])]⟩
def C36 (F : sig36.Fn) (a0 : List YStep.den) : Option sig36.Out := F (a0, ()) ()
def ret36 (v0 : Int) (v1 : Int) : sig36.Out := (((v0, ()), (v1, ()), ()), ())
def res36_0 (r : sig36.Out) : Int := r.1.1.1
@[simp] theorem res36_0_ret (v0 : Int) (v1 : Int) : res36_0 (ret36 v0 v1) = v0 := rfl
def res36_1 (r : sig36.Out) : Int := r.1.2.1.1
@[simp] theorem res36_1_ret (v0 : Int) (v1 : Int) : res36_1 (ret36 v0 v1) = v1 := rfl
def os36 : List (Nat × Ord) := []
def hs36 : List Keep := [[(4, []), (5, []), (8, []), (9, []), (10, [])]]
@[reducible] def env36 (F39 : sig39.Fn) : Env := [(39, ⟨sig39, F39⟩)]
noncomputable def L36_0 (F39 : sig39.Fn) (n m1 : Nat) (x4 : Int) (x5 : Int) (x8 : List YStep.den) (x9 : Int) (x10 : Int) : Option sig36.Out :=
  loopAt T (env36 F39) os36 sig36 Try.f36 hs36 n [.sr, .sr, .sl, .sr, .bl] m1 (mk 31 [(4, .cs false [.val (.int .i64) x4]), (5, .cs false [.val (.int .i64) x5]), (8, .cs false [.val (.list YStep) x8]), (9, .cs false [.val (.int .i64) x9]), (10, .cs false [.val (.int .i64) x10])])
theorem L36_0_step (F39 : sig39.Fn) (n m1 : Nat) (x4 : Int) (x5 : Int) (x8 : List YStep.den) (x9 : Int) (x10 : Int) : L36_0 F39 n (m1 + 1) x4 x5 x8 x9 x10 =
  (bcond (decide ((x10 : Int) < x9))
   (if 0 ≤ (x10 : Int) ∧ (x10 : Int) < (List.length x8 : Int) then
    (bcond (((at_ (e := YStep) x8 x10).1 : Int) != 1)
     (bcond (((at_ (e := YStep) x8 x10).1 : Int) != 2)
      ((C39 F39 (at_ (e := YStep) x8 x10)).bind fun r1 =>
       (L36_0 F39 n m1 (IntKind.i64.wrap (x4 + (at_ (e := YStep) x8 x10).2.1)) (IntKind.i64.wrap (x5 + (res39_0 r1))) x8 x9 (IntKind.i64.wrap (x10 + 1))))
      (L36_0 F39 n m1 (IntKind.i64.wrap (x4 + (at_ (e := YStep) x8 x10).2.1)) x5 x8 x9 (IntKind.i64.wrap (x10 + 1))))
     (bcond (((at_ (e := YStep) x8 x10).1 : Int) != 2)
      ((C39 F39 (at_ (e := YStep) x8 x10)).bind fun r1 =>
       (L36_0 F39 n m1 x4 (IntKind.i64.wrap (x5 + (res39_0 r1))) x8 x9 (IntKind.i64.wrap (x10 + 1))))
      (L36_0 F39 n m1 x4 x5 x8 x9 (IntKind.i64.wrap (x10 + 1)))))
   else none)
   (some (ret36 x4 x5))) := by kernel_rfl
theorem run36 (F39 : sig39.Fn) (n : Nat) (a0 : List YStep.den) : C36 (fun x y => run T (env36 F39) os36 sig36 Try.f36 hs36 n x y) a0 =
  (L36_0 F39 n n 0 0 a0 (List.length a0 : Int) 0) := by kernel_rfl
theorem ok36 : fnOk os36 sig36 Try.f36 = true := by kernel_rfl
theorem fn36 : P.funcs[36]? = some Try.f36 := by kernel_rfl
noncomputable def F36 : sig36.Fn := fun x y => run T (env36 F39) os36 sig36 Try.f36 hs36 big x y
theorem S36 : Sound P 36 ⟨sig36, F36⟩ := sound_of (os := os36) (hs := hs36) (env_cons S39 (env_nil)) fn36 ok36 (fun x y out h => ⟨big, h⟩)
theorem e36 (a0 : List YStep.den) : C36 F36 a0 =
  (L36_0 F39 big big 0 0 a0 (List.length a0 : Int) 0) := run36 F39 big a0

/-! ### chancery/delta.Lengths -/
def sig8 : Sig := ⟨[.v false (.list YStep)], [], [(false, [.fr (.int .i64)]), (false, [.fr (.int .i64)]), (false, [.fr (.int .i64)])]⟩
def C8 (F : sig8.Fn) (a0 : List YStep.den) : Option sig8.Out := F (a0, ()) ()
def ret8 (v0 : Int) (v1 : Int) (v2 : Int) : sig8.Out := (((v0, ()), (v1, ()), (v2, ()), ()), ())
def res8_0 (r : sig8.Out) : Int := r.1.1.1
@[simp] theorem res8_0_ret (v0 : Int) (v1 : Int) (v2 : Int) : res8_0 (ret8 v0 v1 v2) = v0 := rfl
def res8_1 (r : sig8.Out) : Int := r.1.2.1.1
@[simp] theorem res8_1_ret (v0 : Int) (v1 : Int) (v2 : Int) : res8_1 (ret8 v0 v1 v2) = v1 := rfl
def res8_2 (r : sig8.Out) : Int := r.1.2.2.1.1
@[simp] theorem res8_2_ret (v0 : Int) (v1 : Int) (v2 : Int) : res8_2 (ret8 v0 v1 v2) = v2 := rfl
def os8 : List (Nat × Ord) := []
def hs8 : List Keep := []
@[reducible] def env8 (F10 : sig10.Fn) (F36 : sig36.Fn) : Env := [(10, ⟨sig10, F10⟩), (36, ⟨sig36, F36⟩)]
theorem run8 (F10 : sig10.Fn) (F36 : sig36.Fn) (n : Nat) (a0 : List YStep.den) : C8 (fun x y => run T (env8 F10 F36) os8 sig8 Try.f8 hs8 n x y) a0 =
  ((C10 F10 a0).bind fun r1 =>
   (bcond (((res10_0 r1) : Int) != 0)
    (some (ret8 0 0 (res10_0 r1)))
    ((C36 F36 a0).bind fun r2 =>
     (some (ret8 (res36_0 r2) (res36_1 r2) 0))))) := by kernel_rfl
theorem ok8 : fnOk os8 sig8 Try.f8 = true := by kernel_rfl
theorem fn8 : P.funcs[8]? = some Try.f8 := by kernel_rfl
noncomputable def F8 : sig8.Fn := fun x y => run T (env8 F10 F36) os8 sig8 Try.f8 hs8 big x y
theorem S8 : Sound P 8 ⟨sig8, F8⟩ := sound_of (os := os8) (hs := hs8) (env_cons S10 (env_cons S36 (env_nil))) fn8 ok8 (fun x y out h => ⟨big, h⟩)
theorem e8 (a0 : List YStep.den) : C8 F8 a0 =
  ((C10 F10 a0).bind fun r1 =>
   (bcond (((res10_0 r1) : Int) != 0)
    (some (ret8 0 0 (res10_0 r1)))
    ((C36 F36 a0).bind fun r2 =>
     (some (ret8 (res36_0 r2) (res36_1 r2) 0))))) := run8 F10 F36 big a0

/-! ### chancery/delta.Ends -/
def sig11 : Sig := ⟨[.v false (.list YStep)], [], [(false, [.fr .bool])]⟩
def C11 (F : sig11.Fn) (a0 : List YStep.den) : Option sig11.Out := F (a0, ()) ()
def ret11 (v0 : Bool) : sig11.Out := (((v0, ()), ()), ())
def res11_0 (r : sig11.Out) : Bool := r.1.1.1
@[simp] theorem res11_0_ret (v0 : Bool) : res11_0 (ret11 v0) = v0 := rfl
def os11 : List (Nat × Ord) := []
def hs11 : List Keep := []
@[reducible] def env11 : Env := []
theorem run11 (n : Nat) (a0 : List YStep.den) : C11 (fun x y => run T (env11) os11 sig11 Try.f11 hs11 n x y) a0 =
  (bcond ((decide (((List.length a0 : Int) : Int) > 0)) == true)
   (if 0 ≤ ((IntKind.i64.wrap ((List.length a0 : Int) - 1)) : Int) ∧ ((IntKind.i64.wrap ((List.length a0 : Int) - 1)) : Int) < (List.length a0 : Int) then
    (some (ret11 (((at_ (e := YStep) a0 (IntKind.i64.wrap ((List.length a0 : Int) - 1))).1 : Int) == 0)))
   else none)
   (some (ret11 false))) := by kernel_rfl
theorem ok11 : fnOk os11 sig11 Try.f11 = true := by kernel_rfl
theorem fn11 : P.funcs[11]? = some Try.f11 := by kernel_rfl
noncomputable def F11 : sig11.Fn := fun x y => run T (env11) os11 sig11 Try.f11 hs11 big x y
theorem S11 : Sound P 11 ⟨sig11, F11⟩ := sound_of (os := os11) (hs := hs11) (env_nil) fn11 ok11 (fun x y out h => ⟨big, h⟩)
theorem e11 (a0 : List YStep.den) : C11 F11 a0 =
  (bcond ((decide (((List.length a0 : Int) : Int) > 0)) == true)
   (if 0 ≤ ((IntKind.i64.wrap ((List.length a0 : Int) - 1)) : Int) ∧ ((IntKind.i64.wrap ((List.length a0 : Int) - 1)) : Int) < (List.length a0 : Int) then
    (some (ret11 (((at_ (e := YStep) a0 (IntKind.i64.wrap ((List.length a0 : Int) - 1))).1 : Int) == 0)))
   else none)
   (some (ret11 false))) := run11 big a0

/-! ### chancery/chanceryref1.StepError -/
def sig13 : Sig := ⟨[.v true YStep], [], [(false, [.fr (.int .i64)])]⟩
def C13 (F : sig13.Fn) (a0 : YStep.den) : Option sig13.Out := F (a0, ()) ()
def ret13 (v0 : Int) : sig13.Out := (((v0, ()), ()), ())
def res13_0 (r : sig13.Out) : Int := r.1.1.1
@[simp] theorem res13_0_ret (v0 : Int) : res13_0 (ret13 v0) = v0 := rfl
def os13 : List (Nat × Ord) := []
def hs13 : List Keep := []
@[reducible] def env13 (F31 : sig31.Fn) (F32 : sig32.Fn) (F14 : sig14.Fn) : Env := [(31, ⟨sig31, F31⟩), (32, ⟨sig32, F32⟩), (14, ⟨sig14, F14⟩)]
theorem run13 (F31 : sig31.Fn) (F32 : sig32.Fn) (F14 : sig14.Fn) (n : Nat) (a0 : YStep.den) : C13 (fun x y => run T (env13 F31 F32 F14) os13 sig13 Try.f13 hs13 n x y) a0 =
  ((C31 F31 a0.1 0 2).bind fun r1 =>
   (bcond (!(res31_0 r1))
    (some (ret13 8))
    (bcond ((a0.1 : Int) == 1)
     (bcond (((a0.2.1 : Int) != 0) == false)
      (bcond (decide (((List.length a0.2.2.1 : Int) : Int) > 0))
       (some (ret13 4))
       (bcond (((List.length a0.2.2.2 : Int) : Int) == 0)
        (some (ret13 11))
        ((C32 F32 a0.2.2.2).bind fun r2 =>
         (some (ret13 (res32_0 r2))))))
      (some (ret13 4)))
     (bcond ((decide (((List.length a0.2.2.2 : Int) : Int) > 0)) == false)
      (bcond (((a0.1 : Int) == 2) == true)
       (bcond (decide (((List.length a0.2.2.1 : Int) : Int) > 0))
        (some (ret13 4))
        ((C31 F31 a0.2.1 1 2147483647).bind fun r2 =>
         (bcond (!(res31_0 r2))
          (some (ret13 2))
          ((C14 F14 a0.2.2.1 true).bind fun r3 =>
           (some (ret13 (res14_0 r3)))))))
       ((C31 F31 a0.2.1 1 2147483647).bind fun r2 =>
        (bcond (!(res31_0 r2))
         (some (ret13 2))
         ((C14 F14 a0.2.2.1 true).bind fun r3 =>
          (some (ret13 (res14_0 r3)))))))
      (some (ret13 4)))))) := by kernel_rfl
theorem ok13 : fnOk os13 sig13 Try.f13 = true := by kernel_rfl
theorem fn13 : P.funcs[13]? = some Try.f13 := by kernel_rfl
noncomputable def F13 : sig13.Fn := fun x y => run T (env13 F31 F32 F14) os13 sig13 Try.f13 hs13 big x y
theorem S13 : Sound P 13 ⟨sig13, F13⟩ := sound_of (os := os13) (hs := hs13) (env_cons S31 (env_cons S32 (env_cons S14 (env_nil)))) fn13 ok13 (fun x y out h => ⟨big, h⟩)
theorem e13 (a0 : YStep.den) : C13 F13 a0 =
  ((C31 F31 a0.1 0 2).bind fun r1 =>
   (bcond (!(res31_0 r1))
    (some (ret13 8))
    (bcond ((a0.1 : Int) == 1)
     (bcond (((a0.2.1 : Int) != 0) == false)
      (bcond (decide (((List.length a0.2.2.1 : Int) : Int) > 0))
       (some (ret13 4))
       (bcond (((List.length a0.2.2.2 : Int) : Int) == 0)
        (some (ret13 11))
        ((C32 F32 a0.2.2.2).bind fun r2 =>
         (some (ret13 (res32_0 r2))))))
      (some (ret13 4)))
     (bcond ((decide (((List.length a0.2.2.2 : Int) : Int) > 0)) == false)
      (bcond (((a0.1 : Int) == 2) == true)
       (bcond (decide (((List.length a0.2.2.1 : Int) : Int) > 0))
        (some (ret13 4))
        ((C31 F31 a0.2.1 1 2147483647).bind fun r2 =>
         (bcond (!(res31_0 r2))
          (some (ret13 2))
          ((C14 F14 a0.2.2.1 true).bind fun r3 =>
           (some (ret13 (res14_0 r3)))))))
       ((C31 F31 a0.2.1 1 2147483647).bind fun r2 =>
        (bcond (!(res31_0 r2))
         (some (ret13 2))
         ((C14 F14 a0.2.2.1 true).bind fun r3 =>
          (some (ret13 (res14_0 r3)))))))
      (some (ret13 4)))))) := run13 F31 F32 F14 big a0

/-! ### chancery/chanceryref1.DeltaError -/
def sig9 : Sig := ⟨[.v false (.list YStep)], [], [(false, [.fr (.int .i64)])]⟩
def C9 (F : sig9.Fn) (a0 : List YStep.den) : Option sig9.Out := F (a0, ()) ()
def ret9 (v0 : Int) : sig9.Out := (((v0, ()), ()), ())
def res9_0 (r : sig9.Out) : Int := r.1.1.1
@[simp] theorem res9_0_ret (v0 : Int) : res9_0 (ret9 v0) = v0 := rfl
def os9 : List (Nat × Ord) := []
def hs9 : List Keep := [[(0, []), (3, []), (4, []), (10, []), (11, [])]]
@[reducible] def env9 (F13 : sig13.Fn) (F35 : sig35.Fn) : Env := [(13, ⟨sig13, F13⟩), (35, ⟨sig35, F35⟩)]
noncomputable def L9_0 (F13 : sig13.Fn) (F35 : sig35.Fn) (n m1 : Nat) (x0 : List YStep.den) (x3 : Int) (x4 : Int) (x10 : Int) (x11 : Int) : Option sig9.Out :=
  loopAt T (env9 F13 F35) os9 sig9 Try.f9 hs9 n [.sr, .sr, .sl, .sr, .bl] m1 (mk 85 [(0, .cs false [.val (.list YStep) x0]), (3, .cs false [.val (.int .i64) x3]), (4, .cs false [.val (.int .i64) x4]), (10, .cs false [.val (.int .i64) x10]), (11, .cs false [.val (.int .i64) x11])])
theorem L9_0_step (F13 : sig13.Fn) (F35 : sig35.Fn) (n m1 : Nat) (x0 : List YStep.den) (x3 : Int) (x4 : Int) (x10 : Int) (x11 : Int) : L9_0 F13 F35 n (m1 + 1) x0 x3 x4 x10 x11 =
  (bcond (decide ((x11 : Int) < x10))
   (if 0 ≤ (x11 : Int) ∧ (x11 : Int) < (List.length x0 : Int) then
    ((C13 F13 (at_ (e := YStep) x0 x11)).bind fun r1 =>
     (bcond (((res13_0 r1) : Int) != 0)
      (some (ret9 (res13_0 r1)))
      (bcond (decide ((x11 : Int) > 0))
       (if 0 ≤ ((IntKind.i64.wrap (x11 - 1)) : Int) ∧ ((IntKind.i64.wrap (x11 - 1)) : Int) < (List.length x0 : Int) then
        (bcond (((at_ (e := YStep) x0 x11).1 : Int) == 1)
         (bcond (((at_ (e := YStep) x0 (IntKind.i64.wrap (x11 - 1))).1 : Int) != 0)
          (some (ret9 5))
          (bcond ((((at_ (e := YStep) x0 x11).1 : Int) != 1) == true)
           (bcond (decide ((x3 : Int) < 2147483648))
            (bcond ((((at_ (e := YStep) x0 x11).1 : Int) != 2) == true)
             (bcond (decide ((x4 : Int) < 2147483648))
              (L9_0 F13 F35 n m1 x0 (IntKind.i64.wrap (x3 + (at_ (e := YStep) x0 x11).2.1)) (IntKind.i64.wrap (x4 + (IntKind.i64.wrap ((at_ (e := YStep) x0 x11).2.1 + (List.length (at_ (e := YStep) x0 x11).2.2.2 : Int))))) x10 (IntKind.i64.wrap (x11 + 1)))
              (L9_0 F13 F35 n m1 x0 (IntKind.i64.wrap (x3 + (at_ (e := YStep) x0 x11).2.1)) x4 x10 (IntKind.i64.wrap (x11 + 1))))
             (L9_0 F13 F35 n m1 x0 (IntKind.i64.wrap (x3 + (at_ (e := YStep) x0 x11).2.1)) x4 x10 (IntKind.i64.wrap (x11 + 1))))
            (bcond ((((at_ (e := YStep) x0 x11).1 : Int) != 2) == true)
             (bcond (decide ((x4 : Int) < 2147483648))
              (L9_0 F13 F35 n m1 x0 x3 (IntKind.i64.wrap (x4 + (IntKind.i64.wrap ((at_ (e := YStep) x0 x11).2.1 + (List.length (at_ (e := YStep) x0 x11).2.2.2 : Int))))) x10 (IntKind.i64.wrap (x11 + 1)))
              (L9_0 F13 F35 n m1 x0 x3 x4 x10 (IntKind.i64.wrap (x11 + 1))))
             (L9_0 F13 F35 n m1 x0 x3 x4 x10 (IntKind.i64.wrap (x11 + 1)))))
           (bcond ((((at_ (e := YStep) x0 x11).1 : Int) != 2) == true)
            (bcond (decide ((x4 : Int) < 2147483648))
             (L9_0 F13 F35 n m1 x0 x3 (IntKind.i64.wrap (x4 + (IntKind.i64.wrap ((at_ (e := YStep) x0 x11).2.1 + (List.length (at_ (e := YStep) x0 x11).2.2.2 : Int))))) x10 (IntKind.i64.wrap (x11 + 1)))
             (L9_0 F13 F35 n m1 x0 x3 x4 x10 (IntKind.i64.wrap (x11 + 1))))
            (L9_0 F13 F35 n m1 x0 x3 x4 x10 (IntKind.i64.wrap (x11 + 1))))))
         (bcond (((at_ (e := YStep) x0 x11).1 : Int) == 2)
          (bcond (((at_ (e := YStep) x0 (IntKind.i64.wrap (x11 - 1))).1 : Int) == 2)
           (some (ret9 5))
           (bcond ((((at_ (e := YStep) x0 x11).1 : Int) != 1) == true)
            (bcond (decide ((x3 : Int) < 2147483648))
             (bcond ((((at_ (e := YStep) x0 x11).1 : Int) != 2) == true)
              (bcond (decide ((x4 : Int) < 2147483648))
               (L9_0 F13 F35 n m1 x0 (IntKind.i64.wrap (x3 + (at_ (e := YStep) x0 x11).2.1)) (IntKind.i64.wrap (x4 + (IntKind.i64.wrap ((at_ (e := YStep) x0 x11).2.1 + (List.length (at_ (e := YStep) x0 x11).2.2.2 : Int))))) x10 (IntKind.i64.wrap (x11 + 1)))
               (L9_0 F13 F35 n m1 x0 (IntKind.i64.wrap (x3 + (at_ (e := YStep) x0 x11).2.1)) x4 x10 (IntKind.i64.wrap (x11 + 1))))
              (L9_0 F13 F35 n m1 x0 (IntKind.i64.wrap (x3 + (at_ (e := YStep) x0 x11).2.1)) x4 x10 (IntKind.i64.wrap (x11 + 1))))
             (bcond ((((at_ (e := YStep) x0 x11).1 : Int) != 2) == true)
              (bcond (decide ((x4 : Int) < 2147483648))
               (L9_0 F13 F35 n m1 x0 x3 (IntKind.i64.wrap (x4 + (IntKind.i64.wrap ((at_ (e := YStep) x0 x11).2.1 + (List.length (at_ (e := YStep) x0 x11).2.2.2 : Int))))) x10 (IntKind.i64.wrap (x11 + 1)))
               (L9_0 F13 F35 n m1 x0 x3 x4 x10 (IntKind.i64.wrap (x11 + 1))))
              (L9_0 F13 F35 n m1 x0 x3 x4 x10 (IntKind.i64.wrap (x11 + 1)))))
            (bcond ((((at_ (e := YStep) x0 x11).1 : Int) != 2) == true)
             (bcond (decide ((x4 : Int) < 2147483648))
              (L9_0 F13 F35 n m1 x0 x3 (IntKind.i64.wrap (x4 + (IntKind.i64.wrap ((at_ (e := YStep) x0 x11).2.1 + (List.length (at_ (e := YStep) x0 x11).2.2.2 : Int))))) x10 (IntKind.i64.wrap (x11 + 1)))
              (L9_0 F13 F35 n m1 x0 x3 x4 x10 (IntKind.i64.wrap (x11 + 1))))
             (L9_0 F13 F35 n m1 x0 x3 x4 x10 (IntKind.i64.wrap (x11 + 1))))))
          (bcond ((((at_ (e := YStep) x0 (IntKind.i64.wrap (x11 - 1))).1 : Int) == 0) == true)
           ((C35 F35 (at_ (e := YStep) x0 (IntKind.i64.wrap (x11 - 1))).2.2.1 (at_ (e := YStep) x0 x11).2.2.1).bind fun r2 =>
            (bcond (res35_0 r2)
             (some (ret9 5))
             (bcond ((((at_ (e := YStep) x0 x11).1 : Int) != 1) == true)
              (bcond (decide ((x3 : Int) < 2147483648))
               (bcond ((((at_ (e := YStep) x0 x11).1 : Int) != 2) == true)
                (bcond (decide ((x4 : Int) < 2147483648))
                 (L9_0 F13 F35 n m1 x0 (IntKind.i64.wrap (x3 + (at_ (e := YStep) x0 x11).2.1)) (IntKind.i64.wrap (x4 + (IntKind.i64.wrap ((at_ (e := YStep) x0 x11).2.1 + (List.length (at_ (e := YStep) x0 x11).2.2.2 : Int))))) x10 (IntKind.i64.wrap (x11 + 1)))
                 (L9_0 F13 F35 n m1 x0 (IntKind.i64.wrap (x3 + (at_ (e := YStep) x0 x11).2.1)) x4 x10 (IntKind.i64.wrap (x11 + 1))))
                (L9_0 F13 F35 n m1 x0 (IntKind.i64.wrap (x3 + (at_ (e := YStep) x0 x11).2.1)) x4 x10 (IntKind.i64.wrap (x11 + 1))))
               (bcond ((((at_ (e := YStep) x0 x11).1 : Int) != 2) == true)
                (bcond (decide ((x4 : Int) < 2147483648))
                 (L9_0 F13 F35 n m1 x0 x3 (IntKind.i64.wrap (x4 + (IntKind.i64.wrap ((at_ (e := YStep) x0 x11).2.1 + (List.length (at_ (e := YStep) x0 x11).2.2.2 : Int))))) x10 (IntKind.i64.wrap (x11 + 1)))
                 (L9_0 F13 F35 n m1 x0 x3 x4 x10 (IntKind.i64.wrap (x11 + 1))))
                (L9_0 F13 F35 n m1 x0 x3 x4 x10 (IntKind.i64.wrap (x11 + 1)))))
              (bcond ((((at_ (e := YStep) x0 x11).1 : Int) != 2) == true)
               (bcond (decide ((x4 : Int) < 2147483648))
                (L9_0 F13 F35 n m1 x0 x3 (IntKind.i64.wrap (x4 + (IntKind.i64.wrap ((at_ (e := YStep) x0 x11).2.1 + (List.length (at_ (e := YStep) x0 x11).2.2.2 : Int))))) x10 (IntKind.i64.wrap (x11 + 1)))
                (L9_0 F13 F35 n m1 x0 x3 x4 x10 (IntKind.i64.wrap (x11 + 1))))
               (L9_0 F13 F35 n m1 x0 x3 x4 x10 (IntKind.i64.wrap (x11 + 1)))))))
           (bcond ((((at_ (e := YStep) x0 x11).1 : Int) != 1) == true)
            (bcond (decide ((x3 : Int) < 2147483648))
             (bcond ((((at_ (e := YStep) x0 x11).1 : Int) != 2) == true)
              (bcond (decide ((x4 : Int) < 2147483648))
               (L9_0 F13 F35 n m1 x0 (IntKind.i64.wrap (x3 + (at_ (e := YStep) x0 x11).2.1)) (IntKind.i64.wrap (x4 + (IntKind.i64.wrap ((at_ (e := YStep) x0 x11).2.1 + (List.length (at_ (e := YStep) x0 x11).2.2.2 : Int))))) x10 (IntKind.i64.wrap (x11 + 1)))
               (L9_0 F13 F35 n m1 x0 (IntKind.i64.wrap (x3 + (at_ (e := YStep) x0 x11).2.1)) x4 x10 (IntKind.i64.wrap (x11 + 1))))
              (L9_0 F13 F35 n m1 x0 (IntKind.i64.wrap (x3 + (at_ (e := YStep) x0 x11).2.1)) x4 x10 (IntKind.i64.wrap (x11 + 1))))
             (bcond ((((at_ (e := YStep) x0 x11).1 : Int) != 2) == true)
              (bcond (decide ((x4 : Int) < 2147483648))
               (L9_0 F13 F35 n m1 x0 x3 (IntKind.i64.wrap (x4 + (IntKind.i64.wrap ((at_ (e := YStep) x0 x11).2.1 + (List.length (at_ (e := YStep) x0 x11).2.2.2 : Int))))) x10 (IntKind.i64.wrap (x11 + 1)))
               (L9_0 F13 F35 n m1 x0 x3 x4 x10 (IntKind.i64.wrap (x11 + 1))))
              (L9_0 F13 F35 n m1 x0 x3 x4 x10 (IntKind.i64.wrap (x11 + 1)))))
            (bcond ((((at_ (e := YStep) x0 x11).1 : Int) != 2) == true)
             (bcond (decide ((x4 : Int) < 2147483648))
              (L9_0 F13 F35 n m1 x0 x3 (IntKind.i64.wrap (x4 + (IntKind.i64.wrap ((at_ (e := YStep) x0 x11).2.1 + (List.length (at_ (e := YStep) x0 x11).2.2.2 : Int))))) x10 (IntKind.i64.wrap (x11 + 1)))
              (L9_0 F13 F35 n m1 x0 x3 x4 x10 (IntKind.i64.wrap (x11 + 1))))
             (L9_0 F13 F35 n m1 x0 x3 x4 x10 (IntKind.i64.wrap (x11 + 1))))))))
       else none)
       (bcond ((((at_ (e := YStep) x0 x11).1 : Int) != 1) == true)
        (bcond (decide ((x3 : Int) < 2147483648))
         (bcond ((((at_ (e := YStep) x0 x11).1 : Int) != 2) == true)
          (bcond (decide ((x4 : Int) < 2147483648))
           (L9_0 F13 F35 n m1 x0 (IntKind.i64.wrap (x3 + (at_ (e := YStep) x0 x11).2.1)) (IntKind.i64.wrap (x4 + (IntKind.i64.wrap ((at_ (e := YStep) x0 x11).2.1 + (List.length (at_ (e := YStep) x0 x11).2.2.2 : Int))))) x10 (IntKind.i64.wrap (x11 + 1)))
           (L9_0 F13 F35 n m1 x0 (IntKind.i64.wrap (x3 + (at_ (e := YStep) x0 x11).2.1)) x4 x10 (IntKind.i64.wrap (x11 + 1))))
          (L9_0 F13 F35 n m1 x0 (IntKind.i64.wrap (x3 + (at_ (e := YStep) x0 x11).2.1)) x4 x10 (IntKind.i64.wrap (x11 + 1))))
         (bcond ((((at_ (e := YStep) x0 x11).1 : Int) != 2) == true)
          (bcond (decide ((x4 : Int) < 2147483648))
           (L9_0 F13 F35 n m1 x0 x3 (IntKind.i64.wrap (x4 + (IntKind.i64.wrap ((at_ (e := YStep) x0 x11).2.1 + (List.length (at_ (e := YStep) x0 x11).2.2.2 : Int))))) x10 (IntKind.i64.wrap (x11 + 1)))
           (L9_0 F13 F35 n m1 x0 x3 x4 x10 (IntKind.i64.wrap (x11 + 1))))
          (L9_0 F13 F35 n m1 x0 x3 x4 x10 (IntKind.i64.wrap (x11 + 1)))))
        (bcond ((((at_ (e := YStep) x0 x11).1 : Int) != 2) == true)
         (bcond (decide ((x4 : Int) < 2147483648))
          (L9_0 F13 F35 n m1 x0 x3 (IntKind.i64.wrap (x4 + (IntKind.i64.wrap ((at_ (e := YStep) x0 x11).2.1 + (List.length (at_ (e := YStep) x0 x11).2.2.2 : Int))))) x10 (IntKind.i64.wrap (x11 + 1)))
          (L9_0 F13 F35 n m1 x0 x3 x4 x10 (IntKind.i64.wrap (x11 + 1))))
         (L9_0 F13 F35 n m1 x0 x3 x4 x10 (IntKind.i64.wrap (x11 + 1))))))))
   else none)
   (bcond ((decide ((x3 : Int) > 2147483647)) == false)
    (bcond (decide ((x4 : Int) > 2147483647))
     (some (ret9 3))
     (some (ret9 0)))
    (some (ret9 3)))) := by kernel_rfl
theorem run9 (F13 : sig13.Fn) (F35 : sig35.Fn) (n : Nat) (a0 : List YStep.den) : C9 (fun x y => run T (env9 F13 F35) os9 sig9 Try.f9 hs9 n x y) a0 =
  (L9_0 F13 F35 n n a0 0 0 (List.length a0 : Int) 0) := by kernel_rfl
theorem ok9 : fnOk os9 sig9 Try.f9 = true := by kernel_rfl
theorem fn9 : P.funcs[9]? = some Try.f9 := by kernel_rfl
noncomputable def F9 : sig9.Fn := fun x y => run T (env9 F13 F35) os9 sig9 Try.f9 hs9 big x y
theorem S9 : Sound P 9 ⟨sig9, F9⟩ := sound_of (os := os9) (hs := hs9) (env_cons S13 (env_cons S35 (env_nil))) fn9 ok9 (fun x y out h => ⟨big, h⟩)
theorem e9 (a0 : List YStep.den) : C9 F9 a0 =
  (L9_0 F13 F35 big big a0 0 0 (List.length a0 : Int) 0) := run9 F13 F35 big a0

/-! ### chancery/delta.changed -/
def sig60 : Sig := ⟨[.v false (.list YElem), .v false (.list YAttr)], [], [(false, [.fr (.list YElem)])]⟩
def C60 (F : sig60.Fn) (a0 : List YElem.den) (a1 : List YAttr.den) : Option sig60.Out := F (a0, a1, ()) ()
def ret60 (v0 : List YElem.den) : sig60.Out := (((v0, ()), ()), ())
def res60_0 (r : sig60.Out) : List YElem.den := r.1.1.1
@[simp] theorem res60_0_ret (v0 : List YElem.den) : res60_0 (ret60 v0) = v0 := rfl
def os60 : List (Nat × Ord) := []
def hs60 : List Keep := [[(1, []), (5, [(0, 67, YElem)]), (11, []), (12, []), (13, [])]]
@[reducible] def env60 (F49 : sig49.Fn) : Env := [(49, ⟨sig49, F49⟩)]
noncomputable def L60_0 (F49 : sig49.Fn) (n m1 : Nat) (x1 : List YAttr.den) (x5 : List YElem.den) (x11 : List YElem.den) (x12 : Int) (x13 : Int) : Option sig60.Out :=
  loopAt T (env60 F49) os60 sig60 Try.f60 hs60 n [.sr, .sr, .sl, .sr, .bl] m1 (mk 29 [(1, .cs false [.val (.list YAttr) x1]), (5, .cs false [.own 67 YElem x5]), (11, .cs false [.val (.list YElem) x11]), (12, .cs false [.val (.int .i64) x12]), (13, .cs false [.val (.int .i64) x13])])
theorem L60_0_step (F49 : sig49.Fn) (n m1 : Nat) (x1 : List YAttr.den) (x5 : List YElem.den) (x11 : List YElem.den) (x12 : Int) (x13 : Int) : L60_0 F49 n (m1 + 1) x1 x5 x11 x12 x13 =
  (bcond (decide ((x13 : Int) < x12))
   (if 0 ≤ (x13 : Int) ∧ (x13 : Int) < (List.length x11 : Int) then
    ((C49 F49 (at_ (e := YElem) x11 x13).2.2 x1).bind fun r1 =>
     (if 0 ≤ (x13 : Int) ∧ (x13 : Int) < (List.length x5 : Int) then
      (L60_0 F49 n m1 x1 (List.set x5 (Int.toNat x13) ((at_ (e := YElem) x11 x13).1, ((at_ (e := YElem) x11 x13).2.1, (res49_0 r1)))) x11 x12 (IntKind.i64.wrap (x13 + 1)))
     else none))
   else none)
   (some (ret60 x5))) := by kernel_rfl
theorem run60 (F49 : sig49.Fn) (n : Nat) (a0 : List YElem.den) (a1 : List YAttr.den) : C60 (fun x y => run T (env60 F49) os60 sig60 Try.f60 hs60 n x y) a0 a1 =
  (if 0 ≤ ((List.length a0 : Int) : Int) ∧ ((List.length a0 : Int) : Int) = (List.length a0 : Int) ∧ ((List.length a0 : Int) : Int) * 40 ≤ 140737488355328 ∧ ((List.length a0 : Int) : Int) ≤ 140737488355328 then
   (L60_0 F49 n n a1 (List.replicate (Int.toNat (List.length a0 : Int)) (0, (0, []))) a0 (List.length a0 : Int) 0)
  else none) := by kernel_rfl
theorem ok60 : fnOk os60 sig60 Try.f60 = true := by kernel_rfl
theorem fn60 : P.funcs[60]? = some Try.f60 := by kernel_rfl
noncomputable def F60 : sig60.Fn := fun x y => run T (env60 F49) os60 sig60 Try.f60 hs60 big x y
theorem S60 : Sound P 60 ⟨sig60, F60⟩ := sound_of (os := os60) (hs := hs60) (env_cons S49 (env_nil)) fn60 ok60 (fun x y out h => ⟨big, h⟩)
theorem e60 (a0 : List YElem.den) (a1 : List YAttr.den) : C60 F60 a0 a1 =
  (if 0 ≤ ((List.length a0 : Int) : Int) ∧ ((List.length a0 : Int) : Int) = (List.length a0 : Int) ∧ ((List.length a0 : Int) : Int) * 40 ≤ 140737488355328 ∧ ((List.length a0 : Int) : Int) ≤ 140737488355328 then
   (L60_0 F49 big big a1 (List.replicate (Int.toNat (List.length a0 : Int)) (0, (0, []))) a0 (List.length a0 : Int) 0)
  else none) := run60 F49 big a0 a1

/-! ### chancery/delta.Raw -/
def sig47 : Sig := ⟨[.v false (.list YElem), .v false (.list YStep)], [], [(false, [.fr (.list YElem)])]⟩
def C47 (F : sig47.Fn) (a0 : List YElem.den) (a1 : List YStep.den) : Option sig47.Out := F (a0, a1, ()) ()
def ret47 (v0 : List YElem.den) : sig47.Out := (((v0, ()), ()), ())
def res47_0 (r : sig47.Out) : List YElem.den := r.1.1.1
@[simp] theorem res47_0_ret (v0 : List YElem.den) : res47_0 (ret47 v0) = v0 := rfl
def os47 : List (Nat × Ord) := [(8, .st 0 (.st 1 (.st 2 (.st 5 (.st 3 (.st 4 (.st 6 (.st 7 (.st 8 (.st 9 (.nil)))))))))))]
def hs47 : List Keep := [[(0, []), (5, [(0, 67, YElem)]), (8, []), (9, []), (10, [])]]
@[reducible] def env47 (F60 : sig60.Fn) (F59 : sig59.Fn) : Env := [(60, ⟨sig60, F60⟩), (59, ⟨sig59, F59⟩)]
noncomputable def L47_0 (F60 : sig60.Fn) (F59 : sig59.Fn) (n m1 : Nat) (x0 : List YElem.den) (x5 : List YElem.den) (x8 : List YStep.den) (x9 : Int) (x10 : Int) : Option sig47.Out :=
  loopAt T (env47 F60 F59) os47 sig47 Try.f47 hs47 n [.sr, .sr, .sl, .sr, .bl] m1 (mk 44 [(0, .cs false [.val (.list YElem) x0]), (5, .cs false [.own 67 YElem x5]), (8, .cs false [.val (.list YStep) x8]), (9, .cs false [.val (.int .i64) x9]), (10, .cs false [.val (.int .i64) x10])])
theorem L47_0_step (F60 : sig60.Fn) (F59 : sig59.Fn) (n m1 : Nat) (x0 : List YElem.den) (x5 : List YElem.den) (x8 : List YStep.den) (x9 : Int) (x10 : Int) : L47_0 F60 F59 n (m1 + 1) x0 x5 x8 x9 x10 =
  (bcond (decide ((x10 : Int) < x9))
   (if 0 ≤ (x10 : Int) ∧ (x10 : Int) < (List.length x8 : Int) then
    (bcond (((at_ (e := YStep) x8 x10).1 : Int) == 0)
     (if 0 ≤ ((at_ (e := YStep) x8 x10).2.1 : Int) ∧ ((at_ (e := YStep) x8 x10).2.1 : Int) ≤ (List.length x0 : Int) ∧ 0 ≤ (0 : Int) ∧ (0 : Int) ≤ (at_ (e := YStep) x8 x10).2.1 then
      ((C60 F60 (List.drop (Int.toNat 0) (List.take (Int.toNat (at_ (e := YStep) x8 x10).2.1) x0)) (at_ (e := YStep) x8 x10).2.2.1).bind fun r1 =>
       (if (List.length (x5 : List YElem.den) + List.length ((res60_0 r1) : List YElem.den)) * 40 ≤ 140737488355328 then
        (if 0 ≤ ((List.length x0 : Int) : Int) ∧ ((List.length x0 : Int) : Int) ≤ (List.length x0 : Int) ∧ 0 ≤ ((at_ (e := YStep) x8 x10).2.1 : Int) ∧ ((at_ (e := YStep) x8 x10).2.1 : Int) ≤ (List.length x0 : Int) then
         (L47_0 F60 F59 n m1 (List.drop (Int.toNat (at_ (e := YStep) x8 x10).2.1) (List.take (Int.toNat (List.length x0 : Int)) x0)) (x5 ++ (res60_0 r1)) x8 x9 (IntKind.i64.wrap (x10 + 1)))
        else none)
       else none))
     else none)
     (bcond (((at_ (e := YStep) x8 x10).1 : Int) == 1)
      ((C59 F59 (at_ (e := YStep) x8 x10).2.2.2).bind fun r1 =>
       (if (List.length (x5 : List YElem.den) + List.length ((res59_0 r1) : List YElem.den)) * 40 ≤ 140737488355328 then
        (L47_0 F60 F59 n m1 x0 (x5 ++ (res59_0 r1)) x8 x9 (IntKind.i64.wrap (x10 + 1)))
       else none))
      (if 0 ≤ ((List.length x0 : Int) : Int) ∧ ((List.length x0 : Int) : Int) ≤ (List.length x0 : Int) ∧ 0 ≤ ((at_ (e := YStep) x8 x10).2.1 : Int) ∧ ((at_ (e := YStep) x8 x10).2.1 : Int) ≤ (List.length x0 : Int) then
       (L47_0 F60 F59 n m1 (List.drop (Int.toNat (at_ (e := YStep) x8 x10).2.1) (List.take (Int.toNat (List.length x0 : Int)) x0)) x5 x8 x9 (IntKind.i64.wrap (x10 + 1)))
      else none)))
   else none)
   (some (ret47 x5))) := by kernel_rfl
theorem run47 (F60 : sig60.Fn) (F59 : sig59.Fn) (n : Nat) (a0 : List YElem.den) (a1 : List YStep.den) : C47 (fun x y => run T (env47 F60 F59) os47 sig47 Try.f47 hs47 n x y) a0 a1 =
  (L47_0 F60 F59 n n a0 [] a1 (List.length a1 : Int) 0) := by kernel_rfl
theorem ok47 : fnOk os47 sig47 Try.f47 = true := by kernel_rfl
theorem fn47 : P.funcs[47]? = some Try.f47 := by kernel_rfl
noncomputable def F47 : sig47.Fn := fun x y => run T (env47 F60 F59) os47 sig47 Try.f47 hs47 big x y
theorem S47 : Sound P 47 ⟨sig47, F47⟩ := sound_of (os := os47) (hs := hs47) (env_cons S60 (env_cons S59 (env_nil))) fn47 ok47 (fun x y out h => ⟨big, h⟩)
theorem e47 (a0 : List YElem.den) (a1 : List YStep.den) : C47 F47 a0 a1 =
  (L47_0 F60 F59 big big a0 [] a1 (List.length a1 : Int) 0) := run47 F60 F59 big a0 a1

/-! ### chancery/delta.fits -/
def sig46 : Sig := ⟨[.v false (.list YElem), .v false (.list YStep)], [], [(false, [.fr (.int .i64)])]⟩
def C46 (F : sig46.Fn) (a0 : List YElem.den) (a1 : List YStep.den) : Option sig46.Out := F (a0, a1, ()) ()
def ret46 (v0 : Int) : sig46.Out := (((v0, ()), ()), ())
def res46_0 (r : sig46.Out) : Int := r.1.1.1
@[simp] theorem res46_0_ret (v0 : Int) : res46_0 (ret46 v0) = v0 := rfl
def os46 : List (Nat × Ord) := []
def hs46 : List Keep := []
@[reducible] def env46 (F55 : sig55.Fn) (F10 : sig10.Fn) (F36 : sig36.Fn) : Env := [(55, ⟨sig55, F55⟩), (10, ⟨sig10, F10⟩), (36, ⟨sig36, F36⟩)]
theorem run46 (F55 : sig55.Fn) (F10 : sig10.Fn) (F36 : sig36.Fn) (n : Nat) (a0 : List YElem.den) (a1 : List YStep.den) : C46 (fun x y => run T (env46 F55 F10 F36) os46 sig46 Try.f46 hs46 n x y) a0 a1 =
  ((C55 F55 a0).bind fun r1 =>
   (bcond (((res55_0 r1) : Int) != 0)
    (some (ret46 (res55_0 r1)))
    ((C10 F10 a1).bind fun r2 =>
     (bcond (((res10_0 r2) : Int) != 0)
      (some (ret46 (res10_0 r2)))
      ((C36 F36 a1).bind fun r3 =>
       (bcond (((res36_0 r3) : Int) != (List.length a0 : Int))
        (some (ret46 14))
        (some (ret46 0)))))))) := by kernel_rfl
theorem ok46 : fnOk os46 sig46 Try.f46 = true := by kernel_rfl
theorem fn46 : P.funcs[46]? = some Try.f46 := by kernel_rfl
noncomputable def F46 : sig46.Fn := fun x y => run T (env46 F55 F10 F36) os46 sig46 Try.f46 hs46 big x y
theorem S46 : Sound P 46 ⟨sig46, F46⟩ := sound_of (os := os46) (hs := hs46) (env_cons S55 (env_cons S10 (env_cons S36 (env_nil)))) fn46 ok46 (fun x y out h => ⟨big, h⟩)
theorem e46 (a0 : List YElem.den) (a1 : List YStep.den) : C46 F46 a0 a1 =
  ((C55 F55 a0).bind fun r1 =>
   (bcond (((res55_0 r1) : Int) != 0)
    (some (ret46 (res55_0 r1)))
    ((C10 F10 a1).bind fun r2 =>
     (bcond (((res10_0 r2) : Int) != 0)
      (some (ret46 (res10_0 r2)))
      ((C36 F36 a1).bind fun r3 =>
       (bcond (((res36_0 r3) : Int) != (List.length a0 : Int))
        (some (ret46 14))
        (some (ret46 0)))))))) := run46 F55 F10 F36 big a0 a1

/-! ### chancery/delta.Apply -/
def sig18 : Sig := ⟨[.v false (.list YElem), .v false (.list YStep)], [], [(false, [.fr (.list YElem)]), (false, [.fr (.int .i64)])]⟩
def C18 (F : sig18.Fn) (a0 : List YElem.den) (a1 : List YStep.den) : Option sig18.Out := F (a0, a1, ()) ()
def ret18 (v0 : List YElem.den) (v1 : Int) : sig18.Out := (((v0, ()), (v1, ()), ()), ())
def res18_0 (r : sig18.Out) : List YElem.den := r.1.1.1
@[simp] theorem res18_0_ret (v0 : List YElem.den) (v1 : Int) : res18_0 (ret18 v0 v1) = v0 := rfl
def res18_1 (r : sig18.Out) : Int := r.1.2.1.1
@[simp] theorem res18_1_ret (v0 : List YElem.den) (v1 : Int) : res18_1 (ret18 v0 v1) = v1 := rfl
def os18 : List (Nat × Ord) := []
def hs18 : List Keep := []
@[reducible] def env18 (F46 : sig46.Fn) (F47 : sig47.Fn) : Env := [(46, ⟨sig46, F46⟩), (47, ⟨sig47, F47⟩)]
theorem run18 (F46 : sig46.Fn) (F47 : sig47.Fn) (n : Nat) (a0 : List YElem.den) (a1 : List YStep.den) : C18 (fun x y => run T (env18 F46 F47) os18 sig18 Try.f18 hs18 n x y) a0 a1 =
  ((C46 F46 a0 a1).bind fun r1 =>
   (bcond (((res46_0 r1) : Int) != 0)
    (some (ret18 [] (res46_0 r1)))
    ((C47 F47 a0 a1).bind fun r2 =>
     (some (ret18 (res47_0 r2) 0))))) := by kernel_rfl
theorem ok18 : fnOk os18 sig18 Try.f18 = true := by kernel_rfl
theorem fn18 : P.funcs[18]? = some Try.f18 := by kernel_rfl
noncomputable def F18 : sig18.Fn := fun x y => run T (env18 F46 F47) os18 sig18 Try.f18 hs18 big x y
theorem S18 : Sound P 18 ⟨sig18, F18⟩ := sound_of (os := os18) (hs := hs18) (env_cons S46 (env_cons S47 (env_nil))) fn18 ok18 (fun x y out h => ⟨big, h⟩)
theorem e18 (a0 : List YElem.den) (a1 : List YStep.den) : C18 F18 a0 a1 =
  ((C46 F46 a0 a1).bind fun r1 =>
   (bcond (((res46_0 r1) : Int) != 0)
    (some (ret18 [] (res46_0 r1)))
    ((C47 F47 a0 a1).bind fun r2 =>
     (some (ret18 (res47_0 r2) 0))))) := run18 F46 F47 big a0 a1

/-! ### chancery/chancerylaw1.letters -/
def sig33 : Sig := ⟨[.v false .str], [], [(false, [.fr (.list YElem)])]⟩
def C33 (F : sig33.Fn) (a0 : List UInt8) : Option sig33.Out := F (a0, ()) ()
def ret33 (v0 : List YElem.den) : sig33.Out := (((v0, ()), ()), ())
def res33_0 (r : sig33.Out) : List YElem.den := r.1.1.1
@[simp] theorem res33_0_ret (v0 : List YElem.den) : res33_0 (ret33 v0) = v0 := rfl
def os33 : List (Nat × Ord) := []
def hs33 : List Keep := [[(0, []), (3, [(0, 67, YElem)]), (6, []), (7, [])]]
@[reducible] def env33 : Env := []
noncomputable def L33_0 (n m1 : Nat) (x0 : List UInt8) (x3 : List YElem.den) (x6 : Int) (x7 : Int) : Option sig33.Out :=
  loopAt T (env33) os33 sig33 Try.f33 hs33 n [.sr, .sr, .sl, .sr, .bl] m1 (mk 20 [(0, .cs false [.val .str x0]), (3, .cs false [.own 67 YElem x3]), (6, .cs false [.val (.int .i64) x6]), (7, .cs false [.val (.int .i64) x7])])
theorem L33_0_step (n m1 : Nat) (x0 : List UInt8) (x3 : List YElem.den) (x6 : Int) (x7 : Int) : L33_0 n (m1 + 1) x0 x3 x6 x7 =
  (bcond (decide ((x7 : Int) < x6))
   (if 0 ≤ (x7 : Int) ∧ (x7 : Int) < (List.length x0 : Int) then
    (if (List.length (x3 : List YElem.den) + List.length ([((IntKind.i64.wrap ((List.getD (x0 : List UInt8) (Int.toNat x7) 0).toNat : Int)), (0, []))] : List YElem.den)) * 40 ≤ 140737488355328 then
     (L33_0 n m1 x0 (x3 ++ [((IntKind.i64.wrap ((List.getD (x0 : List UInt8) (Int.toNat x7) 0).toNat : Int)), (0, []))]) x6 (IntKind.i64.wrap (x7 + 1)))
    else none)
   else none)
   (some (ret33 x3))) := by kernel_rfl
theorem run33 (n : Nat) (a0 : List UInt8) : C33 (fun x y => run T (env33) os33 sig33 Try.f33 hs33 n x y) a0 =
  (L33_0 n n a0 [] (List.length a0 : Int) 0) := by kernel_rfl
theorem ok33 : fnOk os33 sig33 Try.f33 = true := by kernel_rfl
theorem fn33 : P.funcs[33]? = some Try.f33 := by kernel_rfl
noncomputable def F33 : sig33.Fn := fun x y => run T (env33) os33 sig33 Try.f33 hs33 big x y
theorem S33 : Sound P 33 ⟨sig33, F33⟩ := sound_of (os := os33) (hs := hs33) (env_nil) fn33 ok33 (fun x y out h => ⟨big, h⟩)
theorem e33 (a0 : List UInt8) : C33 F33 a0 =
  (L33_0 big big a0 [] (List.length a0 : Int) 0) := run33 big a0

/-! ### chancery/chancerylaw1.on -/
def sig34 : Sig := ⟨[.v false .str], [], [(false, [.fr (.list YAttr)])]⟩
def C34 (F : sig34.Fn) (a0 : List UInt8) : Option sig34.Out := F (a0, ()) ()
def ret34 (v0 : List YAttr.den) : sig34.Out := (((v0, ()), ()), ())
def res34_0 (r : sig34.Out) : List YAttr.den := r.1.1.1
@[simp] theorem res34_0_ret (v0 : List YAttr.den) : res34_0 (ret34 v0) = v0 := rfl
def os34 : List (Nat × Ord) := []
def hs34 : List Keep := []
@[reducible] def env34 : Env := []
theorem run34 (n : Nat) (a0 : List UInt8) : C34 (fun x y => run T (env34) os34 sig34 Try.f34 hs34 n x y) a0 =
  (some (ret34 [(a0, [111, 110])])) := by kernel_rfl
theorem ok34 : fnOk os34 sig34 Try.f34 = true := by kernel_rfl
theorem fn34 : P.funcs[34]? = some Try.f34 := by kernel_rfl
noncomputable def F34 : sig34.Fn := fun x y => run T (env34) os34 sig34 Try.f34 hs34 big x y
theorem S34 : Sound P 34 ⟨sig34, F34⟩ := sound_of (os := os34) (hs := hs34) (env_nil) fn34 ok34 (fun x y out h => ⟨big, h⟩)
theorem e34 (a0 : List UInt8) : C34 F34 a0 =
  (some (ret34 [(a0, [111, 110])])) := run34 big a0

/-! ### chancery/chancerylaw1.deltas -/
def sig7 : Sig := ⟨[], [], [(false, [.fr .bool])]⟩
def C7 (F : sig7.Fn) : Option sig7.Out := F () ()
def ret7 (v0 : Bool) : sig7.Out := (((v0, ()), ()), ())
def res7_0 (r : sig7.Out) : Bool := r.1.1.1
@[simp] theorem res7_0_ret (v0 : Bool) : res7_0 (ret7 v0) = v0 := rfl
def os7 : List (Nat × Ord) := [(2, .st 0 (.st 1 (.st 2 (.st 3 (.st 4 (.st 5 (.st 6 (.st 7 (.st 8 (.st 9 (.st 10 (.st 11 (.st 12 (.st 13 (.st 14 (.st 15 (.st 16 (.st 17 (.alt 18 (.st 19 (.st 20 (.st 21 (.st 22 (.nil))))) (.st 19 (.st 18 (.st 20 (.st 21 (.st 22 (.nil)))))))))))))))))))))))))]
def hs7 : List Keep := []
@[reducible] def env7 (F33 : sig33.Fn) (F34 : sig34.Fn) (F18 : sig18.Fn) (F35 : sig35.Fn) : Env := [(33, ⟨sig33, F33⟩), (34, ⟨sig34, F34⟩), (18, ⟨sig18, F18⟩), (35, ⟨sig35, F35⟩)]
theorem raw7 (F33 : sig33.Fn) (F34 : sig34.Fn) (F18 : sig18.Fn) (F35 : sig35.Fn) (n : Nat) : C7 (fun x y => run T (env7 F33 F34 F18 F35) os7 sig7 Try.f7 hs7 n x y) =
  ((C33 F33 [97, 98]).bind fun r1 =>
   ((C33 F33 [120]).bind fun r2 =>
    ((C34 F34 [98, 111, 108, 100]).bind fun r3 =>
     ((C18 F18 (res33_0 r1) [(1, (0, ([], (res33_0 r2)))), (2, (1, ([], []))), (0, (1, ((res34_0 r3), [])))]).bind fun r4 =>
      (bcond ((((res18_1 r4) : Int) == 0) == true)
       (bcond ((((List.length (res18_0 r4) : Int) : Int) == 2) == true)
        (if 0 ≤ (0 : Int) ∧ (0 : Int) < (List.length (res18_0 r4) : Int) then
         (bcond ((((at_ (e := YElem) (res18_0 r4) 0).1 : Int) == 120) == true)
          (if 0 ≤ (1 : Int) ∧ (1 : Int) < (List.length (res18_0 r4) : Int) then
           (agree
            ((C34 F34 [98, 111, 108, 100]).bind fun r5 =>
             ((C35 F35 (at_ (e := YElem) (res18_0 r4) 1).2.2 (res34_0 r5)).bind fun r6 =>
              (some (ret7 (res35_0 r6)))))
            ((C34 F34 [98, 111, 108, 100]).bind fun r5 =>
             ((C35 F35 (at_ (e := YElem) (res18_0 r4) 1).2.2 (res34_0 r5)).bind fun r6 =>
              (some (ret7 (res35_0 r6))))))
          else none)
          (agree
           (some (ret7 false))
           (some (ret7 false))))
        else none)
        (agree
         (some (ret7 false))
         (some (ret7 false))))
       (agree
        (some (ret7 false))
        (some (ret7 false)))))))) := by kernel_rfl
theorem run7 (F33 : sig33.Fn) (F34 : sig34.Fn) (F18 : sig18.Fn) (F35 : sig35.Fn) (n : Nat) : C7 (fun x y => run T (env7 F33 F34 F18 F35) os7 sig7 Try.f7 hs7 n x y) =
  ((C33 F33 [97, 98]).bind fun r1 =>
   ((C33 F33 [120]).bind fun r2 =>
    ((C34 F34 [98, 111, 108, 100]).bind fun r3 =>
     ((C18 F18 (res33_0 r1) [(1, (0, ([], (res33_0 r2)))), (2, (1, ([], []))), (0, (1, ((res34_0 r3), [])))]).bind fun r4 =>
      (bcond ((((res18_1 r4) : Int) == 0) == true)
       (bcond ((((List.length (res18_0 r4) : Int) : Int) == 2) == true)
        (if 0 ≤ (0 : Int) ∧ (0 : Int) < (List.length (res18_0 r4) : Int) then
         (bcond ((((at_ (e := YElem) (res18_0 r4) 0).1 : Int) == 120) == true)
          (if 0 ≤ (1 : Int) ∧ (1 : Int) < (List.length (res18_0 r4) : Int) then
           ((C34 F34 [98, 111, 108, 100]).bind fun r5 =>
            ((C35 F35 (at_ (e := YElem) (res18_0 r4) 1).2.2 (res34_0 r5)).bind fun r6 =>
             (some (ret7 (res35_0 r6)))))
          else none)
          (some (ret7 false)))
        else none)
        (some (ret7 false)))
       (some (ret7 false))))))) := by rw [raw7]; simp only [agree_self]
theorem ok7 : fnOk os7 sig7 Try.f7 = true := by kernel_rfl
theorem fn7 : P.funcs[7]? = some Try.f7 := by kernel_rfl
noncomputable def F7 : sig7.Fn := fun x y => run T (env7 F33 F34 F18 F35) os7 sig7 Try.f7 hs7 big x y
theorem S7 : Sound P 7 ⟨sig7, F7⟩ := sound_of (os := os7) (hs := hs7) (env_cons S33 (env_cons S34 (env_cons S18 (env_cons S35 (env_nil))))) fn7 ok7 (fun x y out h => ⟨big, h⟩)
theorem e7 : C7 F7 =
  ((C33 F33 [97, 98]).bind fun r1 =>
   ((C33 F33 [120]).bind fun r2 =>
    ((C34 F34 [98, 111, 108, 100]).bind fun r3 =>
     ((C18 F18 (res33_0 r1) [(1, (0, ([], (res33_0 r2)))), (2, (1, ([], []))), (0, (1, ((res34_0 r3), [])))]).bind fun r4 =>
      (bcond ((((res18_1 r4) : Int) == 0) == true)
       (bcond ((((List.length (res18_0 r4) : Int) : Int) == 2) == true)
        (if 0 ≤ (0 : Int) ∧ (0 : Int) < (List.length (res18_0 r4) : Int) then
         (bcond ((((at_ (e := YElem) (res18_0 r4) 0).1 : Int) == 120) == true)
          (if 0 ≤ (1 : Int) ∧ (1 : Int) < (List.length (res18_0 r4) : Int) then
           ((C34 F34 [98, 111, 108, 100]).bind fun r5 =>
            ((C35 F35 (at_ (e := YElem) (res18_0 r4) 1).2.2 (res34_0 r5)).bind fun r6 =>
             (some (ret7 (res35_0 r6)))))
          else none)
          (some (ret7 false)))
        else none)
        (some (ret7 false)))
       (some (ret7 false))))))) := run7 F33 F34 F18 F35 big

/-! ### chancery/chancerylaw1.DeltaCheckSays -/
def sig3 : Sig := ⟨[.v false (.list YStep)], [], [(false, [.fr .bool])]⟩
def C3 (F : sig3.Fn) (a0 : List YStep.den) : Option sig3.Out := F (a0, ()) ()
def ret3 (v0 : Bool) : sig3.Out := (((v0, ()), ()), ())
def res3_0 (r : sig3.Out) : Bool := r.1.1.1
@[simp] theorem res3_0_ret (v0 : Bool) : res3_0 (ret3 v0) = v0 := rfl
def os3 : List (Nat × Ord) := [(15, .st 0 (.st 1 (.st 2 (.st 3 (.st 4 (.st 6 (.st 7 (.st 8 (.st 9 (.st 10 (.st 11 (.st 5 (.st 12 (.st 13 (.st 14 (.nil))))))))))))))))]
def hs3 : List Keep := [[(0, []), (3, []), (4, []), (54, []), (55, [])]]
@[reducible] def env3 (F7 : sig7.Fn) (F8 : sig8.Fn) (F9 : sig9.Fn) (F10 : sig10.Fn) (F11 : sig11.Fn) : Env := [(7, ⟨sig7, F7⟩), (8, ⟨sig8, F8⟩), (9, ⟨sig9, F9⟩), (10, ⟨sig10, F10⟩), (11, ⟨sig11, F11⟩)]
noncomputable def L3_0 (F7 : sig7.Fn) (F8 : sig8.Fn) (F9 : sig9.Fn) (F10 : sig10.Fn) (F11 : sig11.Fn) (n m1 : Nat) (x0 : List YStep.den) (x3 : Int) (x4 : Int) (x54 : Int) (x55 : Int) : Option sig3.Out :=
  loopAt T (env3 F7 F8 F9 F10 F11) os3 sig3 Try.f3 hs3 n [.sr, .sr, .sr, .sr, .sr, .sr, .sl, .sr, .bl] m1 (mk 98 [(0, .cs false [.val (.list YStep) x0]), (3, .cs false [.val (.int .i64) x3]), (4, .cs false [.val (.int .i64) x4]), (54, .cs false [.val (.int .i64) x54]), (55, .cs false [.val (.int .i64) x55])])
theorem L3_0_step (F7 : sig7.Fn) (F8 : sig8.Fn) (F9 : sig9.Fn) (F10 : sig10.Fn) (F11 : sig11.Fn) (n m1 : Nat) (x0 : List YStep.den) (x3 : Int) (x4 : Int) (x54 : Int) (x55 : Int) : L3_0 F7 F8 F9 F10 F11 n (m1 + 1) x0 x3 x4 x54 x55 =
  (bcond (decide ((x55 : Int) < x54))
   (if 0 ≤ (x55 : Int) ∧ (x55 : Int) < (List.length x0 : Int) then
    (bcond (((at_ (e := YStep) x0 x55).1 : Int) != 1)
     (if 0 ≤ (x55 : Int) ∧ (x55 : Int) < (List.length x0 : Int) then
      (if 0 ≤ (x55 : Int) ∧ (x55 : Int) < (List.length x0 : Int) then
       (bcond (((at_ (e := YStep) x0 x55).1 : Int) != 2)
        (if 0 ≤ (x55 : Int) ∧ (x55 : Int) < (List.length x0 : Int) then
         (if 0 ≤ (x55 : Int) ∧ (x55 : Int) < (List.length x0 : Int) then
          (L3_0 F7 F8 F9 F10 F11 n m1 x0 (IntKind.i64.wrap (x3 - (at_ (e := YStep) x0 x55).2.1)) (IntKind.i64.wrap (x4 - (IntKind.i64.wrap ((at_ (e := YStep) x0 x55).2.1 + (List.length (at_ (e := YStep) x0 x55).2.2.2 : Int))))) x54 (IntKind.i64.wrap (x55 + 1)))
         else none)
        else none)
        (L3_0 F7 F8 F9 F10 F11 n m1 x0 (IntKind.i64.wrap (x3 - (at_ (e := YStep) x0 x55).2.1)) x4 x54 (IntKind.i64.wrap (x55 + 1))))
      else none)
     else none)
     (if 0 ≤ (x55 : Int) ∧ (x55 : Int) < (List.length x0 : Int) then
      (bcond (((at_ (e := YStep) x0 x55).1 : Int) != 2)
       (if 0 ≤ (x55 : Int) ∧ (x55 : Int) < (List.length x0 : Int) then
        (if 0 ≤ (x55 : Int) ∧ (x55 : Int) < (List.length x0 : Int) then
         (L3_0 F7 F8 F9 F10 F11 n m1 x0 x3 (IntKind.i64.wrap (x4 - (IntKind.i64.wrap ((at_ (e := YStep) x0 x55).2.1 + (List.length (at_ (e := YStep) x0 x55).2.2.2 : Int))))) x54 (IntKind.i64.wrap (x55 + 1)))
        else none)
       else none)
       (L3_0 F7 F8 F9 F10 F11 n m1 x0 x3 x4 x54 (IntKind.i64.wrap (x55 + 1))))
     else none))
   else none)
   (bcond (((x3 : Int) == 0) == true)
    (some (ret3 ((x4 : Int) == 0)))
    (some (ret3 false)))) := by kernel_rfl
theorem run3 (F7 : sig7.Fn) (F8 : sig8.Fn) (F9 : sig9.Fn) (F10 : sig10.Fn) (F11 : sig11.Fn) (n : Nat) (a0 : List YStep.den) : C3 (fun x y => run T (env3 F7 F8 F9 F10 F11) os3 sig3 Try.f3 hs3 n x y) a0 =
  ((C7 F7 ).bind fun r1 =>
   (bcond (!(res7_0 r1))
    (some (ret3 false))
    ((C8 F8 a0).bind fun r2 =>
     ((C9 F9 a0).bind fun r3 =>
      ((C10 F10 a0).bind fun r4 =>
       (bcond ((((res10_0 r4) : Int) != (res9_0 r3)) == false)
        (bcond ((((res8_2 r2) : Int) != (res9_0 r3)) == false)
         ((C11 F11 a0).bind fun r5 =>
          (bcond ((decide (((List.length a0 : Int) : Int) > 0)) == true)
           (if 0 ≤ ((IntKind.i64.wrap ((List.length a0 : Int) - 1)) : Int) ∧ ((IntKind.i64.wrap ((List.length a0 : Int) - 1)) : Int) < (List.length a0 : Int) then
            (bcond (((res11_0 r5) : Bool) != (((at_ (e := YStep) a0 (IntKind.i64.wrap ((List.length a0 : Int) - 1))).1 : Int) == 0))
             (some (ret3 false))
             (bcond (((res9_0 r3) : Int) != 0)
              (bcond ((((res8_0 r2) : Int) == 0) == true)
               (some (ret3 (((res8_1 r2) : Int) == 0)))
               (some (ret3 false)))
              (L3_0 F7 F8 F9 F10 F11 n n a0 (res8_0 r2) (res8_1 r2) (List.length a0 : Int) 0)))
           else none)
           (bcond (((res11_0 r5) : Bool) != false)
            (some (ret3 false))
            (bcond (((res9_0 r3) : Int) != 0)
             (bcond ((((res8_0 r2) : Int) == 0) == true)
              (some (ret3 (((res8_1 r2) : Int) == 0)))
              (some (ret3 false)))
             (L3_0 F7 F8 F9 F10 F11 n n a0 (res8_0 r2) (res8_1 r2) (List.length a0 : Int) 0)))))
         (some (ret3 false)))
        (some (ret3 false)))))))) := by kernel_rfl
theorem ok3 : fnOk os3 sig3 Try.f3 = true := by kernel_rfl
theorem fn3 : P.funcs[3]? = some Try.f3 := by kernel_rfl
noncomputable def F3 : sig3.Fn := fun x y => run T (env3 F7 F8 F9 F10 F11) os3 sig3 Try.f3 hs3 big x y
theorem S3 : Sound P 3 ⟨sig3, F3⟩ := sound_of (os := os3) (hs := hs3) (env_cons S7 (env_cons S8 (env_cons S9 (env_cons S10 (env_cons S11 (env_nil)))))) fn3 ok3 (fun x y out h => ⟨big, h⟩)
theorem e3 (a0 : List YStep.den) : C3 F3 a0 =
  ((C7 F7 ).bind fun r1 =>
   (bcond (!(res7_0 r1))
    (some (ret3 false))
    ((C8 F8 a0).bind fun r2 =>
     ((C9 F9 a0).bind fun r3 =>
      ((C10 F10 a0).bind fun r4 =>
       (bcond ((((res10_0 r4) : Int) != (res9_0 r3)) == false)
        (bcond ((((res8_2 r2) : Int) != (res9_0 r3)) == false)
         ((C11 F11 a0).bind fun r5 =>
          (bcond ((decide (((List.length a0 : Int) : Int) > 0)) == true)
           (if 0 ≤ ((IntKind.i64.wrap ((List.length a0 : Int) - 1)) : Int) ∧ ((IntKind.i64.wrap ((List.length a0 : Int) - 1)) : Int) < (List.length a0 : Int) then
            (bcond (((res11_0 r5) : Bool) != (((at_ (e := YStep) a0 (IntKind.i64.wrap ((List.length a0 : Int) - 1))).1 : Int) == 0))
             (some (ret3 false))
             (bcond (((res9_0 r3) : Int) != 0)
              (bcond ((((res8_0 r2) : Int) == 0) == true)
               (some (ret3 (((res8_1 r2) : Int) == 0)))
               (some (ret3 false)))
              (L3_0 F7 F8 F9 F10 F11 big big a0 (res8_0 r2) (res8_1 r2) (List.length a0 : Int) 0)))
           else none)
           (bcond (((res11_0 r5) : Bool) != false)
            (some (ret3 false))
            (bcond (((res9_0 r3) : Int) != 0)
             (bcond ((((res8_0 r2) : Int) == 0) == true)
              (some (ret3 (((res8_1 r2) : Int) == 0)))
              (some (ret3 false)))
             (L3_0 F7 F8 F9 F10 F11 big big a0 (res8_0 r2) (res8_1 r2) (List.length a0 : Int) 0)))))
         (some (ret3 false)))
        (some (ret3 false)))))))) := run3 F7 F8 F9 F10 F11 big a0
end Go.Ev
