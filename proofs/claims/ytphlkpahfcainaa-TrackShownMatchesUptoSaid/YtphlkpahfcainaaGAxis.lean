/- Functions, step by step. -/
import Derived.Test.YtphlkpahfcainaaGBase
namespace Go.Ev
set_option linter.unusedVariables false
set_option maxRecDepth 100000
open Go.Proofs

/-! ### chancery/axis.Check -/
def sig61 : Sig := ⟨[.v false (.list YSpan)], [], [(false, [.fr (.int .i64)])]⟩
def C61 (F : sig61.Fn) (a0 : List YSpan.den) : Option sig61.Out := F (a0, ()) ()
def ret61 (v0 : Int) : sig61.Out := (((v0, ()), ()), ())
def res61_0 (r : sig61.Out) : Int := r.1.1.1
@[simp] theorem res61_0_ret (v0 : Int) : res61_0 (ret61 v0) = v0 := rfl
def os61 : List (Nat × Ord) := [(9, .st 0 (.st 1 (.st 2 (.st 3 (.st 4 (.st 5 (.st 6 (.st 7 (.st 9 (.st 8 (.st 10 (.st 11 (.st 12 (.st 13 (.st 14 (.st 15 (.st 16 (.st 17 (.st 18 (.st 19 (.st 20 (.st 21 (.st 22 (.st 23 (.st 24 (.st 25 (.st 26 (.st 27 (.nil)))))))))))))))))))))))))))))]
def hs61 : List Keep := [[(0, []), (3, []), (4, []), (7, []), (8, []), (9, [])]]
@[reducible] def env61 : Env := []
noncomputable def L61_0 (n m1 : Nat) (x0 : List YSpan.den) (x3 : Int) (x4 : Int) (x7 : List YSpan.den) (x8 : Int) (x9 : Int) : Option sig61.Out :=
  loopAt T (env61) os61 sig61 Try.f61 hs61 n [.sr, .sr, .sl, .sr, .bl] m1 (mk 83 [(0, .cs false [.val (.list YSpan) x0]), (3, .cs false [.val (.int .i64) x3]), (4, .cs false [.val (.int .i64) x4]), (7, .cs false [.val (.list YSpan) x7]), (8, .cs false [.val (.int .i64) x8]), (9, .cs false [.val (.int .i64) x9])])
theorem L61_0_step (n m1 : Nat) (x0 : List YSpan.den) (x3 : Int) (x4 : Int) (x7 : List YSpan.den) (x8 : Int) (x9 : Int) : L61_0 n (m1 + 1) x0 x3 x4 x7 x8 x9 =
  (bcond (decide ((x9 : Int) < x8))
   (if 0 ≤ (x9 : Int) ∧ (x9 : Int) < (List.length x7 : Int) then
    (bcond ((decide (((at_ (e := YSpan) x7 x9).1 : Int) < 0)) == false)
     (bcond (decide (((at_ (e := YSpan) x7 x9).1 : Int) > 2))
      (some (ret61 8))
      (bcond ((decide (((at_ (e := YSpan) x7 x9).2 : Int) < 1)) == false)
       (bcond (decide (((at_ (e := YSpan) x7 x9).2 : Int) > 2147483647))
        (some (ret61 2))
        (bcond ((decide ((x9 : Int) > 0)) == true)
         (if 0 ≤ ((IntKind.i64.wrap (x9 - 1)) : Int) ∧ ((IntKind.i64.wrap (x9 - 1)) : Int) < (List.length x0 : Int) then
          (bcond ((((at_ (e := YSpan) x0 (IntKind.i64.wrap (x9 - 1))).1 : Int) == (at_ (e := YSpan) x7 x9).1) == false)
           (if 0 ≤ ((IntKind.i64.wrap (x9 - 1)) : Int) ∧ ((IntKind.i64.wrap (x9 - 1)) : Int) < (List.length x0 : Int) then
            (bcond ((((at_ (e := YSpan) x0 (IntKind.i64.wrap (x9 - 1))).1 : Int) == 2) == true)
             (bcond (((at_ (e := YSpan) x7 x9).1 : Int) == 1)
              (some (ret61 5))
              (bcond (((at_ (e := YSpan) x7 x9).1 : Int) != 1)
               (bcond (((at_ (e := YSpan) x7 x9).1 : Int) != 2)
                (L61_0 n m1 x0 (if (2147483648 : Int) < (IntKind.i64.wrap (x3 + (at_ (e := YSpan) x7 x9).2)) then 2147483648 else (IntKind.i64.wrap (x3 + (at_ (e := YSpan) x7 x9).2))) (if (2147483648 : Int) < (IntKind.i64.wrap (x4 + (at_ (e := YSpan) x7 x9).2)) then 2147483648 else (IntKind.i64.wrap (x4 + (at_ (e := YSpan) x7 x9).2))) x7 x8 (IntKind.i64.wrap (x9 + 1)))
                (L61_0 n m1 x0 (if (2147483648 : Int) < (IntKind.i64.wrap (x3 + (at_ (e := YSpan) x7 x9).2)) then 2147483648 else (IntKind.i64.wrap (x3 + (at_ (e := YSpan) x7 x9).2))) x4 x7 x8 (IntKind.i64.wrap (x9 + 1))))
               (bcond (((at_ (e := YSpan) x7 x9).1 : Int) != 2)
                (L61_0 n m1 x0 x3 (if (2147483648 : Int) < (IntKind.i64.wrap (x4 + (at_ (e := YSpan) x7 x9).2)) then 2147483648 else (IntKind.i64.wrap (x4 + (at_ (e := YSpan) x7 x9).2))) x7 x8 (IntKind.i64.wrap (x9 + 1)))
                (L61_0 n m1 x0 x3 x4 x7 x8 (IntKind.i64.wrap (x9 + 1))))))
             (bcond (((at_ (e := YSpan) x7 x9).1 : Int) != 1)
              (bcond (((at_ (e := YSpan) x7 x9).1 : Int) != 2)
               (L61_0 n m1 x0 (if (2147483648 : Int) < (IntKind.i64.wrap (x3 + (at_ (e := YSpan) x7 x9).2)) then 2147483648 else (IntKind.i64.wrap (x3 + (at_ (e := YSpan) x7 x9).2))) (if (2147483648 : Int) < (IntKind.i64.wrap (x4 + (at_ (e := YSpan) x7 x9).2)) then 2147483648 else (IntKind.i64.wrap (x4 + (at_ (e := YSpan) x7 x9).2))) x7 x8 (IntKind.i64.wrap (x9 + 1)))
               (L61_0 n m1 x0 (if (2147483648 : Int) < (IntKind.i64.wrap (x3 + (at_ (e := YSpan) x7 x9).2)) then 2147483648 else (IntKind.i64.wrap (x3 + (at_ (e := YSpan) x7 x9).2))) x4 x7 x8 (IntKind.i64.wrap (x9 + 1))))
              (bcond (((at_ (e := YSpan) x7 x9).1 : Int) != 2)
               (L61_0 n m1 x0 x3 (if (2147483648 : Int) < (IntKind.i64.wrap (x4 + (at_ (e := YSpan) x7 x9).2)) then 2147483648 else (IntKind.i64.wrap (x4 + (at_ (e := YSpan) x7 x9).2))) x7 x8 (IntKind.i64.wrap (x9 + 1)))
               (L61_0 n m1 x0 x3 x4 x7 x8 (IntKind.i64.wrap (x9 + 1))))))
           else none)
           (some (ret61 5)))
         else none)
         (bcond (((at_ (e := YSpan) x7 x9).1 : Int) != 1)
          (bcond (((at_ (e := YSpan) x7 x9).1 : Int) != 2)
           (L61_0 n m1 x0 (if (2147483648 : Int) < (IntKind.i64.wrap (x3 + (at_ (e := YSpan) x7 x9).2)) then 2147483648 else (IntKind.i64.wrap (x3 + (at_ (e := YSpan) x7 x9).2))) (if (2147483648 : Int) < (IntKind.i64.wrap (x4 + (at_ (e := YSpan) x7 x9).2)) then 2147483648 else (IntKind.i64.wrap (x4 + (at_ (e := YSpan) x7 x9).2))) x7 x8 (IntKind.i64.wrap (x9 + 1)))
           (L61_0 n m1 x0 (if (2147483648 : Int) < (IntKind.i64.wrap (x3 + (at_ (e := YSpan) x7 x9).2)) then 2147483648 else (IntKind.i64.wrap (x3 + (at_ (e := YSpan) x7 x9).2))) x4 x7 x8 (IntKind.i64.wrap (x9 + 1))))
          (bcond (((at_ (e := YSpan) x7 x9).1 : Int) != 2)
           (L61_0 n m1 x0 x3 (if (2147483648 : Int) < (IntKind.i64.wrap (x4 + (at_ (e := YSpan) x7 x9).2)) then 2147483648 else (IntKind.i64.wrap (x4 + (at_ (e := YSpan) x7 x9).2))) x7 x8 (IntKind.i64.wrap (x9 + 1)))
           (L61_0 n m1 x0 x3 x4 x7 x8 (IntKind.i64.wrap (x9 + 1)))))))
       (some (ret61 2))))
     (some (ret61 8)))
   else none)
   (bcond ((decide ((x3 : Int) > 2147483647)) == false)
    (bcond (decide ((x4 : Int) > 2147483647))
     (some (ret61 3))
     (some (ret61 0)))
    (some (ret61 3)))) := by kernel_rfl
theorem run61 (n : Nat) (a0 : List YSpan.den) : C61 (fun x y => run T (env61) os61 sig61 Try.f61 hs61 n x y) a0 =
  (L61_0 n n a0 0 0 a0 (List.length a0 : Int) 0) := by kernel_rfl
theorem ok61 : fnOk os61 sig61 Try.f61 = true := by kernel_rfl
theorem fn61 : P.funcs[61]? = some Try.f61 := by kernel_rfl
noncomputable def F61 : sig61.Fn := fun x y => run T (env61) os61 sig61 Try.f61 hs61 big x y
theorem S61 : Sound P 61 ⟨sig61, F61⟩ := sound_of (os := os61) (hs := hs61) (env_nil) fn61 ok61 (fun x y out h => ⟨big, h⟩)
theorem e61 (a0 : List YSpan.den) : C61 F61 a0 =
  (L61_0 big big a0 0 0 a0 (List.length a0 : Int) 0) := run61 big a0

/-! ### chancery/axis.lengths -/
def sig82 : Sig := ⟨[.v false (.list YSpan)], [], [(false, [.fr (.int .i64)]), (false, [.fr (.int .i64)])]⟩
def C82 (F : sig82.Fn) (a0 : List YSpan.den) : Option sig82.Out := F (a0, ()) ()
def ret82 (v0 : Int) (v1 : Int) : sig82.Out := (((v0, ()), (v1, ()), ()), ())
def res82_0 (r : sig82.Out) : Int := r.1.1.1
@[simp] theorem res82_0_ret (v0 : Int) (v1 : Int) : res82_0 (ret82 v0 v1) = v0 := rfl
def res82_1 (r : sig82.Out) : Int := r.1.2.1.1
@[simp] theorem res82_1_ret (v0 : Int) (v1 : Int) : res82_1 (ret82 v0 v1) = v1 := rfl
def os82 : List (Nat × Ord) := []
def hs82 : List Keep := [[(4, []), (5, []), (8, []), (9, []), (10, [])]]
@[reducible] def env82 : Env := []
noncomputable def L82_0 (n m1 : Nat) (x4 : Int) (x5 : Int) (x8 : List YSpan.den) (x9 : Int) (x10 : Int) : Option sig82.Out :=
  loopAt T (env82) os82 sig82 Try.f82 hs82 n [.sr, .sr, .sl, .sr, .bl] m1 (mk 31 [(4, .cs false [.val (.int .i64) x4]), (5, .cs false [.val (.int .i64) x5]), (8, .cs false [.val (.list YSpan) x8]), (9, .cs false [.val (.int .i64) x9]), (10, .cs false [.val (.int .i64) x10])])
theorem L82_0_step (n m1 : Nat) (x4 : Int) (x5 : Int) (x8 : List YSpan.den) (x9 : Int) (x10 : Int) : L82_0 n (m1 + 1) x4 x5 x8 x9 x10 =
  (bcond (decide ((x10 : Int) < x9))
   (if 0 ≤ (x10 : Int) ∧ (x10 : Int) < (List.length x8 : Int) then
    (bcond (((at_ (e := YSpan) x8 x10).1 : Int) != 1)
     (bcond (((at_ (e := YSpan) x8 x10).1 : Int) != 2)
      (L82_0 n m1 (IntKind.i64.wrap (x4 + (at_ (e := YSpan) x8 x10).2)) (IntKind.i64.wrap (x5 + (at_ (e := YSpan) x8 x10).2)) x8 x9 (IntKind.i64.wrap (x10 + 1)))
      (L82_0 n m1 (IntKind.i64.wrap (x4 + (at_ (e := YSpan) x8 x10).2)) x5 x8 x9 (IntKind.i64.wrap (x10 + 1))))
     (bcond (((at_ (e := YSpan) x8 x10).1 : Int) != 2)
      (L82_0 n m1 x4 (IntKind.i64.wrap (x5 + (at_ (e := YSpan) x8 x10).2)) x8 x9 (IntKind.i64.wrap (x10 + 1)))
      (L82_0 n m1 x4 x5 x8 x9 (IntKind.i64.wrap (x10 + 1)))))
   else none)
   (some (ret82 x4 x5))) := by kernel_rfl
theorem run82 (n : Nat) (a0 : List YSpan.den) : C82 (fun x y => run T (env82) os82 sig82 Try.f82 hs82 n x y) a0 =
  (L82_0 n n 0 0 a0 (List.length a0 : Int) 0) := by kernel_rfl
theorem ok82 : fnOk os82 sig82 Try.f82 = true := by kernel_rfl
theorem fn82 : P.funcs[82]? = some Try.f82 := by kernel_rfl
noncomputable def F82 : sig82.Fn := fun x y => run T (env82) os82 sig82 Try.f82 hs82 big x y
theorem S82 : Sound P 82 ⟨sig82, F82⟩ := sound_of (os := os82) (hs := hs82) (env_nil) fn82 ok82 (fun x y out h => ⟨big, h⟩)
theorem e82 (a0 : List YSpan.den) : C82 F82 a0 =
  (L82_0 big big 0 0 a0 (List.length a0 : Int) 0) := run82 big a0

/-! ### chancery/axis.place -/
def sig83 : Sig := ⟨[.v false (.list YSpan), .v false (.int .i64)], [], [(false, [.fr (.int .i64)])]⟩
def C83 (F : sig83.Fn) (a0 : List YSpan.den) (a1 : Int) : Option sig83.Out := F (a0, a1, ()) ()
def ret83 (v0 : Int) : sig83.Out := (((v0, ()), ()), ())
def res83_0 (r : sig83.Out) : Int := r.1.1.1
@[simp] theorem res83_0_ret (v0 : Int) : res83_0 (ret83 v0) = v0 := rfl
def os83 : List (Nat × Ord) := []
def hs83 : List Keep := [[(1, []), (5, []), (6, []), (9, []), (10, []), (11, [])]]
@[reducible] def env83 : Env := []
noncomputable def L83_0 (n m1 : Nat) (x1 : Int) (x5 : Int) (x6 : Int) (x9 : List YSpan.den) (x10 : Int) (x11 : Int) : Option sig83.Out :=
  loopAt T (env83) os83 sig83 Try.f83 hs83 n [.sr, .sr, .sl, .sr, .bl] m1 (mk 51 [(1, .cs false [.val (.int .i64) x1]), (5, .cs false [.val (.int .i64) x5]), (6, .cs false [.val (.int .i64) x6]), (9, .cs false [.val (.list YSpan) x9]), (10, .cs false [.val (.int .i64) x10]), (11, .cs false [.val (.int .i64) x11])])
theorem L83_0_step (n m1 : Nat) (x1 : Int) (x5 : Int) (x6 : Int) (x9 : List YSpan.den) (x10 : Int) (x11 : Int) : L83_0 n (m1 + 1) x1 x5 x6 x9 x10 x11 =
  (bcond (decide ((x11 : Int) < x10))
   (if 0 ≤ (x11 : Int) ∧ (x11 : Int) < (List.length x9 : Int) then
    (bcond (((at_ (e := YSpan) x9 x11).1 : Int) == 1)
     (L83_0 n m1 x1 x5 (IntKind.i64.wrap (x6 + (at_ (e := YSpan) x9 x11).2)) x9 x10 (IntKind.i64.wrap (x11 + 1)))
     (bcond (((at_ (e := YSpan) x9 x11).1 : Int) == 0)
      (bcond (decide ((x1 : Int) < (IntKind.i64.wrap (x5 + (at_ (e := YSpan) x9 x11).2))))
       (some (ret83 (IntKind.i64.wrap ((IntKind.i64.wrap (x6 + x1)) - x5))))
       (L83_0 n m1 x1 (IntKind.i64.wrap (x5 + (at_ (e := YSpan) x9 x11).2)) (IntKind.i64.wrap (x6 + (at_ (e := YSpan) x9 x11).2)) x9 x10 (IntKind.i64.wrap (x11 + 1))))
      (bcond (decide ((x1 : Int) < (IntKind.i64.wrap (x5 + (at_ (e := YSpan) x9 x11).2))))
       (some (ret83 (-1)))
       (L83_0 n m1 x1 (IntKind.i64.wrap (x5 + (at_ (e := YSpan) x9 x11).2)) x6 x9 x10 (IntKind.i64.wrap (x11 + 1))))))
   else none)
   (some (ret83 (-1)))) := by kernel_rfl
theorem run83 (n : Nat) (a0 : List YSpan.den) (a1 : Int) : C83 (fun x y => run T (env83) os83 sig83 Try.f83 hs83 n x y) a0 a1 =
  (L83_0 n n a1 0 0 a0 (List.length a0 : Int) 0) := by kernel_rfl
theorem ok83 : fnOk os83 sig83 Try.f83 = true := by kernel_rfl
theorem fn83 : P.funcs[83]? = some Try.f83 := by kernel_rfl
noncomputable def F83 : sig83.Fn := fun x y => run T (env83) os83 sig83 Try.f83 hs83 big x y
theorem S83 : Sound P 83 ⟨sig83, F83⟩ := sound_of (os := os83) (hs := hs83) (env_nil) fn83 ok83 (fun x y out h => ⟨big, h⟩)
theorem e83 (a0 : List YSpan.den) (a1 : Int) : C83 F83 a0 a1 =
  (L83_0 big big a1 0 0 a0 (List.length a0 : Int) 0) := run83 big a0 a1

/-! ### chancery/chanceryref1.AxisSize -/
def sig84 : Sig := ⟨[.v false (.list YSpan)], [], [(false, [.fr (.int .i64)])]⟩
def C84 (F : sig84.Fn) (a0 : List YSpan.den) : Option sig84.Out := F (a0, ()) ()
def ret84 (v0 : Int) : sig84.Out := (((v0, ()), ()), ())
def res84_0 (r : sig84.Out) : Int := r.1.1.1
@[simp] theorem res84_0_ret (v0 : Int) : res84_0 (ret84 v0) = v0 := rfl
def os84 : List (Nat × Ord) := []
def hs84 : List Keep := [[(0, []), (3, []), (6, []), (7, [])]]
@[reducible] def env84 : Env := []
noncomputable def L84_0 (n m1 : Nat) (x0 : List YSpan.den) (x3 : Int) (x6 : Int) (x7 : Int) : Option sig84.Out :=
  loopAt T (env84) os84 sig84 Try.f84 hs84 n [.sr, .sr, .sl, .sr, .bl] m1 (mk 19 [(0, .cs false [.val (.list YSpan) x0]), (3, .cs false [.val (.int .i64) x3]), (6, .cs false [.val (.int .i64) x6]), (7, .cs false [.val (.int .i64) x7])])
theorem L84_0_step (n m1 : Nat) (x0 : List YSpan.den) (x3 : Int) (x6 : Int) (x7 : Int) : L84_0 n (m1 + 1) x0 x3 x6 x7 =
  (bcond (decide ((x7 : Int) < x6))
   (if 0 ≤ (x7 : Int) ∧ (x7 : Int) < (List.length x0 : Int) then
    (L84_0 n m1 x0 (IntKind.i64.wrap (x3 + (at_ (e := YSpan) x0 x7).2)) x6 (IntKind.i64.wrap (x7 + 1)))
   else none)
   (some (ret84 x3))) := by kernel_rfl
theorem run84 (n : Nat) (a0 : List YSpan.den) : C84 (fun x y => run T (env84) os84 sig84 Try.f84 hs84 n x y) a0 =
  (L84_0 n n a0 0 (List.length a0 : Int) 0) := by kernel_rfl
theorem ok84 : fnOk os84 sig84 Try.f84 = true := by kernel_rfl
theorem fn84 : P.funcs[84]? = some Try.f84 := by kernel_rfl
noncomputable def F84 : sig84.Fn := fun x y => run T (env84) os84 sig84 Try.f84 hs84 big x y
theorem S84 : Sound P 84 ⟨sig84, F84⟩ := sound_of (os := os84) (hs := hs84) (env_nil) fn84 ok84 (fun x y out h => ⟨big, h⟩)
theorem e84 (a0 : List YSpan.den) : C84 F84 a0 =
  (L84_0 big big a0 0 (List.length a0 : Int) 0) := run84 big a0

/-! ### chancery/chanceryref1.Olds -/
def sig85 : Sig := ⟨[.v false (.list (.int .i64))], [], [(false, [.fr (.list (.int .i64))]), (false, [.fr (.list (.int .i64))])]⟩
def C85 (F : sig85.Fn) (a0 : List (Int)) : Option sig85.Out := F (a0, ()) ()
def ret85 (v0 : List (Int)) (v1 : List (Int)) : sig85.Out := (((v0, ()), (v1, ()), ()), ())
def res85_0 (r : sig85.Out) : List (Int) := r.1.1.1
@[simp] theorem res85_0_ret (v0 : List (Int)) (v1 : List (Int)) : res85_0 (ret85 v0 v1) = v0 := rfl
def res85_1 (r : sig85.Out) : List (Int) := r.1.2.1.1
@[simp] theorem res85_1_ret (v0 : List (Int)) (v1 : List (Int)) : res85_1 (ret85 v0 v1) = v1 := rfl
def os85 : List (Nat × Ord) := []
def hs85 : List Keep := [[(0, []), (4, [(0, 3, (.int .i64))]), (5, [(0, 3, (.int .i64))]), (6, []), (9, []), (10, [])]]
@[reducible] def env85 : Env := []
noncomputable def L85_0 (n m1 : Nat) (x0 : List (Int)) (x4 : List (Int)) (x5 : List (Int)) (x6 : Int) (x9 : Int) (x10 : Int) : Option sig85.Out :=
  loopAt T (env85) os85 sig85 Try.f85 hs85 n [.sr, .sr, .sr, .sl, .sr, .bl] m1 (mk 43 [(0, .cs false [.val (.list (.int .i64)) x0]), (4, .cs false [.own 3 (.int .i64) x4]), (5, .cs false [.own 3 (.int .i64) x5]), (6, .cs false [.val (.int .i64) x6]), (9, .cs false [.val (.int .i64) x9]), (10, .cs false [.val (.int .i64) x10])])
theorem L85_0_step (n m1 : Nat) (x0 : List (Int)) (x4 : List (Int)) (x5 : List (Int)) (x6 : Int) (x9 : Int) (x10 : Int) : L85_0 n (m1 + 1) x0 x4 x5 x6 x9 x10 =
  (bcond (decide ((x10 : Int) < x9))
   (if 0 ≤ (x10 : Int) ∧ (x10 : Int) < (List.length x0 : Int) then
    (bcond (((at_ (e := (.int .i64)) x0 x10) : Int) == 0)
     (if (List.length (x4 : List Int) + List.length ([x6] : List Int)) * 8 ≤ 140737488355328 then
      (if (List.length (x5 : List Int) + List.length ([x6] : List Int)) * 8 ≤ 140737488355328 then
       (L85_0 n m1 x0 (x4 ++ [x6]) (x5 ++ [x6]) (IntKind.i64.wrap (x6 + 1)) x9 (IntKind.i64.wrap (x10 + 1)))
      else none)
     else none)
     (bcond (((at_ (e := (.int .i64)) x0 x10) : Int) == 1)
      (if (List.length (x4 : List Int) + List.length ([(-1)] : List Int)) * 8 ≤ 140737488355328 then
       (if (List.length (x5 : List Int) + List.length ([x6] : List Int)) * 8 ≤ 140737488355328 then
        (L85_0 n m1 x0 (x4 ++ [(-1)]) (x5 ++ [x6]) x6 x9 (IntKind.i64.wrap (x10 + 1)))
       else none)
      else none)
      (L85_0 n m1 x0 x4 x5 (IntKind.i64.wrap (x6 + 1)) x9 (IntKind.i64.wrap (x10 + 1)))))
   else none)
   (some (ret85 x4 x5))) := by kernel_rfl
theorem run85 (n : Nat) (a0 : List (Int)) : C85 (fun x y => run T (env85) os85 sig85 Try.f85 hs85 n x y) a0 =
  (L85_0 n n a0 [] [] 0 (List.length a0 : Int) 0) := by kernel_rfl
theorem ok85 : fnOk os85 sig85 Try.f85 = true := by kernel_rfl
theorem fn85 : P.funcs[85]? = some Try.f85 := by kernel_rfl
noncomputable def F85 : sig85.Fn := fun x y => run T (env85) os85 sig85 Try.f85 hs85 big x y
theorem S85 : Sound P 85 ⟨sig85, F85⟩ := sound_of (os := os85) (hs := hs85) (env_nil) fn85 ok85 (fun x y out h => ⟨big, h⟩)
theorem e85 (a0 : List (Int)) : C85 F85 a0 =
  (L85_0 big big a0 [] [] 0 (List.length a0 : Int) 0) := run85 big a0

/-! ### chancery/chanceryref1.Units -/
def sig31 : Sig := ⟨[.v false (.list YSpan)], [], [(false, [.fr (.list (.int .i64))])]⟩
def C31 (F : sig31.Fn) (a0 : List YSpan.den) : Option sig31.Out := F (a0, ()) ()
def ret31 (v0 : List (Int)) : sig31.Out := (((v0, ()), ()), ())
def res31_0 (r : sig31.Out) : List (Int) := r.1.1.1
@[simp] theorem res31_0_ret (v0 : List (Int)) : res31_0 (ret31 v0) = v0 := rfl
def os31 : List (Nat × Ord) := []
def hs31 : List Keep := [[(0, []), (3, [(0, 3, (.int .i64))]), (6, []), (7, [])], [(0, []), (3, [(0, 3, (.int .i64))]), (4, []), (6, []), (7, []), (14, []), (15, [])]]
@[reducible] def env31 : Env := []
noncomputable def L31_0 (n m1 : Nat) (x0 : List YSpan.den) (x3 : List (Int)) (x6 : Int) (x7 : Int) : Option sig31.Out :=
  loopAt T (env31) os31 sig31 Try.f31 hs31 n [.sr, .sr, .sl, .sr, .bl] m1 (mk 28 [(0, .cs false [.val (.list YSpan) x0]), (3, .cs false [.own 3 (.int .i64) x3]), (6, .cs false [.val (.int .i64) x6]), (7, .cs false [.val (.int .i64) x7])])
noncomputable def L31_1 (n m1 m2 : Nat) (x0 : List YSpan.den) (x3 : List (Int)) (x4 : Int) (x6 : Int) (x7 : Int) (x14 : Int) (x15 : Int) : Option sig31.Out :=
  loopAt T (env31) os31 sig31 Try.f31 hs31 n [.sr, .sr, .sl, .sr, .bl, .lp m1, .sr, .sr, .sl, .bl, .sr, .sr, .bl] m2 (mk 28 [(0, .cs false [.val (.list YSpan) x0]), (3, .cs false [.own 3 (.int .i64) x3]), (4, .cs false [.val (.int .i64) x4]), (6, .cs false [.val (.int .i64) x6]), (7, .cs false [.val (.int .i64) x7]), (14, .cs false [.val (.int .i64) x14]), (15, .cs false [.val (.int .i64) x15])])
theorem L31_0_step (n m1 : Nat) (x0 : List YSpan.den) (x3 : List (Int)) (x6 : Int) (x7 : Int) : L31_0 n (m1 + 1) x0 x3 x6 x7 =
  (bcond (decide ((x7 : Int) < x6))
   (if 0 ≤ (x7 : Int) ∧ (x7 : Int) < (List.length x0 : Int) then
    (L31_1 n m1 n x0 x3 x7 x6 x7 (at_ (e := YSpan) x0 x7).2 0)
   else none)
   (some (ret31 x3))) := by kernel_rfl
theorem L31_1_step (n m1 m2 : Nat) (x0 : List YSpan.den) (x3 : List (Int)) (x4 : Int) (x6 : Int) (x7 : Int) (x14 : Int) (x15 : Int) : L31_1 n m1 (m2 + 1) x0 x3 x4 x6 x7 x14 x15 =
  (bcond (decide ((x15 : Int) < x14))
   (if 0 ≤ (x4 : Int) ∧ (x4 : Int) < (List.length x0 : Int) then
    (if (List.length (x3 : List Int) + List.length ([(at_ (e := YSpan) x0 x4).1] : List Int)) * 8 ≤ 140737488355328 then
     (L31_1 n m1 m2 x0 (x3 ++ [(at_ (e := YSpan) x0 x4).1]) x4 x6 x7 x14 (IntKind.i64.wrap (x15 + 1)))
    else none)
   else none)
   (L31_0 n m1 x0 x3 x6 (IntKind.i64.wrap (x7 + 1)))) := by kernel_rfl
theorem run31 (n : Nat) (a0 : List YSpan.den) : C31 (fun x y => run T (env31) os31 sig31 Try.f31 hs31 n x y) a0 =
  (L31_0 n n a0 [] (List.length a0 : Int) 0) := by kernel_rfl
theorem ok31 : fnOk os31 sig31 Try.f31 = true := by kernel_rfl
theorem fn31 : P.funcs[31]? = some Try.f31 := by kernel_rfl
noncomputable def F31 : sig31.Fn := fun x y => run T (env31) os31 sig31 Try.f31 hs31 big x y
theorem S31 : Sound P 31 ⟨sig31, F31⟩ := sound_of (os := os31) (hs := hs31) (env_nil) fn31 ok31 (fun x y out h => ⟨big, h⟩)
theorem e31 (a0 : List YSpan.den) : C31 F31 a0 =
  (L31_0 big big a0 [] (List.length a0 : Int) 0) := run31 big a0

/-! ### chancery/chanceryref1.Where -/
def sig33 : Sig := ⟨[.v false (.list (.int .i64)), .v false (.int .i64)], [], [(false, [.fr (.int .i64)])]⟩
def C33 (F : sig33.Fn) (a0 : List (Int)) (a1 : Int) : Option sig33.Out := F (a0, a1, ()) ()
def ret33 (v0 : Int) : sig33.Out := (((v0, ()), ()), ())
def res33_0 (r : sig33.Out) : Int := r.1.1.1
@[simp] theorem res33_0_ret (v0 : Int) : res33_0 (ret33 v0) = v0 := rfl
def os33 : List (Nat × Ord) := []
def hs33 : List Keep := [[(1, []), (5, []), (14, []), (15, [])]]
@[reducible] def env33 (F85 : sig85.Fn) : Env := [(85, ⟨sig85, F85⟩)]
noncomputable def L33_0 (F85 : sig85.Fn) (n m1 : Nat) (x1 : Int) (x5 : List (Int)) (x14 : Int) (x15 : Int) : Option sig33.Out :=
  loopAt T (env33 F85) os33 sig33 Try.f33 hs33 n [.sr, .sr, .sl, .sr, .bl] m1 (mk 26 [(1, .cs false [.val (.int .i64) x1]), (5, .cs false [.val (.list (.int .i64)) x5]), (14, .cs false [.val (.int .i64) x14]), (15, .cs false [.val (.int .i64) x15])])
theorem L33_0_step (F85 : sig85.Fn) (n m1 : Nat) (x1 : Int) (x5 : List (Int)) (x14 : Int) (x15 : Int) : L33_0 F85 n (m1 + 1) x1 x5 x14 x15 =
  (bcond (decide ((x15 : Int) < x14))
   (if 0 ≤ (x15 : Int) ∧ (x15 : Int) < (List.length x5 : Int) then
    (bcond (((at_ (e := (.int .i64)) x5 x15) : Int) == x1)
     (some (ret33 x15))
     (L33_0 F85 n m1 x1 x5 x14 (IntKind.i64.wrap (x15 + 1))))
   else none)
   (some (ret33 (-1)))) := by kernel_rfl
theorem run33 (F85 : sig85.Fn) (n : Nat) (a0 : List (Int)) (a1 : Int) : C33 (fun x y => run T (env33 F85) os33 sig33 Try.f33 hs33 n x y) a0 a1 =
  ((C85 F85 a0).bind fun r1 =>
   (L33_0 F85 n n a1 (res85_0 r1) (List.length (res85_0 r1) : Int) 0)) := by kernel_rfl
theorem ok33 : fnOk os33 sig33 Try.f33 = true := by kernel_rfl
theorem fn33 : P.funcs[33]? = some Try.f33 := by kernel_rfl
noncomputable def F33 : sig33.Fn := fun x y => run T (env33 F85) os33 sig33 Try.f33 hs33 big x y
theorem S33 : Sound P 33 ⟨sig33, F33⟩ := sound_of (os := os33) (hs := hs33) (env_cons S85 (env_nil)) fn33 ok33 (fun x y out h => ⟨big, h⟩)
theorem e33 (a0 : List (Int)) (a1 : Int) : C33 F33 a0 a1 =
  ((C85 F85 a0).bind fun r1 =>
   (L33_0 F85 big big a1 (res85_0 r1) (List.length (res85_0 r1) : Int) 0)) := run33 F85 big a0 a1

/-! ### chancery/chanceryref1.SameInts -/
def sig34 : Sig := ⟨[.v false (.list (.int .i64)), .v false (.list (.int .i64))], [], [(false, [.fr .bool])]⟩
def C34 (F : sig34.Fn) (a0 : List (Int)) (a1 : List (Int)) : Option sig34.Out := F (a0, a1, ()) ()
def ret34 (v0 : Bool) : sig34.Out := (((v0, ()), ()), ())
def res34_0 (r : sig34.Out) : Bool := r.1.1.1
@[simp] theorem res34_0_ret (v0 : Bool) : res34_0 (ret34 v0) = v0 := rfl
def os34 : List (Nat × Ord) := [(6, .st 0 (.st 1 (.st 2 (.st 4 (.st 5 (.st 6 (.st 3 (.st 7 (.st 8 (.nil))))))))))]
def hs34 : List Keep := [[(0, []), (1, []), (12, []), (13, [])]]
@[reducible] def env34 : Env := []
noncomputable def L34_0 (n m1 : Nat) (x0 : List (Int)) (x1 : List (Int)) (x12 : Int) (x13 : Int) : Option sig34.Out :=
  loopAt T (env34) os34 sig34 Try.f34 hs34 n [.sr, .sr, .sl, .sr, .bl] m1 (mk 26 [(0, .cs false [.val (.list (.int .i64)) x0]), (1, .cs false [.val (.list (.int .i64)) x1]), (12, .cs false [.val (.int .i64) x12]), (13, .cs false [.val (.int .i64) x13])])
theorem L34_0_step (n m1 : Nat) (x0 : List (Int)) (x1 : List (Int)) (x12 : Int) (x13 : Int) : L34_0 n (m1 + 1) x0 x1 x12 x13 =
  (bcond (decide ((x13 : Int) < x12))
   (if 0 ≤ (x13 : Int) ∧ (x13 : Int) < (List.length x0 : Int) then
    (if 0 ≤ (x13 : Int) ∧ (x13 : Int) < (List.length x1 : Int) then
     (bcond (((at_ (e := (.int .i64)) x0 x13) : Int) != (at_ (e := (.int .i64)) x1 x13))
      (some (ret34 false))
      (L34_0 n m1 x0 x1 x12 (IntKind.i64.wrap (x13 + 1))))
    else none)
   else none)
   (some (ret34 true))) := by kernel_rfl
theorem run34 (n : Nat) (a0 : List (Int)) (a1 : List (Int)) : C34 (fun x y => run T (env34) os34 sig34 Try.f34 hs34 n x y) a0 a1 =
  (bcond (((List.length a0 : Int) : Int) != (List.length a1 : Int))
   (some (ret34 false))
   (L34_0 n n a0 a1 (List.length a0 : Int) 0)) := by kernel_rfl
theorem ok34 : fnOk os34 sig34 Try.f34 = true := by kernel_rfl
theorem fn34 : P.funcs[34]? = some Try.f34 := by kernel_rfl
noncomputable def F34 : sig34.Fn := fun x y => run T (env34) os34 sig34 Try.f34 hs34 big x y
theorem S34 : Sound P 34 ⟨sig34, F34⟩ := sound_of (os := os34) (hs := hs34) (env_nil) fn34 ok34 (fun x y out h => ⟨big, h⟩)
theorem e34 (a0 : List (Int)) (a1 : List (Int)) : C34 F34 a0 a1 =
  (bcond (((List.length a0 : Int) : Int) != (List.length a1 : Int))
   (some (ret34 false))
   (L34_0 big big a0 a1 (List.length a0 : Int) 0)) := run34 big a0 a1

/-! ### chancery/chanceryref1.AxisError -/
def sig29 : Sig := ⟨[.v false (.list YSpan)], [], [(false, [.fr (.int .i64)])]⟩
def C29 (F : sig29.Fn) (a0 : List YSpan.den) : Option sig29.Out := F (a0, ()) ()
def ret29 (v0 : Int) : sig29.Out := (((v0, ()), ()), ())
def res29_0 (r : sig29.Out) : Int := r.1.1.1
@[simp] theorem res29_0_ret (v0 : Int) : res29_0 (ret29 v0) = v0 := rfl
def os29 : List (Nat × Ord) := [(9, .st 0 (.st 1 (.st 2 (.st 3 (.st 4 (.st 5 (.st 6 (.st 8 (.st 9 (.st 10 (.st 11 (.st 12 (.st 7 (.st 13 (.st 14 (.st 15 (.st 16 (.st 17 (.st 18 (.st 19 (.st 20 (.st 21 (.st 22 (.st 23 (.st 24 (.st 25 (.st 26 (.st 27 (.st 28 (.st 29 (.st 30 (.st 31 (.st 32 (.nil))))))))))))))))))))))))))))))))))]
def hs29 : List Keep := [[(0, []), (3, []), (4, []), (7, []), (8, [])]]
@[reducible] def env29 (F32 : sig32.Fn) : Env := [(32, ⟨sig32, F32⟩)]
noncomputable def L29_0 (F32 : sig32.Fn) (n m1 : Nat) (x0 : List YSpan.den) (x3 : Int) (x4 : Int) (x7 : Int) (x8 : Int) : Option sig29.Out :=
  loopAt T (env29 F32) os29 sig29 Try.f29 hs29 n [.sr, .sr, .sl, .sr, .bl] m1 (mk 99 [(0, .cs false [.val (.list YSpan) x0]), (3, .cs false [.val (.int .i64) x3]), (4, .cs false [.val (.int .i64) x4]), (7, .cs false [.val (.int .i64) x7]), (8, .cs false [.val (.int .i64) x8])])
theorem L29_0_step (F32 : sig32.Fn) (n m1 : Nat) (x0 : List YSpan.den) (x3 : Int) (x4 : Int) (x7 : Int) (x8 : Int) : L29_0 F32 n (m1 + 1) x0 x3 x4 x7 x8 =
  (bcond (decide ((x8 : Int) < x7))
   (if 0 ≤ (x8 : Int) ∧ (x8 : Int) < (List.length x0 : Int) then
    ((C32 F32 (at_ (e := YSpan) x0 x8).1 0 2).bind fun r1 =>
     (bcond (!(res32_0 r1))
      (some (ret29 8))
      (if 0 ≤ (x8 : Int) ∧ (x8 : Int) < (List.length x0 : Int) then
       ((C32 F32 (at_ (e := YSpan) x0 x8).2 1 2147483647).bind fun r2 =>
        (bcond (!(res32_0 r2))
         (some (ret29 2))
         (bcond ((decide ((x8 : Int) > 0)) == true)
          (if 0 ≤ (x8 : Int) ∧ (x8 : Int) < (List.length x0 : Int) then
           (if 0 ≤ ((IntKind.i64.wrap (x8 - 1)) : Int) ∧ ((IntKind.i64.wrap (x8 - 1)) : Int) < (List.length x0 : Int) then
            (bcond ((((at_ (e := YSpan) x0 x8).1 : Int) == (at_ (e := YSpan) x0 (IntKind.i64.wrap (x8 - 1))).1) == false)
             (if 0 ≤ (x8 : Int) ∧ (x8 : Int) < (List.length x0 : Int) then
              (bcond ((((at_ (e := YSpan) x0 x8).1 : Int) == 1) == true)
               (if 0 ≤ ((IntKind.i64.wrap (x8 - 1)) : Int) ∧ ((IntKind.i64.wrap (x8 - 1)) : Int) < (List.length x0 : Int) then
                (bcond (((at_ (e := YSpan) x0 (IntKind.i64.wrap (x8 - 1))).1 : Int) == 2)
                 (some (ret29 5))
                 (if 0 ≤ (x8 : Int) ∧ (x8 : Int) < (List.length x0 : Int) then
                  (bcond ((((at_ (e := YSpan) x0 x8).1 : Int) != 1) == true)
                   (bcond (decide ((x3 : Int) < 2147483648))
                    (if 0 ≤ (x8 : Int) ∧ (x8 : Int) < (List.length x0 : Int) then
                     (if 0 ≤ (x8 : Int) ∧ (x8 : Int) < (List.length x0 : Int) then
                      (bcond ((((at_ (e := YSpan) x0 x8).1 : Int) != 2) == true)
                       (bcond (decide ((x4 : Int) < 2147483648))
                        (if 0 ≤ (x8 : Int) ∧ (x8 : Int) < (List.length x0 : Int) then
                         (L29_0 F32 n m1 x0 (IntKind.i64.wrap (x3 + (at_ (e := YSpan) x0 x8).2)) (IntKind.i64.wrap (x4 + (at_ (e := YSpan) x0 x8).2)) x7 (IntKind.i64.wrap (x8 + 1)))
                        else none)
                        (L29_0 F32 n m1 x0 (IntKind.i64.wrap (x3 + (at_ (e := YSpan) x0 x8).2)) x4 x7 (IntKind.i64.wrap (x8 + 1))))
                       (L29_0 F32 n m1 x0 (IntKind.i64.wrap (x3 + (at_ (e := YSpan) x0 x8).2)) x4 x7 (IntKind.i64.wrap (x8 + 1))))
                     else none)
                    else none)
                    (if 0 ≤ (x8 : Int) ∧ (x8 : Int) < (List.length x0 : Int) then
                     (bcond ((((at_ (e := YSpan) x0 x8).1 : Int) != 2) == true)
                      (bcond (decide ((x4 : Int) < 2147483648))
                       (if 0 ≤ (x8 : Int) ∧ (x8 : Int) < (List.length x0 : Int) then
                        (L29_0 F32 n m1 x0 x3 (IntKind.i64.wrap (x4 + (at_ (e := YSpan) x0 x8).2)) x7 (IntKind.i64.wrap (x8 + 1)))
                       else none)
                       (L29_0 F32 n m1 x0 x3 x4 x7 (IntKind.i64.wrap (x8 + 1))))
                      (L29_0 F32 n m1 x0 x3 x4 x7 (IntKind.i64.wrap (x8 + 1))))
                    else none))
                   (if 0 ≤ (x8 : Int) ∧ (x8 : Int) < (List.length x0 : Int) then
                    (bcond ((((at_ (e := YSpan) x0 x8).1 : Int) != 2) == true)
                     (bcond (decide ((x4 : Int) < 2147483648))
                      (if 0 ≤ (x8 : Int) ∧ (x8 : Int) < (List.length x0 : Int) then
                       (L29_0 F32 n m1 x0 x3 (IntKind.i64.wrap (x4 + (at_ (e := YSpan) x0 x8).2)) x7 (IntKind.i64.wrap (x8 + 1)))
                      else none)
                      (L29_0 F32 n m1 x0 x3 x4 x7 (IntKind.i64.wrap (x8 + 1))))
                     (L29_0 F32 n m1 x0 x3 x4 x7 (IntKind.i64.wrap (x8 + 1))))
                   else none))
                 else none))
               else none)
               (if 0 ≤ (x8 : Int) ∧ (x8 : Int) < (List.length x0 : Int) then
                (bcond ((((at_ (e := YSpan) x0 x8).1 : Int) != 1) == true)
                 (bcond (decide ((x3 : Int) < 2147483648))
                  (if 0 ≤ (x8 : Int) ∧ (x8 : Int) < (List.length x0 : Int) then
                   (if 0 ≤ (x8 : Int) ∧ (x8 : Int) < (List.length x0 : Int) then
                    (bcond ((((at_ (e := YSpan) x0 x8).1 : Int) != 2) == true)
                     (bcond (decide ((x4 : Int) < 2147483648))
                      (if 0 ≤ (x8 : Int) ∧ (x8 : Int) < (List.length x0 : Int) then
                       (L29_0 F32 n m1 x0 (IntKind.i64.wrap (x3 + (at_ (e := YSpan) x0 x8).2)) (IntKind.i64.wrap (x4 + (at_ (e := YSpan) x0 x8).2)) x7 (IntKind.i64.wrap (x8 + 1)))
                      else none)
                      (L29_0 F32 n m1 x0 (IntKind.i64.wrap (x3 + (at_ (e := YSpan) x0 x8).2)) x4 x7 (IntKind.i64.wrap (x8 + 1))))
                     (L29_0 F32 n m1 x0 (IntKind.i64.wrap (x3 + (at_ (e := YSpan) x0 x8).2)) x4 x7 (IntKind.i64.wrap (x8 + 1))))
                   else none)
                  else none)
                  (if 0 ≤ (x8 : Int) ∧ (x8 : Int) < (List.length x0 : Int) then
                   (bcond ((((at_ (e := YSpan) x0 x8).1 : Int) != 2) == true)
                    (bcond (decide ((x4 : Int) < 2147483648))
                     (if 0 ≤ (x8 : Int) ∧ (x8 : Int) < (List.length x0 : Int) then
                      (L29_0 F32 n m1 x0 x3 (IntKind.i64.wrap (x4 + (at_ (e := YSpan) x0 x8).2)) x7 (IntKind.i64.wrap (x8 + 1)))
                     else none)
                     (L29_0 F32 n m1 x0 x3 x4 x7 (IntKind.i64.wrap (x8 + 1))))
                    (L29_0 F32 n m1 x0 x3 x4 x7 (IntKind.i64.wrap (x8 + 1))))
                  else none))
                 (if 0 ≤ (x8 : Int) ∧ (x8 : Int) < (List.length x0 : Int) then
                  (bcond ((((at_ (e := YSpan) x0 x8).1 : Int) != 2) == true)
                   (bcond (decide ((x4 : Int) < 2147483648))
                    (if 0 ≤ (x8 : Int) ∧ (x8 : Int) < (List.length x0 : Int) then
                     (L29_0 F32 n m1 x0 x3 (IntKind.i64.wrap (x4 + (at_ (e := YSpan) x0 x8).2)) x7 (IntKind.i64.wrap (x8 + 1)))
                    else none)
                    (L29_0 F32 n m1 x0 x3 x4 x7 (IntKind.i64.wrap (x8 + 1))))
                   (L29_0 F32 n m1 x0 x3 x4 x7 (IntKind.i64.wrap (x8 + 1))))
                 else none))
               else none))
             else none)
             (some (ret29 5)))
           else none)
          else none)
          (if 0 ≤ (x8 : Int) ∧ (x8 : Int) < (List.length x0 : Int) then
           (bcond ((((at_ (e := YSpan) x0 x8).1 : Int) != 1) == true)
            (bcond (decide ((x3 : Int) < 2147483648))
             (if 0 ≤ (x8 : Int) ∧ (x8 : Int) < (List.length x0 : Int) then
              (if 0 ≤ (x8 : Int) ∧ (x8 : Int) < (List.length x0 : Int) then
               (bcond ((((at_ (e := YSpan) x0 x8).1 : Int) != 2) == true)
                (bcond (decide ((x4 : Int) < 2147483648))
                 (if 0 ≤ (x8 : Int) ∧ (x8 : Int) < (List.length x0 : Int) then
                  (L29_0 F32 n m1 x0 (IntKind.i64.wrap (x3 + (at_ (e := YSpan) x0 x8).2)) (IntKind.i64.wrap (x4 + (at_ (e := YSpan) x0 x8).2)) x7 (IntKind.i64.wrap (x8 + 1)))
                 else none)
                 (L29_0 F32 n m1 x0 (IntKind.i64.wrap (x3 + (at_ (e := YSpan) x0 x8).2)) x4 x7 (IntKind.i64.wrap (x8 + 1))))
                (L29_0 F32 n m1 x0 (IntKind.i64.wrap (x3 + (at_ (e := YSpan) x0 x8).2)) x4 x7 (IntKind.i64.wrap (x8 + 1))))
              else none)
             else none)
             (if 0 ≤ (x8 : Int) ∧ (x8 : Int) < (List.length x0 : Int) then
              (bcond ((((at_ (e := YSpan) x0 x8).1 : Int) != 2) == true)
               (bcond (decide ((x4 : Int) < 2147483648))
                (if 0 ≤ (x8 : Int) ∧ (x8 : Int) < (List.length x0 : Int) then
                 (L29_0 F32 n m1 x0 x3 (IntKind.i64.wrap (x4 + (at_ (e := YSpan) x0 x8).2)) x7 (IntKind.i64.wrap (x8 + 1)))
                else none)
                (L29_0 F32 n m1 x0 x3 x4 x7 (IntKind.i64.wrap (x8 + 1))))
               (L29_0 F32 n m1 x0 x3 x4 x7 (IntKind.i64.wrap (x8 + 1))))
             else none))
            (if 0 ≤ (x8 : Int) ∧ (x8 : Int) < (List.length x0 : Int) then
             (bcond ((((at_ (e := YSpan) x0 x8).1 : Int) != 2) == true)
              (bcond (decide ((x4 : Int) < 2147483648))
               (if 0 ≤ (x8 : Int) ∧ (x8 : Int) < (List.length x0 : Int) then
                (L29_0 F32 n m1 x0 x3 (IntKind.i64.wrap (x4 + (at_ (e := YSpan) x0 x8).2)) x7 (IntKind.i64.wrap (x8 + 1)))
               else none)
               (L29_0 F32 n m1 x0 x3 x4 x7 (IntKind.i64.wrap (x8 + 1))))
              (L29_0 F32 n m1 x0 x3 x4 x7 (IntKind.i64.wrap (x8 + 1))))
            else none))
          else none))))
      else none)))
   else none)
   (bcond ((decide ((x3 : Int) > 2147483647)) == false)
    (bcond (decide ((x4 : Int) > 2147483647))
     (some (ret29 3))
     (some (ret29 0)))
    (some (ret29 3)))) := by kernel_rfl
theorem run29 (F32 : sig32.Fn) (n : Nat) (a0 : List YSpan.den) : C29 (fun x y => run T (env29 F32) os29 sig29 Try.f29 hs29 n x y) a0 =
  (L29_0 F32 n n a0 0 0 (List.length a0 : Int) 0) := by kernel_rfl
theorem ok29 : fnOk os29 sig29 Try.f29 = true := by kernel_rfl
theorem fn29 : P.funcs[29]? = some Try.f29 := by kernel_rfl
noncomputable def F29 : sig29.Fn := fun x y => run T (env29 F32) os29 sig29 Try.f29 hs29 big x y
theorem S29 : Sound P 29 ⟨sig29, F29⟩ := sound_of (os := os29) (hs := hs29) (env_cons S32 (env_nil)) fn29 ok29 (fun x y out h => ⟨big, h⟩)
theorem e29 (a0 : List YSpan.den) : C29 F29 a0 =
  (L29_0 F32 big big a0 0 0 (List.length a0 : Int) 0) := run29 F32 big a0

/-! ### chancery/chancerylaw1.few -/
def sig30 : Sig := ⟨[.v false (.list YSpan)], [], [(false, [.fr .bool])]⟩
def C30 (F : sig30.Fn) (a0 : List YSpan.den) : Option sig30.Out := F (a0, ()) ()
def ret30 (v0 : Bool) : sig30.Out := (((v0, ()), ()), ())
def res30_0 (r : sig30.Out) : Bool := r.1.1.1
@[simp] theorem res30_0_ret (v0 : Bool) : res30_0 (ret30 v0) = v0 := rfl
def os30 : List (Nat × Ord) := []
def hs30 : List Keep := []
@[reducible] def env30 (F84 : sig84.Fn) : Env := [(84, ⟨sig84, F84⟩)]
theorem run30 (F84 : sig84.Fn) (n : Nat) (a0 : List YSpan.den) : C30 (fun x y => run T (env30 F84) os30 sig30 Try.f30 hs30 n x y) a0 =
  ((C84 F84 a0).bind fun r1 =>
   (some (ret30 (decide (((res84_0 r1) : Int) ≤ 300))))) := by kernel_rfl
theorem ok30 : fnOk os30 sig30 Try.f30 = true := by kernel_rfl
theorem fn30 : P.funcs[30]? = some Try.f30 := by kernel_rfl
noncomputable def F30 : sig30.Fn := fun x y => run T (env30 F84) os30 sig30 Try.f30 hs30 big x y
theorem S30 : Sound P 30 ⟨sig30, F30⟩ := sound_of (os := os30) (hs := hs30) (env_cons S84 (env_nil)) fn30 ok30 (fun x y out h => ⟨big, h⟩)
theorem e30 (a0 : List YSpan.den) : C30 F30 a0 =
  ((C84 F84 a0).bind fun r1 =>
   (some (ret30 (decide (((res84_0 r1) : Int) ≤ 300))))) := run30 F84 big a0

/-! ### chancery/axis.Apply -/
def sig28 : Sig := ⟨[.v false (.list YSpan), .v false (.list (.int .i64))], [], [(false, [.fr (.list (.int .i64))]), (false, [.fr (.int .i64)])]⟩
def C28 (F : sig28.Fn) (a0 : List YSpan.den) (a1 : List (Int)) : Option sig28.Out := F (a0, a1, ()) ()
def ret28 (v0 : List (Int)) (v1 : Int) : sig28.Out := (((v0, ()), (v1, ()), ()), ())
def res28_0 (r : sig28.Out) : List (Int) := r.1.1.1
@[simp] theorem res28_0_ret (v0 : List (Int)) (v1 : Int) : res28_0 (ret28 v0 v1) = v0 := rfl
def res28_1 (r : sig28.Out) : Int := r.1.2.1.1
@[simp] theorem res28_1_ret (v0 : List (Int)) (v1 : Int) : res28_1 (ret28 v0 v1) = v1 := rfl
def os28 : List (Nat × Ord) := []
def hs28 : List Keep := [[(0, []), (7, []), (9, [(0, 3, (.int .i64))]), (22, []), (23, []), (24, [])]]
@[reducible] def env28 (F61 : sig61.Fn) (F82 : sig82.Fn) (F83 : sig83.Fn) : Env := [(61, ⟨sig61, F61⟩), (82, ⟨sig82, F82⟩), (83, ⟨sig83, F83⟩)]
noncomputable def L28_0 (F61 : sig61.Fn) (F82 : sig82.Fn) (F83 : sig83.Fn) (n m1 : Nat) (x0 : List YSpan.den) (x7 : Int) (x9 : List (Int)) (x22 : List (Int)) (x23 : Int) (x24 : Int) : Option sig28.Out :=
  loopAt T (env28 F61 F82 F83) os28 sig28 Try.f28 hs28 n [.sr, .sr, .sr, .sr, .sl, .sr, .bl] m1 (mk 43 [(0, .cs false [.val (.list YSpan) x0]), (7, .cs false [.val (.int .i64) x7]), (9, .cs false [.own 3 (.int .i64) x9]), (22, .cs false [.val (.list (.int .i64)) x22]), (23, .cs false [.val (.int .i64) x23]), (24, .cs false [.val (.int .i64) x24])])
theorem L28_0_step (F61 : sig61.Fn) (F82 : sig82.Fn) (F83 : sig83.Fn) (n m1 : Nat) (x0 : List YSpan.den) (x7 : Int) (x9 : List (Int)) (x22 : List (Int)) (x23 : Int) (x24 : Int) : L28_0 F61 F82 F83 n (m1 + 1) x0 x7 x9 x22 x23 x24 =
  (bcond (decide ((x24 : Int) < x23))
   (if 0 ≤ (x24 : Int) ∧ (x24 : Int) < (List.length x22 : Int) then
    (bcond ((decide (((at_ (e := (.int .i64)) x22 x24) : Int) < 0)) == false)
     (bcond (decide (((at_ (e := (.int .i64)) x22 x24) : Int) ≥ x7))
      (some (ret28 [] 2))
      ((C83 F83 x0 (at_ (e := (.int .i64)) x22 x24)).bind fun r1 =>
       (if (List.length (x9 : List Int) + List.length ([(res83_0 r1)] : List Int)) * 8 ≤ 140737488355328 then
        (L28_0 F61 F82 F83 n m1 x0 x7 (x9 ++ [(res83_0 r1)]) x22 x23 (IntKind.i64.wrap (x24 + 1)))
       else none)))
     (some (ret28 [] 2)))
   else none)
   (some (ret28 x9 0))) := by kernel_rfl
theorem run28 (F61 : sig61.Fn) (F82 : sig82.Fn) (F83 : sig83.Fn) (n : Nat) (a0 : List YSpan.den) (a1 : List (Int)) : C28 (fun x y => run T (env28 F61 F82 F83) os28 sig28 Try.f28 hs28 n x y) a0 a1 =
  ((C61 F61 a0).bind fun r1 =>
   (bcond (((res61_0 r1) : Int) != 0)
    (some (ret28 [] (res61_0 r1)))
    ((C82 F82 a0).bind fun r2 =>
     (L28_0 F61 F82 F83 n n a0 (res82_0 r2) [] a1 (List.length a1 : Int) 0)))) := by kernel_rfl
theorem ok28 : fnOk os28 sig28 Try.f28 = true := by kernel_rfl
theorem fn28 : P.funcs[28]? = some Try.f28 := by kernel_rfl
noncomputable def F28 : sig28.Fn := fun x y => run T (env28 F61 F82 F83) os28 sig28 Try.f28 hs28 big x y
theorem S28 : Sound P 28 ⟨sig28, F28⟩ := sound_of (os := os28) (hs := hs28) (env_cons S61 (env_cons S82 (env_cons S83 (env_nil)))) fn28 ok28 (fun x y out h => ⟨big, h⟩)
theorem e28 (a0 : List YSpan.den) (a1 : List (Int)) : C28 F28 a0 a1 =
  ((C61 F61 a0).bind fun r1 =>
   (bcond (((res61_0 r1) : Int) != 0)
    (some (ret28 [] (res61_0 r1)))
    ((C82 F82 a0).bind fun r2 =>
     (L28_0 F61 F82 F83 big big a0 (res82_0 r2) [] a1 (List.length a1 : Int) 0)))) := run28 F61 F82 F83 big a0 a1

/-! ### chancery/chancerylaw1.axes -/
def sig27 : Sig := ⟨[], [], [(false, [.fr .bool])]⟩
def C27 (F : sig27.Fn) : Option sig27.Out := F () ()
def ret27 (v0 : Bool) : sig27.Out := (((v0, ()), ()), ())
def res27_0 (r : sig27.Out) : Bool := r.1.1.1
@[simp] theorem res27_0_ret (v0 : Bool) : res27_0 (ret27 v0) = v0 := rfl
def os27 : List (Nat × Ord) := []
def hs27 : List Keep := []
@[reducible] def env27 (F28 : sig28.Fn) (F34 : sig34.Fn) : Env := [(28, ⟨sig28, F28⟩), (34, ⟨sig34, F34⟩)]
theorem run27 (F28 : sig28.Fn) (F34 : sig34.Fn) (n : Nat) : C27 (fun x y => run T (env27 F28 F34) os27 sig27 Try.f27 hs27 n x y) =
  ((C28 F28 [(0, 2), (1, 3), (0, 1)] [1, 2]).bind fun r1 =>
   (bcond ((((res28_1 r1) : Int) == 0) == true)
    ((C34 F34 (res28_0 r1) [1, 5]).bind fun r2 =>
     (some (ret27 (res34_0 r2))))
    (some (ret27 false)))) := by kernel_rfl
theorem ok27 : fnOk os27 sig27 Try.f27 = true := by kernel_rfl
theorem fn27 : P.funcs[27]? = some Try.f27 := by kernel_rfl
noncomputable def F27 : sig27.Fn := fun x y => run T (env27 F28 F34) os27 sig27 Try.f27 hs27 big x y
theorem S27 : Sound P 27 ⟨sig27, F27⟩ := sound_of (os := os27) (hs := hs27) (env_cons S28 (env_cons S34 (env_nil))) fn27 ok27 (fun x y out h => ⟨big, h⟩)
theorem e27 : C27 F27 =
  ((C28 F28 [(0, 2), (1, 3), (0, 1)] [1, 2]).bind fun r1 =>
   (bcond ((((res28_1 r1) : Int) == 0) == true)
    ((C34 F34 (res28_0 r1) [1, 5]).bind fun r2 =>
     (some (ret27 (res34_0 r2))))
    (some (ret27 false)))) := run27 F28 F34 big

/-! ### chancery/chancerylaw1.AxisApplyMatches -/
def sig5 : Sig := ⟨[.v false (.list YSpan), .v false (.list (.int .i64))], [], [(false, [.fr .bool])]⟩
def C5 (F : sig5.Fn) (a0 : List YSpan.den) (a1 : List (Int)) : Option sig5.Out := F (a0, a1, ()) ()
def ret5 (v0 : Bool) : sig5.Out := (((v0, ()), ()), ())
def res5_0 (r : sig5.Out) : Bool := r.1.1.1
@[simp] theorem res5_0_ret (v0 : Bool) : res5_0 (ret5 v0) = v0 := rfl
def os5 : List (Nat × Ord) := []
def hs5 : List Keep := [[(1, []), (5, []), (6, []), (8, []), (9, []), (50, []), (51, [])], [(1, []), (5, []), (6, []), (8, []), (9, []), (11, [(0, 3, (.int .i64))]), (63, []), (64, [])]]
@[reducible] def env5 (F27 : sig27.Fn) (F28 : sig28.Fn) (F29 : sig29.Fn) (F30 : sig30.Fn) (F31 : sig31.Fn) (F32 : sig32.Fn) (F33 : sig33.Fn) (F34 : sig34.Fn) : Env := [(27, ⟨sig27, F27⟩), (28, ⟨sig28, F28⟩), (29, ⟨sig29, F29⟩), (30, ⟨sig30, F30⟩), (31, ⟨sig31, F31⟩), (32, ⟨sig32, F32⟩), (33, ⟨sig33, F33⟩), (34, ⟨sig34, F34⟩)]
noncomputable def L5_0 (F27 : sig27.Fn) (F28 : sig28.Fn) (F29 : sig29.Fn) (F30 : sig30.Fn) (F31 : sig31.Fn) (F32 : sig32.Fn) (F33 : sig33.Fn) (F34 : sig34.Fn) (n m1 : Nat) (x1 : List (Int)) (x5 : List (Int)) (x6 : Int) (x8 : List (Int)) (x9 : Int) (x50 : Int) (x51 : Int) : Option sig5.Out :=
  loopAt T (env5 F27 F28 F29 F30 F31 F32 F33 F34) os5 sig5 Try.f5 hs5 n [.sr, .sr, .sr, .sr, .sr, .sr, .sr, .sl, .sr, .bl] m1 (mk 99 [(1, .cs false [.val (.list (.int .i64)) x1]), (5, .cs false [.val (.list (.int .i64)) x5]), (6, .cs false [.val (.int .i64) x6]), (8, .cs false [.val (.list (.int .i64)) x8]), (9, .cs false [.val (.int .i64) x9]), (50, .cs false [.val (.int .i64) x50]), (51, .cs false [.val (.int .i64) x51])])
noncomputable def L5_1 (F27 : sig27.Fn) (F28 : sig28.Fn) (F29 : sig29.Fn) (F30 : sig30.Fn) (F31 : sig31.Fn) (F32 : sig32.Fn) (F33 : sig33.Fn) (F34 : sig34.Fn) (n m1 : Nat) (x1 : List (Int)) (x5 : List (Int)) (x6 : Int) (x8 : List (Int)) (x9 : Int) (x11 : List (Int)) (x63 : Int) (x64 : Int) : Option sig5.Out :=
  loopAt T (env5 F27 F28 F29 F30 F31 F32 F33 F34) os5 sig5 Try.f5 hs5 n [.sr, .sr, .sr, .sr, .sr, .sr, .sr, .sr, .sr, .sl, .sr, .bl] m1 (mk 99 [(1, .cs false [.val (.list (.int .i64)) x1]), (5, .cs false [.val (.list (.int .i64)) x5]), (6, .cs false [.val (.int .i64) x6]), (8, .cs false [.val (.list (.int .i64)) x8]), (9, .cs false [.val (.int .i64) x9]), (11, .cs false [.own 3 (.int .i64) x11]), (63, .cs false [.val (.int .i64) x63]), (64, .cs false [.val (.int .i64) x64])])
theorem L5_0_step (F27 : sig27.Fn) (F28 : sig28.Fn) (F29 : sig29.Fn) (F30 : sig30.Fn) (F31 : sig31.Fn) (F32 : sig32.Fn) (F33 : sig33.Fn) (F34 : sig34.Fn) (n m1 : Nat) (x1 : List (Int)) (x5 : List (Int)) (x6 : Int) (x8 : List (Int)) (x9 : Int) (x50 : Int) (x51 : Int) : L5_0 F27 F28 F29 F30 F31 F32 F33 F34 n (m1 + 1) x1 x5 x6 x8 x9 x50 x51 =
  (bcond (decide ((x51 : Int) < x50))
   (if 0 ≤ (x51 : Int) ∧ (x51 : Int) < (List.length x8 : Int) then
    (bcond (((at_ (e := (.int .i64)) x8 x51) : Int) != 1)
     (L5_0 F27 F28 F29 F30 F31 F32 F33 F34 n m1 x1 x5 x6 x8 (IntKind.i64.wrap (x9 + 1)) x50 (IntKind.i64.wrap (x51 + 1)))
     (L5_0 F27 F28 F29 F30 F31 F32 F33 F34 n m1 x1 x5 x6 x8 x9 x50 (IntKind.i64.wrap (x51 + 1))))
   else none)
   (L5_1 F27 F28 F29 F30 F31 F32 F33 F34 n n x1 x5 x6 x8 x9 [] (List.length x1 : Int) 0)) := by kernel_rfl
theorem L5_1_step (F27 : sig27.Fn) (F28 : sig28.Fn) (F29 : sig29.Fn) (F30 : sig30.Fn) (F31 : sig31.Fn) (F32 : sig32.Fn) (F33 : sig33.Fn) (F34 : sig34.Fn) (n m1 : Nat) (x1 : List (Int)) (x5 : List (Int)) (x6 : Int) (x8 : List (Int)) (x9 : Int) (x11 : List (Int)) (x63 : Int) (x64 : Int) : L5_1 F27 F28 F29 F30 F31 F32 F33 F34 n (m1 + 1) x1 x5 x6 x8 x9 x11 x63 x64 =
  (bcond (decide ((x64 : Int) < x63))
   (if 0 ≤ (x64 : Int) ∧ (x64 : Int) < (List.length x1 : Int) then
    ((C32 F32 (at_ (e := (.int .i64)) x1 x64) 0 (IntKind.i64.wrap (x9 - 1))).bind fun r1 =>
     (bcond (!(res32_0 r1))
      (bcond (((x6 : Int) == 2) == true)
       (some (ret5 (((List.length x5 : Int) : Int) == 0)))
       (some (ret5 false)))
      (if 0 ≤ (x64 : Int) ∧ (x64 : Int) < (List.length x1 : Int) then
       ((C33 F33 x8 (at_ (e := (.int .i64)) x1 x64)).bind fun r2 =>
        (if (List.length (x11 : List Int) + List.length ([(res33_0 r2)] : List Int)) * 8 ≤ 140737488355328 then
         (L5_1 F27 F28 F29 F30 F31 F32 F33 F34 n m1 x1 x5 x6 x8 x9 (x11 ++ [(res33_0 r2)]) x63 (IntKind.i64.wrap (x64 + 1)))
        else none))
      else none)))
   else none)
   (bcond (((x6 : Int) == 0) == true)
    ((C34 F34 x5 x11).bind fun r1 =>
     (some (ret5 (res34_0 r1))))
    (some (ret5 false)))) := by kernel_rfl
theorem run5 (F27 : sig27.Fn) (F28 : sig28.Fn) (F29 : sig29.Fn) (F30 : sig30.Fn) (F31 : sig31.Fn) (F32 : sig32.Fn) (F33 : sig33.Fn) (F34 : sig34.Fn) (n : Nat) (a0 : List YSpan.den) (a1 : List (Int)) : C5 (fun x y => run T (env5 F27 F28 F29 F30 F31 F32 F33 F34) os5 sig5 Try.f5 hs5 n x y) a0 a1 =
  ((C27 F27 ).bind fun r1 =>
   (bcond (!(res27_0 r1))
    (some (ret5 false))
    ((C28 F28 a0 a1).bind fun r2 =>
     ((C29 F29 a0).bind fun r3 =>
      (bcond (((res29_0 r3) : Int) != 0)
       (bcond ((((res28_1 r2) : Int) == (res29_0 r3)) == true)
        (some (ret5 (((List.length (res28_0 r2) : Int) : Int) == 0)))
        (some (ret5 false)))
       ((C30 F30 a0).bind fun r4 =>
        (bcond (!(res30_0 r4))
         (bcond ((((res28_1 r2) : Int) == 0) == false)
          (bcond ((((res28_1 r2) : Int) == 2) == true)
           (some (ret5 (((List.length (res28_0 r2) : Int) : Int) == 0)))
           (some (ret5 false)))
          (some (ret5 true)))
         ((C31 F31 a0).bind fun r5 =>
          (L5_0 F27 F28 F29 F30 F31 F32 F33 F34 n n a1 (res28_0 r2) (res28_1 r2) (res31_0 r5) 0 (List.length (res31_0 r5) : Int) 0))))))))) := by kernel_rfl
theorem ok5 : fnOk os5 sig5 Try.f5 = true := by kernel_rfl
theorem fn5 : P.funcs[5]? = some Try.f5 := by kernel_rfl
noncomputable def F5 : sig5.Fn := fun x y => run T (env5 F27 F28 F29 F30 F31 F32 F33 F34) os5 sig5 Try.f5 hs5 big x y
theorem S5 : Sound P 5 ⟨sig5, F5⟩ := sound_of (os := os5) (hs := hs5) (env_cons S27 (env_cons S28 (env_cons S29 (env_cons S30 (env_cons S31 (env_cons S32 (env_cons S33 (env_cons S34 (env_nil))))))))) fn5 ok5 (fun x y out h => ⟨big, h⟩)
theorem e5 (a0 : List YSpan.den) (a1 : List (Int)) : C5 F5 a0 a1 =
  ((C27 F27 ).bind fun r1 =>
   (bcond (!(res27_0 r1))
    (some (ret5 false))
    ((C28 F28 a0 a1).bind fun r2 =>
     ((C29 F29 a0).bind fun r3 =>
      (bcond (((res29_0 r3) : Int) != 0)
       (bcond ((((res28_1 r2) : Int) == (res29_0 r3)) == true)
        (some (ret5 (((List.length (res28_0 r2) : Int) : Int) == 0)))
        (some (ret5 false)))
       ((C30 F30 a0).bind fun r4 =>
        (bcond (!(res30_0 r4))
         (bcond ((((res28_1 r2) : Int) == 0) == false)
          (bcond ((((res28_1 r2) : Int) == 2) == true)
           (some (ret5 (((List.length (res28_0 r2) : Int) : Int) == 0)))
           (some (ret5 false)))
          (some (ret5 true)))
         ((C31 F31 a0).bind fun r5 =>
          (L5_0 F27 F28 F29 F30 F31 F32 F33 F34 big big a1 (res28_0 r2) (res28_1 r2) (res31_0 r5) 0 (List.length (res31_0 r5) : Int) 0))))))))) := run5 F27 F28 F29 F30 F31 F32 F33 F34 big a0 a1
end Go.Ev
