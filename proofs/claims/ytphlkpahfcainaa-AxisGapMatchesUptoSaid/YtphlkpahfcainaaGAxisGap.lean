/- Functions, step by step. -/
import Derived.Test.YtphlkpahfcainaaGAxis
namespace Go.Ev
set_option linter.unusedVariables false
set_option maxRecDepth 100000
open Go.Proofs

/-! ### chancery/axis.Hull -/
def sig100 : Sig := ⟨[.v false (.list YSpan), .v false (.int .i64), .v false (.int .i64)], [], [(false, [.fr (.int .i64)]), (false, [.fr (.int .i64)])]⟩
def C100 (F : sig100.Fn) (a0 : List YSpan.den) (a1 : Int) (a2 : Int) : Option sig100.Out := F (a0, a1, a2, ()) ()
def ret100 (v0 : Int) (v1 : Int) : sig100.Out := (((v0, ()), (v1, ()), ()), ())
def res100_0 (r : sig100.Out) : Int := r.1.1.1
@[simp] theorem res100_0_ret (v0 : Int) (v1 : Int) : res100_0 (ret100 v0 v1) = v0 := rfl
def res100_1 (r : sig100.Out) : Int := r.1.2.1.1
@[simp] theorem res100_1_ret (v0 : Int) (v1 : Int) : res100_1 (ret100 v0 v1) = v1 := rfl
def os100 : List (Nat × List Nat) := [(5, [0, 1, 2, 3, 4, 5, 9, 6, 7, 8, 10])]
def hs100 : List Keep := [[(1, []), (2, []), (8, []), (9, []), (10, []), (11, []), (16, []), (17, []), (18, [])]]
@[reducible] def env100 : Env := []
noncomputable def L100_0 (n m1 : Nat) (x1 : Int) (x2 : Int) (x8 : Int) (x9 : Int) (x10 : Int) (x11 : Int) (x16 : List YSpan.den) (x17 : Int) (x18 : Int) : Option sig100.Out :=
  loopAt T (env100) os100 sig100 Try.f100 hs100 n [.sr, .sr, .sl, .sr, .bl] m1 (mk 68 [(1, .cs false [.val (.int .i64) x1]), (2, .cs false [.val (.int .i64) x2]), (8, .cs false [.val (.int .i64) x8]), (9, .cs false [.val (.int .i64) x9]), (10, .cs false [.val (.int .i64) x10]), (11, .cs false [.val (.int .i64) x11]), (16, .cs false [.val (.list YSpan) x16]), (17, .cs false [.val (.int .i64) x17]), (18, .cs false [.val (.int .i64) x18])])
theorem L100_0_step (n m1 : Nat) (x1 : Int) (x2 : Int) (x8 : Int) (x9 : Int) (x10 : Int) (x11 : Int) (x16 : List YSpan.den) (x17 : Int) (x18 : Int) : L100_0 n (m1 + 1) x1 x2 x8 x9 x10 x11 x16 x17 x18 =
  (bcond (decide ((x18 : Int) < x17))
   (if 0 ≤ (x18 : Int) ∧ (x18 : Int) < (List.length x16 : Int) then
    (bcond ((((at_ (e := YSpan) x16 x18).1 : Int) == 0) == true)
     (bcond (decide (((if (x10 : Int) > x1 then x10 else x1) : Int) < (if ((IntKind.i64.wrap (x10 + (at_ (e := YSpan) x16 x18).2)) : Int) < x2 then (IntKind.i64.wrap (x10 + (at_ (e := YSpan) x16 x18).2)) else x2)))
      (bcond ((x9 : Int) == 0)
       (bcond (((at_ (e := YSpan) x16 x18).1 : Int) != 2)
        (bcond (((at_ (e := YSpan) x16 x18).1 : Int) != 1)
         (L100_0 n m1 x1 x2 (IntKind.i64.wrap ((IntKind.i64.wrap (x11 + (if (x10 : Int) > x1 then x10 else x1))) - x10)) (IntKind.i64.wrap ((IntKind.i64.wrap (x11 + (if ((IntKind.i64.wrap (x10 + (at_ (e := YSpan) x16 x18).2)) : Int) < x2 then (IntKind.i64.wrap (x10 + (at_ (e := YSpan) x16 x18).2)) else x2))) - x10)) (IntKind.i64.wrap (x10 + (at_ (e := YSpan) x16 x18).2)) (IntKind.i64.wrap (x11 + (at_ (e := YSpan) x16 x18).2)) x16 x17 (IntKind.i64.wrap (x18 + 1)))
         (L100_0 n m1 x1 x2 (IntKind.i64.wrap ((IntKind.i64.wrap (x11 + (if (x10 : Int) > x1 then x10 else x1))) - x10)) (IntKind.i64.wrap ((IntKind.i64.wrap (x11 + (if ((IntKind.i64.wrap (x10 + (at_ (e := YSpan) x16 x18).2)) : Int) < x2 then (IntKind.i64.wrap (x10 + (at_ (e := YSpan) x16 x18).2)) else x2))) - x10)) x10 (IntKind.i64.wrap (x11 + (at_ (e := YSpan) x16 x18).2)) x16 x17 (IntKind.i64.wrap (x18 + 1))))
        (bcond (((at_ (e := YSpan) x16 x18).1 : Int) != 1)
         (L100_0 n m1 x1 x2 (IntKind.i64.wrap ((IntKind.i64.wrap (x11 + (if (x10 : Int) > x1 then x10 else x1))) - x10)) (IntKind.i64.wrap ((IntKind.i64.wrap (x11 + (if ((IntKind.i64.wrap (x10 + (at_ (e := YSpan) x16 x18).2)) : Int) < x2 then (IntKind.i64.wrap (x10 + (at_ (e := YSpan) x16 x18).2)) else x2))) - x10)) (IntKind.i64.wrap (x10 + (at_ (e := YSpan) x16 x18).2)) x11 x16 x17 (IntKind.i64.wrap (x18 + 1)))
         (L100_0 n m1 x1 x2 (IntKind.i64.wrap ((IntKind.i64.wrap (x11 + (if (x10 : Int) > x1 then x10 else x1))) - x10)) (IntKind.i64.wrap ((IntKind.i64.wrap (x11 + (if ((IntKind.i64.wrap (x10 + (at_ (e := YSpan) x16 x18).2)) : Int) < x2 then (IntKind.i64.wrap (x10 + (at_ (e := YSpan) x16 x18).2)) else x2))) - x10)) x10 x11 x16 x17 (IntKind.i64.wrap (x18 + 1)))))
       (bcond (((at_ (e := YSpan) x16 x18).1 : Int) != 2)
        (bcond (((at_ (e := YSpan) x16 x18).1 : Int) != 1)
         (L100_0 n m1 x1 x2 x8 (IntKind.i64.wrap ((IntKind.i64.wrap (x11 + (if ((IntKind.i64.wrap (x10 + (at_ (e := YSpan) x16 x18).2)) : Int) < x2 then (IntKind.i64.wrap (x10 + (at_ (e := YSpan) x16 x18).2)) else x2))) - x10)) (IntKind.i64.wrap (x10 + (at_ (e := YSpan) x16 x18).2)) (IntKind.i64.wrap (x11 + (at_ (e := YSpan) x16 x18).2)) x16 x17 (IntKind.i64.wrap (x18 + 1)))
         (L100_0 n m1 x1 x2 x8 (IntKind.i64.wrap ((IntKind.i64.wrap (x11 + (if ((IntKind.i64.wrap (x10 + (at_ (e := YSpan) x16 x18).2)) : Int) < x2 then (IntKind.i64.wrap (x10 + (at_ (e := YSpan) x16 x18).2)) else x2))) - x10)) x10 (IntKind.i64.wrap (x11 + (at_ (e := YSpan) x16 x18).2)) x16 x17 (IntKind.i64.wrap (x18 + 1))))
        (bcond (((at_ (e := YSpan) x16 x18).1 : Int) != 1)
         (L100_0 n m1 x1 x2 x8 (IntKind.i64.wrap ((IntKind.i64.wrap (x11 + (if ((IntKind.i64.wrap (x10 + (at_ (e := YSpan) x16 x18).2)) : Int) < x2 then (IntKind.i64.wrap (x10 + (at_ (e := YSpan) x16 x18).2)) else x2))) - x10)) (IntKind.i64.wrap (x10 + (at_ (e := YSpan) x16 x18).2)) x11 x16 x17 (IntKind.i64.wrap (x18 + 1)))
         (L100_0 n m1 x1 x2 x8 (IntKind.i64.wrap ((IntKind.i64.wrap (x11 + (if ((IntKind.i64.wrap (x10 + (at_ (e := YSpan) x16 x18).2)) : Int) < x2 then (IntKind.i64.wrap (x10 + (at_ (e := YSpan) x16 x18).2)) else x2))) - x10)) x10 x11 x16 x17 (IntKind.i64.wrap (x18 + 1))))))
      (bcond (((at_ (e := YSpan) x16 x18).1 : Int) != 2)
       (bcond (((at_ (e := YSpan) x16 x18).1 : Int) != 1)
        (L100_0 n m1 x1 x2 x8 x9 (IntKind.i64.wrap (x10 + (at_ (e := YSpan) x16 x18).2)) (IntKind.i64.wrap (x11 + (at_ (e := YSpan) x16 x18).2)) x16 x17 (IntKind.i64.wrap (x18 + 1)))
        (L100_0 n m1 x1 x2 x8 x9 x10 (IntKind.i64.wrap (x11 + (at_ (e := YSpan) x16 x18).2)) x16 x17 (IntKind.i64.wrap (x18 + 1))))
       (bcond (((at_ (e := YSpan) x16 x18).1 : Int) != 1)
        (L100_0 n m1 x1 x2 x8 x9 (IntKind.i64.wrap (x10 + (at_ (e := YSpan) x16 x18).2)) x11 x16 x17 (IntKind.i64.wrap (x18 + 1)))
        (L100_0 n m1 x1 x2 x8 x9 x10 x11 x16 x17 (IntKind.i64.wrap (x18 + 1))))))
     (bcond (((at_ (e := YSpan) x16 x18).1 : Int) != 2)
      (bcond (((at_ (e := YSpan) x16 x18).1 : Int) != 1)
       (L100_0 n m1 x1 x2 x8 x9 (IntKind.i64.wrap (x10 + (at_ (e := YSpan) x16 x18).2)) (IntKind.i64.wrap (x11 + (at_ (e := YSpan) x16 x18).2)) x16 x17 (IntKind.i64.wrap (x18 + 1)))
       (L100_0 n m1 x1 x2 x8 x9 x10 (IntKind.i64.wrap (x11 + (at_ (e := YSpan) x16 x18).2)) x16 x17 (IntKind.i64.wrap (x18 + 1))))
      (bcond (((at_ (e := YSpan) x16 x18).1 : Int) != 1)
       (L100_0 n m1 x1 x2 x8 x9 (IntKind.i64.wrap (x10 + (at_ (e := YSpan) x16 x18).2)) x11 x16 x17 (IntKind.i64.wrap (x18 + 1)))
       (L100_0 n m1 x1 x2 x8 x9 x10 x11 x16 x17 (IntKind.i64.wrap (x18 + 1))))))
   else none)
   (some (ret100 x8 x9))) := by kernel_rfl
theorem run100 (n : Nat) (a0 : List YSpan.den) (a1 : Int) (a2 : Int) : C100 (fun x y => run T (env100) os100 sig100 Try.f100 hs100 n x y) a0 a1 a2 =
  (L100_0 n n a1 a2 0 0 0 0 a0 (List.length a0 : Int) 0) := by kernel_rfl
theorem ok100 : fnOk os100 sig100 Try.f100 = true := by kernel_rfl
theorem fn100 : P.funcs[100]? = some Try.f100 := by kernel_rfl
noncomputable def F100 : sig100.Fn := fun x y => run T (env100) os100 sig100 Try.f100 hs100 big x y
theorem S100 : Sound P 100 ⟨sig100, F100⟩ := sound_of (os := os100) (hs := hs100) (env_nil) fn100 ok100 (fun x y out h => ⟨big, h⟩)
theorem e100 (a0 : List YSpan.den) (a1 : Int) (a2 : Int) : C100 F100 a0 a1 a2 =
  (L100_0 big big a1 a2 0 0 0 0 a0 (List.length a0 : Int) 0) := run100 big a0 a1 a2

/-! ### chancery/axis.Gap -/
def sig62 : Sig := ⟨[.v false (.list YSpan), .v false (.int .i64), .v false .bool], [], [(false, [.fr (.int .i64)]), (false, [.fr (.int .i64)])]⟩
def C62 (F : sig62.Fn) (a0 : List YSpan.den) (a1 : Int) (a2 : Bool) : Option sig62.Out := F (a0, a1, a2, ()) ()
def ret62 (v0 : Int) (v1 : Int) : sig62.Out := (((v0, ()), (v1, ()), ()), ())
def res62_0 (r : sig62.Out) : Int := r.1.1.1
@[simp] theorem res62_0_ret (v0 : Int) (v1 : Int) : res62_0 (ret62 v0 v1) = v0 := rfl
def res62_1 (r : sig62.Out) : Int := r.1.2.1.1
@[simp] theorem res62_1_ret (v0 : Int) (v1 : Int) : res62_1 (ret62 v0 v1) = v1 := rfl
def os62 : List (Nat × List Nat) := []
def hs62 : List Keep := [[(1, []), (2, []), (11, []), (12, []), (32, []), (33, []), (34, [])]]
@[reducible] def env62 (F61 : sig61.Fn) (F82 : sig82.Fn) : Env := [(61, ⟨sig61, F61⟩), (82, ⟨sig82, F82⟩)]
noncomputable def L62_0 (F61 : sig61.Fn) (F82 : sig82.Fn) (n m1 : Nat) (x1 : Int) (x2 : Bool) (x11 : Int) (x12 : Int) (x32 : List YSpan.den) (x33 : Int) (x34 : Int) : Option sig62.Out :=
  loopAt T (env62 F61 F82) os62 sig62 Try.f62 hs62 n [.sr, .sr, .sr, .sr, .sl, .sr, .bl] m1 (mk 84 [(1, .cs false [.val (.int .i64) x1]), (2, .cs false [.val .bool x2]), (11, .cs false [.val (.int .i64) x11]), (12, .cs false [.val (.int .i64) x12]), (32, .cs false [.val (.list YSpan) x32]), (33, .cs false [.val (.int .i64) x33]), (34, .cs false [.val (.int .i64) x34])])
theorem L62_0_step (F61 : sig61.Fn) (F82 : sig82.Fn) (n m1 : Nat) (x1 : Int) (x2 : Bool) (x11 : Int) (x12 : Int) (x32 : List YSpan.den) (x33 : Int) (x34 : Int) : L62_0 F61 F82 n (m1 + 1) x1 x2 x11 x12 x32 x33 x34 =
  (bcond (decide ((x34 : Int) < x33))
   (if 0 ≤ (x34 : Int) ∧ (x34 : Int) < (List.length x32 : Int) then
    (bcond ((((at_ (e := YSpan) x32 x34).1 : Int) == 1) == true)
     (bcond (decide ((x11 : Int) < x1))
      (bcond (((at_ (e := YSpan) x32 x34).1 : Int) != 1)
       (L62_0 F61 F82 n m1 x1 x2 (IntKind.i64.wrap (x11 + (at_ (e := YSpan) x32 x34).2)) (IntKind.i64.wrap (x12 + (at_ (e := YSpan) x32 x34).2)) x32 x33 (IntKind.i64.wrap (x34 + 1)))
       (L62_0 F61 F82 n m1 x1 x2 x11 (IntKind.i64.wrap (x12 + (at_ (e := YSpan) x32 x34).2)) x32 x33 (IntKind.i64.wrap (x34 + 1))))
      (bcond ((((at_ (e := YSpan) x32 x34).1 : Int) == 1) == true)
       (bcond (((x11 : Int) == x1) == true)
        (bcond x2
         (bcond (((at_ (e := YSpan) x32 x34).1 : Int) != 1)
          (L62_0 F61 F82 n m1 x1 x2 (IntKind.i64.wrap (x11 + (at_ (e := YSpan) x32 x34).2)) (IntKind.i64.wrap (x12 + (at_ (e := YSpan) x32 x34).2)) x32 x33 (IntKind.i64.wrap (x34 + 1)))
          (L62_0 F61 F82 n m1 x1 x2 x11 (IntKind.i64.wrap (x12 + (at_ (e := YSpan) x32 x34).2)) x32 x33 (IntKind.i64.wrap (x34 + 1))))
         (bcond (((at_ (e := YSpan) x32 x34).1 : Int) == 0)
          (bcond (((at_ (e := YSpan) x32 x34).1 : Int) != 1)
           (L62_0 F61 F82 n m1 x1 x2 (IntKind.i64.wrap (x11 + (at_ (e := YSpan) x32 x34).2)) (IntKind.i64.wrap (x12 + (if ((if ((IntKind.i64.wrap (x1 - x11)) : Int) > 0 then (IntKind.i64.wrap (x1 - x11)) else 0) : Int) < (at_ (e := YSpan) x32 x34).2 then (if ((IntKind.i64.wrap (x1 - x11)) : Int) > 0 then (IntKind.i64.wrap (x1 - x11)) else 0) else (at_ (e := YSpan) x32 x34).2))) x32 x33 (IntKind.i64.wrap (x34 + 1)))
           (L62_0 F61 F82 n m1 x1 x2 x11 (IntKind.i64.wrap (x12 + (if ((if ((IntKind.i64.wrap (x1 - x11)) : Int) > 0 then (IntKind.i64.wrap (x1 - x11)) else 0) : Int) < (at_ (e := YSpan) x32 x34).2 then (if ((IntKind.i64.wrap (x1 - x11)) : Int) > 0 then (IntKind.i64.wrap (x1 - x11)) else 0) else (at_ (e := YSpan) x32 x34).2))) x32 x33 (IntKind.i64.wrap (x34 + 1))))
          (bcond (((at_ (e := YSpan) x32 x34).1 : Int) != 1)
           (L62_0 F61 F82 n m1 x1 x2 (IntKind.i64.wrap (x11 + (at_ (e := YSpan) x32 x34).2)) x12 x32 x33 (IntKind.i64.wrap (x34 + 1)))
           (L62_0 F61 F82 n m1 x1 x2 x11 x12 x32 x33 (IntKind.i64.wrap (x34 + 1))))))
        (bcond (((at_ (e := YSpan) x32 x34).1 : Int) == 0)
         (bcond (((at_ (e := YSpan) x32 x34).1 : Int) != 1)
          (L62_0 F61 F82 n m1 x1 x2 (IntKind.i64.wrap (x11 + (at_ (e := YSpan) x32 x34).2)) (IntKind.i64.wrap (x12 + (if ((if ((IntKind.i64.wrap (x1 - x11)) : Int) > 0 then (IntKind.i64.wrap (x1 - x11)) else 0) : Int) < (at_ (e := YSpan) x32 x34).2 then (if ((IntKind.i64.wrap (x1 - x11)) : Int) > 0 then (IntKind.i64.wrap (x1 - x11)) else 0) else (at_ (e := YSpan) x32 x34).2))) x32 x33 (IntKind.i64.wrap (x34 + 1)))
          (L62_0 F61 F82 n m1 x1 x2 x11 (IntKind.i64.wrap (x12 + (if ((if ((IntKind.i64.wrap (x1 - x11)) : Int) > 0 then (IntKind.i64.wrap (x1 - x11)) else 0) : Int) < (at_ (e := YSpan) x32 x34).2 then (if ((IntKind.i64.wrap (x1 - x11)) : Int) > 0 then (IntKind.i64.wrap (x1 - x11)) else 0) else (at_ (e := YSpan) x32 x34).2))) x32 x33 (IntKind.i64.wrap (x34 + 1))))
         (bcond (((at_ (e := YSpan) x32 x34).1 : Int) != 1)
          (L62_0 F61 F82 n m1 x1 x2 (IntKind.i64.wrap (x11 + (at_ (e := YSpan) x32 x34).2)) x12 x32 x33 (IntKind.i64.wrap (x34 + 1)))
          (L62_0 F61 F82 n m1 x1 x2 x11 x12 x32 x33 (IntKind.i64.wrap (x34 + 1))))))
       (bcond (((at_ (e := YSpan) x32 x34).1 : Int) == 0)
        (bcond (((at_ (e := YSpan) x32 x34).1 : Int) != 1)
         (L62_0 F61 F82 n m1 x1 x2 (IntKind.i64.wrap (x11 + (at_ (e := YSpan) x32 x34).2)) (IntKind.i64.wrap (x12 + (if ((if ((IntKind.i64.wrap (x1 - x11)) : Int) > 0 then (IntKind.i64.wrap (x1 - x11)) else 0) : Int) < (at_ (e := YSpan) x32 x34).2 then (if ((IntKind.i64.wrap (x1 - x11)) : Int) > 0 then (IntKind.i64.wrap (x1 - x11)) else 0) else (at_ (e := YSpan) x32 x34).2))) x32 x33 (IntKind.i64.wrap (x34 + 1)))
         (L62_0 F61 F82 n m1 x1 x2 x11 (IntKind.i64.wrap (x12 + (if ((if ((IntKind.i64.wrap (x1 - x11)) : Int) > 0 then (IntKind.i64.wrap (x1 - x11)) else 0) : Int) < (at_ (e := YSpan) x32 x34).2 then (if ((IntKind.i64.wrap (x1 - x11)) : Int) > 0 then (IntKind.i64.wrap (x1 - x11)) else 0) else (at_ (e := YSpan) x32 x34).2))) x32 x33 (IntKind.i64.wrap (x34 + 1))))
        (bcond (((at_ (e := YSpan) x32 x34).1 : Int) != 1)
         (L62_0 F61 F82 n m1 x1 x2 (IntKind.i64.wrap (x11 + (at_ (e := YSpan) x32 x34).2)) x12 x32 x33 (IntKind.i64.wrap (x34 + 1)))
         (L62_0 F61 F82 n m1 x1 x2 x11 x12 x32 x33 (IntKind.i64.wrap (x34 + 1)))))))
     (bcond ((((at_ (e := YSpan) x32 x34).1 : Int) == 1) == true)
      (bcond (((x11 : Int) == x1) == true)
       (bcond x2
        (bcond (((at_ (e := YSpan) x32 x34).1 : Int) != 1)
         (L62_0 F61 F82 n m1 x1 x2 (IntKind.i64.wrap (x11 + (at_ (e := YSpan) x32 x34).2)) (IntKind.i64.wrap (x12 + (at_ (e := YSpan) x32 x34).2)) x32 x33 (IntKind.i64.wrap (x34 + 1)))
         (L62_0 F61 F82 n m1 x1 x2 x11 (IntKind.i64.wrap (x12 + (at_ (e := YSpan) x32 x34).2)) x32 x33 (IntKind.i64.wrap (x34 + 1))))
        (bcond (((at_ (e := YSpan) x32 x34).1 : Int) == 0)
         (bcond (((at_ (e := YSpan) x32 x34).1 : Int) != 1)
          (L62_0 F61 F82 n m1 x1 x2 (IntKind.i64.wrap (x11 + (at_ (e := YSpan) x32 x34).2)) (IntKind.i64.wrap (x12 + (if ((if ((IntKind.i64.wrap (x1 - x11)) : Int) > 0 then (IntKind.i64.wrap (x1 - x11)) else 0) : Int) < (at_ (e := YSpan) x32 x34).2 then (if ((IntKind.i64.wrap (x1 - x11)) : Int) > 0 then (IntKind.i64.wrap (x1 - x11)) else 0) else (at_ (e := YSpan) x32 x34).2))) x32 x33 (IntKind.i64.wrap (x34 + 1)))
          (L62_0 F61 F82 n m1 x1 x2 x11 (IntKind.i64.wrap (x12 + (if ((if ((IntKind.i64.wrap (x1 - x11)) : Int) > 0 then (IntKind.i64.wrap (x1 - x11)) else 0) : Int) < (at_ (e := YSpan) x32 x34).2 then (if ((IntKind.i64.wrap (x1 - x11)) : Int) > 0 then (IntKind.i64.wrap (x1 - x11)) else 0) else (at_ (e := YSpan) x32 x34).2))) x32 x33 (IntKind.i64.wrap (x34 + 1))))
         (bcond (((at_ (e := YSpan) x32 x34).1 : Int) != 1)
          (L62_0 F61 F82 n m1 x1 x2 (IntKind.i64.wrap (x11 + (at_ (e := YSpan) x32 x34).2)) x12 x32 x33 (IntKind.i64.wrap (x34 + 1)))
          (L62_0 F61 F82 n m1 x1 x2 x11 x12 x32 x33 (IntKind.i64.wrap (x34 + 1))))))
       (bcond (((at_ (e := YSpan) x32 x34).1 : Int) == 0)
        (bcond (((at_ (e := YSpan) x32 x34).1 : Int) != 1)
         (L62_0 F61 F82 n m1 x1 x2 (IntKind.i64.wrap (x11 + (at_ (e := YSpan) x32 x34).2)) (IntKind.i64.wrap (x12 + (if ((if ((IntKind.i64.wrap (x1 - x11)) : Int) > 0 then (IntKind.i64.wrap (x1 - x11)) else 0) : Int) < (at_ (e := YSpan) x32 x34).2 then (if ((IntKind.i64.wrap (x1 - x11)) : Int) > 0 then (IntKind.i64.wrap (x1 - x11)) else 0) else (at_ (e := YSpan) x32 x34).2))) x32 x33 (IntKind.i64.wrap (x34 + 1)))
         (L62_0 F61 F82 n m1 x1 x2 x11 (IntKind.i64.wrap (x12 + (if ((if ((IntKind.i64.wrap (x1 - x11)) : Int) > 0 then (IntKind.i64.wrap (x1 - x11)) else 0) : Int) < (at_ (e := YSpan) x32 x34).2 then (if ((IntKind.i64.wrap (x1 - x11)) : Int) > 0 then (IntKind.i64.wrap (x1 - x11)) else 0) else (at_ (e := YSpan) x32 x34).2))) x32 x33 (IntKind.i64.wrap (x34 + 1))))
        (bcond (((at_ (e := YSpan) x32 x34).1 : Int) != 1)
         (L62_0 F61 F82 n m1 x1 x2 (IntKind.i64.wrap (x11 + (at_ (e := YSpan) x32 x34).2)) x12 x32 x33 (IntKind.i64.wrap (x34 + 1)))
         (L62_0 F61 F82 n m1 x1 x2 x11 x12 x32 x33 (IntKind.i64.wrap (x34 + 1))))))
      (bcond (((at_ (e := YSpan) x32 x34).1 : Int) == 0)
       (bcond (((at_ (e := YSpan) x32 x34).1 : Int) != 1)
        (L62_0 F61 F82 n m1 x1 x2 (IntKind.i64.wrap (x11 + (at_ (e := YSpan) x32 x34).2)) (IntKind.i64.wrap (x12 + (if ((if ((IntKind.i64.wrap (x1 - x11)) : Int) > 0 then (IntKind.i64.wrap (x1 - x11)) else 0) : Int) < (at_ (e := YSpan) x32 x34).2 then (if ((IntKind.i64.wrap (x1 - x11)) : Int) > 0 then (IntKind.i64.wrap (x1 - x11)) else 0) else (at_ (e := YSpan) x32 x34).2))) x32 x33 (IntKind.i64.wrap (x34 + 1)))
        (L62_0 F61 F82 n m1 x1 x2 x11 (IntKind.i64.wrap (x12 + (if ((if ((IntKind.i64.wrap (x1 - x11)) : Int) > 0 then (IntKind.i64.wrap (x1 - x11)) else 0) : Int) < (at_ (e := YSpan) x32 x34).2 then (if ((IntKind.i64.wrap (x1 - x11)) : Int) > 0 then (IntKind.i64.wrap (x1 - x11)) else 0) else (at_ (e := YSpan) x32 x34).2))) x32 x33 (IntKind.i64.wrap (x34 + 1))))
       (bcond (((at_ (e := YSpan) x32 x34).1 : Int) != 1)
        (L62_0 F61 F82 n m1 x1 x2 (IntKind.i64.wrap (x11 + (at_ (e := YSpan) x32 x34).2)) x12 x32 x33 (IntKind.i64.wrap (x34 + 1)))
        (L62_0 F61 F82 n m1 x1 x2 x11 x12 x32 x33 (IntKind.i64.wrap (x34 + 1)))))))
   else none)
   (some (ret62 x12 0))) := by kernel_rfl
theorem run62 (F61 : sig61.Fn) (F82 : sig82.Fn) (n : Nat) (a0 : List YSpan.den) (a1 : Int) (a2 : Bool) : C62 (fun x y => run T (env62 F61 F82) os62 sig62 Try.f62 hs62 n x y) a0 a1 a2 =
  ((C61 F61 a0).bind fun r1 =>
   (bcond (((res61_0 r1) : Int) != 0)
    (some (ret62 0 (res61_0 r1)))
    ((C82 F82 a0).bind fun r2 =>
     (bcond ((decide ((a1 : Int) < 0)) == false)
      (bcond (decide ((a1 : Int) > (res82_0 r2)))
       (some (ret62 0 2))
       (L62_0 F61 F82 n n a1 a2 0 0 a0 (List.length a0 : Int) 0))
      (some (ret62 0 2)))))) := by kernel_rfl
theorem ok62 : fnOk os62 sig62 Try.f62 = true := by kernel_rfl
theorem fn62 : P.funcs[62]? = some Try.f62 := by kernel_rfl
noncomputable def F62 : sig62.Fn := fun x y => run T (env62 F61 F82) os62 sig62 Try.f62 hs62 big x y
theorem S62 : Sound P 62 ⟨sig62, F62⟩ := sound_of (os := os62) (hs := hs62) (env_cons S61 (env_cons S82 (env_nil))) fn62 ok62 (fun x y out h => ⟨big, h⟩)
theorem e62 (a0 : List YSpan.den) (a1 : Int) (a2 : Bool) : C62 F62 a0 a1 a2 =
  ((C61 F61 a0).bind fun r1 =>
   (bcond (((res61_0 r1) : Int) != 0)
    (some (ret62 0 (res61_0 r1)))
    ((C82 F82 a0).bind fun r2 =>
     (bcond ((decide ((a1 : Int) < 0)) == false)
      (bcond (decide ((a1 : Int) > (res82_0 r2)))
       (some (ret62 0 2))
       (L62_0 F61 F82 big big a1 a2 0 0 a0 (List.length a0 : Int) 0))
      (some (ret62 0 2)))))) := run62 F61 F82 big a0 a1 a2

/-! ### chancery/axis.Rest -/
def sig63 : Sig := ⟨[.v false (.list YSpan), .v false (.int .i64), .v false (.int .i64)], [], [(false, [.fr (.int .i64)]), (false, [.fr (.int .i64)]), (false, [.fr (.int .i64)])]⟩
def C63 (F : sig63.Fn) (a0 : List YSpan.den) (a1 : Int) (a2 : Int) : Option sig63.Out := F (a0, a1, a2, ()) ()
def ret63 (v0 : Int) (v1 : Int) (v2 : Int) : sig63.Out := (((v0, ()), (v1, ()), (v2, ()), ()), ())
def res63_0 (r : sig63.Out) : Int := r.1.1.1
@[simp] theorem res63_0_ret (v0 : Int) (v1 : Int) (v2 : Int) : res63_0 (ret63 v0 v1 v2) = v0 := rfl
def res63_1 (r : sig63.Out) : Int := r.1.2.1.1
@[simp] theorem res63_1_ret (v0 : Int) (v1 : Int) (v2 : Int) : res63_1 (ret63 v0 v1 v2) = v1 := rfl
def res63_2 (r : sig63.Out) : Int := r.1.2.2.1.1
@[simp] theorem res63_2_ret (v0 : Int) (v1 : Int) (v2 : Int) : res63_2 (ret63 v0 v1 v2) = v2 := rfl
def os63 : List (Nat × List Nat) := []
def hs63 : List Keep := []
@[reducible] def env63 (F61 : sig61.Fn) (F82 : sig82.Fn) (F100 : sig100.Fn) : Env := [(61, ⟨sig61, F61⟩), (82, ⟨sig82, F82⟩), (100, ⟨sig100, F100⟩)]
theorem run63 (F61 : sig61.Fn) (F82 : sig82.Fn) (F100 : sig100.Fn) (n : Nat) (a0 : List YSpan.den) (a1 : Int) (a2 : Int) : C63 (fun x y => run T (env63 F61 F82 F100) os63 sig63 Try.f63 hs63 n x y) a0 a1 a2 =
  ((C61 F61 a0).bind fun r1 =>
   (bcond (((res61_0 r1) : Int) != 0)
    (some (ret63 0 0 (res61_0 r1)))
    ((C82 F82 a0).bind fun r2 =>
     (bcond ((decide ((a1 : Int) < 0)) == false)
      (bcond ((decide ((a2 : Int) < a1)) == false)
       (bcond (decide ((a2 : Int) > (res82_0 r2)))
        (some (ret63 0 0 2))
        ((C100 F100 a0 a1 a2).bind fun r3 =>
         (some (ret63 (res100_0 r3) (res100_1 r3) 0))))
       (some (ret63 0 0 2)))
      (some (ret63 0 0 2)))))) := by kernel_rfl
theorem ok63 : fnOk os63 sig63 Try.f63 = true := by kernel_rfl
theorem fn63 : P.funcs[63]? = some Try.f63 := by kernel_rfl
noncomputable def F63 : sig63.Fn := fun x y => run T (env63 F61 F82 F100) os63 sig63 Try.f63 hs63 big x y
theorem S63 : Sound P 63 ⟨sig63, F63⟩ := sound_of (os := os63) (hs := hs63) (env_cons S61 (env_cons S82 (env_cons S100 (env_nil)))) fn63 ok63 (fun x y out h => ⟨big, h⟩)
theorem e63 (a0 : List YSpan.den) (a1 : Int) (a2 : Int) : C63 F63 a0 a1 a2 =
  ((C61 F61 a0).bind fun r1 =>
   (bcond (((res61_0 r1) : Int) != 0)
    (some (ret63 0 0 (res61_0 r1)))
    ((C82 F82 a0).bind fun r2 =>
     (bcond ((decide ((a1 : Int) < 0)) == false)
      (bcond ((decide ((a2 : Int) < a1)) == false)
       (bcond (decide ((a2 : Int) > (res82_0 r2)))
        (some (ret63 0 0 2))
        ((C100 F100 a0 a1 a2).bind fun r3 =>
         (some (ret63 (res100_0 r3) (res100_1 r3) 0))))
       (some (ret63 0 0 2)))
      (some (ret63 0 0 2)))))) := run63 F61 F82 F100 big a0 a1 a2

/-! ### chancery/chanceryref1.GapAt -/
def sig64 : Sig := ⟨[.v false (.list (.int .i64)), .v false (.int .i64), .v false .bool], [], [(false, [.fr (.int .i64)])]⟩
def C64 (F : sig64.Fn) (a0 : List (Int)) (a1 : Int) (a2 : Bool) : Option sig64.Out := F (a0, a1, a2, ()) ()
def ret64 (v0 : Int) : sig64.Out := (((v0, ()), ()), ())
def res64_0 (r : sig64.Out) : Int := r.1.1.1
@[simp] theorem res64_0_ret (v0 : Int) : res64_0 (ret64 v0) = v0 := rfl
def os64 : List (Nat × List Nat) := []
def hs64 : List Keep := [[(1, []), (2, []), (7, []), (8, []), (9, []), (17, []), (18, [])]]
@[reducible] def env64 (F85 : sig85.Fn) : Env := [(85, ⟨sig85, F85⟩)]
noncomputable def L64_0 (F85 : sig85.Fn) (n m1 : Nat) (x1 : Int) (x2 : Bool) (x7 : List (Int)) (x8 : List (Int)) (x9 : Int) (x17 : Int) (x18 : Int) : Option sig64.Out :=
  loopAt T (env64 F85) os64 sig64 Try.f64 hs64 n [.sr, .sr, .sr, .sl, .sr, .bl] m1 (mk 64 [(1, .cs false [.val (.int .i64) x1]), (2, .cs false [.val .bool x2]), (7, .cs false [.val (.list (.int .i64)) x7]), (8, .cs false [.val (.list (.int .i64)) x8]), (9, .cs false [.val (.int .i64) x9]), (17, .cs false [.val (.int .i64) x17]), (18, .cs false [.val (.int .i64) x18])])
theorem L64_0_step (F85 : sig85.Fn) (n m1 : Nat) (x1 : Int) (x2 : Bool) (x7 : List (Int)) (x8 : List (Int)) (x9 : Int) (x17 : Int) (x18 : Int) : L64_0 F85 n (m1 + 1) x1 x2 x7 x8 x9 x17 x18 =
  (bcond (decide ((x18 : Int) < x17))
   (if 0 ≤ (x18 : Int) ∧ (x18 : Int) < (List.length x7 : Int) then
    (bcond ((decide (((at_ (e := (.int .i64)) x7 x18) : Int) ≥ 0)) == true)
     (if 0 ≤ (x18 : Int) ∧ (x18 : Int) < (List.length x7 : Int) then
      (bcond ((decide (((at_ (e := (.int .i64)) x7 x18) : Int) < x1)) == false)
       (if 0 ≤ (x18 : Int) ∧ (x18 : Int) < (List.length x7 : Int) then
        (bcond ((decide (((at_ (e := (.int .i64)) x7 x18) : Int) < 0)) == true)
         (if 0 ≤ (x18 : Int) ∧ (x18 : Int) < (List.length x8 : Int) then
          (bcond ((decide (((at_ (e := (.int .i64)) x8 x18) : Int) < x1)) == false)
           (if 0 ≤ (x18 : Int) ∧ (x18 : Int) < (List.length x8 : Int) then
            (bcond ((((at_ (e := (.int .i64)) x8 x18) : Int) == x1) == true)
             (bcond x2
              (L64_0 F85 n m1 x1 x2 x7 x8 (IntKind.i64.wrap (x9 + 1)) x17 (IntKind.i64.wrap (x18 + 1)))
              (L64_0 F85 n m1 x1 x2 x7 x8 x9 x17 (IntKind.i64.wrap (x18 + 1))))
             (L64_0 F85 n m1 x1 x2 x7 x8 x9 x17 (IntKind.i64.wrap (x18 + 1))))
           else none)
           (L64_0 F85 n m1 x1 x2 x7 x8 (IntKind.i64.wrap (x9 + 1)) x17 (IntKind.i64.wrap (x18 + 1))))
         else none)
         (L64_0 F85 n m1 x1 x2 x7 x8 x9 x17 (IntKind.i64.wrap (x18 + 1))))
       else none)
       (L64_0 F85 n m1 x1 x2 x7 x8 (IntKind.i64.wrap (x9 + 1)) x17 (IntKind.i64.wrap (x18 + 1))))
     else none)
     (if 0 ≤ (x18 : Int) ∧ (x18 : Int) < (List.length x7 : Int) then
      (bcond ((decide (((at_ (e := (.int .i64)) x7 x18) : Int) < 0)) == true)
       (if 0 ≤ (x18 : Int) ∧ (x18 : Int) < (List.length x8 : Int) then
        (bcond ((decide (((at_ (e := (.int .i64)) x8 x18) : Int) < x1)) == false)
         (if 0 ≤ (x18 : Int) ∧ (x18 : Int) < (List.length x8 : Int) then
          (bcond ((((at_ (e := (.int .i64)) x8 x18) : Int) == x1) == true)
           (bcond x2
            (L64_0 F85 n m1 x1 x2 x7 x8 (IntKind.i64.wrap (x9 + 1)) x17 (IntKind.i64.wrap (x18 + 1)))
            (L64_0 F85 n m1 x1 x2 x7 x8 x9 x17 (IntKind.i64.wrap (x18 + 1))))
           (L64_0 F85 n m1 x1 x2 x7 x8 x9 x17 (IntKind.i64.wrap (x18 + 1))))
         else none)
         (L64_0 F85 n m1 x1 x2 x7 x8 (IntKind.i64.wrap (x9 + 1)) x17 (IntKind.i64.wrap (x18 + 1))))
       else none)
       (L64_0 F85 n m1 x1 x2 x7 x8 x9 x17 (IntKind.i64.wrap (x18 + 1))))
     else none))
   else none)
   (some (ret64 x9))) := by kernel_rfl
theorem run64 (F85 : sig85.Fn) (n : Nat) (a0 : List (Int)) (a1 : Int) (a2 : Bool) : C64 (fun x y => run T (env64 F85) os64 sig64 Try.f64 hs64 n x y) a0 a1 a2 =
  ((C85 F85 a0).bind fun r1 =>
   (L64_0 F85 n n a1 a2 (res85_0 r1) (res85_1 r1) 0 (List.length (res85_0 r1) : Int) 0)) := by kernel_rfl
theorem ok64 : fnOk os64 sig64 Try.f64 = true := by kernel_rfl
theorem fn64 : P.funcs[64]? = some Try.f64 := by kernel_rfl
noncomputable def F64 : sig64.Fn := fun x y => run T (env64 F85) os64 sig64 Try.f64 hs64 big x y
theorem S64 : Sound P 64 ⟨sig64, F64⟩ := sound_of (os := os64) (hs := hs64) (env_cons S85 (env_nil)) fn64 ok64 (fun x y out h => ⟨big, h⟩)
theorem e64 (a0 : List (Int)) (a1 : Int) (a2 : Bool) : C64 F64 a0 a1 a2 =
  ((C85 F85 a0).bind fun r1 =>
   (L64_0 F85 big big a1 a2 (res85_0 r1) (res85_1 r1) 0 (List.length (res85_0 r1) : Int) 0)) := run64 F85 big a0 a1 a2

/-! ### chancery/chanceryref1.RestOf -/
def sig65 : Sig := ⟨[.v false (.list (.int .i64)), .v false (.int .i64), .v false (.int .i64)], [], [(false, [.fr (.int .i64)]), (false, [.fr (.int .i64)])]⟩
def C65 (F : sig65.Fn) (a0 : List (Int)) (a1 : Int) (a2 : Int) : Option sig65.Out := F (a0, a1, a2, ()) ()
def ret65 (v0 : Int) (v1 : Int) : sig65.Out := (((v0, ()), (v1, ()), ()), ())
def res65_0 (r : sig65.Out) : Int := r.1.1.1
@[simp] theorem res65_0_ret (v0 : Int) (v1 : Int) : res65_0 (ret65 v0 v1) = v0 := rfl
def res65_1 (r : sig65.Out) : Int := r.1.2.1.1
@[simp] theorem res65_1_ret (v0 : Int) (v1 : Int) : res65_1 (ret65 v0 v1) = v1 := rfl
def os65 : List (Nat × List Nat) := []
def hs65 : List Keep := [[(0, []), (1, []), (8, []), (9, []), (10, [])]]
@[reducible] def env65 (F33 : sig33.Fn) : Env := [(33, ⟨sig33, F33⟩)]
noncomputable def L65_0 (F33 : sig33.Fn) (n m1 : Nat) (x0 : List (Int)) (x1 : Int) (x8 : Int) (x9 : Int) (x10 : Int) : Option sig65.Out :=
  loopAt T (env65 F33) os65 sig65 Try.f65 hs65 n [.sr, .sr, .sl, .sr, .bl] m1 (mk 31 [(0, .cs false [.val (.list (.int .i64)) x0]), (1, .cs false [.val (.int .i64) x1]), (8, .cs false [.val (.int .i64) x8]), (9, .cs false [.val (.int .i64) x9]), (10, .cs false [.val (.int .i64) x10])])
theorem L65_0_step (F33 : sig33.Fn) (n m1 : Nat) (x0 : List (Int)) (x1 : Int) (x8 : Int) (x9 : Int) (x10 : Int) : L65_0 F33 n (m1 + 1) x0 x1 x8 x9 x10 =
  (bcond (decide ((x10 : Int) ≥ x1))
   ((C33 F33 x0 x10).bind fun r1 =>
    (bcond (decide (((res33_0 r1) : Int) ≥ 0))
     (bcond ((x9 : Int) == 0)
      (L65_0 F33 n m1 x0 x1 (res33_0 r1) (IntKind.i64.wrap ((res33_0 r1) + 1)) (IntKind.i64.wrap (x10 - 1)))
      (L65_0 F33 n m1 x0 x1 (res33_0 r1) x9 (IntKind.i64.wrap (x10 - 1))))
     (L65_0 F33 n m1 x0 x1 x8 x9 (IntKind.i64.wrap (x10 - 1)))))
   (some (ret65 x8 x9))) := by kernel_rfl
theorem run65 (F33 : sig33.Fn) (n : Nat) (a0 : List (Int)) (a1 : Int) (a2 : Int) : C65 (fun x y => run T (env65 F33) os65 sig65 Try.f65 hs65 n x y) a0 a1 a2 =
  (L65_0 F33 n n a0 a1 0 0 (IntKind.i64.wrap (a2 - 1))) := by kernel_rfl
theorem ok65 : fnOk os65 sig65 Try.f65 = true := by kernel_rfl
theorem fn65 : P.funcs[65]? = some Try.f65 := by kernel_rfl
noncomputable def F65 : sig65.Fn := fun x y => run T (env65 F33) os65 sig65 Try.f65 hs65 big x y
theorem S65 : Sound P 65 ⟨sig65, F65⟩ := sound_of (os := os65) (hs := hs65) (env_cons S33 (env_nil)) fn65 ok65 (fun x y out h => ⟨big, h⟩)
theorem e65 (a0 : List (Int)) (a1 : Int) (a2 : Int) : C65 F65 a0 a1 a2 =
  (L65_0 F33 big big a0 a1 0 0 (IntKind.i64.wrap (a2 - 1))) := run65 F33 big a0 a1 a2

/-! ### chancery/chancerylaw1.AxisGapMatches -/
def sig12 : Sig := ⟨[.v false (.list YSpan), .v false (.int .i64), .v false (.int .i64), .v false .bool], [], [(false, [.fr .bool])]⟩
def C12 (F : sig12.Fn) (a0 : List YSpan.den) (a1 : Int) (a2 : Int) (a3 : Bool) : Option sig12.Out := F (a0, a1, a2, a3, ()) ()
def ret12 (v0 : Bool) : sig12.Out := (((v0, ()), ()), ())
def res12_0 (r : sig12.Out) : Bool := r.1.1.1
@[simp] theorem res12_0_ret (v0 : Bool) : res12_0 (ret12 v0) = v0 := rfl
def os12 : List (Nat × List Nat) := []
def hs12 : List Keep := [[(1, []), (2, []), (3, []), (9, []), (10, []), (11, []), (12, []), (13, []), (15, []), (16, []), (81, []), (82, [])]]
@[reducible] def env12 (F27 : sig27.Fn) (F62 : sig62.Fn) (F63 : sig63.Fn) (F29 : sig29.Fn) (F30 : sig30.Fn) (F31 : sig31.Fn) (F32 : sig32.Fn) (F64 : sig64.Fn) (F65 : sig65.Fn) : Env := [(27, ⟨sig27, F27⟩), (62, ⟨sig62, F62⟩), (63, ⟨sig63, F63⟩), (29, ⟨sig29, F29⟩), (30, ⟨sig30, F30⟩), (31, ⟨sig31, F31⟩), (32, ⟨sig32, F32⟩), (64, ⟨sig64, F64⟩), (65, ⟨sig65, F65⟩)]
noncomputable def L12_0 (F27 : sig27.Fn) (F62 : sig62.Fn) (F63 : sig63.Fn) (F29 : sig29.Fn) (F30 : sig30.Fn) (F31 : sig31.Fn) (F32 : sig32.Fn) (F64 : sig64.Fn) (F65 : sig65.Fn) (n m1 : Nat) (x1 : Int) (x2 : Int) (x3 : Bool) (x9 : Int) (x10 : Int) (x11 : Int) (x12 : Int) (x13 : Int) (x15 : List (Int)) (x16 : Int) (x81 : Int) (x82 : Int) : Option sig12.Out :=
  loopAt T (env12 F27 F62 F63 F29 F30 F31 F32 F64 F65) os12 sig12 Try.f12 hs12 n [.sr, .sr, .sr, .sr, .sr, .sr, .sr, .sr, .sl, .sr, .bl] m1 (mk 151 [(1, .cs false [.val (.int .i64) x1]), (2, .cs false [.val (.int .i64) x2]), (3, .cs false [.val .bool x3]), (9, .cs false [.val (.int .i64) x9]), (10, .cs false [.val (.int .i64) x10]), (11, .cs false [.val (.int .i64) x11]), (12, .cs false [.val (.int .i64) x12]), (13, .cs false [.val (.int .i64) x13]), (15, .cs false [.val (.list (.int .i64)) x15]), (16, .cs false [.val (.int .i64) x16]), (81, .cs false [.val (.int .i64) x81]), (82, .cs false [.val (.int .i64) x82])])
theorem L12_0_step (F27 : sig27.Fn) (F62 : sig62.Fn) (F63 : sig63.Fn) (F29 : sig29.Fn) (F30 : sig30.Fn) (F31 : sig31.Fn) (F32 : sig32.Fn) (F64 : sig64.Fn) (F65 : sig65.Fn) (n m1 : Nat) (x1 : Int) (x2 : Int) (x3 : Bool) (x9 : Int) (x10 : Int) (x11 : Int) (x12 : Int) (x13 : Int) (x15 : List (Int)) (x16 : Int) (x81 : Int) (x82 : Int) : L12_0 F27 F62 F63 F29 F30 F31 F32 F64 F65 n (m1 + 1) x1 x2 x3 x9 x10 x11 x12 x13 x15 x16 x81 x82 =
  (bcond (decide ((x82 : Int) < x81))
   (if 0 ≤ (x82 : Int) ∧ (x82 : Int) < (List.length x15 : Int) then
    (bcond (((at_ (e := (.int .i64)) x15 x82) : Int) != 1)
     (L12_0 F27 F62 F63 F29 F30 F31 F32 F64 F65 n m1 x1 x2 x3 x9 x10 x11 x12 x13 x15 (IntKind.i64.wrap (x16 + 1)) x81 (IntKind.i64.wrap (x82 + 1)))
     (L12_0 F27 F62 F63 F29 F30 F31 F32 F64 F65 n m1 x1 x2 x3 x9 x10 x11 x12 x13 x15 x16 x81 (IntKind.i64.wrap (x82 + 1))))
   else none)
   ((C32 F32 x1 0 x16).bind fun r1 =>
    (bcond (!(res32_0 r1))
     (bcond (((x10 : Int) == 2) == true)
      (bcond (((x13 : Int) == 2) == true)
       (some (ret12 ((x9 : Int) == 0)))
       (some (ret12 false)))
      (some (ret12 false)))
     (bcond (((x10 : Int) != 0) == false)
      ((C64 F64 x15 x1 x3).bind fun r2 =>
       (bcond ((x9 : Int) != (res64_0 r2))
        (some (ret12 false))
        ((C32 F32 x2 x1 x16).bind fun r3 =>
         (bcond (!(res32_0 r3))
          (bcond (((x13 : Int) == 2) == true)
           (bcond (((x11 : Int) == 0) == true)
            (some (ret12 ((x12 : Int) == 0)))
            (some (ret12 false)))
           (some (ret12 false)))
          ((C65 F65 x15 x1 x2).bind fun r4 =>
           (bcond (((x13 : Int) == 0) == true)
            (bcond (((x11 : Int) == (res65_0 r4)) == true)
             (some (ret12 ((x12 : Int) == (res65_1 r4))))
             (some (ret12 false)))
            (some (ret12 false))))))))
      (some (ret12 false)))))) := by kernel_rfl
theorem run12 (F27 : sig27.Fn) (F62 : sig62.Fn) (F63 : sig63.Fn) (F29 : sig29.Fn) (F30 : sig30.Fn) (F31 : sig31.Fn) (F32 : sig32.Fn) (F64 : sig64.Fn) (F65 : sig65.Fn) (n : Nat) (a0 : List YSpan.den) (a1 : Int) (a2 : Int) (a3 : Bool) : C12 (fun x y => run T (env12 F27 F62 F63 F29 F30 F31 F32 F64 F65) os12 sig12 Try.f12 hs12 n x y) a0 a1 a2 a3 =
  ((C27 F27 ).bind fun r1 =>
   (bcond (!(res27_0 r1))
    (some (ret12 false))
    ((C62 F62 a0 a1 a3).bind fun r2 =>
     ((C63 F63 a0 a1 a2).bind fun r3 =>
      ((C29 F29 a0).bind fun r4 =>
       (bcond (((res29_0 r4) : Int) != 0)
        (bcond ((((res62_1 r2) : Int) == (res29_0 r4)) == true)
         (bcond ((((res63_2 r3) : Int) == (res29_0 r4)) == true)
          (bcond ((((res62_0 r2) : Int) == 0) == true)
           (bcond ((((res63_0 r3) : Int) == 0) == true)
            (some (ret12 (((res63_1 r3) : Int) == 0)))
            (some (ret12 false)))
           (some (ret12 false)))
          (some (ret12 false)))
         (some (ret12 false)))
        ((C30 F30 a0).bind fun r5 =>
         (bcond (!(res30_0 r5))
          (bcond ((((res62_1 r2) : Int) == 0) == false)
           (bcond ((((res62_1 r2) : Int) == 2) == true)
            (bcond ((((res63_2 r3) : Int) == 0) == false)
             (some (ret12 (((res63_2 r3) : Int) == 2)))
             (some (ret12 true)))
            (some (ret12 false)))
           (bcond ((((res63_2 r3) : Int) == 0) == false)
            (some (ret12 (((res63_2 r3) : Int) == 2)))
            (some (ret12 true))))
          ((C31 F31 a0).bind fun r6 =>
           (L12_0 F27 F62 F63 F29 F30 F31 F32 F64 F65 n n a1 a2 a3 (res62_0 r2) (res62_1 r2) (res63_0 r3) (res63_1 r3) (res63_2 r3) (res31_0 r6) 0 (List.length (res31_0 r6) : Int) 0)))))))))) := by kernel_rfl
theorem ok12 : fnOk os12 sig12 Try.f12 = true := by kernel_rfl
theorem fn12 : P.funcs[12]? = some Try.f12 := by kernel_rfl
noncomputable def F12 : sig12.Fn := fun x y => run T (env12 F27 F62 F63 F29 F30 F31 F32 F64 F65) os12 sig12 Try.f12 hs12 big x y
theorem S12 : Sound P 12 ⟨sig12, F12⟩ := sound_of (os := os12) (hs := hs12) (env_cons S27 (env_cons S62 (env_cons S63 (env_cons S29 (env_cons S30 (env_cons S31 (env_cons S32 (env_cons S64 (env_cons S65 (env_nil)))))))))) fn12 ok12 (fun x y out h => ⟨big, h⟩)
theorem e12 (a0 : List YSpan.den) (a1 : Int) (a2 : Int) (a3 : Bool) : C12 F12 a0 a1 a2 a3 =
  ((C27 F27 ).bind fun r1 =>
   (bcond (!(res27_0 r1))
    (some (ret12 false))
    ((C62 F62 a0 a1 a3).bind fun r2 =>
     ((C63 F63 a0 a1 a2).bind fun r3 =>
      ((C29 F29 a0).bind fun r4 =>
       (bcond (((res29_0 r4) : Int) != 0)
        (bcond ((((res62_1 r2) : Int) == (res29_0 r4)) == true)
         (bcond ((((res63_2 r3) : Int) == (res29_0 r4)) == true)
          (bcond ((((res62_0 r2) : Int) == 0) == true)
           (bcond ((((res63_0 r3) : Int) == 0) == true)
            (some (ret12 (((res63_1 r3) : Int) == 0)))
            (some (ret12 false)))
           (some (ret12 false)))
          (some (ret12 false)))
         (some (ret12 false)))
        ((C30 F30 a0).bind fun r5 =>
         (bcond (!(res30_0 r5))
          (bcond ((((res62_1 r2) : Int) == 0) == false)
           (bcond ((((res62_1 r2) : Int) == 2) == true)
            (bcond ((((res63_2 r3) : Int) == 0) == false)
             (some (ret12 (((res63_2 r3) : Int) == 2)))
             (some (ret12 true)))
            (some (ret12 false)))
           (bcond ((((res63_2 r3) : Int) == 0) == false)
            (some (ret12 (((res63_2 r3) : Int) == 2)))
            (some (ret12 true))))
          ((C31 F31 a0).bind fun r6 =>
           (L12_0 F27 F62 F63 F29 F30 F31 F32 F64 F65 big big a1 a2 a3 (res62_0 r2) (res62_1 r2) (res63_0 r3) (res63_1 r3) (res63_2 r3) (res31_0 r6) 0 (List.length (res31_0 r6) : Int) 0)))))))))) := run12 F27 F62 F63 F29 F30 F31 F32 F64 F65 big a0 a1 a2 a3
end Go.Ev
