/- Functions, step by step. -/
import Derived.Test.YtphlkpahfcainaaGAxis
namespace Go.Ev
set_option linter.unusedVariables false
set_option maxRecDepth 100000
open Go.Proofs

/-! ### (*chancery/axis.writer).flush -/
def sig117 : Sig := ⟨[.p 0], [[.ow 80 YSpan, .fr (.int .i64), .fr (.int .i64)]], []⟩
def C117 (F : sig117.Fn) (b0_0 : List YSpan.den) (b0_1 : Int) (b0_2 : Int) : Option sig117.Out := F () ((b0_0, b0_1, b0_2, ()), ())
def ret117 (v0 : List YSpan.den) (v1 : Int) (v2 : Int) : sig117.Out := ((), ((v0, v1, v2, ()), ()))
def res117_0 (r : sig117.Out) : List YSpan.den := r.2.1.1
@[simp] theorem res117_0_ret (v0 : List YSpan.den) (v1 : Int) (v2 : Int) : res117_0 (ret117 v0 v1 v2) = v0 := rfl
def res117_1 (r : sig117.Out) : Int := r.2.1.2.1
@[simp] theorem res117_1_ret (v0 : List YSpan.den) (v1 : Int) (v2 : Int) : res117_1 (ret117 v0 v1 v2) = v1 := rfl
def res117_2 (r : sig117.Out) : Int := r.2.1.2.2.1
@[simp] theorem res117_2_ret (v0 : List YSpan.den) (v1 : Int) (v2 : Int) : res117_2 (ret117 v0 v1 v2) = v2 := rfl
def os117 : List (Nat × Ord) := [(1, .st 0 (.st 1 (.st 2 (.st 3 (.st 5 (.st 6 (.st 7 (.st 8 (.st 9 (.st 4 (.st 10 (.st 11 (.st 12 (.st 13 (.st 14 (.nil)))))))))))))))), (3, .st 0 (.st 1 (.st 2 (.st 3 (.st 5 (.st 6 (.st 7 (.st 8 (.st 9 (.st 4 (.st 10 (.st 11 (.st 12 (.st 13 (.st 14 (.nil))))))))))))))))]
def hs117 : List Keep := []
@[reducible] def env117 : Env := []
theorem run117 (n : Nat) (b0_0 : List YSpan.den) (b0_1 : Int) (b0_2 : Int) : C117 (fun x y => run T (env117) os117 sig117 Try.f117 hs117 n x y) b0_0 b0_1 b0_2 =
  (bcond (decide ((b0_1 : Int) > 0))
   (if (List.length (b0_0 : List YSpan.den) + List.length ([(1, b0_1)] : List YSpan.den)) * 16 ≤ 140737488355328 then
    (bcond (decide ((b0_2 : Int) > 0))
     (if (List.length ((b0_0 ++ [(1, b0_1)]) : List YSpan.den) + List.length ([(2, b0_2)] : List YSpan.den)) * 16 ≤ 140737488355328 then
      (some (ret117 ((b0_0 ++ [(1, b0_1)]) ++ [(2, b0_2)]) 0 0))
     else none)
     (some (ret117 (b0_0 ++ [(1, b0_1)]) 0 0)))
   else none)
   (bcond (decide ((b0_2 : Int) > 0))
    (if (List.length (b0_0 : List YSpan.den) + List.length ([(2, b0_2)] : List YSpan.den)) * 16 ≤ 140737488355328 then
     (some (ret117 (b0_0 ++ [(2, b0_2)]) 0 0))
    else none)
    (some (ret117 b0_0 0 0)))) := by kernel_rfl
theorem ok117 : fnOk os117 sig117 Try.f117 = true := by kernel_rfl
theorem fn117 : P.funcs[117]? = some Try.f117 := by kernel_rfl
noncomputable def F117 : sig117.Fn := fun x y => run T (env117) os117 sig117 Try.f117 hs117 big x y
theorem S117 : Sound P 117 ⟨sig117, F117⟩ := sound_of (os := os117) (hs := hs117) (env_nil) fn117 ok117 (fun x y out h => ⟨big, h⟩)
theorem e117 (b0_0 : List YSpan.den) (b0_1 : Int) (b0_2 : Int) : C117 F117 b0_0 b0_1 b0_2 =
  (bcond (decide ((b0_1 : Int) > 0))
   (if (List.length (b0_0 : List YSpan.den) + List.length ([(1, b0_1)] : List YSpan.den)) * 16 ≤ 140737488355328 then
    (bcond (decide ((b0_2 : Int) > 0))
     (if (List.length ((b0_0 ++ [(1, b0_1)]) : List YSpan.den) + List.length ([(2, b0_2)] : List YSpan.den)) * 16 ≤ 140737488355328 then
      (some (ret117 ((b0_0 ++ [(1, b0_1)]) ++ [(2, b0_2)]) 0 0))
     else none)
     (some (ret117 (b0_0 ++ [(1, b0_1)]) 0 0)))
   else none)
   (bcond (decide ((b0_2 : Int) > 0))
    (if (List.length (b0_0 : List YSpan.den) + List.length ([(2, b0_2)] : List YSpan.den)) * 16 ≤ 140737488355328 then
     (some (ret117 (b0_0 ++ [(2, b0_2)]) 0 0))
    else none)
    (some (ret117 b0_0 0 0)))) := run117 big b0_0 b0_1 b0_2

/-! ### (*chancery/axis.writer).put -/
def sig98 : Sig := ⟨[.p 0, .v false (.int .i64), .v false (.int .i64)], [[.ow 80 YSpan, .fr (.int .i64), .fr (.int .i64)]], []⟩
def C98 (F : sig98.Fn) (a1 : Int) (a2 : Int) (b0_0 : List YSpan.den) (b0_1 : Int) (b0_2 : Int) : Option sig98.Out := F (a1, a2, ()) ((b0_0, b0_1, b0_2, ()), ())
def ret98 (v0 : List YSpan.den) (v1 : Int) (v2 : Int) : sig98.Out := ((), ((v0, v1, v2, ()), ()))
def res98_0 (r : sig98.Out) : List YSpan.den := r.2.1.1
@[simp] theorem res98_0_ret (v0 : List YSpan.den) (v1 : Int) (v2 : Int) : res98_0 (ret98 v0 v1 v2) = v0 := rfl
def res98_1 (r : sig98.Out) : Int := r.2.1.2.1
@[simp] theorem res98_1_ret (v0 : List YSpan.den) (v1 : Int) (v2 : Int) : res98_1 (ret98 v0 v1 v2) = v1 := rfl
def res98_2 (r : sig98.Out) : Int := r.2.1.2.2.1
@[simp] theorem res98_2_ret (v0 : List YSpan.den) (v1 : Int) (v2 : Int) : res98_2 (ret98 v0 v1 v2) = v2 := rfl
def os98 : List (Nat × Ord) := []
def hs98 : List Keep := []
@[reducible] def env98 (F117 : sig117.Fn) : Env := [(117, ⟨sig117, F117⟩)]
theorem run98 (F117 : sig117.Fn) (n : Nat) (a1 : Int) (a2 : Int) (b0_0 : List YSpan.den) (b0_1 : Int) (b0_2 : Int) : C98 (fun x y => run T (env98 F117) os98 sig98 Try.f98 hs98 n x y) a1 a2 b0_0 b0_1 b0_2 =
  (bcond ((a2 : Int) == 0)
   (some (ret98 b0_0 b0_1 b0_2))
   (bcond ((a1 : Int) == 1)
    (some (ret98 b0_0 (IntKind.i64.wrap (b0_1 + a2)) b0_2))
    (bcond ((a1 : Int) == 2)
     (some (ret98 b0_0 b0_1 (IntKind.i64.wrap (b0_2 + a2))))
     ((C117 F117 b0_0 b0_1 b0_2).bind fun r1 =>
      (bcond ((decide (((IntKind.i64.wrap ((List.length (res117_0 r1) : Int) - 1)) : Int) ≥ 0)) == true)
       (if 0 ≤ ((IntKind.i64.wrap ((List.length (res117_0 r1) : Int) - 1)) : Int) ∧ ((IntKind.i64.wrap ((List.length (res117_0 r1) : Int) - 1)) : Int) < (List.length (res117_0 r1) : Int) then
        (bcond (((at_ (e := YSpan) (res117_0 r1) (IntKind.i64.wrap ((List.length (res117_0 r1) : Int) - 1))).1 : Int) == 0)
         (if 0 ≤ ((IntKind.i64.wrap ((List.length (res117_0 r1) : Int) - 1)) : Int) ∧ ((IntKind.i64.wrap ((List.length (res117_0 r1) : Int) - 1)) : Int) < (List.length (res117_0 r1) : Int) then
          (if 0 ≤ ((IntKind.i64.wrap ((List.length (res117_0 r1) : Int) - 1)) : Int) ∧ ((IntKind.i64.wrap ((List.length (res117_0 r1) : Int) - 1)) : Int) < (List.length (res117_0 r1) : Int) then
           (some (ret98 (List.set (res117_0 r1) (Int.toNat (IntKind.i64.wrap ((List.length (res117_0 r1) : Int) - 1))) ((at_ (e := YSpan) (res117_0 r1) (IntKind.i64.wrap ((List.length (res117_0 r1) : Int) - 1))).1, (IntKind.i64.wrap ((at_ (e := YSpan) (res117_0 r1) (IntKind.i64.wrap ((List.length (res117_0 r1) : Int) - 1))).2 + a2)))) (res117_1 r1) (res117_2 r1)))
          else none)
         else none)
         (if (List.length ((res117_0 r1) : List YSpan.den) + List.length ([(0, a2)] : List YSpan.den)) * 16 ≤ 140737488355328 then
          (some (ret98 ((res117_0 r1) ++ [(0, a2)]) (res117_1 r1) (res117_2 r1)))
         else none))
       else none)
       (if (List.length ((res117_0 r1) : List YSpan.den) + List.length ([(0, a2)] : List YSpan.den)) * 16 ≤ 140737488355328 then
        (some (ret98 ((res117_0 r1) ++ [(0, a2)]) (res117_1 r1) (res117_2 r1)))
       else none)))))) := by kernel_rfl
theorem ok98 : fnOk os98 sig98 Try.f98 = true := by kernel_rfl
theorem fn98 : P.funcs[98]? = some Try.f98 := by kernel_rfl
noncomputable def F98 : sig98.Fn := fun x y => run T (env98 F117) os98 sig98 Try.f98 hs98 big x y
theorem S98 : Sound P 98 ⟨sig98, F98⟩ := sound_of (os := os98) (hs := hs98) (env_cons S117 (env_nil)) fn98 ok98 (fun x y out h => ⟨big, h⟩)
theorem e98 (a1 : Int) (a2 : Int) (b0_0 : List YSpan.den) (b0_1 : Int) (b0_2 : Int) : C98 F98 a1 a2 b0_0 b0_1 b0_2 =
  (bcond ((a2 : Int) == 0)
   (some (ret98 b0_0 b0_1 b0_2))
   (bcond ((a1 : Int) == 1)
    (some (ret98 b0_0 (IntKind.i64.wrap (b0_1 + a2)) b0_2))
    (bcond ((a1 : Int) == 2)
     (some (ret98 b0_0 b0_1 (IntKind.i64.wrap (b0_2 + a2))))
     ((C117 F117 b0_0 b0_1 b0_2).bind fun r1 =>
      (bcond ((decide (((IntKind.i64.wrap ((List.length (res117_0 r1) : Int) - 1)) : Int) ≥ 0)) == true)
       (if 0 ≤ ((IntKind.i64.wrap ((List.length (res117_0 r1) : Int) - 1)) : Int) ∧ ((IntKind.i64.wrap ((List.length (res117_0 r1) : Int) - 1)) : Int) < (List.length (res117_0 r1) : Int) then
        (bcond (((at_ (e := YSpan) (res117_0 r1) (IntKind.i64.wrap ((List.length (res117_0 r1) : Int) - 1))).1 : Int) == 0)
         (if 0 ≤ ((IntKind.i64.wrap ((List.length (res117_0 r1) : Int) - 1)) : Int) ∧ ((IntKind.i64.wrap ((List.length (res117_0 r1) : Int) - 1)) : Int) < (List.length (res117_0 r1) : Int) then
          (if 0 ≤ ((IntKind.i64.wrap ((List.length (res117_0 r1) : Int) - 1)) : Int) ∧ ((IntKind.i64.wrap ((List.length (res117_0 r1) : Int) - 1)) : Int) < (List.length (res117_0 r1) : Int) then
           (some (ret98 (List.set (res117_0 r1) (Int.toNat (IntKind.i64.wrap ((List.length (res117_0 r1) : Int) - 1))) ((at_ (e := YSpan) (res117_0 r1) (IntKind.i64.wrap ((List.length (res117_0 r1) : Int) - 1))).1, (IntKind.i64.wrap ((at_ (e := YSpan) (res117_0 r1) (IntKind.i64.wrap ((List.length (res117_0 r1) : Int) - 1))).2 + a2)))) (res117_1 r1) (res117_2 r1)))
          else none)
         else none)
         (if (List.length ((res117_0 r1) : List YSpan.den) + List.length ([(0, a2)] : List YSpan.den)) * 16 ≤ 140737488355328 then
          (some (ret98 ((res117_0 r1) ++ [(0, a2)]) (res117_1 r1) (res117_2 r1)))
         else none))
       else none)
       (if (List.length ((res117_0 r1) : List YSpan.den) + List.length ([(0, a2)] : List YSpan.den)) * 16 ≤ 140737488355328 then
        (some (ret98 ((res117_0 r1) ++ [(0, a2)]) (res117_1 r1) (res117_2 r1)))
       else none)))))) := run98 F117 big a1 a2 b0_0 b0_1 b0_2

/-! ### (*chancery/axis.writer).done -/
def sig99 : Sig := ⟨[.p 0], [[.oo 80 YSpan, .fr (.int .i64), .fr (.int .i64)]], [(false, [.fr (.list YSpan)]), (false, [.fr (.int .i64)])]⟩
def C99 (F : sig99.Fn) (b0_0 : List YSpan.den) (b0_1 : Int) (b0_2 : Int) : Option sig99.Out := F () (((some b0_0), b0_1, b0_2, ()), ())
def ret99 (v0 : List YSpan.den) (v1 : Int) (v2 : Option (List YSpan.den)) (v3 : Int) (v4 : Int) : sig99.Out := (((v0, ()), (v1, ()), ()), ((v2, v3, v4, ()), ()))
def res99_0 (r : sig99.Out) : List YSpan.den := r.1.1.1
@[simp] theorem res99_0_ret (v0 : List YSpan.den) (v1 : Int) (v2 : Option (List YSpan.den)) (v3 : Int) (v4 : Int) : res99_0 (ret99 v0 v1 v2 v3 v4) = v0 := rfl
def res99_1 (r : sig99.Out) : Int := r.1.2.1.1
@[simp] theorem res99_1_ret (v0 : List YSpan.den) (v1 : Int) (v2 : Option (List YSpan.den)) (v3 : Int) (v4 : Int) : res99_1 (ret99 v0 v1 v2 v3 v4) = v1 := rfl
def res99_2 (r : sig99.Out) : Option (List YSpan.den) := r.2.1.1
@[simp] theorem res99_2_ret (v0 : List YSpan.den) (v1 : Int) (v2 : Option (List YSpan.den)) (v3 : Int) (v4 : Int) : res99_2 (ret99 v0 v1 v2 v3 v4) = v2 := rfl
def res99_3 (r : sig99.Out) : Int := r.2.1.2.1
@[simp] theorem res99_3_ret (v0 : List YSpan.den) (v1 : Int) (v2 : Option (List YSpan.den)) (v3 : Int) (v4 : Int) : res99_3 (ret99 v0 v1 v2 v3 v4) = v3 := rfl
def res99_4 (r : sig99.Out) : Int := r.2.1.2.2.1
@[simp] theorem res99_4_ret (v0 : List YSpan.den) (v1 : Int) (v2 : Option (List YSpan.den)) (v3 : Int) (v4 : Int) : res99_4 (ret99 v0 v1 v2 v3 v4) = v4 := rfl
def os99 : List (Nat × Ord) := []
def hs99 : List Keep := []
@[reducible] def env99 (F117 : sig117.Fn) (F61 : sig61.Fn) : Env := [(117, ⟨sig117, F117⟩), (61, ⟨sig61, F61⟩)]
theorem run99 (F117 : sig117.Fn) (F61 : sig61.Fn) (n : Nat) (b0_0 : List YSpan.den) (b0_1 : Int) (b0_2 : Int) : C99 (fun x y => run T (env99 F117 F61) os99 sig99 Try.f99 hs99 n x y) b0_0 b0_1 b0_2 =
  ((C117 F117 b0_0 b0_1 b0_2).bind fun r1 =>
   ((C61 F61 (res117_0 r1)).bind fun r2 =>
    (bcond (((res61_0 r2) : Int) != 0)
     (some (ret99 [] 3 (some (res117_0 r1)) (res117_1 r1) (res117_2 r1)))
     (some (ret99 (res117_0 r1) 0 none (res117_1 r1) (res117_2 r1)))))) := by kernel_rfl
theorem ok99 : fnOk os99 sig99 Try.f99 = true := by kernel_rfl
theorem fn99 : P.funcs[99]? = some Try.f99 := by kernel_rfl
noncomputable def F99 : sig99.Fn := fun x y => run T (env99 F117 F61) os99 sig99 Try.f99 hs99 big x y
theorem S99 : Sound P 99 ⟨sig99, F99⟩ := sound_of (os := os99) (hs := hs99) (env_cons S117 (env_cons S61 (env_nil))) fn99 ok99 (fun x y out h => ⟨big, h⟩)
theorem e99 (b0_0 : List YSpan.den) (b0_1 : Int) (b0_2 : Int) : C99 F99 b0_0 b0_1 b0_2 =
  ((C117 F117 b0_0 b0_1 b0_2).bind fun r1 =>
   ((C61 F61 (res117_0 r1)).bind fun r2 =>
    (bcond (((res61_0 r2) : Int) != 0)
     (some (ret99 [] 3 (some (res117_0 r1)) (res117_1 r1) (res117_2 r1)))
     (some (ret99 (res117_0 r1) 0 none (res117_1 r1) (res117_2 r1)))))) := run99 F117 F61 big b0_0 b0_1 b0_2

/-! ### chancery/axis.Keep -/
def sig60 : Sig := ⟨[.v false (.int .i64)], [], [(false, [.fr (.list YSpan)]), (false, [.fr (.int .i64)])]⟩
def C60 (F : sig60.Fn) (a0 : Int) : Option sig60.Out := F (a0, ()) ()
def ret60 (v0 : List YSpan.den) (v1 : Int) : sig60.Out := (((v0, ()), (v1, ()), ()), ())
def res60_0 (r : sig60.Out) : List YSpan.den := r.1.1.1
@[simp] theorem res60_0_ret (v0 : List YSpan.den) (v1 : Int) : res60_0 (ret60 v0 v1) = v0 := rfl
def res60_1 (r : sig60.Out) : Int := r.1.2.1.1
@[simp] theorem res60_1_ret (v0 : List YSpan.den) (v1 : Int) : res60_1 (ret60 v0 v1) = v1 := rfl
def os60 : List (Nat × Ord) := []
def hs60 : List Keep := []
@[reducible] def env60 (F98 : sig98.Fn) (F99 : sig99.Fn) : Env := [(98, ⟨sig98, F98⟩), (99, ⟨sig99, F99⟩)]
theorem run60 (F98 : sig98.Fn) (F99 : sig99.Fn) (n : Nat) (a0 : Int) : C60 (fun x y => run T (env60 F98 F99) os60 sig60 Try.f60 hs60 n x y) a0 =
  (bcond ((decide ((a0 : Int) < 0)) == false)
   (bcond (decide ((a0 : Int) > 2147483647))
    (some (ret60 [] 2))
    ((C98 F98 0 a0 [] 0 0).bind fun r1 =>
     ((C99 F99 (res98_0 r1) (res98_1 r1) (res98_2 r1)).bind fun r2 =>
      (some (ret60 (res99_0 r2) (res99_1 r2))))))
   (some (ret60 [] 2))) := by kernel_rfl
theorem ok60 : fnOk os60 sig60 Try.f60 = true := by kernel_rfl
theorem fn60 : P.funcs[60]? = some Try.f60 := by kernel_rfl
noncomputable def F60 : sig60.Fn := fun x y => run T (env60 F98 F99) os60 sig60 Try.f60 hs60 big x y
theorem S60 : Sound P 60 ⟨sig60, F60⟩ := sound_of (os := os60) (hs := hs60) (env_cons S98 (env_cons S99 (env_nil))) fn60 ok60 (fun x y out h => ⟨big, h⟩)
theorem e60 (a0 : Int) : C60 F60 a0 =
  (bcond ((decide ((a0 : Int) < 0)) == false)
   (bcond (decide ((a0 : Int) > 2147483647))
    (some (ret60 [] 2))
    ((C98 F98 0 a0 [] 0 0).bind fun r1 =>
     ((C99 F99 (res98_0 r1) (res98_1 r1) (res98_2 r1)).bind fun r2 =>
      (some (ret60 (res99_0 r2) (res99_1 r2))))))
   (some (ret60 [] 2))) := run60 F98 F99 big a0

/-! ### chancery/axis.Lengths -/
def sig59 : Sig := ⟨[.v false (.list YSpan)], [], [(false, [.fr (.int .i64)]), (false, [.fr (.int .i64)]), (false, [.fr (.int .i64)])]⟩
def C59 (F : sig59.Fn) (a0 : List YSpan.den) : Option sig59.Out := F (a0, ()) ()
def ret59 (v0 : Int) (v1 : Int) (v2 : Int) : sig59.Out := (((v0, ()), (v1, ()), (v2, ()), ()), ())
def res59_0 (r : sig59.Out) : Int := r.1.1.1
@[simp] theorem res59_0_ret (v0 : Int) (v1 : Int) (v2 : Int) : res59_0 (ret59 v0 v1 v2) = v0 := rfl
def res59_1 (r : sig59.Out) : Int := r.1.2.1.1
@[simp] theorem res59_1_ret (v0 : Int) (v1 : Int) (v2 : Int) : res59_1 (ret59 v0 v1 v2) = v1 := rfl
def res59_2 (r : sig59.Out) : Int := r.1.2.2.1.1
@[simp] theorem res59_2_ret (v0 : Int) (v1 : Int) (v2 : Int) : res59_2 (ret59 v0 v1 v2) = v2 := rfl
def os59 : List (Nat × Ord) := []
def hs59 : List Keep := []
@[reducible] def env59 (F61 : sig61.Fn) (F82 : sig82.Fn) : Env := [(61, ⟨sig61, F61⟩), (82, ⟨sig82, F82⟩)]
theorem run59 (F61 : sig61.Fn) (F82 : sig82.Fn) (n : Nat) (a0 : List YSpan.den) : C59 (fun x y => run T (env59 F61 F82) os59 sig59 Try.f59 hs59 n x y) a0 =
  ((C61 F61 a0).bind fun r1 =>
   (bcond (((res61_0 r1) : Int) != 0)
    (some (ret59 0 0 (res61_0 r1)))
    ((C82 F82 a0).bind fun r2 =>
     (some (ret59 (res82_0 r2) (res82_1 r2) 0))))) := by kernel_rfl
theorem ok59 : fnOk os59 sig59 Try.f59 = true := by kernel_rfl
theorem fn59 : P.funcs[59]? = some Try.f59 := by kernel_rfl
noncomputable def F59 : sig59.Fn := fun x y => run T (env59 F61 F82) os59 sig59 Try.f59 hs59 big x y
theorem S59 : Sound P 59 ⟨sig59, F59⟩ := sound_of (os := os59) (hs := hs59) (env_cons S61 (env_cons S82 (env_nil))) fn59 ok59 (fun x y out h => ⟨big, h⟩)
theorem e59 (a0 : List YSpan.den) : C59 F59 a0 =
  ((C61 F61 a0).bind fun r1 =>
   (bcond (((res61_0 r1) : Int) != 0)
    (some (ret59 0 0 (res61_0 r1)))
    ((C82 F82 a0).bind fun r2 =>
     (some (ret59 (res82_0 r2) (res82_1 r2) 0))))) := run59 F61 F82 big a0

/-! ### chancery/chancerylaw1.AxisCheckSays -/
def sig11 : Sig := ⟨[.v false (.list YSpan), .v false (.int .i64)], [], [(false, [.fr .bool])]⟩
def C11 (F : sig11.Fn) (a0 : List YSpan.den) (a1 : Int) : Option sig11.Out := F (a0, a1, ()) ()
def ret11 (v0 : Bool) : sig11.Out := (((v0, ()), ()), ())
def res11_0 (r : sig11.Out) : Bool := r.1.1.1
@[simp] theorem res11_0_ret (v0 : Bool) : res11_0 (ret11 v0) = v0 := rfl
def os11 : List (Nat × Ord) := []
def hs11 : List Keep := [[(0, []), (5, []), (6, []), (83, []), (84, [])]]
@[reducible] def env11 (F27 : sig27.Fn) (F59 : sig59.Fn) (F29 : sig29.Fn) (F60 : sig60.Fn) (F61 : sig61.Fn) : Env := [(27, ⟨sig27, F27⟩), (59, ⟨sig59, F59⟩), (29, ⟨sig29, F29⟩), (60, ⟨sig60, F60⟩), (61, ⟨sig61, F61⟩)]
noncomputable def L11_0 (F27 : sig27.Fn) (F59 : sig59.Fn) (F29 : sig29.Fn) (F60 : sig60.Fn) (F61 : sig61.Fn) (n m1 : Nat) (x0 : List YSpan.den) (x5 : Int) (x6 : Int) (x83 : Int) (x84 : Int) : Option sig11.Out :=
  loopAt T (env11 F27 F59 F29 F60 F61) os11 sig11 Try.f11 hs11 n [.sr, .sr, .sr, .sr, .sr, .sr, .sr, .sr, .sl, .sr, .bl] m1 (mk 120 [(0, .cs false [.val (.list YSpan) x0]), (5, .cs false [.val (.int .i64) x5]), (6, .cs false [.val (.int .i64) x6]), (83, .cs false [.val (.int .i64) x83]), (84, .cs false [.val (.int .i64) x84])])
theorem L11_0_step (F27 : sig27.Fn) (F59 : sig59.Fn) (F29 : sig29.Fn) (F60 : sig60.Fn) (F61 : sig61.Fn) (n m1 : Nat) (x0 : List YSpan.den) (x5 : Int) (x6 : Int) (x83 : Int) (x84 : Int) : L11_0 F27 F59 F29 F60 F61 n (m1 + 1) x0 x5 x6 x83 x84 =
  (bcond (decide ((x84 : Int) < x83))
   (if 0 ≤ (x84 : Int) ∧ (x84 : Int) < (List.length x0 : Int) then
    (bcond (((at_ (e := YSpan) x0 x84).1 : Int) != 1)
     (if 0 ≤ (x84 : Int) ∧ (x84 : Int) < (List.length x0 : Int) then
      (if 0 ≤ (x84 : Int) ∧ (x84 : Int) < (List.length x0 : Int) then
       (bcond (((at_ (e := YSpan) x0 x84).1 : Int) != 2)
        (if 0 ≤ (x84 : Int) ∧ (x84 : Int) < (List.length x0 : Int) then
         (L11_0 F27 F59 F29 F60 F61 n m1 x0 (IntKind.i64.wrap (x5 - (at_ (e := YSpan) x0 x84).2)) (IntKind.i64.wrap (x6 - (at_ (e := YSpan) x0 x84).2)) x83 (IntKind.i64.wrap (x84 + 1)))
        else none)
        (L11_0 F27 F59 F29 F60 F61 n m1 x0 (IntKind.i64.wrap (x5 - (at_ (e := YSpan) x0 x84).2)) x6 x83 (IntKind.i64.wrap (x84 + 1))))
      else none)
     else none)
     (if 0 ≤ (x84 : Int) ∧ (x84 : Int) < (List.length x0 : Int) then
      (bcond (((at_ (e := YSpan) x0 x84).1 : Int) != 2)
       (if 0 ≤ (x84 : Int) ∧ (x84 : Int) < (List.length x0 : Int) then
        (L11_0 F27 F59 F29 F60 F61 n m1 x0 x5 (IntKind.i64.wrap (x6 - (at_ (e := YSpan) x0 x84).2)) x83 (IntKind.i64.wrap (x84 + 1)))
       else none)
       (L11_0 F27 F59 F29 F60 F61 n m1 x0 x5 x6 x83 (IntKind.i64.wrap (x84 + 1))))
     else none))
   else none)
   (bcond (((x5 : Int) == 0) == true)
    (some (ret11 ((x6 : Int) == 0)))
    (some (ret11 false)))) := by kernel_rfl
theorem run11 (F27 : sig27.Fn) (F59 : sig59.Fn) (F29 : sig29.Fn) (F60 : sig60.Fn) (F61 : sig61.Fn) (n : Nat) (a0 : List YSpan.den) (a1 : Int) : C11 (fun x y => run T (env11 F27 F59 F29 F60 F61) os11 sig11 Try.f11 hs11 n x y) a0 a1 =
  ((C27 F27 ).bind fun r1 =>
   (bcond (!(res27_0 r1))
    (some (ret11 false))
    ((C59 F59 a0).bind fun r2 =>
     ((C29 F29 a0).bind fun r3 =>
      ((C60 F60 a1).bind fun r4 =>
       ((C61 F61 a0).bind fun r5 =>
        (bcond ((((res61_0 r5) : Int) != (res29_0 r3)) == false)
         (bcond (((res59_2 r2) : Int) != (res29_0 r3))
          (some (ret11 false))
          (bcond ((decide ((a1 : Int) < 0)) == false)
           (bcond (decide ((a1 : Int) > 2147483647))
            (bcond ((((res60_1 r4) : Int) != 2) == false)
             (bcond (((List.length (res60_0 r4) : Int) : Int) != 0)
              (some (ret11 false))
              (bcond (((res29_0 r3) : Int) != 0)
               (bcond ((((res59_0 r2) : Int) == 0) == true)
                (some (ret11 (((res59_1 r2) : Int) == 0)))
                (some (ret11 false)))
               (L11_0 F27 F59 F29 F60 F61 n n a0 (res59_0 r2) (res59_1 r2) (List.length a0 : Int) 0)))
             (some (ret11 false)))
            ((C59 F59 (res60_0 r4)).bind fun r6 =>
             (bcond ((((res60_1 r4) : Int) != 0) == false)
              (bcond ((((res59_2 r6) : Int) != 0) == false)
               (bcond ((((res59_0 r6) : Int) != a1) == false)
                (bcond (((res59_1 r6) : Int) != a1)
                 (some (ret11 false))
                 (bcond (((res29_0 r3) : Int) != 0)
                  (bcond ((((res59_0 r2) : Int) == 0) == true)
                   (some (ret11 (((res59_1 r2) : Int) == 0)))
                   (some (ret11 false)))
                  (L11_0 F27 F59 F29 F60 F61 n n a0 (res59_0 r2) (res59_1 r2) (List.length a0 : Int) 0)))
                (some (ret11 false)))
               (some (ret11 false)))
              (some (ret11 false)))))
           (bcond ((((res60_1 r4) : Int) != 2) == false)
            (bcond (((List.length (res60_0 r4) : Int) : Int) != 0)
             (some (ret11 false))
             (bcond (((res29_0 r3) : Int) != 0)
              (bcond ((((res59_0 r2) : Int) == 0) == true)
               (some (ret11 (((res59_1 r2) : Int) == 0)))
               (some (ret11 false)))
              (L11_0 F27 F59 F29 F60 F61 n n a0 (res59_0 r2) (res59_1 r2) (List.length a0 : Int) 0)))
            (some (ret11 false)))))
         (some (ret11 false))))))))) := by kernel_rfl
theorem ok11 : fnOk os11 sig11 Try.f11 = true := by kernel_rfl
theorem fn11 : P.funcs[11]? = some Try.f11 := by kernel_rfl
noncomputable def F11 : sig11.Fn := fun x y => run T (env11 F27 F59 F29 F60 F61) os11 sig11 Try.f11 hs11 big x y
theorem S11 : Sound P 11 ⟨sig11, F11⟩ := sound_of (os := os11) (hs := hs11) (env_cons S27 (env_cons S59 (env_cons S29 (env_cons S60 (env_cons S61 (env_nil)))))) fn11 ok11 (fun x y out h => ⟨big, h⟩)
theorem e11 (a0 : List YSpan.den) (a1 : Int) : C11 F11 a0 a1 =
  ((C27 F27 ).bind fun r1 =>
   (bcond (!(res27_0 r1))
    (some (ret11 false))
    ((C59 F59 a0).bind fun r2 =>
     ((C29 F29 a0).bind fun r3 =>
      ((C60 F60 a1).bind fun r4 =>
       ((C61 F61 a0).bind fun r5 =>
        (bcond ((((res61_0 r5) : Int) != (res29_0 r3)) == false)
         (bcond (((res59_2 r2) : Int) != (res29_0 r3))
          (some (ret11 false))
          (bcond ((decide ((a1 : Int) < 0)) == false)
           (bcond (decide ((a1 : Int) > 2147483647))
            (bcond ((((res60_1 r4) : Int) != 2) == false)
             (bcond (((List.length (res60_0 r4) : Int) : Int) != 0)
              (some (ret11 false))
              (bcond (((res29_0 r3) : Int) != 0)
               (bcond ((((res59_0 r2) : Int) == 0) == true)
                (some (ret11 (((res59_1 r2) : Int) == 0)))
                (some (ret11 false)))
               (L11_0 F27 F59 F29 F60 F61 big big a0 (res59_0 r2) (res59_1 r2) (List.length a0 : Int) 0)))
             (some (ret11 false)))
            ((C59 F59 (res60_0 r4)).bind fun r6 =>
             (bcond ((((res60_1 r4) : Int) != 0) == false)
              (bcond ((((res59_2 r6) : Int) != 0) == false)
               (bcond ((((res59_0 r6) : Int) != a1) == false)
                (bcond (((res59_1 r6) : Int) != a1)
                 (some (ret11 false))
                 (bcond (((res29_0 r3) : Int) != 0)
                  (bcond ((((res59_0 r2) : Int) == 0) == true)
                   (some (ret11 (((res59_1 r2) : Int) == 0)))
                   (some (ret11 false)))
                  (L11_0 F27 F59 F29 F60 F61 big big a0 (res59_0 r2) (res59_1 r2) (List.length a0 : Int) 0)))
                (some (ret11 false)))
               (some (ret11 false)))
              (some (ret11 false)))))
           (bcond ((((res60_1 r4) : Int) != 2) == false)
            (bcond (((List.length (res60_0 r4) : Int) : Int) != 0)
             (some (ret11 false))
             (bcond (((res29_0 r3) : Int) != 0)
              (bcond ((((res59_0 r2) : Int) == 0) == true)
               (some (ret11 (((res59_1 r2) : Int) == 0)))
               (some (ret11 false)))
              (L11_0 F27 F59 F29 F60 F61 big big a0 (res59_0 r2) (res59_1 r2) (List.length a0 : Int) 0)))
            (some (ret11 false)))))
         (some (ret11 false))))))))) := run11 F27 F59 F29 F60 F61 big a0 a1
end Go.Ev
