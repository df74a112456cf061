/- Functions, step by step. -/
import Derived.Test.YthbpjpeogchkpaaGBase
namespace Go.Ev
set_option linter.unusedVariables false
set_option maxRecDepth 100000
open Go.Proofs

/-! ### chancery/attr.Name -/
def sig68 : Sig := ⟨[.v false .str], [], [(false, [.fr .bool])]⟩
def C68 (F : sig68.Fn) (a0 : List UInt8) : Option sig68.Out := F (a0, ()) ()
def ret68 (v0 : Bool) : sig68.Out := (((v0, ()), ()), ())
def res68_0 (r : sig68.Out) : Bool := r.1.1.1
@[simp] theorem res68_0_ret (v0 : Bool) : res68_0 (ret68 v0) = v0 := rfl
def os68 : List (Nat × Ord) := []
def hs68 : List Keep := [[(0, []), (23, []), (24, [])]]
@[reducible] def env68 : Env := []
noncomputable def L68_0 (n m1 : Nat) (x0 : List UInt8) (x23 : Int) (x24 : Int) : Option sig68.Out :=
  loopAt T (env68) os68 sig68 Try.f68 hs68 n [.sr, .sr, .sl, .sr, .bl] m1 (mk 53 [(0, .cs false [.val .str x0]), (23, .cs false [.val (.int .i64) x23]), (24, .cs false [.val (.int .i64) x24])])
theorem L68_0_step (n m1 : Nat) (x0 : List UInt8) (x23 : Int) (x24 : Int) : L68_0 n (m1 + 1) x0 x23 x24 =
  (bcond (decide ((x24 : Int) < x23))
   (if 0 ≤ (x24 : Int) ∧ (x24 : Int) < (List.length x0 : Int) then
    (bcond ((decide ((((List.getD (x0 : List UInt8) (Int.toNat x24) 0).toNat : Int) : Int) < 97)) == false)
     (bcond ((decide ((((List.getD (x0 : List UInt8) (Int.toNat x24) 0).toNat : Int) : Int) > 122)) == true)
      (bcond ((decide ((((List.getD (x0 : List UInt8) (Int.toNat x24) 0).toNat : Int) : Int) < 48)) == false)
       (bcond ((decide ((((List.getD (x0 : List UInt8) (Int.toNat x24) 0).toNat : Int) : Int) > 57)) == true)
        (bcond (((((List.getD (x0 : List UInt8) (Int.toNat x24) 0).toNat : Int) : Int) != 46) == true)
         (bcond ((((List.getD (x0 : List UInt8) (Int.toNat x24) 0).toNat : Int) : Int) != 45)
          (some (ret68 false))
          (L68_0 n m1 x0 x23 (IntKind.i64.wrap (x24 + 1))))
         (L68_0 n m1 x0 x23 (IntKind.i64.wrap (x24 + 1))))
        (L68_0 n m1 x0 x23 (IntKind.i64.wrap (x24 + 1))))
       (bcond (((((List.getD (x0 : List UInt8) (Int.toNat x24) 0).toNat : Int) : Int) != 46) == true)
        (bcond ((((List.getD (x0 : List UInt8) (Int.toNat x24) 0).toNat : Int) : Int) != 45)
         (some (ret68 false))
         (L68_0 n m1 x0 x23 (IntKind.i64.wrap (x24 + 1))))
        (L68_0 n m1 x0 x23 (IntKind.i64.wrap (x24 + 1)))))
      (L68_0 n m1 x0 x23 (IntKind.i64.wrap (x24 + 1))))
     (bcond ((decide ((((List.getD (x0 : List UInt8) (Int.toNat x24) 0).toNat : Int) : Int) < 48)) == false)
      (bcond ((decide ((((List.getD (x0 : List UInt8) (Int.toNat x24) 0).toNat : Int) : Int) > 57)) == true)
       (bcond (((((List.getD (x0 : List UInt8) (Int.toNat x24) 0).toNat : Int) : Int) != 46) == true)
        (bcond ((((List.getD (x0 : List UInt8) (Int.toNat x24) 0).toNat : Int) : Int) != 45)
         (some (ret68 false))
         (L68_0 n m1 x0 x23 (IntKind.i64.wrap (x24 + 1))))
        (L68_0 n m1 x0 x23 (IntKind.i64.wrap (x24 + 1))))
       (L68_0 n m1 x0 x23 (IntKind.i64.wrap (x24 + 1))))
      (bcond (((((List.getD (x0 : List UInt8) (Int.toNat x24) 0).toNat : Int) : Int) != 46) == true)
       (bcond ((((List.getD (x0 : List UInt8) (Int.toNat x24) 0).toNat : Int) : Int) != 45)
        (some (ret68 false))
        (L68_0 n m1 x0 x23 (IntKind.i64.wrap (x24 + 1))))
       (L68_0 n m1 x0 x23 (IntKind.i64.wrap (x24 + 1))))))
   else none)
   (some (ret68 true))) := by kernel_rfl
theorem run68 (n : Nat) (a0 : List UInt8) : C68 (fun x y => run T (env68) os68 sig68 Try.f68 hs68 n x y) a0 =
  (bcond (((a0 : List UInt8) == []) == false)
   (bcond ((decide (((List.length a0 : Int) : Int) > 24)) == false)
    (if 0 ≤ (0 : Int) ∧ (0 : Int) < (List.length a0 : Int) then
     (bcond ((decide ((((List.getD (a0 : List UInt8) (Int.toNat 0) 0).toNat : Int) : Int) < 97)) == false)
      (if 0 ≤ (0 : Int) ∧ (0 : Int) < (List.length a0 : Int) then
       (bcond (decide ((((List.getD (a0 : List UInt8) (Int.toNat 0) 0).toNat : Int) : Int) > 122))
        (some (ret68 false))
        (L68_0 n n a0 (List.length a0 : Int) 0))
      else none)
      (some (ret68 false)))
    else none)
    (some (ret68 false)))
   (some (ret68 false))) := by kernel_rfl
theorem ok68 : fnOk os68 sig68 Try.f68 = true := by kernel_rfl
theorem fn68 : P.funcs[68]? = some Try.f68 := by kernel_rfl
noncomputable def F68 : sig68.Fn := fun x y => run T (env68) os68 sig68 Try.f68 hs68 big x y
theorem S68 : Sound P 68 ⟨sig68, F68⟩ := sound_of (os := os68) (hs := hs68) (env_nil) fn68 ok68 (fun x y out h => ⟨big, h⟩)
theorem e68 (a0 : List UInt8) : C68 F68 a0 =
  (bcond (((a0 : List UInt8) == []) == false)
   (bcond ((decide (((List.length a0 : Int) : Int) > 24)) == false)
    (if 0 ≤ (0 : Int) ∧ (0 : Int) < (List.length a0 : Int) then
     (bcond ((decide ((((List.getD (a0 : List UInt8) (Int.toNat 0) 0).toNat : Int) : Int) < 97)) == false)
      (if 0 ≤ (0 : Int) ∧ (0 : Int) < (List.length a0 : Int) then
       (bcond (decide ((((List.getD (a0 : List UInt8) (Int.toNat 0) 0).toNat : Int) : Int) > 122))
        (some (ret68 false))
        (L68_0 big big a0 (List.length a0 : Int) 0))
      else none)
      (some (ret68 false)))
    else none)
    (some (ret68 false)))
   (some (ret68 false))) := run68 big a0

/-! ### chancery/attr.Value -/
def sig69 : Sig := ⟨[.v false .str], [], [(false, [.fr .bool])]⟩
def C69 (F : sig69.Fn) (a0 : List UInt8) : Option sig69.Out := F (a0, ()) ()
def ret69 (v0 : Bool) : sig69.Out := (((v0, ()), ()), ())
def res69_0 (r : sig69.Out) : Bool := r.1.1.1
@[simp] theorem res69_0_ret (v0 : Bool) : res69_0 (ret69 v0) = v0 := rfl
def os69 : List (Nat × Ord) := []
def hs69 : List Keep := [[(0, []), (12, []), (13, [])]]
@[reducible] def env69 : Env := []
noncomputable def L69_0 (n m1 : Nat) (x0 : List UInt8) (x12 : Int) (x13 : Int) : Option sig69.Out :=
  loopAt T (env69) os69 sig69 Try.f69 hs69 n [.sr, .sr, .sl, .sr, .bl] m1 (mk 27 [(0, .cs false [.val .str x0]), (12, .cs false [.val (.int .i64) x12]), (13, .cs false [.val (.int .i64) x13])])
theorem L69_0_step (n m1 : Nat) (x0 : List UInt8) (x12 : Int) (x13 : Int) : L69_0 n (m1 + 1) x0 x12 x13 =
  (bcond (decide ((x13 : Int) < x12))
   (if 0 ≤ (x13 : Int) ∧ (x13 : Int) < (List.length x0 : Int) then
    (bcond ((decide ((((List.getD (x0 : List UInt8) (Int.toNat x13) 0).toNat : Int) : Int) < 32)) == false)
     (if 0 ≤ (x13 : Int) ∧ (x13 : Int) < (List.length x0 : Int) then
      (bcond (decide ((((List.getD (x0 : List UInt8) (Int.toNat x13) 0).toNat : Int) : Int) > 126))
       (some (ret69 false))
       (L69_0 n m1 x0 x12 (IntKind.i64.wrap (x13 + 1))))
     else none)
     (some (ret69 false)))
   else none)
   (some (ret69 true))) := by kernel_rfl
theorem run69 (n : Nat) (a0 : List UInt8) : C69 (fun x y => run T (env69) os69 sig69 Try.f69 hs69 n x y) a0 =
  (bcond (((a0 : List UInt8) == []) == false)
   (bcond (decide (((List.length a0 : Int) : Int) > 200))
    (some (ret69 false))
    (L69_0 n n a0 (List.length a0 : Int) 0))
   (some (ret69 false))) := by kernel_rfl
theorem ok69 : fnOk os69 sig69 Try.f69 = true := by kernel_rfl
theorem fn69 : P.funcs[69]? = some Try.f69 := by kernel_rfl
noncomputable def F69 : sig69.Fn := fun x y => run T (env69) os69 sig69 Try.f69 hs69 big x y
theorem S69 : Sound P 69 ⟨sig69, F69⟩ := sound_of (os := os69) (hs := hs69) (env_nil) fn69 ok69 (fun x y out h => ⟨big, h⟩)
theorem e69 (a0 : List UInt8) : C69 F69 a0 =
  (bcond (((a0 : List UInt8) == []) == false)
   (bcond (decide (((List.length a0 : Int) : Int) > 200))
    (some (ret69 false))
    (L69_0 big big a0 (List.length a0 : Int) 0))
   (some (ret69 false))) := run69 big a0

/-! ### chancery/attr.check -/
def sig57 : Sig := ⟨[.v false (.list YAttr), .v false .bool], [], [(false, [.fr (.int .i64)])]⟩
def C57 (F : sig57.Fn) (a0 : List YAttr.den) (a1 : Bool) : Option sig57.Out := F (a0, a1, ()) ()
def ret57 (v0 : Int) : sig57.Out := (((v0, ()), ()), ())
def res57_0 (r : sig57.Out) : Int := r.1.1.1
@[simp] theorem res57_0_ret (v0 : Int) : res57_0 (ret57 v0) = v0 := rfl
def os57 : List (Nat × Ord) := [(8, .st 0 (.st 1 (.st 2 (.st 3 (.st 5 (.st 6 (.st 7 (.st 8 (.st 9 (.st 4 (.st 10 (.st 11 (.st 12 (.st 13 (.nil)))))))))))))))]
def hs57 : List Keep := [[(0, []), (1, []), (7, []), (8, []), (9, [])]]
@[reducible] def env57 (F68 : sig68.Fn) (F69 : sig69.Fn) : Env := [(68, ⟨sig68, F68⟩), (69, ⟨sig69, F69⟩)]
noncomputable def L57_0 (F68 : sig68.Fn) (F69 : sig69.Fn) (n m1 : Nat) (x0 : List YAttr.den) (x1 : Bool) (x7 : List YAttr.den) (x8 : Int) (x9 : Int) : Option sig57.Out :=
  loopAt T (env57 F68 F69) os57 sig57 Try.f57 hs57 n [.sr, .sl, .sr, .bl] m1 (mk 48 [(0, .cs false [.val (.list YAttr) x0]), (1, .cs false [.val .bool x1]), (7, .cs false [.val (.list YAttr) x7]), (8, .cs false [.val (.int .i64) x8]), (9, .cs false [.val (.int .i64) x9])])
theorem L57_0_step (F68 : sig68.Fn) (F69 : sig69.Fn) (n m1 : Nat) (x0 : List YAttr.den) (x1 : Bool) (x7 : List YAttr.den) (x8 : Int) (x9 : Int) : L57_0 F68 F69 n (m1 + 1) x0 x1 x7 x8 x9 =
  (bcond (decide ((x9 : Int) < x8))
   (if 0 ≤ (x9 : Int) ∧ (x9 : Int) < (List.length x7 : Int) then
    ((C68 F68 (at_ (e := YAttr) x7 x9).1).bind fun r1 =>
     (bcond (!(res68_0 r1))
      (some (ret57 9))
      ((C69 F69 (at_ (e := YAttr) x7 x9).2).bind fun r2 =>
       (bcond ((!(res69_0 r2)) == true)
        (bcond (x1 == true)
         (bcond (!(((at_ (e := YAttr) x7 x9).2 : List UInt8) == []))
          (some (ret57 23))
          (bcond ((decide ((x9 : Int) > 0)) == true)
           (if 0 ≤ ((IntKind.i64.wrap (x9 - 1)) : Int) ∧ ((IntKind.i64.wrap (x9 - 1)) : Int) < (List.length x0 : Int) then
            (bcond (strLess (at_ (e := YAttr) x7 x9).1 (at_ (e := YAttr) x0 (IntKind.i64.wrap (x9 - 1))).1 || ((at_ (e := YAttr) x7 x9).1 : List UInt8) == (at_ (e := YAttr) x0 (IntKind.i64.wrap (x9 - 1))).1)
             (some (ret57 5))
             (L57_0 F68 F69 n m1 x0 x1 x7 x8 (IntKind.i64.wrap (x9 + 1))))
           else none)
           (L57_0 F68 F69 n m1 x0 x1 x7 x8 (IntKind.i64.wrap (x9 + 1)))))
         (some (ret57 23)))
        (bcond ((decide ((x9 : Int) > 0)) == true)
         (if 0 ≤ ((IntKind.i64.wrap (x9 - 1)) : Int) ∧ ((IntKind.i64.wrap (x9 - 1)) : Int) < (List.length x0 : Int) then
          (bcond (strLess (at_ (e := YAttr) x7 x9).1 (at_ (e := YAttr) x0 (IntKind.i64.wrap (x9 - 1))).1 || ((at_ (e := YAttr) x7 x9).1 : List UInt8) == (at_ (e := YAttr) x0 (IntKind.i64.wrap (x9 - 1))).1)
           (some (ret57 5))
           (L57_0 F68 F69 n m1 x0 x1 x7 x8 (IntKind.i64.wrap (x9 + 1))))
         else none)
         (L57_0 F68 F69 n m1 x0 x1 x7 x8 (IntKind.i64.wrap (x9 + 1))))))))
   else none)
   (some (ret57 0))) := by kernel_rfl
theorem run57 (F68 : sig68.Fn) (F69 : sig69.Fn) (n : Nat) (a0 : List YAttr.den) (a1 : Bool) : C57 (fun x y => run T (env57 F68 F69) os57 sig57 Try.f57 hs57 n x y) a0 a1 =
  (L57_0 F68 F69 n n a0 a1 a0 (List.length a0 : Int) 0) := by kernel_rfl
theorem ok57 : fnOk os57 sig57 Try.f57 = true := by kernel_rfl
theorem fn57 : P.funcs[57]? = some Try.f57 := by kernel_rfl
noncomputable def F57 : sig57.Fn := fun x y => run T (env57 F68 F69) os57 sig57 Try.f57 hs57 big x y
theorem S57 : Sound P 57 ⟨sig57, F57⟩ := sound_of (os := os57) (hs := hs57) (env_cons S68 (env_cons S69 (env_nil))) fn57 ok57 (fun x y out h => ⟨big, h⟩)
theorem e57 (a0 : List YAttr.den) (a1 : Bool) : C57 F57 a0 a1 =
  (L57_0 F68 F69 big big a0 a1 a0 (List.length a0 : Int) 0) := run57 F68 F69 big a0 a1

/-! ### chancery/attr.Check -/
def sig71 : Sig := ⟨[.v false (.list YAttr)], [], [(false, [.fr (.int .i64)])]⟩
def C71 (F : sig71.Fn) (a0 : List YAttr.den) : Option sig71.Out := F (a0, ()) ()
def ret71 (v0 : Int) : sig71.Out := (((v0, ()), ()), ())
def res71_0 (r : sig71.Out) : Int := r.1.1.1
@[simp] theorem res71_0_ret (v0 : Int) : res71_0 (ret71 v0) = v0 := rfl
def os71 : List (Nat × Ord) := []
def hs71 : List Keep := []
@[reducible] def env71 (F57 : sig57.Fn) : Env := [(57, ⟨sig57, F57⟩)]
theorem run71 (F57 : sig57.Fn) (n : Nat) (a0 : List YAttr.den) : C71 (fun x y => run T (env71 F57) os71 sig71 Try.f71 hs71 n x y) a0 =
  ((C57 F57 a0 false).bind fun r1 =>
   (some (ret71 (res57_0 r1)))) := by kernel_rfl
theorem ok71 : fnOk os71 sig71 Try.f71 = true := by kernel_rfl
theorem fn71 : P.funcs[71]? = some Try.f71 := by kernel_rfl
noncomputable def F71 : sig71.Fn := fun x y => run T (env71 F57) os71 sig71 Try.f71 hs71 big x y
theorem S71 : Sound P 71 ⟨sig71, F71⟩ := sound_of (os := os71) (hs := hs71) (env_cons S57 (env_nil)) fn71 ok71 (fun x y out h => ⟨big, h⟩)
theorem e71 (a0 : List YAttr.den) : C71 F71 a0 =
  ((C57 F57 a0 false).bind fun r1 =>
   (some (ret71 (res57_0 r1)))) := run71 F57 big a0

/-! ### chancery/attr.CheckChange -/
def sig40 : Sig := ⟨[.v false (.list YAttr)], [], [(false, [.fr (.int .i64)])]⟩
def C40 (F : sig40.Fn) (a0 : List YAttr.den) : Option sig40.Out := F (a0, ()) ()
def ret40 (v0 : Int) : sig40.Out := (((v0, ()), ()), ())
def res40_0 (r : sig40.Out) : Int := r.1.1.1
@[simp] theorem res40_0_ret (v0 : Int) : res40_0 (ret40 v0) = v0 := rfl
def os40 : List (Nat × Ord) := []
def hs40 : List Keep := []
@[reducible] def env40 (F57 : sig57.Fn) : Env := [(57, ⟨sig57, F57⟩)]
theorem run40 (F57 : sig57.Fn) (n : Nat) (a0 : List YAttr.den) : C40 (fun x y => run T (env40 F57) os40 sig40 Try.f40 hs40 n x y) a0 =
  ((C57 F57 a0 true).bind fun r1 =>
   (some (ret40 (res57_0 r1)))) := by kernel_rfl
theorem ok40 : fnOk os40 sig40 Try.f40 = true := by kernel_rfl
theorem fn40 : P.funcs[40]? = some Try.f40 := by kernel_rfl
noncomputable def F40 : sig40.Fn := fun x y => run T (env40 F57) os40 sig40 Try.f40 hs40 big x y
theorem S40 : Sound P 40 ⟨sig40, F40⟩ := sound_of (os := os40) (hs := hs40) (env_cons S57 (env_nil)) fn40 ok40 (fun x y out h => ⟨big, h⟩)
theorem e40 (a0 : List YAttr.den) : C40 F40 a0 =
  ((C57 F57 a0 true).bind fun r1 =>
   (some (ret40 (res57_0 r1)))) := run40 F57 big a0

/-! ### chancery/attr.Raw$1 -/
def sig63 : Sig := ⟨[.v true YAttr, .v true YAttr, .p 0], [[.ow 80 YAttr]], []⟩
def C63 (F : sig63.Fn) (a0 : YAttr.den) (a1 : YAttr.den) (b0_0 : List YAttr.den) : Option sig63.Out := F (a0, a1, ()) ((b0_0, ()), ())
def ret63 (v0 : List YAttr.den) : sig63.Out := ((), ((v0, ()), ()))
def res63_0 (r : sig63.Out) : List YAttr.den := r.2.1.1
@[simp] theorem res63_0_ret (v0 : List YAttr.den) : res63_0 (ret63 v0) = v0 := rfl
def os63 : List (Nat × Ord) := []
def hs63 : List Keep := []
@[reducible] def env63 : Env := []
theorem run63 (n : Nat) (a0 : YAttr.den) (a1 : YAttr.den) (b0_0 : List YAttr.den) : C63 (fun x y => run T (env63) os63 sig63 Try.f63 hs63 n x y) a0 a1 b0_0 =
  (bcond ((a1.1 : List UInt8) == [])
   (if (List.length (b0_0 : List YAttr.den) + List.length ([a0] : List YAttr.den)) * 32 ≤ 140737488355328 then
    (some (ret63 (b0_0 ++ [a0])))
   else none)
   (bcond (!((a1.2 : List UInt8) == []))
    (if (List.length (b0_0 : List YAttr.den) + List.length ([a1] : List YAttr.den)) * 32 ≤ 140737488355328 then
     (some (ret63 (b0_0 ++ [a1])))
    else none)
    (some (ret63 b0_0)))) := by kernel_rfl
theorem ok63 : fnOk os63 sig63 Try.f63 = true := by kernel_rfl
theorem fn63 : P.funcs[63]? = some Try.f63 := by kernel_rfl
noncomputable def F63 : sig63.Fn := fun x y => run T (env63) os63 sig63 Try.f63 hs63 big x y
theorem S63 : Sound P 63 ⟨sig63, F63⟩ := sound_of (os := os63) (hs := hs63) (env_nil) fn63 ok63 (fun x y out h => ⟨big, h⟩)
theorem e63 (a0 : YAttr.den) (a1 : YAttr.den) (b0_0 : List YAttr.den) : C63 F63 a0 a1 b0_0 =
  (bcond ((a1.1 : List UInt8) == [])
   (if (List.length (b0_0 : List YAttr.den) + List.length ([a0] : List YAttr.den)) * 32 ≤ 140737488355328 then
    (some (ret63 (b0_0 ++ [a0])))
   else none)
   (bcond (!((a1.2 : List UInt8) == []))
    (if (List.length (b0_0 : List YAttr.den) + List.length ([a1] : List YAttr.den)) * 32 ≤ 140737488355328 then
     (some (ret63 (b0_0 ++ [a1])))
    else none)
    (some (ret63 b0_0)))) := run63 big a0 a1 b0_0

/-! ### chancery/attr.both -/
def sig61_63 : Sig := ⟨[.v false (.list YAttr), .v false (.list YAttr), .f 63 [0]], [[.ow 80 YAttr]], []⟩
def C61_63 (F : sig61_63.Fn) (a0 : List YAttr.den) (a1 : List YAttr.den) (b0_0 : List YAttr.den) : Option sig61_63.Out := F (a0, a1, ()) ((b0_0, ()), ())
def ret61_63 (v0 : List YAttr.den) : sig61_63.Out := ((), ((v0, ()), ()))
def res61_63_0 (r : sig61_63.Out) : List YAttr.den := r.2.1.1
@[simp] theorem res61_63_0_ret (v0 : List YAttr.den) : res61_63_0 (ret61_63 v0) = v0 := rfl
def os61_63 : List (Nat × Ord) := [(2, .st 0 (.st 1 (.st 2 (.st 3 (.st 5 (.st 6 (.st 7 (.st 4 (.st 8 (.st 9 (.nil))))))))))), (4, .st 0 (.st 1 (.st 2 (.st 3 (.st 4 (.st 5 (.st 6 (.st 7 (.st 8 (.st 9 (.st 10 (.st 11 (.st 12 (.st 13 (.st 15 (.st 16 (.st 17 (.st 18 (.st 14 (.st 19 (.st 20 (.st 21 (.st 22 (.st 23 (.nil))))))))))))))))))))))))), (7, .st 0 (.st 1 (.st 2 (.st 3 (.st 4 (.st 5 (.st 6 (.st 7 (.st 8 (.st 10 (.st 11 (.st 12 (.st 13 (.st 9 (.st 14 (.st 15 (.st 16 (.st 17 (.nil)))))))))))))))))))]
def hs61_63 : List Keep := [[(0, []), (1, []), (2, []), (6, []), (7, []), (92, [(0, 80, YAttr)])]]
@[reducible] def env61_63 (F63 : sig63.Fn) : Env := [(63, ⟨sig63, F63⟩)]
noncomputable def L61_63_0 (F63 : sig63.Fn) (n m1 : Nat) (x0 : List YAttr.den) (x1 : List YAttr.den) (x6 : Int) (x7 : Int) (x92 : List YAttr.den) : Option sig61_63.Out :=
  loopAt T (env61_63 F63) os61_63 sig61_63 Try.f61 hs61_63 n [.sr, .bl] m1 (mk 93 [(0, .cs false [.val (.list YAttr) x0]), (1, .cs false [.val (.list YAttr) x1]), (2, .cs false [.clo 63 [92]]), (6, .cs false [.val (.int .i64) x6]), (7, .cs false [.val (.int .i64) x7]), (92, .box [.own 80 YAttr x92])])
theorem L61_63_0_step (F63 : sig63.Fn) (n m1 : Nat) (x0 : List YAttr.den) (x1 : List YAttr.den) (x6 : Int) (x7 : Int) (x92 : List YAttr.den) : L61_63_0 F63 n (m1 + 1) x0 x1 x6 x7 x92 =
  (bcond ((decide ((x6 : Int) < (List.length x0 : Int))) == false)
   (bcond (decide ((x7 : Int) < (List.length x1 : Int)))
    (bcond (((x7 : Int) == (List.length x1 : Int)) == false)
     (bcond ((decide ((x6 : Int) < (List.length x0 : Int))) == true)
      (if 0 ≤ (x6 : Int) ∧ (x6 : Int) < (List.length x0 : Int) then
       (if 0 ≤ (x7 : Int) ∧ (x7 : Int) < (List.length x1 : Int) then
        (bcond (strLess (at_ (e := YAttr) x0 x6).1 (at_ (e := YAttr) x1 x7).1)
         (if 0 ≤ (x6 : Int) ∧ (x6 : Int) < (List.length x0 : Int) then
          ((C63 F63 (at_ (e := YAttr) x0 x6) ([], []) x92).bind fun r1 =>
           (L61_63_0 F63 n m1 x0 x1 (IntKind.i64.wrap (x6 + 1)) x7 (res63_0 r1)))
         else none)
         (bcond (((x6 : Int) == (List.length x0 : Int)) == false)
          (if 0 ≤ (x7 : Int) ∧ (x7 : Int) < (List.length x1 : Int) then
           (if 0 ≤ (x6 : Int) ∧ (x6 : Int) < (List.length x0 : Int) then
            (bcond (strLess (at_ (e := YAttr) x1 x7).1 (at_ (e := YAttr) x0 x6).1)
             (if 0 ≤ (x7 : Int) ∧ (x7 : Int) < (List.length x1 : Int) then
              ((C63 F63 ([], []) (at_ (e := YAttr) x1 x7) x92).bind fun r1 =>
               (L61_63_0 F63 n m1 x0 x1 x6 (IntKind.i64.wrap (x7 + 1)) (res63_0 r1)))
             else none)
             (if 0 ≤ (x6 : Int) ∧ (x6 : Int) < (List.length x0 : Int) then
              (if 0 ≤ (x7 : Int) ∧ (x7 : Int) < (List.length x1 : Int) then
               ((C63 F63 (at_ (e := YAttr) x0 x6) (at_ (e := YAttr) x1 x7) x92).bind fun r1 =>
                (L61_63_0 F63 n m1 x0 x1 (IntKind.i64.wrap (x6 + 1)) (IntKind.i64.wrap (x7 + 1)) (res63_0 r1)))
              else none)
             else none))
           else none)
          else none)
          (if 0 ≤ (x7 : Int) ∧ (x7 : Int) < (List.length x1 : Int) then
           ((C63 F63 ([], []) (at_ (e := YAttr) x1 x7) x92).bind fun r1 =>
            (L61_63_0 F63 n m1 x0 x1 x6 (IntKind.i64.wrap (x7 + 1)) (res63_0 r1)))
          else none)))
       else none)
      else none)
      (bcond (((x6 : Int) == (List.length x0 : Int)) == false)
       (if 0 ≤ (x7 : Int) ∧ (x7 : Int) < (List.length x1 : Int) then
        (if 0 ≤ (x6 : Int) ∧ (x6 : Int) < (List.length x0 : Int) then
         (bcond (strLess (at_ (e := YAttr) x1 x7).1 (at_ (e := YAttr) x0 x6).1)
          (if 0 ≤ (x7 : Int) ∧ (x7 : Int) < (List.length x1 : Int) then
           ((C63 F63 ([], []) (at_ (e := YAttr) x1 x7) x92).bind fun r1 =>
            (L61_63_0 F63 n m1 x0 x1 x6 (IntKind.i64.wrap (x7 + 1)) (res63_0 r1)))
          else none)
          (if 0 ≤ (x6 : Int) ∧ (x6 : Int) < (List.length x0 : Int) then
           (if 0 ≤ (x7 : Int) ∧ (x7 : Int) < (List.length x1 : Int) then
            ((C63 F63 (at_ (e := YAttr) x0 x6) (at_ (e := YAttr) x1 x7) x92).bind fun r1 =>
             (L61_63_0 F63 n m1 x0 x1 (IntKind.i64.wrap (x6 + 1)) (IntKind.i64.wrap (x7 + 1)) (res63_0 r1)))
           else none)
          else none))
        else none)
       else none)
       (if 0 ≤ (x7 : Int) ∧ (x7 : Int) < (List.length x1 : Int) then
        ((C63 F63 ([], []) (at_ (e := YAttr) x1 x7) x92).bind fun r1 =>
         (L61_63_0 F63 n m1 x0 x1 x6 (IntKind.i64.wrap (x7 + 1)) (res63_0 r1)))
       else none)))
     (if 0 ≤ (x6 : Int) ∧ (x6 : Int) < (List.length x0 : Int) then
      ((C63 F63 (at_ (e := YAttr) x0 x6) ([], []) x92).bind fun r1 =>
       (L61_63_0 F63 n m1 x0 x1 (IntKind.i64.wrap (x6 + 1)) x7 (res63_0 r1)))
     else none))
    (some (ret61_63 x92)))
   (bcond (((x7 : Int) == (List.length x1 : Int)) == false)
    (bcond ((decide ((x6 : Int) < (List.length x0 : Int))) == true)
     (if 0 ≤ (x6 : Int) ∧ (x6 : Int) < (List.length x0 : Int) then
      (if 0 ≤ (x7 : Int) ∧ (x7 : Int) < (List.length x1 : Int) then
       (bcond (strLess (at_ (e := YAttr) x0 x6).1 (at_ (e := YAttr) x1 x7).1)
        (if 0 ≤ (x6 : Int) ∧ (x6 : Int) < (List.length x0 : Int) then
         ((C63 F63 (at_ (e := YAttr) x0 x6) ([], []) x92).bind fun r1 =>
          (L61_63_0 F63 n m1 x0 x1 (IntKind.i64.wrap (x6 + 1)) x7 (res63_0 r1)))
        else none)
        (bcond (((x6 : Int) == (List.length x0 : Int)) == false)
         (if 0 ≤ (x7 : Int) ∧ (x7 : Int) < (List.length x1 : Int) then
          (if 0 ≤ (x6 : Int) ∧ (x6 : Int) < (List.length x0 : Int) then
           (bcond (strLess (at_ (e := YAttr) x1 x7).1 (at_ (e := YAttr) x0 x6).1)
            (if 0 ≤ (x7 : Int) ∧ (x7 : Int) < (List.length x1 : Int) then
             ((C63 F63 ([], []) (at_ (e := YAttr) x1 x7) x92).bind fun r1 =>
              (L61_63_0 F63 n m1 x0 x1 x6 (IntKind.i64.wrap (x7 + 1)) (res63_0 r1)))
            else none)
            (if 0 ≤ (x6 : Int) ∧ (x6 : Int) < (List.length x0 : Int) then
             (if 0 ≤ (x7 : Int) ∧ (x7 : Int) < (List.length x1 : Int) then
              ((C63 F63 (at_ (e := YAttr) x0 x6) (at_ (e := YAttr) x1 x7) x92).bind fun r1 =>
               (L61_63_0 F63 n m1 x0 x1 (IntKind.i64.wrap (x6 + 1)) (IntKind.i64.wrap (x7 + 1)) (res63_0 r1)))
             else none)
            else none))
          else none)
         else none)
         (if 0 ≤ (x7 : Int) ∧ (x7 : Int) < (List.length x1 : Int) then
          ((C63 F63 ([], []) (at_ (e := YAttr) x1 x7) x92).bind fun r1 =>
           (L61_63_0 F63 n m1 x0 x1 x6 (IntKind.i64.wrap (x7 + 1)) (res63_0 r1)))
         else none)))
      else none)
     else none)
     (bcond (((x6 : Int) == (List.length x0 : Int)) == false)
      (if 0 ≤ (x7 : Int) ∧ (x7 : Int) < (List.length x1 : Int) then
       (if 0 ≤ (x6 : Int) ∧ (x6 : Int) < (List.length x0 : Int) then
        (bcond (strLess (at_ (e := YAttr) x1 x7).1 (at_ (e := YAttr) x0 x6).1)
         (if 0 ≤ (x7 : Int) ∧ (x7 : Int) < (List.length x1 : Int) then
          ((C63 F63 ([], []) (at_ (e := YAttr) x1 x7) x92).bind fun r1 =>
           (L61_63_0 F63 n m1 x0 x1 x6 (IntKind.i64.wrap (x7 + 1)) (res63_0 r1)))
         else none)
         (if 0 ≤ (x6 : Int) ∧ (x6 : Int) < (List.length x0 : Int) then
          (if 0 ≤ (x7 : Int) ∧ (x7 : Int) < (List.length x1 : Int) then
           ((C63 F63 (at_ (e := YAttr) x0 x6) (at_ (e := YAttr) x1 x7) x92).bind fun r1 =>
            (L61_63_0 F63 n m1 x0 x1 (IntKind.i64.wrap (x6 + 1)) (IntKind.i64.wrap (x7 + 1)) (res63_0 r1)))
          else none)
         else none))
       else none)
      else none)
      (if 0 ≤ (x7 : Int) ∧ (x7 : Int) < (List.length x1 : Int) then
       ((C63 F63 ([], []) (at_ (e := YAttr) x1 x7) x92).bind fun r1 =>
        (L61_63_0 F63 n m1 x0 x1 x6 (IntKind.i64.wrap (x7 + 1)) (res63_0 r1)))
      else none)))
    (if 0 ≤ (x6 : Int) ∧ (x6 : Int) < (List.length x0 : Int) then
     ((C63 F63 (at_ (e := YAttr) x0 x6) ([], []) x92).bind fun r1 =>
      (L61_63_0 F63 n m1 x0 x1 (IntKind.i64.wrap (x6 + 1)) x7 (res63_0 r1)))
    else none))) := by kernel_rfl
theorem run61_63 (F63 : sig63.Fn) (n : Nat) (a0 : List YAttr.den) (a1 : List YAttr.den) (b0_0 : List YAttr.den) : C61_63 (fun x y => run T (env61_63 F63) os61_63 sig61_63 Try.f61 hs61_63 n x y) a0 a1 b0_0 =
  (L61_63_0 F63 n n a0 a1 0 0 b0_0) := by kernel_rfl
theorem ok61_63 : fnOk os61_63 sig61_63 Try.f61 = true := by kernel_rfl
theorem fn61_63 : P.funcs[61]? = some Try.f61 := by kernel_rfl
noncomputable def F61_63 : sig61_63.Fn := fun x y => run T (env61_63 F63) os61_63 sig61_63 Try.f61 hs61_63 big x y
theorem S61_63 : Sound P 61 ⟨sig61_63, F61_63⟩ := sound_of (os := os61_63) (hs := hs61_63) (env_cons S63 (env_nil)) fn61_63 ok61_63 (fun x y out h => ⟨big, h⟩)
theorem e61_63 (a0 : List YAttr.den) (a1 : List YAttr.den) (b0_0 : List YAttr.den) : C61_63 F61_63 a0 a1 b0_0 =
  (L61_63_0 F63 big big a0 a1 0 0 b0_0) := run61_63 F63 big a0 a1 b0_0

/-! ### chancery/attr.Raw -/
def sig49 : Sig := ⟨[.v false (.list YAttr), .v false (.list YAttr)], [], [(false, [.fr (.list YAttr)])]⟩
def C49 (F : sig49.Fn) (a0 : List YAttr.den) (a1 : List YAttr.den) : Option sig49.Out := F (a0, a1, ()) ()
def ret49 (v0 : List YAttr.den) : sig49.Out := (((v0, ()), ()), ())
def res49_0 (r : sig49.Out) : List YAttr.den := r.1.1.1
@[simp] theorem res49_0_ret (v0 : List YAttr.den) : res49_0 (ret49 v0) = v0 := rfl
def os49 : List (Nat × Ord) := []
def hs49 : List Keep := []
@[reducible] def env49 (F61_63 : sig61_63.Fn) : Env := [(61, ⟨sig61_63, F61_63⟩)]
theorem run49 (F61_63 : sig61_63.Fn) (n : Nat) (a0 : List YAttr.den) (a1 : List YAttr.den) : C49 (fun x y => run T (env49 F61_63) os49 sig49 Try.f49 hs49 n x y) a0 a1 =
  ((C61_63 F61_63 a0 a1 []).bind fun r1 =>
   (some (ret49 (res61_63_0 r1)))) := by kernel_rfl
theorem ok49 : fnOk os49 sig49 Try.f49 = true := by kernel_rfl
theorem fn49 : P.funcs[49]? = some Try.f49 := by kernel_rfl
noncomputable def F49 : sig49.Fn := fun x y => run T (env49 F61_63) os49 sig49 Try.f49 hs49 big x y
theorem S49 : Sound P 49 ⟨sig49, F49⟩ := sound_of (os := os49) (hs := hs49) (env_cons S61_63 (env_nil)) fn49 ok49 (fun x y out h => ⟨big, h⟩)
theorem e49 (a0 : List YAttr.den) (a1 : List YAttr.den) : C49 F49 a0 a1 =
  ((C61_63 F61_63 a0 a1 []).bind fun r1 =>
   (some (ret49 (res61_63_0 r1)))) := run49 F61_63 big a0 a1

/-! ### chancery/attr.Change$1 -/
def sig62 : Sig := ⟨[.v true YAttr, .v true YAttr, .p 0], [[.ow 80 YAttr]], []⟩
def C62 (F : sig62.Fn) (a0 : YAttr.den) (a1 : YAttr.den) (b0_0 : List YAttr.den) : Option sig62.Out := F (a0, a1, ()) ((b0_0, ()), ())
def ret62 (v0 : List YAttr.den) : sig62.Out := ((), ((v0, ()), ()))
def res62_0 (r : sig62.Out) : List YAttr.den := r.2.1.1
@[simp] theorem res62_0_ret (v0 : List YAttr.den) : res62_0 (ret62 v0) = v0 := rfl
def os62 : List (Nat × Ord) := []
def hs62 : List Keep := []
@[reducible] def env62 : Env := []
theorem run62 (n : Nat) (a0 : YAttr.den) (a1 : YAttr.den) (b0_0 : List YAttr.den) : C62 (fun x y => run T (env62) os62 sig62 Try.f62 hs62 n x y) a0 a1 b0_0 =
  (bcond ((a1.1 : List UInt8) == [])
   (if (List.length (b0_0 : List YAttr.den) + List.length ([(a0.1, [])] : List YAttr.den)) * 32 ≤ 140737488355328 then
    (some (ret62 (b0_0 ++ [(a0.1, [])])))
   else none)
   (bcond (!(((a0.1 : List UInt8) == a1.1) && (((a0.2 : List UInt8) == a1.2) && true)))
    (if (List.length (b0_0 : List YAttr.den) + List.length ([a1] : List YAttr.den)) * 32 ≤ 140737488355328 then
     (some (ret62 (b0_0 ++ [a1])))
    else none)
    (some (ret62 b0_0)))) := by kernel_rfl
theorem ok62 : fnOk os62 sig62 Try.f62 = true := by kernel_rfl
theorem fn62 : P.funcs[62]? = some Try.f62 := by kernel_rfl
noncomputable def F62 : sig62.Fn := fun x y => run T (env62) os62 sig62 Try.f62 hs62 big x y
theorem S62 : Sound P 62 ⟨sig62, F62⟩ := sound_of (os := os62) (hs := hs62) (env_nil) fn62 ok62 (fun x y out h => ⟨big, h⟩)
theorem e62 (a0 : YAttr.den) (a1 : YAttr.den) (b0_0 : List YAttr.den) : C62 F62 a0 a1 b0_0 =
  (bcond ((a1.1 : List UInt8) == [])
   (if (List.length (b0_0 : List YAttr.den) + List.length ([(a0.1, [])] : List YAttr.den)) * 32 ≤ 140737488355328 then
    (some (ret62 (b0_0 ++ [(a0.1, [])])))
   else none)
   (bcond (!(((a0.1 : List UInt8) == a1.1) && (((a0.2 : List UInt8) == a1.2) && true)))
    (if (List.length (b0_0 : List YAttr.den) + List.length ([a1] : List YAttr.den)) * 32 ≤ 140737488355328 then
     (some (ret62 (b0_0 ++ [a1])))
    else none)
    (some (ret62 b0_0)))) := run62 big a0 a1 b0_0

/-! ### chancery/attr.both -/
def sig61_62 : Sig := ⟨[.v false (.list YAttr), .v false (.list YAttr), .f 62 [0]], [[.ow 80 YAttr]], []⟩
def C61_62 (F : sig61_62.Fn) (a0 : List YAttr.den) (a1 : List YAttr.den) (b0_0 : List YAttr.den) : Option sig61_62.Out := F (a0, a1, ()) ((b0_0, ()), ())
def ret61_62 (v0 : List YAttr.den) : sig61_62.Out := ((), ((v0, ()), ()))
def res61_62_0 (r : sig61_62.Out) : List YAttr.den := r.2.1.1
@[simp] theorem res61_62_0_ret (v0 : List YAttr.den) : res61_62_0 (ret61_62 v0) = v0 := rfl
def os61_62 : List (Nat × Ord) := [(2, .st 0 (.st 1 (.st 2 (.st 3 (.st 5 (.st 6 (.st 7 (.st 4 (.st 8 (.st 9 (.nil))))))))))), (4, .st 0 (.st 1 (.st 2 (.st 3 (.st 4 (.st 5 (.st 6 (.st 7 (.st 8 (.st 9 (.st 10 (.st 11 (.st 12 (.st 13 (.st 15 (.st 16 (.st 17 (.st 18 (.st 14 (.st 19 (.st 20 (.st 21 (.st 22 (.st 23 (.nil))))))))))))))))))))))))), (7, .st 0 (.st 1 (.st 2 (.st 3 (.st 4 (.st 5 (.st 6 (.st 7 (.st 8 (.st 10 (.st 11 (.st 12 (.st 13 (.st 9 (.st 14 (.st 15 (.st 16 (.st 17 (.nil)))))))))))))))))))]
def hs61_62 : List Keep := [[(0, []), (1, []), (2, []), (6, []), (7, []), (92, [(0, 80, YAttr)])]]
@[reducible] def env61_62 (F62 : sig62.Fn) : Env := [(62, ⟨sig62, F62⟩)]
noncomputable def L61_62_0 (F62 : sig62.Fn) (n m1 : Nat) (x0 : List YAttr.den) (x1 : List YAttr.den) (x6 : Int) (x7 : Int) (x92 : List YAttr.den) : Option sig61_62.Out :=
  loopAt T (env61_62 F62) os61_62 sig61_62 Try.f61 hs61_62 n [.sr, .bl] m1 (mk 93 [(0, .cs false [.val (.list YAttr) x0]), (1, .cs false [.val (.list YAttr) x1]), (2, .cs false [.clo 62 [92]]), (6, .cs false [.val (.int .i64) x6]), (7, .cs false [.val (.int .i64) x7]), (92, .box [.own 80 YAttr x92])])
theorem L61_62_0_step (F62 : sig62.Fn) (n m1 : Nat) (x0 : List YAttr.den) (x1 : List YAttr.den) (x6 : Int) (x7 : Int) (x92 : List YAttr.den) : L61_62_0 F62 n (m1 + 1) x0 x1 x6 x7 x92 =
  (bcond ((decide ((x6 : Int) < (List.length x0 : Int))) == false)
   (bcond (decide ((x7 : Int) < (List.length x1 : Int)))
    (bcond (((x7 : Int) == (List.length x1 : Int)) == false)
     (bcond ((decide ((x6 : Int) < (List.length x0 : Int))) == true)
      (if 0 ≤ (x6 : Int) ∧ (x6 : Int) < (List.length x0 : Int) then
       (if 0 ≤ (x7 : Int) ∧ (x7 : Int) < (List.length x1 : Int) then
        (bcond (strLess (at_ (e := YAttr) x0 x6).1 (at_ (e := YAttr) x1 x7).1)
         (if 0 ≤ (x6 : Int) ∧ (x6 : Int) < (List.length x0 : Int) then
          ((C62 F62 (at_ (e := YAttr) x0 x6) ([], []) x92).bind fun r1 =>
           (L61_62_0 F62 n m1 x0 x1 (IntKind.i64.wrap (x6 + 1)) x7 (res62_0 r1)))
         else none)
         (bcond (((x6 : Int) == (List.length x0 : Int)) == false)
          (if 0 ≤ (x7 : Int) ∧ (x7 : Int) < (List.length x1 : Int) then
           (if 0 ≤ (x6 : Int) ∧ (x6 : Int) < (List.length x0 : Int) then
            (bcond (strLess (at_ (e := YAttr) x1 x7).1 (at_ (e := YAttr) x0 x6).1)
             (if 0 ≤ (x7 : Int) ∧ (x7 : Int) < (List.length x1 : Int) then
              ((C62 F62 ([], []) (at_ (e := YAttr) x1 x7) x92).bind fun r1 =>
               (L61_62_0 F62 n m1 x0 x1 x6 (IntKind.i64.wrap (x7 + 1)) (res62_0 r1)))
             else none)
             (if 0 ≤ (x6 : Int) ∧ (x6 : Int) < (List.length x0 : Int) then
              (if 0 ≤ (x7 : Int) ∧ (x7 : Int) < (List.length x1 : Int) then
               ((C62 F62 (at_ (e := YAttr) x0 x6) (at_ (e := YAttr) x1 x7) x92).bind fun r1 =>
                (L61_62_0 F62 n m1 x0 x1 (IntKind.i64.wrap (x6 + 1)) (IntKind.i64.wrap (x7 + 1)) (res62_0 r1)))
              else none)
             else none))
           else none)
          else none)
          (if 0 ≤ (x7 : Int) ∧ (x7 : Int) < (List.length x1 : Int) then
           ((C62 F62 ([], []) (at_ (e := YAttr) x1 x7) x92).bind fun r1 =>
            (L61_62_0 F62 n m1 x0 x1 x6 (IntKind.i64.wrap (x7 + 1)) (res62_0 r1)))
          else none)))
       else none)
      else none)
      (bcond (((x6 : Int) == (List.length x0 : Int)) == false)
       (if 0 ≤ (x7 : Int) ∧ (x7 : Int) < (List.length x1 : Int) then
        (if 0 ≤ (x6 : Int) ∧ (x6 : Int) < (List.length x0 : Int) then
         (bcond (strLess (at_ (e := YAttr) x1 x7).1 (at_ (e := YAttr) x0 x6).1)
          (if 0 ≤ (x7 : Int) ∧ (x7 : Int) < (List.length x1 : Int) then
           ((C62 F62 ([], []) (at_ (e := YAttr) x1 x7) x92).bind fun r1 =>
            (L61_62_0 F62 n m1 x0 x1 x6 (IntKind.i64.wrap (x7 + 1)) (res62_0 r1)))
          else none)
          (if 0 ≤ (x6 : Int) ∧ (x6 : Int) < (List.length x0 : Int) then
           (if 0 ≤ (x7 : Int) ∧ (x7 : Int) < (List.length x1 : Int) then
            ((C62 F62 (at_ (e := YAttr) x0 x6) (at_ (e := YAttr) x1 x7) x92).bind fun r1 =>
             (L61_62_0 F62 n m1 x0 x1 (IntKind.i64.wrap (x6 + 1)) (IntKind.i64.wrap (x7 + 1)) (res62_0 r1)))
           else none)
          else none))
        else none)
       else none)
       (if 0 ≤ (x7 : Int) ∧ (x7 : Int) < (List.length x1 : Int) then
        ((C62 F62 ([], []) (at_ (e := YAttr) x1 x7) x92).bind fun r1 =>
         (L61_62_0 F62 n m1 x0 x1 x6 (IntKind.i64.wrap (x7 + 1)) (res62_0 r1)))
       else none)))
     (if 0 ≤ (x6 : Int) ∧ (x6 : Int) < (List.length x0 : Int) then
      ((C62 F62 (at_ (e := YAttr) x0 x6) ([], []) x92).bind fun r1 =>
       (L61_62_0 F62 n m1 x0 x1 (IntKind.i64.wrap (x6 + 1)) x7 (res62_0 r1)))
     else none))
    (some (ret61_62 x92)))
   (bcond (((x7 : Int) == (List.length x1 : Int)) == false)
    (bcond ((decide ((x6 : Int) < (List.length x0 : Int))) == true)
     (if 0 ≤ (x6 : Int) ∧ (x6 : Int) < (List.length x0 : Int) then
      (if 0 ≤ (x7 : Int) ∧ (x7 : Int) < (List.length x1 : Int) then
       (bcond (strLess (at_ (e := YAttr) x0 x6).1 (at_ (e := YAttr) x1 x7).1)
        (if 0 ≤ (x6 : Int) ∧ (x6 : Int) < (List.length x0 : Int) then
         ((C62 F62 (at_ (e := YAttr) x0 x6) ([], []) x92).bind fun r1 =>
          (L61_62_0 F62 n m1 x0 x1 (IntKind.i64.wrap (x6 + 1)) x7 (res62_0 r1)))
        else none)
        (bcond (((x6 : Int) == (List.length x0 : Int)) == false)
         (if 0 ≤ (x7 : Int) ∧ (x7 : Int) < (List.length x1 : Int) then
          (if 0 ≤ (x6 : Int) ∧ (x6 : Int) < (List.length x0 : Int) then
           (bcond (strLess (at_ (e := YAttr) x1 x7).1 (at_ (e := YAttr) x0 x6).1)
            (if 0 ≤ (x7 : Int) ∧ (x7 : Int) < (List.length x1 : Int) then
             ((C62 F62 ([], []) (at_ (e := YAttr) x1 x7) x92).bind fun r1 =>
              (L61_62_0 F62 n m1 x0 x1 x6 (IntKind.i64.wrap (x7 + 1)) (res62_0 r1)))
            else none)
            (if 0 ≤ (x6 : Int) ∧ (x6 : Int) < (List.length x0 : Int) then
             (if 0 ≤ (x7 : Int) ∧ (x7 : Int) < (List.length x1 : Int) then
              ((C62 F62 (at_ (e := YAttr) x0 x6) (at_ (e := YAttr) x1 x7) x92).bind fun r1 =>
               (L61_62_0 F62 n m1 x0 x1 (IntKind.i64.wrap (x6 + 1)) (IntKind.i64.wrap (x7 + 1)) (res62_0 r1)))
             else none)
            else none))
          else none)
         else none)
         (if 0 ≤ (x7 : Int) ∧ (x7 : Int) < (List.length x1 : Int) then
          ((C62 F62 ([], []) (at_ (e := YAttr) x1 x7) x92).bind fun r1 =>
           (L61_62_0 F62 n m1 x0 x1 x6 (IntKind.i64.wrap (x7 + 1)) (res62_0 r1)))
         else none)))
      else none)
     else none)
     (bcond (((x6 : Int) == (List.length x0 : Int)) == false)
      (if 0 ≤ (x7 : Int) ∧ (x7 : Int) < (List.length x1 : Int) then
       (if 0 ≤ (x6 : Int) ∧ (x6 : Int) < (List.length x0 : Int) then
        (bcond (strLess (at_ (e := YAttr) x1 x7).1 (at_ (e := YAttr) x0 x6).1)
         (if 0 ≤ (x7 : Int) ∧ (x7 : Int) < (List.length x1 : Int) then
          ((C62 F62 ([], []) (at_ (e := YAttr) x1 x7) x92).bind fun r1 =>
           (L61_62_0 F62 n m1 x0 x1 x6 (IntKind.i64.wrap (x7 + 1)) (res62_0 r1)))
         else none)
         (if 0 ≤ (x6 : Int) ∧ (x6 : Int) < (List.length x0 : Int) then
          (if 0 ≤ (x7 : Int) ∧ (x7 : Int) < (List.length x1 : Int) then
           ((C62 F62 (at_ (e := YAttr) x0 x6) (at_ (e := YAttr) x1 x7) x92).bind fun r1 =>
            (L61_62_0 F62 n m1 x0 x1 (IntKind.i64.wrap (x6 + 1)) (IntKind.i64.wrap (x7 + 1)) (res62_0 r1)))
          else none)
         else none))
       else none)
      else none)
      (if 0 ≤ (x7 : Int) ∧ (x7 : Int) < (List.length x1 : Int) then
       ((C62 F62 ([], []) (at_ (e := YAttr) x1 x7) x92).bind fun r1 =>
        (L61_62_0 F62 n m1 x0 x1 x6 (IntKind.i64.wrap (x7 + 1)) (res62_0 r1)))
      else none)))
    (if 0 ≤ (x6 : Int) ∧ (x6 : Int) < (List.length x0 : Int) then
     ((C62 F62 (at_ (e := YAttr) x0 x6) ([], []) x92).bind fun r1 =>
      (L61_62_0 F62 n m1 x0 x1 (IntKind.i64.wrap (x6 + 1)) x7 (res62_0 r1)))
    else none))) := by kernel_rfl
theorem run61_62 (F62 : sig62.Fn) (n : Nat) (a0 : List YAttr.den) (a1 : List YAttr.den) (b0_0 : List YAttr.den) : C61_62 (fun x y => run T (env61_62 F62) os61_62 sig61_62 Try.f61 hs61_62 n x y) a0 a1 b0_0 =
  (L61_62_0 F62 n n a0 a1 0 0 b0_0) := by kernel_rfl
theorem ok61_62 : fnOk os61_62 sig61_62 Try.f61 = true := by kernel_rfl
theorem fn61_62 : P.funcs[61]? = some Try.f61 := by kernel_rfl
noncomputable def F61_62 : sig61_62.Fn := fun x y => run T (env61_62 F62) os61_62 sig61_62 Try.f61 hs61_62 big x y
theorem S61_62 : Sound P 61 ⟨sig61_62, F61_62⟩ := sound_of (os := os61_62) (hs := hs61_62) (env_cons S62 (env_nil)) fn61_62 ok61_62 (fun x y out h => ⟨big, h⟩)
theorem e61_62 (a0 : List YAttr.den) (a1 : List YAttr.den) (b0_0 : List YAttr.den) : C61_62 F61_62 a0 a1 b0_0 =
  (L61_62_0 F62 big big a0 a1 0 0 b0_0) := run61_62 F62 big a0 a1 b0_0

/-! ### chancery/attr.Change -/
def sig48 : Sig := ⟨[.v false (.list YAttr), .v false (.list YAttr)], [], [(false, [.fr (.list YAttr)])]⟩
def C48 (F : sig48.Fn) (a0 : List YAttr.den) (a1 : List YAttr.den) : Option sig48.Out := F (a0, a1, ()) ()
def ret48 (v0 : List YAttr.den) : sig48.Out := (((v0, ()), ()), ())
def res48_0 (r : sig48.Out) : List YAttr.den := r.1.1.1
@[simp] theorem res48_0_ret (v0 : List YAttr.den) : res48_0 (ret48 v0) = v0 := rfl
def os48 : List (Nat × Ord) := []
def hs48 : List Keep := []
@[reducible] def env48 (F61_62 : sig61_62.Fn) : Env := [(61, ⟨sig61_62, F61_62⟩)]
theorem run48 (F61_62 : sig61_62.Fn) (n : Nat) (a0 : List YAttr.den) (a1 : List YAttr.den) : C48 (fun x y => run T (env48 F61_62) os48 sig48 Try.f48 hs48 n x y) a0 a1 =
  ((C61_62 F61_62 a0 a1 []).bind fun r1 =>
   (some (ret48 (res61_62_0 r1)))) := by kernel_rfl
theorem ok48 : fnOk os48 sig48 Try.f48 = true := by kernel_rfl
theorem fn48 : P.funcs[48]? = some Try.f48 := by kernel_rfl
noncomputable def F48 : sig48.Fn := fun x y => run T (env48 F61_62) os48 sig48 Try.f48 hs48 big x y
theorem S48 : Sound P 48 ⟨sig48, F48⟩ := sound_of (os := os48) (hs := hs48) (env_cons S61_62 (env_nil)) fn48 ok48 (fun x y out h => ⟨big, h⟩)
theorem e48 (a0 : List YAttr.den) (a1 : List YAttr.den) : C48 F48 a0 a1 =
  ((C61_62 F61_62 a0 a1 []).bind fun r1 =>
   (some (ret48 (res61_62_0 r1)))) := run48 F61_62 big a0 a1

/-! ### chancery/attr.Same -/
def sig38 : Sig := ⟨[.v false (.list YAttr), .v false (.list YAttr)], [], [(false, [.fr .bool])]⟩
def C38 (F : sig38.Fn) (a0 : List YAttr.den) (a1 : List YAttr.den) : Option sig38.Out := F (a0, a1, ()) ()
def ret38 (v0 : Bool) : sig38.Out := (((v0, ()), ()), ())
def res38_0 (r : sig38.Out) : Bool := r.1.1.1
@[simp] theorem res38_0_ret (v0 : Bool) : res38_0 (ret38 v0) = v0 := rfl
def os38 : List (Nat × Ord) := [(6, .st 0 (.st 1 (.st 2 (.st 4 (.st 5 (.st 6 (.st 3 (.st 7 (.st 8 (.nil))))))))))]
def hs38 : List Keep := [[(0, []), (1, []), (12, []), (13, [])]]
@[reducible] def env38 : Env := []
noncomputable def L38_0 (n m1 : Nat) (x0 : List YAttr.den) (x1 : List YAttr.den) (x12 : Int) (x13 : Int) : Option sig38.Out :=
  loopAt T (env38) os38 sig38 Try.f38 hs38 n [.sr, .sr, .sl, .sr, .bl] m1 (mk 26 [(0, .cs false [.val (.list YAttr) x0]), (1, .cs false [.val (.list YAttr) x1]), (12, .cs false [.val (.int .i64) x12]), (13, .cs false [.val (.int .i64) x13])])
theorem L38_0_step (n m1 : Nat) (x0 : List YAttr.den) (x1 : List YAttr.den) (x12 : Int) (x13 : Int) : L38_0 n (m1 + 1) x0 x1 x12 x13 =
  (bcond (decide ((x13 : Int) < x12))
   (if 0 ≤ (x13 : Int) ∧ (x13 : Int) < (List.length x0 : Int) then
    (if 0 ≤ (x13 : Int) ∧ (x13 : Int) < (List.length x1 : Int) then
     (bcond (!((((at_ (e := YAttr) x0 x13).1 : List UInt8) == (at_ (e := YAttr) x1 x13).1) && ((((at_ (e := YAttr) x0 x13).2 : List UInt8) == (at_ (e := YAttr) x1 x13).2) && true)))
      (some (ret38 false))
      (L38_0 n m1 x0 x1 x12 (IntKind.i64.wrap (x13 + 1))))
    else none)
   else none)
   (some (ret38 true))) := by kernel_rfl
theorem run38 (n : Nat) (a0 : List YAttr.den) (a1 : List YAttr.den) : C38 (fun x y => run T (env38) os38 sig38 Try.f38 hs38 n x y) a0 a1 =
  (bcond (((List.length a0 : Int) : Int) != (List.length a1 : Int))
   (some (ret38 false))
   (L38_0 n n a0 a1 (List.length a0 : Int) 0)) := by kernel_rfl
theorem ok38 : fnOk os38 sig38 Try.f38 = true := by kernel_rfl
theorem fn38 : P.funcs[38]? = some Try.f38 := by kernel_rfl
noncomputable def F38 : sig38.Fn := fun x y => run T (env38) os38 sig38 Try.f38 hs38 big x y
theorem S38 : Sound P 38 ⟨sig38, F38⟩ := sound_of (os := os38) (hs := hs38) (env_nil) fn38 ok38 (fun x y out h => ⟨big, h⟩)
theorem e38 (a0 : List YAttr.den) (a1 : List YAttr.den) : C38 F38 a0 a1 =
  (bcond (((List.length a0 : Int) : Int) != (List.length a1 : Int))
   (some (ret38 false))
   (L38_0 big big a0 a1 (List.length a0 : Int) 0)) := run38 big a0 a1

/-! ### chancery/chanceryref1.Name -/
def sig44 : Sig := ⟨[.v false .str], [], [(false, [.fr .bool])]⟩
def C44 (F : sig44.Fn) (a0 : List UInt8) : Option sig44.Out := F (a0, ()) ()
def ret44 (v0 : Bool) : sig44.Out := (((v0, ()), ()), ())
def res44_0 (r : sig44.Out) : Bool := r.1.1.1
@[simp] theorem res44_0_ret (v0 : Bool) : res44_0 (ret44 v0) = v0 := rfl
def os44 : List (Nat × Ord) := []
def hs44 : List Keep := [[(0, []), (6, []), (7, [])]]
@[reducible] def env44 : Env := []
noncomputable def L44_0 (n m1 : Nat) (x0 : List UInt8) (x6 : Int) (x7 : Int) : Option sig44.Out :=
  loopAt T (env44) os44 sig44 Try.f44 hs44 n [.sr, .sl, .sr, .bl] m1 (mk 59 [(0, .cs false [.val .str x0]), (6, .cs false [.val (.int .i64) x6]), (7, .cs false [.val (.int .i64) x7])])
theorem L44_0_step (n m1 : Nat) (x0 : List UInt8) (x6 : Int) (x7 : Int) : L44_0 n (m1 + 1) x0 x6 x7 =
  (bcond (decide ((x7 : Int) < x6))
   (if 0 ≤ (x7 : Int) ∧ (x7 : Int) < (List.length x0 : Int) then
    (bcond ((decide ((((List.getD (x0 : List UInt8) (Int.toNat x7) 0).toNat : Int) : Int) ≥ 97)) == true)
     (if 0 ≤ (x7 : Int) ∧ (x7 : Int) < (List.length x0 : Int) then
      (bcond ((!(decide ((((List.getD (x0 : List UInt8) (Int.toNat x7) 0).toNat : Int) : Int) ≤ 122))) == true)
       (bcond (((x7 : Int) == 0) == false)
        (if 0 ≤ (x7 : Int) ∧ (x7 : Int) < (List.length x0 : Int) then
         (bcond (((((List.getD (x0 : List UInt8) (Int.toNat x7) 0).toNat : Int) : Int) != 46) == true)
          (if 0 ≤ (x7 : Int) ∧ (x7 : Int) < (List.length x0 : Int) then
           (bcond (((((List.getD (x0 : List UInt8) (Int.toNat x7) 0).toNat : Int) : Int) != 45) == true)
            (if 0 ≤ (x7 : Int) ∧ (x7 : Int) < (List.length x0 : Int) then
             (bcond ((decide ((((List.getD (x0 : List UInt8) (Int.toNat x7) 0).toNat : Int) : Int) < 48)) == false)
              (if 0 ≤ (x7 : Int) ∧ (x7 : Int) < (List.length x0 : Int) then
               (bcond (decide ((((List.getD (x0 : List UInt8) (Int.toNat x7) 0).toNat : Int) : Int) > 57))
                (some (ret44 false))
                (L44_0 n m1 x0 x6 (IntKind.i64.wrap (x7 + 1))))
              else none)
              (some (ret44 false)))
            else none)
            (L44_0 n m1 x0 x6 (IntKind.i64.wrap (x7 + 1))))
          else none)
          (L44_0 n m1 x0 x6 (IntKind.i64.wrap (x7 + 1))))
        else none)
        (some (ret44 false)))
       (L44_0 n m1 x0 x6 (IntKind.i64.wrap (x7 + 1))))
     else none)
     (bcond (((x7 : Int) == 0) == false)
      (if 0 ≤ (x7 : Int) ∧ (x7 : Int) < (List.length x0 : Int) then
       (bcond (((((List.getD (x0 : List UInt8) (Int.toNat x7) 0).toNat : Int) : Int) != 46) == true)
        (if 0 ≤ (x7 : Int) ∧ (x7 : Int) < (List.length x0 : Int) then
         (bcond (((((List.getD (x0 : List UInt8) (Int.toNat x7) 0).toNat : Int) : Int) != 45) == true)
          (if 0 ≤ (x7 : Int) ∧ (x7 : Int) < (List.length x0 : Int) then
           (bcond ((decide ((((List.getD (x0 : List UInt8) (Int.toNat x7) 0).toNat : Int) : Int) < 48)) == false)
            (if 0 ≤ (x7 : Int) ∧ (x7 : Int) < (List.length x0 : Int) then
             (bcond (decide ((((List.getD (x0 : List UInt8) (Int.toNat x7) 0).toNat : Int) : Int) > 57))
              (some (ret44 false))
              (L44_0 n m1 x0 x6 (IntKind.i64.wrap (x7 + 1))))
            else none)
            (some (ret44 false)))
          else none)
          (L44_0 n m1 x0 x6 (IntKind.i64.wrap (x7 + 1))))
        else none)
        (L44_0 n m1 x0 x6 (IntKind.i64.wrap (x7 + 1))))
      else none)
      (some (ret44 false))))
   else none)
   (bcond ((decide (((List.length x0 : Int) : Int) ≥ 1)) == true)
    (some (ret44 (decide (((List.length x0 : Int) : Int) ≤ 24))))
    (some (ret44 false)))) := by kernel_rfl
theorem run44 (n : Nat) (a0 : List UInt8) : C44 (fun x y => run T (env44) os44 sig44 Try.f44 hs44 n x y) a0 =
  (L44_0 n n a0 (List.length a0 : Int) 0) := by kernel_rfl
theorem ok44 : fnOk os44 sig44 Try.f44 = true := by kernel_rfl
theorem fn44 : P.funcs[44]? = some Try.f44 := by kernel_rfl
noncomputable def F44 : sig44.Fn := fun x y => run T (env44) os44 sig44 Try.f44 hs44 big x y
theorem S44 : Sound P 44 ⟨sig44, F44⟩ := sound_of (os := os44) (hs := hs44) (env_nil) fn44 ok44 (fun x y out h => ⟨big, h⟩)
theorem e44 (a0 : List UInt8) : C44 F44 a0 =
  (L44_0 big big a0 (List.length a0 : Int) 0) := run44 big a0

/-! ### chancery/chanceryref1.Value -/
def sig45 : Sig := ⟨[.v false .str], [], [(false, [.fr .bool])]⟩
def C45 (F : sig45.Fn) (a0 : List UInt8) : Option sig45.Out := F (a0, ()) ()
def ret45 (v0 : Bool) : sig45.Out := (((v0, ()), ()), ())
def res45_0 (r : sig45.Out) : Bool := r.1.1.1
@[simp] theorem res45_0_ret (v0 : Bool) : res45_0 (ret45 v0) = v0 := rfl
def os45 : List (Nat × Ord) := []
def hs45 : List Keep := [[(0, []), (5, []), (6, [])]]
@[reducible] def env45 : Env := []
noncomputable def L45_0 (n m1 : Nat) (x0 : List UInt8) (x5 : Int) (x6 : Int) : Option sig45.Out :=
  loopAt T (env45) os45 sig45 Try.f45 hs45 n [.sr, .sl, .sr, .bl] m1 (mk 28 [(0, .cs false [.val .str x0]), (5, .cs false [.val (.int .i64) x5]), (6, .cs false [.val (.int .i64) x6])])
theorem L45_0_step (n m1 : Nat) (x0 : List UInt8) (x5 : Int) (x6 : Int) : L45_0 n (m1 + 1) x0 x5 x6 =
  (bcond (decide ((x6 : Int) < x5))
   (if 0 ≤ (x6 : Int) ∧ (x6 : Int) < (List.length x0 : Int) then
    (bcond ((decide ((((List.getD (x0 : List UInt8) (Int.toNat x6) 0).toNat : Int) : Int) < 32)) == false)
     (if 0 ≤ (x6 : Int) ∧ (x6 : Int) < (List.length x0 : Int) then
      (bcond (decide ((((List.getD (x0 : List UInt8) (Int.toNat x6) 0).toNat : Int) : Int) > 126))
       (some (ret45 false))
       (L45_0 n m1 x0 x5 (IntKind.i64.wrap (x6 + 1))))
     else none)
     (some (ret45 false)))
   else none)
   (bcond ((decide (((List.length x0 : Int) : Int) ≥ 1)) == true)
    (some (ret45 (decide (((List.length x0 : Int) : Int) ≤ 200))))
    (some (ret45 false)))) := by kernel_rfl
theorem run45 (n : Nat) (a0 : List UInt8) : C45 (fun x y => run T (env45) os45 sig45 Try.f45 hs45 n x y) a0 =
  (L45_0 n n a0 (List.length a0 : Int) 0) := by kernel_rfl
theorem ok45 : fnOk os45 sig45 Try.f45 = true := by kernel_rfl
theorem fn45 : P.funcs[45]? = some Try.f45 := by kernel_rfl
noncomputable def F45 : sig45.Fn := fun x y => run T (env45) os45 sig45 Try.f45 hs45 big x y
theorem S45 : Sound P 45 ⟨sig45, F45⟩ := sound_of (os := os45) (hs := hs45) (env_nil) fn45 ok45 (fun x y out h => ⟨big, h⟩)
theorem e45 (a0 : List UInt8) : C45 F45 a0 =
  (L45_0 big big a0 (List.length a0 : Int) 0) := run45 big a0

/-! ### chancery/chanceryref1.AttrsError -/
def sig14 : Sig := ⟨[.v false (.list YAttr), .v false .bool], [], [(false, [.fr (.int .i64)])]⟩
def C14 (F : sig14.Fn) (a0 : List YAttr.den) (a1 : Bool) : Option sig14.Out := F (a0, a1, ()) ()
def ret14 (v0 : Int) : sig14.Out := (((v0, ()), ()), ())
def res14_0 (r : sig14.Out) : Int := r.1.1.1
@[simp] theorem res14_0_ret (v0 : Int) : res14_0 (ret14 v0) = v0 := rfl
def os14 : List (Nat × Ord) := [(8, .st 0 (.st 1 (.st 2 (.st 3 (.st 4 (.st 5 (.st 6 (.st 7 (.st 9 (.st 10 (.st 11 (.st 12 (.st 8 (.st 13 (.st 14 (.st 15 (.nil)))))))))))))))))]
def hs14 : List Keep := [[(0, []), (1, []), (7, []), (8, [])]]
@[reducible] def env14 (F44 : sig44.Fn) (F45 : sig45.Fn) : Env := [(44, ⟨sig44, F44⟩), (45, ⟨sig45, F45⟩)]
noncomputable def L14_0 (F44 : sig44.Fn) (F45 : sig45.Fn) (n m1 : Nat) (x0 : List YAttr.den) (x1 : Bool) (x7 : Int) (x8 : Int) : Option sig14.Out :=
  loopAt T (env14 F44 F45) os14 sig14 Try.f14 hs14 n [.sr, .sl, .sr, .bl] m1 (mk 54 [(0, .cs false [.val (.list YAttr) x0]), (1, .cs false [.val .bool x1]), (7, .cs false [.val (.int .i64) x7]), (8, .cs false [.val (.int .i64) x8])])
theorem L14_0_step (F44 : sig44.Fn) (F45 : sig45.Fn) (n m1 : Nat) (x0 : List YAttr.den) (x1 : Bool) (x7 : Int) (x8 : Int) : L14_0 F44 F45 n (m1 + 1) x0 x1 x7 x8 =
  (bcond (decide ((x8 : Int) < x7))
   (if 0 ≤ (x8 : Int) ∧ (x8 : Int) < (List.length x0 : Int) then
    ((C44 F44 (at_ (e := YAttr) x0 x8).1).bind fun r1 =>
     (bcond (!(res44_0 r1))
      (some (ret14 9))
      (if 0 ≤ (x8 : Int) ∧ (x8 : Int) < (List.length x0 : Int) then
       ((C45 F45 (at_ (e := YAttr) x0 x8).2).bind fun r2 =>
        (bcond ((!(res45_0 r2)) == true)
         (if 0 ≤ (x8 : Int) ∧ (x8 : Int) < (List.length x0 : Int) then
          (bcond ((!(((at_ (e := YAttr) x0 x8).2 : List UInt8) == [])) == false)
           (bcond (!x1)
            (some (ret14 23))
            (bcond ((decide ((x8 : Int) > 0)) == true)
             (if 0 ≤ ((IntKind.i64.wrap (x8 - 1)) : Int) ∧ ((IntKind.i64.wrap (x8 - 1)) : Int) < (List.length x0 : Int) then
              (if 0 ≤ (x8 : Int) ∧ (x8 : Int) < (List.length x0 : Int) then
               (bcond (!strLess (at_ (e := YAttr) x0 (IntKind.i64.wrap (x8 - 1))).1 (at_ (e := YAttr) x0 x8).1)
                (some (ret14 5))
                (L14_0 F44 F45 n m1 x0 x1 x7 (IntKind.i64.wrap (x8 + 1))))
              else none)
             else none)
             (L14_0 F44 F45 n m1 x0 x1 x7 (IntKind.i64.wrap (x8 + 1)))))
           (some (ret14 23)))
         else none)
         (bcond ((decide ((x8 : Int) > 0)) == true)
          (if 0 ≤ ((IntKind.i64.wrap (x8 - 1)) : Int) ∧ ((IntKind.i64.wrap (x8 - 1)) : Int) < (List.length x0 : Int) then
           (if 0 ≤ (x8 : Int) ∧ (x8 : Int) < (List.length x0 : Int) then
            (bcond (!strLess (at_ (e := YAttr) x0 (IntKind.i64.wrap (x8 - 1))).1 (at_ (e := YAttr) x0 x8).1)
             (some (ret14 5))
             (L14_0 F44 F45 n m1 x0 x1 x7 (IntKind.i64.wrap (x8 + 1))))
           else none)
          else none)
          (L14_0 F44 F45 n m1 x0 x1 x7 (IntKind.i64.wrap (x8 + 1))))))
      else none)))
   else none)
   (some (ret14 0))) := by kernel_rfl
theorem run14 (F44 : sig44.Fn) (F45 : sig45.Fn) (n : Nat) (a0 : List YAttr.den) (a1 : Bool) : C14 (fun x y => run T (env14 F44 F45) os14 sig14 Try.f14 hs14 n x y) a0 a1 =
  (L14_0 F44 F45 n n a0 a1 (List.length a0 : Int) 0) := by kernel_rfl
theorem ok14 : fnOk os14 sig14 Try.f14 = true := by kernel_rfl
theorem fn14 : P.funcs[14]? = some Try.f14 := by kernel_rfl
noncomputable def F14 : sig14.Fn := fun x y => run T (env14 F44 F45) os14 sig14 Try.f14 hs14 big x y
theorem S14 : Sound P 14 ⟨sig14, F14⟩ := sound_of (os := os14) (hs := hs14) (env_cons S44 (env_cons S45 (env_nil))) fn14 ok14 (fun x y out h => ⟨big, h⟩)
theorem e14 (a0 : List YAttr.den) (a1 : Bool) : C14 F14 a0 a1 =
  (L14_0 F44 F45 big big a0 a1 (List.length a0 : Int) 0) := run14 F44 F45 big a0 a1

/-! ### chancery/chanceryref1.Get -/
def sig65 : Sig := ⟨[.v false (.list YAttr), .v false .str], [], [(false, [.fr .str])]⟩
def C65 (F : sig65.Fn) (a0 : List YAttr.den) (a1 : List UInt8) : Option sig65.Out := F (a0, a1, ()) ()
def ret65 (v0 : List UInt8) : sig65.Out := (((v0, ()), ()), ())
def res65_0 (r : sig65.Out) : List UInt8 := r.1.1.1
@[simp] theorem res65_0_ret (v0 : List UInt8) : res65_0 (ret65 v0) = v0 := rfl
def os65 : List (Nat × Ord) := []
def hs65 : List Keep := [[(0, []), (1, []), (7, []), (8, [])]]
@[reducible] def env65 : Env := []
noncomputable def L65_0 (n m1 : Nat) (x0 : List YAttr.den) (x1 : List UInt8) (x7 : Int) (x8 : Int) : Option sig65.Out :=
  loopAt T (env65) os65 sig65 Try.f65 hs65 n [.sr, .sl, .sr, .bl] m1 (mk 24 [(0, .cs false [.val (.list YAttr) x0]), (1, .cs false [.val .str x1]), (7, .cs false [.val (.int .i64) x7]), (8, .cs false [.val (.int .i64) x8])])
theorem L65_0_step (n m1 : Nat) (x0 : List YAttr.den) (x1 : List UInt8) (x7 : Int) (x8 : Int) : L65_0 n (m1 + 1) x0 x1 x7 x8 =
  (bcond (decide ((x8 : Int) < x7))
   (if 0 ≤ (x8 : Int) ∧ (x8 : Int) < (List.length x0 : Int) then
    (bcond (((at_ (e := YAttr) x0 x8).1 : List UInt8) == x1)
     (if 0 ≤ (x8 : Int) ∧ (x8 : Int) < (List.length x0 : Int) then
      (some (ret65 (at_ (e := YAttr) x0 x8).2))
     else none)
     (L65_0 n m1 x0 x1 x7 (IntKind.i64.wrap (x8 + 1))))
   else none)
   (some (ret65 []))) := by kernel_rfl
theorem run65 (n : Nat) (a0 : List YAttr.den) (a1 : List UInt8) : C65 (fun x y => run T (env65) os65 sig65 Try.f65 hs65 n x y) a0 a1 =
  (L65_0 n n a0 a1 (List.length a0 : Int) 0) := by kernel_rfl
theorem ok65 : fnOk os65 sig65 Try.f65 = true := by kernel_rfl
theorem fn65 : P.funcs[65]? = some Try.f65 := by kernel_rfl
noncomputable def F65 : sig65.Fn := fun x y => run T (env65) os65 sig65 Try.f65 hs65 big x y
theorem S65 : Sound P 65 ⟨sig65, F65⟩ := sound_of (os := os65) (hs := hs65) (env_nil) fn65 ok65 (fun x y out h => ⟨big, h⟩)
theorem e65 (a0 : List YAttr.den) (a1 : List UInt8) : C65 F65 a0 a1 =
  (L65_0 big big a0 a1 (List.length a0 : Int) 0) := run65 big a0 a1

/-! ### chancery/chanceryref1.SameAttrs -/
def sig35 : Sig := ⟨[.v false (.list YAttr), .v false (.list YAttr)], [], [(false, [.fr .bool])]⟩
def C35 (F : sig35.Fn) (a0 : List YAttr.den) (a1 : List YAttr.den) : Option sig35.Out := F (a0, a1, ()) ()
def ret35 (v0 : Bool) : sig35.Out := (((v0, ()), ()), ())
def res35_0 (r : sig35.Out) : Bool := r.1.1.1
@[simp] theorem res35_0_ret (v0 : Bool) : res35_0 (ret35 v0) = v0 := rfl
def os35 : List (Nat × Ord) := [(6, .st 0 (.st 1 (.st 2 (.st 4 (.st 5 (.st 6 (.st 3 (.st 7 (.st 8 (.nil))))))))))]
def hs35 : List Keep := [[(0, []), (1, []), (12, []), (13, [])]]
@[reducible] def env35 : Env := []
noncomputable def L35_0 (n m1 : Nat) (x0 : List YAttr.den) (x1 : List YAttr.den) (x12 : Int) (x13 : Int) : Option sig35.Out :=
  loopAt T (env35) os35 sig35 Try.f35 hs35 n [.sr, .sr, .sl, .sr, .bl] m1 (mk 26 [(0, .cs false [.val (.list YAttr) x0]), (1, .cs false [.val (.list YAttr) x1]), (12, .cs false [.val (.int .i64) x12]), (13, .cs false [.val (.int .i64) x13])])
theorem L35_0_step (n m1 : Nat) (x0 : List YAttr.den) (x1 : List YAttr.den) (x12 : Int) (x13 : Int) : L35_0 n (m1 + 1) x0 x1 x12 x13 =
  (bcond (decide ((x13 : Int) < x12))
   (if 0 ≤ (x13 : Int) ∧ (x13 : Int) < (List.length x0 : Int) then
    (if 0 ≤ (x13 : Int) ∧ (x13 : Int) < (List.length x1 : Int) then
     (bcond (!((((at_ (e := YAttr) x0 x13).1 : List UInt8) == (at_ (e := YAttr) x1 x13).1) && ((((at_ (e := YAttr) x0 x13).2 : List UInt8) == (at_ (e := YAttr) x1 x13).2) && true)))
      (some (ret35 false))
      (L35_0 n m1 x0 x1 x12 (IntKind.i64.wrap (x13 + 1))))
    else none)
   else none)
   (some (ret35 true))) := by kernel_rfl
theorem run35 (n : Nat) (a0 : List YAttr.den) (a1 : List YAttr.den) : C35 (fun x y => run T (env35) os35 sig35 Try.f35 hs35 n x y) a0 a1 =
  (bcond (((List.length a0 : Int) : Int) != (List.length a1 : Int))
   (some (ret35 false))
   (L35_0 n n a0 a1 (List.length a0 : Int) 0)) := by kernel_rfl
theorem ok35 : fnOk os35 sig35 Try.f35 = true := by kernel_rfl
theorem fn35 : P.funcs[35]? = some Try.f35 := by kernel_rfl
noncomputable def F35 : sig35.Fn := fun x y => run T (env35) os35 sig35 Try.f35 hs35 big x y
theorem S35 : Sound P 35 ⟨sig35, F35⟩ := sound_of (os := os35) (hs := hs35) (env_nil) fn35 ok35 (fun x y out h => ⟨big, h⟩)
theorem e35 (a0 : List YAttr.den) (a1 : List YAttr.den) : C35 F35 a0 a1 =
  (bcond (((List.length a0 : Int) : Int) != (List.length a1 : Int))
   (some (ret35 false))
   (L35_0 big big a0 a1 (List.length a0 : Int) 0)) := run35 big a0 a1

/-! ### chancery/chanceryref1.put -/
def sig64 : Sig := ⟨[.v false (.list YAttr), .v true YAttr], [], [(false, [.fr (.list YAttr)])]⟩
def C64 (F : sig64.Fn) (a0 : List YAttr.den) (a1 : YAttr.den) : Option sig64.Out := F (a0, a1, ()) ()
def ret64 (v0 : List YAttr.den) : sig64.Out := (((v0, ()), ()), ())
def res64_0 (r : sig64.Out) : List YAttr.den := r.1.1.1
@[simp] theorem res64_0_ret (v0 : List YAttr.den) : res64_0 (ret64 v0) = v0 := rfl
def os64 : List (Nat × Ord) := [(6, .st 0 (.st 1 (.st 2 (.st 3 (.st 4 (.st 5 (.st 6 (.st 8 (.st 7 (.st 9 (.st 10 (.st 11 (.nil))))))))))))), (9, .st 0 (.st 1 (.st 2 (.st 3 (.st 5 (.st 4 (.st 6 (.st 7 (.nil)))))))))]
def hs64 : List Keep := [[(0, []), (3, []), (5, [(0, 80, YAttr)]), (6, []), (9, []), (10, [])]]
@[reducible] def env64 : Env := []
noncomputable def L64_0 (n m1 : Nat) (x0 : List YAttr.den) (x3_0 : List UInt8) (x3_1 : List UInt8) (x5 : List YAttr.den) (x6 : Bool) (x9 : Int) (x10 : Int) : Option sig64.Out :=
  loopAt T (env64) os64 sig64 Try.f64 hs64 n [.sr, .sr, .sr, .sl, .sr, .bl] m1 (mk 52 [(0, .cs false [.val (.list YAttr) x0]), (3, .box [.val .str x3_0, .val .str x3_1]), (5, .cs false [.own 80 YAttr x5]), (6, .cs false [.val .bool x6]), (9, .cs false [.val (.int .i64) x9]), (10, .cs false [.val (.int .i64) x10])])
theorem L64_0_step (n m1 : Nat) (x0 : List YAttr.den) (x3_0 : List UInt8) (x3_1 : List UInt8) (x5 : List YAttr.den) (x6 : Bool) (x9 : Int) (x10 : Int) : L64_0 n (m1 + 1) x0 x3_0 x3_1 x5 x6 x9 x10 =
  (bcond (decide ((x10 : Int) < x9))
   (bcond ((!x6) == true)
    (if 0 ≤ (x10 : Int) ∧ (x10 : Int) < (List.length x0 : Int) then
     (bcond (!strLess (at_ (e := YAttr) x0 x10).1 x3_0)
      (if (List.length (x5 : List YAttr.den) + List.length ([(x3_0, x3_1)] : List YAttr.den)) * 32 ≤ 140737488355328 then
       (if 0 ≤ (x10 : Int) ∧ (x10 : Int) < (List.length x0 : Int) then
        (bcond (!(((at_ (e := YAttr) x0 x10).1 : List UInt8) == x3_0))
         (if 0 ≤ (x10 : Int) ∧ (x10 : Int) < (List.length x0 : Int) then
          (if (List.length ((x5 ++ [(x3_0, x3_1)]) : List YAttr.den) + List.length ([(at_ (e := YAttr) x0 x10)] : List YAttr.den)) * 32 ≤ 140737488355328 then
           (L64_0 n m1 x0 x3_0 x3_1 ((x5 ++ [(x3_0, x3_1)]) ++ [(at_ (e := YAttr) x0 x10)]) true x9 (IntKind.i64.wrap (x10 + 1)))
          else none)
         else none)
         (L64_0 n m1 x0 x3_0 x3_1 (x5 ++ [(x3_0, x3_1)]) true x9 (IntKind.i64.wrap (x10 + 1))))
       else none)
      else none)
      (if 0 ≤ (x10 : Int) ∧ (x10 : Int) < (List.length x0 : Int) then
       (bcond (!(((at_ (e := YAttr) x0 x10).1 : List UInt8) == x3_0))
        (if 0 ≤ (x10 : Int) ∧ (x10 : Int) < (List.length x0 : Int) then
         (if (List.length (x5 : List YAttr.den) + List.length ([(at_ (e := YAttr) x0 x10)] : List YAttr.den)) * 32 ≤ 140737488355328 then
          (L64_0 n m1 x0 x3_0 x3_1 (x5 ++ [(at_ (e := YAttr) x0 x10)]) x6 x9 (IntKind.i64.wrap (x10 + 1)))
         else none)
        else none)
        (L64_0 n m1 x0 x3_0 x3_1 x5 x6 x9 (IntKind.i64.wrap (x10 + 1))))
      else none))
    else none)
    (if 0 ≤ (x10 : Int) ∧ (x10 : Int) < (List.length x0 : Int) then
     (bcond (!(((at_ (e := YAttr) x0 x10).1 : List UInt8) == x3_0))
      (if 0 ≤ (x10 : Int) ∧ (x10 : Int) < (List.length x0 : Int) then
       (if (List.length (x5 : List YAttr.den) + List.length ([(at_ (e := YAttr) x0 x10)] : List YAttr.den)) * 32 ≤ 140737488355328 then
        (L64_0 n m1 x0 x3_0 x3_1 (x5 ++ [(at_ (e := YAttr) x0 x10)]) x6 x9 (IntKind.i64.wrap (x10 + 1)))
       else none)
      else none)
      (L64_0 n m1 x0 x3_0 x3_1 x5 x6 x9 (IntKind.i64.wrap (x10 + 1))))
    else none))
   (bcond (!x6)
    (if (List.length (x5 : List YAttr.den) + List.length ([(x3_0, x3_1)] : List YAttr.den)) * 32 ≤ 140737488355328 then
     (some (ret64 (x5 ++ [(x3_0, x3_1)])))
    else none)
    (some (ret64 x5)))) := by kernel_rfl
theorem run64 (n : Nat) (a0 : List YAttr.den) (a1 : YAttr.den) : C64 (fun x y => run T (env64) os64 sig64 Try.f64 hs64 n x y) a0 a1 =
  (L64_0 n n a0 a1.1 a1.2 [] false (List.length a0 : Int) 0) := by kernel_rfl
theorem ok64 : fnOk os64 sig64 Try.f64 = true := by kernel_rfl
theorem fn64 : P.funcs[64]? = some Try.f64 := by kernel_rfl
noncomputable def F64 : sig64.Fn := fun x y => run T (env64) os64 sig64 Try.f64 hs64 big x y
theorem S64 : Sound P 64 ⟨sig64, F64⟩ := sound_of (os := os64) (hs := hs64) (env_nil) fn64 ok64 (fun x y out h => ⟨big, h⟩)
theorem e64 (a0 : List YAttr.den) (a1 : YAttr.den) : C64 F64 a0 a1 =
  (L64_0 big big a0 a1.1 a1.2 [] false (List.length a0 : Int) 0) := run64 big a0 a1

/-! ### chancery/chanceryref1.Changed -/
def sig52 : Sig := ⟨[.v false (.list YAttr), .v false (.list YAttr)], [], [(false, [.fr (.list YAttr)])]⟩
def C52 (F : sig52.Fn) (a0 : List YAttr.den) (a1 : List YAttr.den) : Option sig52.Out := F (a0, a1, ()) ()
def ret52 (v0 : List YAttr.den) : sig52.Out := (((v0, ()), ()), ())
def res52_0 (r : sig52.Out) : List YAttr.den := r.1.1.1
@[simp] theorem res52_0_ret (v0 : List YAttr.den) : res52_0 (ret52 v0) = v0 := rfl
def os52 : List (Nat × Ord) := []
def hs52 : List Keep := [[(0, []), (1, []), (5, []), (11, []), (12, [])], [(1, []), (5, []), (23, []), (24, [])], [(5, []), (8, [(0, 80, YAttr)]), (35, []), (36, [])]]
@[reducible] def env52 (F64 : sig64.Fn) : Env := [(64, ⟨sig64, F64⟩)]
noncomputable def L52_0 (F64 : sig64.Fn) (n m1 : Nat) (x0 : List YAttr.den) (x1 : List YAttr.den) (x11 : Int) (x12 : Int) : Option sig52.Out :=
  loopAt T (env52 F64) os52 sig52 Try.f52 hs52 n [.sr, .sr, .sl, .sr, .bl] m1 (mk 54 [(0, .cs false [.val (.list YAttr) x0]), (1, .cs false [.val (.list YAttr) x1]), (5, .cs false [.nils]), (11, .cs false [.val (.int .i64) x11]), (12, .cs false [.val (.int .i64) x12])])
noncomputable def L52_0a (F64 : sig64.Fn) (n m1 : Nat) (x0 : List YAttr.den) (x1 : List YAttr.den) (x5 : List YAttr.den) (x11 : Int) (x12 : Int) : Option sig52.Out :=
  loopAt T (env52 F64) os52 sig52 Try.f52 hs52 n [.sr, .sr, .sl, .sr, .bl] m1 (mk 54 [(0, .cs false [.val (.list YAttr) x0]), (1, .cs false [.val (.list YAttr) x1]), (5, .cs false [.val (.list YAttr) x5]), (11, .cs false [.val (.int .i64) x11]), (12, .cs false [.val (.int .i64) x12])])
noncomputable def L52_1 (F64 : sig64.Fn) (n m1 : Nat) (x1 : List YAttr.den) (x23 : Int) (x24 : Int) : Option sig52.Out :=
  loopAt T (env52 F64) os52 sig52 Try.f52 hs52 n [.sr, .sr, .sr, .sl, .sr, .bl] m1 (mk 54 [(1, .cs false [.val (.list YAttr) x1]), (5, .cs false [.nils]), (23, .cs false [.val (.int .i64) x23]), (24, .cs false [.val (.int .i64) x24])])
noncomputable def L52_1a (F64 : sig64.Fn) (n m1 : Nat) (x1 : List YAttr.den) (x5 : List YAttr.den) (x23 : Int) (x24 : Int) : Option sig52.Out :=
  loopAt T (env52 F64) os52 sig52 Try.f52 hs52 n [.sr, .sr, .sr, .sl, .sr, .bl] m1 (mk 54 [(1, .cs false [.val (.list YAttr) x1]), (5, .cs false [.val (.list YAttr) x5]), (23, .cs false [.val (.int .i64) x23]), (24, .cs false [.val (.int .i64) x24])])
noncomputable def L52_2 (F64 : sig64.Fn) (n m1 : Nat) (x8 : List YAttr.den) (x35 : Int) (x36 : Int) : Option sig52.Out :=
  loopAt T (env52 F64) os52 sig52 Try.f52 hs52 n [.sr, .sr, .sr, .sr, .sr, .sl, .sr, .bl] m1 (mk 54 [(5, .cs false [.nils]), (8, .cs false [.own 80 YAttr x8]), (35, .cs false [.val (.int .i64) x35]), (36, .cs false [.val (.int .i64) x36])])
noncomputable def L52_2a (F64 : sig64.Fn) (n m1 : Nat) (x5 : List YAttr.den) (x8 : List YAttr.den) (x35 : Int) (x36 : Int) : Option sig52.Out :=
  loopAt T (env52 F64) os52 sig52 Try.f52 hs52 n [.sr, .sr, .sr, .sr, .sr, .sl, .sr, .bl] m1 (mk 54 [(5, .cs false [.val (.list YAttr) x5]), (8, .cs false [.own 80 YAttr x8]), (35, .cs false [.val (.int .i64) x35]), (36, .cs false [.val (.int .i64) x36])])
theorem L52_0_step (F64 : sig64.Fn) (n m1 : Nat) (x0 : List YAttr.den) (x1 : List YAttr.den) (x11 : Int) (x12 : Int) : L52_0 F64 n (m1 + 1) x0 x1 x11 x12 =
  (bcond (decide ((x12 : Int) < x11))
   (if 0 ≤ (x12 : Int) ∧ (x12 : Int) < (List.length x0 : Int) then
    ((C64 F64 [] (at_ (e := YAttr) x0 x12)).bind fun r1 =>
     (L52_0a F64 n m1 x0 x1 (res64_0 r1) x11 (IntKind.i64.wrap (x12 + 1))))
   else none)
   (L52_1 F64 n n x1 (List.length x1 : Int) 0)) := by kernel_rfl
theorem L52_0a_step (F64 : sig64.Fn) (n m1 : Nat) (x0 : List YAttr.den) (x1 : List YAttr.den) (x5 : List YAttr.den) (x11 : Int) (x12 : Int) : L52_0a F64 n (m1 + 1) x0 x1 x5 x11 x12 =
  (bcond (decide ((x12 : Int) < x11))
   (if 0 ≤ (x12 : Int) ∧ (x12 : Int) < (List.length x0 : Int) then
    ((C64 F64 x5 (at_ (e := YAttr) x0 x12)).bind fun r1 =>
     (L52_0a F64 n m1 x0 x1 (res64_0 r1) x11 (IntKind.i64.wrap (x12 + 1))))
   else none)
   (L52_1a F64 n n x1 x5 (List.length x1 : Int) 0)) := by kernel_rfl
theorem L52_1_step (F64 : sig64.Fn) (n m1 : Nat) (x1 : List YAttr.den) (x23 : Int) (x24 : Int) : L52_1 F64 n (m1 + 1) x1 x23 x24 =
  (bcond (decide ((x24 : Int) < x23))
   (if 0 ≤ (x24 : Int) ∧ (x24 : Int) < (List.length x1 : Int) then
    ((C64 F64 [] (at_ (e := YAttr) x1 x24)).bind fun r1 =>
     (L52_1a F64 n m1 x1 (res64_0 r1) x23 (IntKind.i64.wrap (x24 + 1))))
   else none)
   (L52_2 F64 n n [] 0 0)) := by kernel_rfl
theorem L52_1a_step (F64 : sig64.Fn) (n m1 : Nat) (x1 : List YAttr.den) (x5 : List YAttr.den) (x23 : Int) (x24 : Int) : L52_1a F64 n (m1 + 1) x1 x5 x23 x24 =
  (bcond (decide ((x24 : Int) < x23))
   (if 0 ≤ (x24 : Int) ∧ (x24 : Int) < (List.length x1 : Int) then
    ((C64 F64 x5 (at_ (e := YAttr) x1 x24)).bind fun r1 =>
     (L52_1a F64 n m1 x1 (res64_0 r1) x23 (IntKind.i64.wrap (x24 + 1))))
   else none)
   (L52_2a F64 n n x5 [] (List.length x5 : Int) 0)) := by kernel_rfl
theorem L52_2_step (F64 : sig64.Fn) (n m1 : Nat) (x8 : List YAttr.den) (x35 : Int) (x36 : Int) : L52_2 F64 n (m1 + 1) x8 x35 x36 =
  (bcond (decide ((x36 : Int) < x35))
   none
   (some (ret52 x8))) := by kernel_rfl
theorem L52_2a_step (F64 : sig64.Fn) (n m1 : Nat) (x5 : List YAttr.den) (x8 : List YAttr.den) (x35 : Int) (x36 : Int) : L52_2a F64 n (m1 + 1) x5 x8 x35 x36 =
  (bcond (decide ((x36 : Int) < x35))
   (if 0 ≤ (x36 : Int) ∧ (x36 : Int) < (List.length x5 : Int) then
    (bcond (!(((at_ (e := YAttr) x5 x36).2 : List UInt8) == []))
     (if 0 ≤ (x36 : Int) ∧ (x36 : Int) < (List.length x5 : Int) then
      (if (List.length (x8 : List YAttr.den) + List.length ([(at_ (e := YAttr) x5 x36)] : List YAttr.den)) * 32 ≤ 140737488355328 then
       (L52_2a F64 n m1 x5 (x8 ++ [(at_ (e := YAttr) x5 x36)]) x35 (IntKind.i64.wrap (x36 + 1)))
      else none)
     else none)
     (L52_2a F64 n m1 x5 x8 x35 (IntKind.i64.wrap (x36 + 1))))
   else none)
   (some (ret52 x8))) := by kernel_rfl
theorem run52 (F64 : sig64.Fn) (n : Nat) (a0 : List YAttr.den) (a1 : List YAttr.den) : C52 (fun x y => run T (env52 F64) os52 sig52 Try.f52 hs52 n x y) a0 a1 =
  (L52_0 F64 n n a0 a1 (List.length a0 : Int) 0) := by kernel_rfl
theorem ok52 : fnOk os52 sig52 Try.f52 = true := by kernel_rfl
theorem fn52 : P.funcs[52]? = some Try.f52 := by kernel_rfl
noncomputable def F52 : sig52.Fn := fun x y => run T (env52 F64) os52 sig52 Try.f52 hs52 big x y
theorem S52 : Sound P 52 ⟨sig52, F52⟩ := sound_of (os := os52) (hs := hs52) (env_cons S64 (env_nil)) fn52 ok52 (fun x y out h => ⟨big, h⟩)
theorem e52 (a0 : List YAttr.den) (a1 : List YAttr.den) : C52 F52 a0 a1 =
  (L52_0 F64 big big a0 a1 (List.length a0 : Int) 0) := run52 F64 big a0 a1

/-! ### chancery/chanceryref1.Between -/
def sig53 : Sig := ⟨[.v false (.list YAttr), .v false (.list YAttr)], [], [(false, [.fr (.list YAttr)])]⟩
def C53 (F : sig53.Fn) (a0 : List YAttr.den) (a1 : List YAttr.den) : Option sig53.Out := F (a0, a1, ()) ()
def ret53 (v0 : List YAttr.den) : sig53.Out := (((v0, ()), ()), ())
def res53_0 (r : sig53.Out) : List YAttr.den := r.1.1.1
@[simp] theorem res53_0_ret (v0 : List YAttr.den) : res53_0 (ret53 v0) = v0 := rfl
def os53 : List (Nat × Ord) := [(5, .st 0 (.st 1 (.st 2 (.st 3 (.st 4 (.st 7 (.st 8 (.st 9 (.st 10 (.st 5 (.alt 6 (.st 11 (.st 12 (.nil))) (.st 11 (.st 6 (.st 12 (.nil)))))))))))))))]
def hs53 : List Keep := [[(0, []), (1, []), (5, []), (9, []), (10, [])], [(0, []), (1, []), (5, []), (34, []), (35, [])]]
@[reducible] def env53 (F65 : sig65.Fn) (F64 : sig64.Fn) : Env := [(65, ⟨sig65, F65⟩), (64, ⟨sig64, F64⟩)]
noncomputable def L53_0 (F65 : sig65.Fn) (F64 : sig64.Fn) (n m1 : Nat) (x0 : List YAttr.den) (x1 : List YAttr.den) (x9 : Int) (x10 : Int) : Option sig53.Out :=
  loopAt T (env53 F65 F64) os53 sig53 Try.f53 hs53 n [.sr, .sr, .sl, .sr, .bl] m1 (mk 56 [(0, .cs false [.val (.list YAttr) x0]), (1, .cs false [.val (.list YAttr) x1]), (5, .cs false [.nils]), (9, .cs false [.val (.int .i64) x9]), (10, .cs false [.val (.int .i64) x10])])
noncomputable def L53_0a (F65 : sig65.Fn) (F64 : sig64.Fn) (n m1 : Nat) (x0 : List YAttr.den) (x1 : List YAttr.den) (x5 : List YAttr.den) (x9 : Int) (x10 : Int) : Option sig53.Out :=
  loopAt T (env53 F65 F64) os53 sig53 Try.f53 hs53 n [.sr, .sr, .sl, .sr, .bl] m1 (mk 56 [(0, .cs false [.val (.list YAttr) x0]), (1, .cs false [.val (.list YAttr) x1]), (5, .cs false [.val (.list YAttr) x5]), (9, .cs false [.val (.int .i64) x9]), (10, .cs false [.val (.int .i64) x10])])
noncomputable def L53_1 (F65 : sig65.Fn) (F64 : sig64.Fn) (n m1 : Nat) (x0 : List YAttr.den) (x1 : List YAttr.den) (x34 : Int) (x35 : Int) : Option sig53.Out :=
  loopAt T (env53 F65 F64) os53 sig53 Try.f53 hs53 n [.sr, .sr, .sr, .sl, .sr, .bl] m1 (mk 56 [(0, .cs false [.val (.list YAttr) x0]), (1, .cs false [.val (.list YAttr) x1]), (5, .cs false [.nils]), (34, .cs false [.val (.int .i64) x34]), (35, .cs false [.val (.int .i64) x35])])
noncomputable def L53_1a (F65 : sig65.Fn) (F64 : sig64.Fn) (n m1 : Nat) (x0 : List YAttr.den) (x1 : List YAttr.den) (x5 : List YAttr.den) (x34 : Int) (x35 : Int) : Option sig53.Out :=
  loopAt T (env53 F65 F64) os53 sig53 Try.f53 hs53 n [.sr, .sr, .sr, .sl, .sr, .bl] m1 (mk 56 [(0, .cs false [.val (.list YAttr) x0]), (1, .cs false [.val (.list YAttr) x1]), (5, .cs false [.val (.list YAttr) x5]), (34, .cs false [.val (.int .i64) x34]), (35, .cs false [.val (.int .i64) x35])])
theorem L53_0_raw (F65 : sig65.Fn) (F64 : sig64.Fn) (n m1 : Nat) (x0 : List YAttr.den) (x1 : List YAttr.den) (x9 : Int) (x10 : Int) : L53_0 F65 F64 n (m1 + 1) x0 x1 x9 x10 =
  (bcond (decide ((x10 : Int) < x9))
   (if 0 ≤ (x10 : Int) ∧ (x10 : Int) < (List.length x1 : Int) then
    (if 0 ≤ (x10 : Int) ∧ (x10 : Int) < (List.length x1 : Int) then
     (agree
      ((C65 F65 x0 (at_ (e := YAttr) x1 x10).1).bind fun r1 =>
       (bcond (!(((res65_0 r1) : List UInt8) == (at_ (e := YAttr) x1 x10).2))
        (if 0 ≤ (x10 : Int) ∧ (x10 : Int) < (List.length x1 : Int) then
         ((C64 F64 [] (at_ (e := YAttr) x1 x10)).bind fun r2 =>
          (L53_0a F65 F64 n m1 x0 x1 (res64_0 r2) x9 (IntKind.i64.wrap (x10 + 1))))
        else none)
        (L53_0 F65 F64 n m1 x0 x1 x9 (IntKind.i64.wrap (x10 + 1)))))
      ((C65 F65 x0 (at_ (e := YAttr) x1 x10).1).bind fun r1 =>
       (bcond (!(((res65_0 r1) : List UInt8) == (at_ (e := YAttr) x1 x10).2))
        (if 0 ≤ (x10 : Int) ∧ (x10 : Int) < (List.length x1 : Int) then
         ((C64 F64 [] (at_ (e := YAttr) x1 x10)).bind fun r2 =>
          (L53_0a F65 F64 n m1 x0 x1 (res64_0 r2) x9 (IntKind.i64.wrap (x10 + 1))))
        else none)
        (L53_0 F65 F64 n m1 x0 x1 x9 (IntKind.i64.wrap (x10 + 1))))))
    else none)
   else none)
   (L53_1 F65 F64 n n x0 x1 (List.length x0 : Int) 0)) := by kernel_rfl
theorem L53_0_step (F65 : sig65.Fn) (F64 : sig64.Fn) (n m1 : Nat) (x0 : List YAttr.den) (x1 : List YAttr.den) (x9 : Int) (x10 : Int) : L53_0 F65 F64 n (m1 + 1) x0 x1 x9 x10 =
  (bcond (decide ((x10 : Int) < x9))
   (if 0 ≤ (x10 : Int) ∧ (x10 : Int) < (List.length x1 : Int) then
    (if 0 ≤ (x10 : Int) ∧ (x10 : Int) < (List.length x1 : Int) then
     ((C65 F65 x0 (at_ (e := YAttr) x1 x10).1).bind fun r1 =>
      (bcond (!(((res65_0 r1) : List UInt8) == (at_ (e := YAttr) x1 x10).2))
       (if 0 ≤ (x10 : Int) ∧ (x10 : Int) < (List.length x1 : Int) then
        ((C64 F64 [] (at_ (e := YAttr) x1 x10)).bind fun r2 =>
         (L53_0a F65 F64 n m1 x0 x1 (res64_0 r2) x9 (IntKind.i64.wrap (x10 + 1))))
       else none)
       (L53_0 F65 F64 n m1 x0 x1 x9 (IntKind.i64.wrap (x10 + 1)))))
    else none)
   else none)
   (L53_1 F65 F64 n n x0 x1 (List.length x0 : Int) 0)) := by rw [L53_0_raw]; simp only [agree_self]
theorem L53_0a_raw (F65 : sig65.Fn) (F64 : sig64.Fn) (n m1 : Nat) (x0 : List YAttr.den) (x1 : List YAttr.den) (x5 : List YAttr.den) (x9 : Int) (x10 : Int) : L53_0a F65 F64 n (m1 + 1) x0 x1 x5 x9 x10 =
  (bcond (decide ((x10 : Int) < x9))
   (if 0 ≤ (x10 : Int) ∧ (x10 : Int) < (List.length x1 : Int) then
    (if 0 ≤ (x10 : Int) ∧ (x10 : Int) < (List.length x1 : Int) then
     (agree
      ((C65 F65 x0 (at_ (e := YAttr) x1 x10).1).bind fun r1 =>
       (bcond (!(((res65_0 r1) : List UInt8) == (at_ (e := YAttr) x1 x10).2))
        (if 0 ≤ (x10 : Int) ∧ (x10 : Int) < (List.length x1 : Int) then
         ((C64 F64 x5 (at_ (e := YAttr) x1 x10)).bind fun r2 =>
          (L53_0a F65 F64 n m1 x0 x1 (res64_0 r2) x9 (IntKind.i64.wrap (x10 + 1))))
        else none)
        (L53_0a F65 F64 n m1 x0 x1 x5 x9 (IntKind.i64.wrap (x10 + 1)))))
      ((C65 F65 x0 (at_ (e := YAttr) x1 x10).1).bind fun r1 =>
       (bcond (!(((res65_0 r1) : List UInt8) == (at_ (e := YAttr) x1 x10).2))
        (if 0 ≤ (x10 : Int) ∧ (x10 : Int) < (List.length x1 : Int) then
         ((C64 F64 x5 (at_ (e := YAttr) x1 x10)).bind fun r2 =>
          (L53_0a F65 F64 n m1 x0 x1 (res64_0 r2) x9 (IntKind.i64.wrap (x10 + 1))))
        else none)
        (L53_0a F65 F64 n m1 x0 x1 x5 x9 (IntKind.i64.wrap (x10 + 1))))))
    else none)
   else none)
   (L53_1a F65 F64 n n x0 x1 x5 (List.length x0 : Int) 0)) := by kernel_rfl
theorem L53_0a_step (F65 : sig65.Fn) (F64 : sig64.Fn) (n m1 : Nat) (x0 : List YAttr.den) (x1 : List YAttr.den) (x5 : List YAttr.den) (x9 : Int) (x10 : Int) : L53_0a F65 F64 n (m1 + 1) x0 x1 x5 x9 x10 =
  (bcond (decide ((x10 : Int) < x9))
   (if 0 ≤ (x10 : Int) ∧ (x10 : Int) < (List.length x1 : Int) then
    (if 0 ≤ (x10 : Int) ∧ (x10 : Int) < (List.length x1 : Int) then
     ((C65 F65 x0 (at_ (e := YAttr) x1 x10).1).bind fun r1 =>
      (bcond (!(((res65_0 r1) : List UInt8) == (at_ (e := YAttr) x1 x10).2))
       (if 0 ≤ (x10 : Int) ∧ (x10 : Int) < (List.length x1 : Int) then
        ((C64 F64 x5 (at_ (e := YAttr) x1 x10)).bind fun r2 =>
         (L53_0a F65 F64 n m1 x0 x1 (res64_0 r2) x9 (IntKind.i64.wrap (x10 + 1))))
       else none)
       (L53_0a F65 F64 n m1 x0 x1 x5 x9 (IntKind.i64.wrap (x10 + 1)))))
    else none)
   else none)
   (L53_1a F65 F64 n n x0 x1 x5 (List.length x0 : Int) 0)) := by rw [L53_0a_raw]; simp only [agree_self]
theorem L53_1_step (F65 : sig65.Fn) (F64 : sig64.Fn) (n m1 : Nat) (x0 : List YAttr.den) (x1 : List YAttr.den) (x34 : Int) (x35 : Int) : L53_1 F65 F64 n (m1 + 1) x0 x1 x34 x35 =
  (bcond (decide ((x35 : Int) < x34))
   (if 0 ≤ (x35 : Int) ∧ (x35 : Int) < (List.length x0 : Int) then
    ((C65 F65 x1 (at_ (e := YAttr) x0 x35).1).bind fun r1 =>
     (bcond (((res65_0 r1) : List UInt8) == [])
      (if 0 ≤ (x35 : Int) ∧ (x35 : Int) < (List.length x0 : Int) then
       ((C64 F64 [] ((at_ (e := YAttr) x0 x35).1, [])).bind fun r2 =>
        (L53_1a F65 F64 n m1 x0 x1 (res64_0 r2) x34 (IntKind.i64.wrap (x35 + 1))))
      else none)
      (L53_1 F65 F64 n m1 x0 x1 x34 (IntKind.i64.wrap (x35 + 1)))))
   else none)
   (some (ret53 []))) := by kernel_rfl
theorem L53_1a_step (F65 : sig65.Fn) (F64 : sig64.Fn) (n m1 : Nat) (x0 : List YAttr.den) (x1 : List YAttr.den) (x5 : List YAttr.den) (x34 : Int) (x35 : Int) : L53_1a F65 F64 n (m1 + 1) x0 x1 x5 x34 x35 =
  (bcond (decide ((x35 : Int) < x34))
   (if 0 ≤ (x35 : Int) ∧ (x35 : Int) < (List.length x0 : Int) then
    ((C65 F65 x1 (at_ (e := YAttr) x0 x35).1).bind fun r1 =>
     (bcond (((res65_0 r1) : List UInt8) == [])
      (if 0 ≤ (x35 : Int) ∧ (x35 : Int) < (List.length x0 : Int) then
       ((C64 F64 x5 ((at_ (e := YAttr) x0 x35).1, [])).bind fun r2 =>
        (L53_1a F65 F64 n m1 x0 x1 (res64_0 r2) x34 (IntKind.i64.wrap (x35 + 1))))
      else none)
      (L53_1a F65 F64 n m1 x0 x1 x5 x34 (IntKind.i64.wrap (x35 + 1)))))
   else none)
   (some (ret53 x5))) := by kernel_rfl
theorem run53 (F65 : sig65.Fn) (F64 : sig64.Fn) (n : Nat) (a0 : List YAttr.den) (a1 : List YAttr.den) : C53 (fun x y => run T (env53 F65 F64) os53 sig53 Try.f53 hs53 n x y) a0 a1 =
  (L53_0 F65 F64 n n a0 a1 (List.length a1 : Int) 0) := by kernel_rfl
theorem ok53 : fnOk os53 sig53 Try.f53 = true := by kernel_rfl
theorem fn53 : P.funcs[53]? = some Try.f53 := by kernel_rfl
noncomputable def F53 : sig53.Fn := fun x y => run T (env53 F65 F64) os53 sig53 Try.f53 hs53 big x y
theorem S53 : Sound P 53 ⟨sig53, F53⟩ := sound_of (os := os53) (hs := hs53) (env_cons S65 (env_cons S64 (env_nil))) fn53 ok53 (fun x y out h => ⟨big, h⟩)
theorem e53 (a0 : List YAttr.den) (a1 : List YAttr.den) : C53 F53 a0 a1 =
  (L53_0 F65 F64 big big a0 a1 (List.length a1 : Int) 0) := run53 F65 F64 big a0 a1
end Go.Ev
