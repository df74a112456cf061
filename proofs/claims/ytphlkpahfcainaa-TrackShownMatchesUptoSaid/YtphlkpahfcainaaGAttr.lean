/- Functions, step by step. -/
import Derived.Test.YtphlkpahfcainaaGBase
namespace Go.Ev
set_option linter.unusedVariables false
set_option maxRecDepth 100000
open Go.Proofs

/-! ### chancery/attr.Name -/
def sig36 : Sig := ⟨[.v false .str], [], [(false, [.fr .bool])]⟩
def C36 (F : sig36.Fn) (a0 : List UInt8) : Option sig36.Out := F (a0, ()) ()
def ret36 (v0 : Bool) : sig36.Out := (((v0, ()), ()), ())
def res36_0 (r : sig36.Out) : Bool := r.1.1.1
@[simp] theorem res36_0_ret (v0 : Bool) : res36_0 (ret36 v0) = v0 := rfl
def os36 : List (Nat × Ord) := []
def hs36 : List Keep := [[(0, []), (23, []), (24, [])]]
@[reducible] def env36 : Env := []
noncomputable def L36_0 (n m1 : Nat) (x0 : List UInt8) (x23 : Int) (x24 : Int) : Option sig36.Out :=
  loopAt T (env36) os36 sig36 Try.f36 hs36 n [.sr, .sr, .sl, .sr, .bl] m1 (mk 53 [(0, .cs false [.val .str x0]), (23, .cs false [.val (.int .i64) x23]), (24, .cs false [.val (.int .i64) x24])])
theorem L36_0_step (n m1 : Nat) (x0 : List UInt8) (x23 : Int) (x24 : Int) : L36_0 n (m1 + 1) x0 x23 x24 =
  (bcond (decide ((x24 : Int) < x23))
   (if 0 ≤ (x24 : Int) ∧ (x24 : Int) < (List.length x0 : Int) then
    (bcond ((decide ((((List.getD (x0 : List UInt8) (Int.toNat x24) 0).toNat : Int) : Int) < 97)) == false)
     (bcond ((decide ((((List.getD (x0 : List UInt8) (Int.toNat x24) 0).toNat : Int) : Int) > 122)) == true)
      (bcond ((decide ((((List.getD (x0 : List UInt8) (Int.toNat x24) 0).toNat : Int) : Int) < 48)) == false)
       (bcond ((decide ((((List.getD (x0 : List UInt8) (Int.toNat x24) 0).toNat : Int) : Int) > 57)) == true)
        (bcond (((((List.getD (x0 : List UInt8) (Int.toNat x24) 0).toNat : Int) : Int) != 46) == true)
         (bcond ((((List.getD (x0 : List UInt8) (Int.toNat x24) 0).toNat : Int) : Int) != 45)
          (some (ret36 false))
          (L36_0 n m1 x0 x23 (IntKind.i64.wrap (x24 + 1))))
         (L36_0 n m1 x0 x23 (IntKind.i64.wrap (x24 + 1))))
        (L36_0 n m1 x0 x23 (IntKind.i64.wrap (x24 + 1))))
       (bcond (((((List.getD (x0 : List UInt8) (Int.toNat x24) 0).toNat : Int) : Int) != 46) == true)
        (bcond ((((List.getD (x0 : List UInt8) (Int.toNat x24) 0).toNat : Int) : Int) != 45)
         (some (ret36 false))
         (L36_0 n m1 x0 x23 (IntKind.i64.wrap (x24 + 1))))
        (L36_0 n m1 x0 x23 (IntKind.i64.wrap (x24 + 1)))))
      (L36_0 n m1 x0 x23 (IntKind.i64.wrap (x24 + 1))))
     (bcond ((decide ((((List.getD (x0 : List UInt8) (Int.toNat x24) 0).toNat : Int) : Int) < 48)) == false)
      (bcond ((decide ((((List.getD (x0 : List UInt8) (Int.toNat x24) 0).toNat : Int) : Int) > 57)) == true)
       (bcond (((((List.getD (x0 : List UInt8) (Int.toNat x24) 0).toNat : Int) : Int) != 46) == true)
        (bcond ((((List.getD (x0 : List UInt8) (Int.toNat x24) 0).toNat : Int) : Int) != 45)
         (some (ret36 false))
         (L36_0 n m1 x0 x23 (IntKind.i64.wrap (x24 + 1))))
        (L36_0 n m1 x0 x23 (IntKind.i64.wrap (x24 + 1))))
       (L36_0 n m1 x0 x23 (IntKind.i64.wrap (x24 + 1))))
      (bcond (((((List.getD (x0 : List UInt8) (Int.toNat x24) 0).toNat : Int) : Int) != 46) == true)
       (bcond ((((List.getD (x0 : List UInt8) (Int.toNat x24) 0).toNat : Int) : Int) != 45)
        (some (ret36 false))
        (L36_0 n m1 x0 x23 (IntKind.i64.wrap (x24 + 1))))
       (L36_0 n m1 x0 x23 (IntKind.i64.wrap (x24 + 1))))))
   else none)
   (some (ret36 true))) := by kernel_rfl
theorem run36 (n : Nat) (a0 : List UInt8) : C36 (fun x y => run T (env36) os36 sig36 Try.f36 hs36 n x y) a0 =
  (bcond (((a0 : List UInt8) == []) == false)
   (bcond ((decide (((List.length a0 : Int) : Int) > 24)) == false)
    (if 0 ≤ (0 : Int) ∧ (0 : Int) < (List.length a0 : Int) then
     (bcond ((decide ((((List.getD (a0 : List UInt8) (Int.toNat 0) 0).toNat : Int) : Int) < 97)) == false)
      (if 0 ≤ (0 : Int) ∧ (0 : Int) < (List.length a0 : Int) then
       (bcond (decide ((((List.getD (a0 : List UInt8) (Int.toNat 0) 0).toNat : Int) : Int) > 122))
        (some (ret36 false))
        (L36_0 n n a0 (List.length a0 : Int) 0))
      else none)
      (some (ret36 false)))
    else none)
    (some (ret36 false)))
   (some (ret36 false))) := by kernel_rfl
theorem ok36 : fnOk os36 sig36 Try.f36 = true := by kernel_rfl
theorem fn36 : P.funcs[36]? = some Try.f36 := by kernel_rfl
noncomputable def F36 : sig36.Fn := fun x y => run T (env36) os36 sig36 Try.f36 hs36 big x y
theorem S36 : Sound P 36 ⟨sig36, F36⟩ := sound_of (os := os36) (hs := hs36) (env_nil) fn36 ok36 (fun x y out h => ⟨big, h⟩)
theorem e36 (a0 : List UInt8) : C36 F36 a0 =
  (bcond (((a0 : List UInt8) == []) == false)
   (bcond ((decide (((List.length a0 : Int) : Int) > 24)) == false)
    (if 0 ≤ (0 : Int) ∧ (0 : Int) < (List.length a0 : Int) then
     (bcond ((decide ((((List.getD (a0 : List UInt8) (Int.toNat 0) 0).toNat : Int) : Int) < 97)) == false)
      (if 0 ≤ (0 : Int) ∧ (0 : Int) < (List.length a0 : Int) then
       (bcond (decide ((((List.getD (a0 : List UInt8) (Int.toNat 0) 0).toNat : Int) : Int) > 122))
        (some (ret36 false))
        (L36_0 big big a0 (List.length a0 : Int) 0))
      else none)
      (some (ret36 false)))
    else none)
    (some (ret36 false)))
   (some (ret36 false))) := run36 big a0

/-! ### chancery/attr.Value -/
def sig108 : Sig := ⟨[.v false .str], [], [(false, [.fr .bool])]⟩
def C108 (F : sig108.Fn) (a0 : List UInt8) : Option sig108.Out := F (a0, ()) ()
def ret108 (v0 : Bool) : sig108.Out := (((v0, ()), ()), ())
def res108_0 (r : sig108.Out) : Bool := r.1.1.1
@[simp] theorem res108_0_ret (v0 : Bool) : res108_0 (ret108 v0) = v0 := rfl
def os108 : List (Nat × Ord) := []
def hs108 : List Keep := [[(0, []), (12, []), (13, [])]]
@[reducible] def env108 : Env := []
noncomputable def L108_0 (n m1 : Nat) (x0 : List UInt8) (x12 : Int) (x13 : Int) : Option sig108.Out :=
  loopAt T (env108) os108 sig108 Try.f108 hs108 n [.sr, .sr, .sl, .sr, .bl] m1 (mk 27 [(0, .cs false [.val .str x0]), (12, .cs false [.val (.int .i64) x12]), (13, .cs false [.val (.int .i64) x13])])
theorem L108_0_step (n m1 : Nat) (x0 : List UInt8) (x12 : Int) (x13 : Int) : L108_0 n (m1 + 1) x0 x12 x13 =
  (bcond (decide ((x13 : Int) < x12))
   (if 0 ≤ (x13 : Int) ∧ (x13 : Int) < (List.length x0 : Int) then
    (bcond ((decide ((((List.getD (x0 : List UInt8) (Int.toNat x13) 0).toNat : Int) : Int) < 32)) == false)
     (if 0 ≤ (x13 : Int) ∧ (x13 : Int) < (List.length x0 : Int) then
      (bcond (decide ((((List.getD (x0 : List UInt8) (Int.toNat x13) 0).toNat : Int) : Int) > 126))
       (some (ret108 false))
       (L108_0 n m1 x0 x12 (IntKind.i64.wrap (x13 + 1))))
     else none)
     (some (ret108 false)))
   else none)
   (some (ret108 true))) := by kernel_rfl
theorem run108 (n : Nat) (a0 : List UInt8) : C108 (fun x y => run T (env108) os108 sig108 Try.f108 hs108 n x y) a0 =
  (bcond (((a0 : List UInt8) == []) == false)
   (bcond (decide (((List.length a0 : Int) : Int) > 200))
    (some (ret108 false))
    (L108_0 n n a0 (List.length a0 : Int) 0))
   (some (ret108 false))) := by kernel_rfl
theorem ok108 : fnOk os108 sig108 Try.f108 = true := by kernel_rfl
theorem fn108 : P.funcs[108]? = some Try.f108 := by kernel_rfl
noncomputable def F108 : sig108.Fn := fun x y => run T (env108) os108 sig108 Try.f108 hs108 big x y
theorem S108 : Sound P 108 ⟨sig108, F108⟩ := sound_of (os := os108) (hs := hs108) (env_nil) fn108 ok108 (fun x y out h => ⟨big, h⟩)
theorem e108 (a0 : List UInt8) : C108 F108 a0 =
  (bcond (((a0 : List UInt8) == []) == false)
   (bcond (decide (((List.length a0 : Int) : Int) > 200))
    (some (ret108 false))
    (L108_0 big big a0 (List.length a0 : Int) 0))
   (some (ret108 false))) := run108 big a0

/-! ### chancery/attr.check -/
def sig86 : Sig := ⟨[.v false (.list YAttr), .v false .bool], [], [(false, [.fr (.int .i64)])]⟩
def C86 (F : sig86.Fn) (a0 : List YAttr.den) (a1 : Bool) : Option sig86.Out := F (a0, a1, ()) ()
def ret86 (v0 : Int) : sig86.Out := (((v0, ()), ()), ())
def res86_0 (r : sig86.Out) : Int := r.1.1.1
@[simp] theorem res86_0_ret (v0 : Int) : res86_0 (ret86 v0) = v0 := rfl
def os86 : List (Nat × Ord) := [(8, .st 0 (.st 1 (.st 2 (.st 3 (.st 5 (.st 6 (.st 7 (.st 8 (.st 9 (.st 4 (.st 10 (.st 11 (.st 12 (.st 13 (.nil)))))))))))))))]
def hs86 : List Keep := [[(0, []), (1, []), (7, []), (8, []), (9, [])]]
@[reducible] def env86 (F36 : sig36.Fn) (F108 : sig108.Fn) : Env := [(36, ⟨sig36, F36⟩), (108, ⟨sig108, F108⟩)]
noncomputable def L86_0 (F36 : sig36.Fn) (F108 : sig108.Fn) (n m1 : Nat) (x0 : List YAttr.den) (x1 : Bool) (x7 : List YAttr.den) (x8 : Int) (x9 : Int) : Option sig86.Out :=
  loopAt T (env86 F36 F108) os86 sig86 Try.f86 hs86 n [.sr, .sl, .sr, .bl] m1 (mk 48 [(0, .cs false [.val (.list YAttr) x0]), (1, .cs false [.val .bool x1]), (7, .cs false [.val (.list YAttr) x7]), (8, .cs false [.val (.int .i64) x8]), (9, .cs false [.val (.int .i64) x9])])
theorem L86_0_step (F36 : sig36.Fn) (F108 : sig108.Fn) (n m1 : Nat) (x0 : List YAttr.den) (x1 : Bool) (x7 : List YAttr.den) (x8 : Int) (x9 : Int) : L86_0 F36 F108 n (m1 + 1) x0 x1 x7 x8 x9 =
  (bcond (decide ((x9 : Int) < x8))
   (if 0 ≤ (x9 : Int) ∧ (x9 : Int) < (List.length x7 : Int) then
    ((C36 F36 (at_ (e := YAttr) x7 x9).1).bind fun r1 =>
     (bcond (!(res36_0 r1))
      (some (ret86 9))
      ((C108 F108 (at_ (e := YAttr) x7 x9).2).bind fun r2 =>
       (bcond ((!(res108_0 r2)) == true)
        (bcond (x1 == true)
         (bcond (!(((at_ (e := YAttr) x7 x9).2 : List UInt8) == []))
          (some (ret86 23))
          (bcond ((decide ((x9 : Int) > 0)) == true)
           (if 0 ≤ ((IntKind.i64.wrap (x9 - 1)) : Int) ∧ ((IntKind.i64.wrap (x9 - 1)) : Int) < (List.length x0 : Int) then
            (bcond (strLess (at_ (e := YAttr) x7 x9).1 (at_ (e := YAttr) x0 (IntKind.i64.wrap (x9 - 1))).1 || ((at_ (e := YAttr) x7 x9).1 : List UInt8) == (at_ (e := YAttr) x0 (IntKind.i64.wrap (x9 - 1))).1)
             (some (ret86 5))
             (L86_0 F36 F108 n m1 x0 x1 x7 x8 (IntKind.i64.wrap (x9 + 1))))
           else none)
           (L86_0 F36 F108 n m1 x0 x1 x7 x8 (IntKind.i64.wrap (x9 + 1)))))
         (some (ret86 23)))
        (bcond ((decide ((x9 : Int) > 0)) == true)
         (if 0 ≤ ((IntKind.i64.wrap (x9 - 1)) : Int) ∧ ((IntKind.i64.wrap (x9 - 1)) : Int) < (List.length x0 : Int) then
          (bcond (strLess (at_ (e := YAttr) x7 x9).1 (at_ (e := YAttr) x0 (IntKind.i64.wrap (x9 - 1))).1 || ((at_ (e := YAttr) x7 x9).1 : List UInt8) == (at_ (e := YAttr) x0 (IntKind.i64.wrap (x9 - 1))).1)
           (some (ret86 5))
           (L86_0 F36 F108 n m1 x0 x1 x7 x8 (IntKind.i64.wrap (x9 + 1))))
         else none)
         (L86_0 F36 F108 n m1 x0 x1 x7 x8 (IntKind.i64.wrap (x9 + 1))))))))
   else none)
   (some (ret86 0))) := by kernel_rfl
theorem run86 (F36 : sig36.Fn) (F108 : sig108.Fn) (n : Nat) (a0 : List YAttr.den) (a1 : Bool) : C86 (fun x y => run T (env86 F36 F108) os86 sig86 Try.f86 hs86 n x y) a0 a1 =
  (L86_0 F36 F108 n n a0 a1 a0 (List.length a0 : Int) 0) := by kernel_rfl
theorem ok86 : fnOk os86 sig86 Try.f86 = true := by kernel_rfl
theorem fn86 : P.funcs[86]? = some Try.f86 := by kernel_rfl
noncomputable def F86 : sig86.Fn := fun x y => run T (env86 F36 F108) os86 sig86 Try.f86 hs86 big x y
theorem S86 : Sound P 86 ⟨sig86, F86⟩ := sound_of (os := os86) (hs := hs86) (env_cons S36 (env_cons S108 (env_nil))) fn86 ok86 (fun x y out h => ⟨big, h⟩)
theorem e86 (a0 : List YAttr.den) (a1 : Bool) : C86 F86 a0 a1 =
  (L86_0 F36 F108 big big a0 a1 a0 (List.length a0 : Int) 0) := run86 F36 F108 big a0 a1

/-! ### chancery/attr.Check -/
def sig38 : Sig := ⟨[.v false (.list YAttr)], [], [(false, [.fr (.int .i64)])]⟩
def C38 (F : sig38.Fn) (a0 : List YAttr.den) : Option sig38.Out := F (a0, ()) ()
def ret38 (v0 : Int) : sig38.Out := (((v0, ()), ()), ())
def res38_0 (r : sig38.Out) : Int := r.1.1.1
@[simp] theorem res38_0_ret (v0 : Int) : res38_0 (ret38 v0) = v0 := rfl
def os38 : List (Nat × Ord) := []
def hs38 : List Keep := []
@[reducible] def env38 (F86 : sig86.Fn) : Env := [(86, ⟨sig86, F86⟩)]
theorem run38 (F86 : sig86.Fn) (n : Nat) (a0 : List YAttr.den) : C38 (fun x y => run T (env38 F86) os38 sig38 Try.f38 hs38 n x y) a0 =
  ((C86 F86 a0 false).bind fun r1 =>
   (some (ret38 (res86_0 r1)))) := by kernel_rfl
theorem ok38 : fnOk os38 sig38 Try.f38 = true := by kernel_rfl
theorem fn38 : P.funcs[38]? = some Try.f38 := by kernel_rfl
noncomputable def F38 : sig38.Fn := fun x y => run T (env38 F86) os38 sig38 Try.f38 hs38 big x y
theorem S38 : Sound P 38 ⟨sig38, F38⟩ := sound_of (os := os38) (hs := hs38) (env_cons S86 (env_nil)) fn38 ok38 (fun x y out h => ⟨big, h⟩)
theorem e38 (a0 : List YAttr.den) : C38 F38 a0 =
  ((C86 F86 a0 false).bind fun r1 =>
   (some (ret38 (res86_0 r1)))) := run38 F86 big a0

/-! ### chancery/attr.CheckChange -/
def sig40 : Sig := ⟨[.v false (.list YAttr)], [], [(false, [.fr (.int .i64)])]⟩
def C40 (F : sig40.Fn) (a0 : List YAttr.den) : Option sig40.Out := F (a0, ()) ()
def ret40 (v0 : Int) : sig40.Out := (((v0, ()), ()), ())
def res40_0 (r : sig40.Out) : Int := r.1.1.1
@[simp] theorem res40_0_ret (v0 : Int) : res40_0 (ret40 v0) = v0 := rfl
def os40 : List (Nat × Ord) := []
def hs40 : List Keep := []
@[reducible] def env40 (F86 : sig86.Fn) : Env := [(86, ⟨sig86, F86⟩)]
theorem run40 (F86 : sig86.Fn) (n : Nat) (a0 : List YAttr.den) : C40 (fun x y => run T (env40 F86) os40 sig40 Try.f40 hs40 n x y) a0 =
  ((C86 F86 a0 true).bind fun r1 =>
   (some (ret40 (res86_0 r1)))) := by kernel_rfl
theorem ok40 : fnOk os40 sig40 Try.f40 = true := by kernel_rfl
theorem fn40 : P.funcs[40]? = some Try.f40 := by kernel_rfl
noncomputable def F40 : sig40.Fn := fun x y => run T (env40 F86) os40 sig40 Try.f40 hs40 big x y
theorem S40 : Sound P 40 ⟨sig40, F40⟩ := sound_of (os := os40) (hs := hs40) (env_cons S86 (env_nil)) fn40 ok40 (fun x y out h => ⟨big, h⟩)
theorem e40 (a0 : List YAttr.den) : C40 F40 a0 =
  ((C86 F86 a0 true).bind fun r1 =>
   (some (ret40 (res86_0 r1)))) := run40 F86 big a0

/-! ### chancery/attr.Get -/
def sig41 : Sig := ⟨[.v false (.list YAttr), .v false .str], [], [(false, [.fr .str])]⟩
def C41 (F : sig41.Fn) (a0 : List YAttr.den) (a1 : List UInt8) : Option sig41.Out := F (a0, a1, ()) ()
def ret41 (v0 : List UInt8) : sig41.Out := (((v0, ()), ()), ())
def res41_0 (r : sig41.Out) : List UInt8 := r.1.1.1
@[simp] theorem res41_0_ret (v0 : List UInt8) : res41_0 (ret41 v0) = v0 := rfl
def os41 : List (Nat × Ord) := []
def hs41 : List Keep := [[(1, []), (7, []), (8, []), (9, [])]]
@[reducible] def env41 : Env := []
noncomputable def L41_0 (n m1 : Nat) (x1 : List UInt8) (x7 : List YAttr.den) (x8 : Int) (x9 : Int) : Option sig41.Out :=
  loopAt T (env41) os41 sig41 Try.f41 hs41 n [.sr, .sl, .sr, .bl] m1 (mk 20 [(1, .cs false [.val .str x1]), (7, .cs false [.val (.list YAttr) x7]), (8, .cs false [.val (.int .i64) x8]), (9, .cs false [.val (.int .i64) x9])])
theorem L41_0_step (n m1 : Nat) (x1 : List UInt8) (x7 : List YAttr.den) (x8 : Int) (x9 : Int) : L41_0 n (m1 + 1) x1 x7 x8 x9 =
  (bcond (decide ((x9 : Int) < x8))
   (if 0 ≤ (x9 : Int) ∧ (x9 : Int) < (List.length x7 : Int) then
    (bcond (((at_ (e := YAttr) x7 x9).1 : List UInt8) == x1)
     (some (ret41 (at_ (e := YAttr) x7 x9).2))
     (L41_0 n m1 x1 x7 x8 (IntKind.i64.wrap (x9 + 1))))
   else none)
   (some (ret41 []))) := by kernel_rfl
theorem run41 (n : Nat) (a0 : List YAttr.den) (a1 : List UInt8) : C41 (fun x y => run T (env41) os41 sig41 Try.f41 hs41 n x y) a0 a1 =
  (L41_0 n n a1 a0 (List.length a0 : Int) 0) := by kernel_rfl
theorem ok41 : fnOk os41 sig41 Try.f41 = true := by kernel_rfl
theorem fn41 : P.funcs[41]? = some Try.f41 := by kernel_rfl
noncomputable def F41 : sig41.Fn := fun x y => run T (env41) os41 sig41 Try.f41 hs41 big x y
theorem S41 : Sound P 41 ⟨sig41, F41⟩ := sound_of (os := os41) (hs := hs41) (env_nil) fn41 ok41 (fun x y out h => ⟨big, h⟩)
theorem e41 (a0 : List YAttr.den) (a1 : List UInt8) : C41 F41 a0 a1 =
  (L41_0 big big a1 a0 (List.length a0 : Int) 0) := run41 big a0 a1

/-! ### chancery/attr.Raw$1 -/
def sig110 : Sig := ⟨[.v true YAttr, .v true YAttr, .p 0], [[.ow 112 YAttr]], []⟩
def C110 (F : sig110.Fn) (a0 : YAttr.den) (a1 : YAttr.den) (b0_0 : List YAttr.den) : Option sig110.Out := F (a0, a1, ()) ((b0_0, ()), ())
def ret110 (v0 : List YAttr.den) : sig110.Out := ((), ((v0, ()), ()))
def res110_0 (r : sig110.Out) : List YAttr.den := r.2.1.1
@[simp] theorem res110_0_ret (v0 : List YAttr.den) : res110_0 (ret110 v0) = v0 := rfl
def os110 : List (Nat × Ord) := []
def hs110 : List Keep := []
@[reducible] def env110 : Env := []
theorem run110 (n : Nat) (a0 : YAttr.den) (a1 : YAttr.den) (b0_0 : List YAttr.den) : C110 (fun x y => run T (env110) os110 sig110 Try.f110 hs110 n x y) a0 a1 b0_0 =
  (bcond ((a1.1 : List UInt8) == [])
   (if (List.length (b0_0 : List YAttr.den) + List.length ([a0] : List YAttr.den)) * 32 ≤ 140737488355328 then
    (some (ret110 (b0_0 ++ [a0])))
   else none)
   (bcond (!((a1.2 : List UInt8) == []))
    (if (List.length (b0_0 : List YAttr.den) + List.length ([a1] : List YAttr.den)) * 32 ≤ 140737488355328 then
     (some (ret110 (b0_0 ++ [a1])))
    else none)
    (some (ret110 b0_0)))) := by kernel_rfl
theorem ok110 : fnOk os110 sig110 Try.f110 = true := by kernel_rfl
theorem fn110 : P.funcs[110]? = some Try.f110 := by kernel_rfl
noncomputable def F110 : sig110.Fn := fun x y => run T (env110) os110 sig110 Try.f110 hs110 big x y
theorem S110 : Sound P 110 ⟨sig110, F110⟩ := sound_of (os := os110) (hs := hs110) (env_nil) fn110 ok110 (fun x y out h => ⟨big, h⟩)
theorem e110 (a0 : YAttr.den) (a1 : YAttr.den) (b0_0 : List YAttr.den) : C110 F110 a0 a1 b0_0 =
  (bcond ((a1.1 : List UInt8) == [])
   (if (List.length (b0_0 : List YAttr.den) + List.length ([a0] : List YAttr.den)) * 32 ≤ 140737488355328 then
    (some (ret110 (b0_0 ++ [a0])))
   else none)
   (bcond (!((a1.2 : List UInt8) == []))
    (if (List.length (b0_0 : List YAttr.den) + List.length ([a1] : List YAttr.den)) * 32 ≤ 140737488355328 then
     (some (ret110 (b0_0 ++ [a1])))
    else none)
    (some (ret110 b0_0)))) := run110 big a0 a1 b0_0

/-! ### chancery/attr.both -/
def sig109_110 : Sig := ⟨[.v false (.list YAttr), .v false (.list YAttr), .f 110 [0]], [[.ow 112 YAttr]], []⟩
def C109_110 (F : sig109_110.Fn) (a0 : List YAttr.den) (a1 : List YAttr.den) (b0_0 : List YAttr.den) : Option sig109_110.Out := F (a0, a1, ()) ((b0_0, ()), ())
def ret109_110 (v0 : List YAttr.den) : sig109_110.Out := ((), ((v0, ()), ()))
def res109_110_0 (r : sig109_110.Out) : List YAttr.den := r.2.1.1
@[simp] theorem res109_110_0_ret (v0 : List YAttr.den) : res109_110_0 (ret109_110 v0) = v0 := rfl
def os109_110 : List (Nat × Ord) := [(2, .st 0 (.st 1 (.st 2 (.st 3 (.st 5 (.st 6 (.st 7 (.st 4 (.st 8 (.st 9 (.nil))))))))))), (4, .st 0 (.st 1 (.st 2 (.st 3 (.st 4 (.st 5 (.st 6 (.st 7 (.st 8 (.st 9 (.st 10 (.st 11 (.st 12 (.st 13 (.st 15 (.st 16 (.st 17 (.st 18 (.st 14 (.st 19 (.st 20 (.st 21 (.st 22 (.st 23 (.nil))))))))))))))))))))))))), (7, .st 0 (.st 1 (.st 2 (.st 3 (.st 4 (.st 5 (.st 6 (.st 7 (.st 8 (.st 10 (.st 11 (.st 12 (.st 13 (.st 9 (.st 14 (.st 15 (.st 16 (.st 17 (.nil)))))))))))))))))))]
def hs109_110 : List Keep := [[(0, []), (1, []), (2, []), (6, []), (7, []), (92, [(0, 112, YAttr)])]]
@[reducible] def env109_110 (F110 : sig110.Fn) : Env := [(110, ⟨sig110, F110⟩)]
noncomputable def L109_110_0 (F110 : sig110.Fn) (n m1 : Nat) (x0 : List YAttr.den) (x1 : List YAttr.den) (x6 : Int) (x7 : Int) (x92 : List YAttr.den) : Option sig109_110.Out :=
  loopAt T (env109_110 F110) os109_110 sig109_110 Try.f109 hs109_110 n [.sr, .bl] m1 (mk 93 [(0, .cs false [.val (.list YAttr) x0]), (1, .cs false [.val (.list YAttr) x1]), (2, .cs false [.clo 110 [92]]), (6, .cs false [.val (.int .i64) x6]), (7, .cs false [.val (.int .i64) x7]), (92, .box [.own 112 YAttr x92])])
theorem L109_110_0_step (F110 : sig110.Fn) (n m1 : Nat) (x0 : List YAttr.den) (x1 : List YAttr.den) (x6 : Int) (x7 : Int) (x92 : List YAttr.den) : L109_110_0 F110 n (m1 + 1) x0 x1 x6 x7 x92 =
  (bcond ((decide ((x6 : Int) < (List.length x0 : Int))) == false)
   (bcond (decide ((x7 : Int) < (List.length x1 : Int)))
    (bcond (((x7 : Int) == (List.length x1 : Int)) == false)
     (bcond ((decide ((x6 : Int) < (List.length x0 : Int))) == true)
      (if 0 ≤ (x6 : Int) ∧ (x6 : Int) < (List.length x0 : Int) then
       (if 0 ≤ (x7 : Int) ∧ (x7 : Int) < (List.length x1 : Int) then
        (bcond (strLess (at_ (e := YAttr) x0 x6).1 (at_ (e := YAttr) x1 x7).1)
         (if 0 ≤ (x6 : Int) ∧ (x6 : Int) < (List.length x0 : Int) then
          ((C110 F110 (at_ (e := YAttr) x0 x6) ([], []) x92).bind fun r1 =>
           (L109_110_0 F110 n m1 x0 x1 (IntKind.i64.wrap (x6 + 1)) x7 (res110_0 r1)))
         else none)
         (bcond (((x6 : Int) == (List.length x0 : Int)) == false)
          (if 0 ≤ (x7 : Int) ∧ (x7 : Int) < (List.length x1 : Int) then
           (if 0 ≤ (x6 : Int) ∧ (x6 : Int) < (List.length x0 : Int) then
            (bcond (strLess (at_ (e := YAttr) x1 x7).1 (at_ (e := YAttr) x0 x6).1)
             (if 0 ≤ (x7 : Int) ∧ (x7 : Int) < (List.length x1 : Int) then
              ((C110 F110 ([], []) (at_ (e := YAttr) x1 x7) x92).bind fun r1 =>
               (L109_110_0 F110 n m1 x0 x1 x6 (IntKind.i64.wrap (x7 + 1)) (res110_0 r1)))
             else none)
             (if 0 ≤ (x6 : Int) ∧ (x6 : Int) < (List.length x0 : Int) then
              (if 0 ≤ (x7 : Int) ∧ (x7 : Int) < (List.length x1 : Int) then
               ((C110 F110 (at_ (e := YAttr) x0 x6) (at_ (e := YAttr) x1 x7) x92).bind fun r1 =>
                (L109_110_0 F110 n m1 x0 x1 (IntKind.i64.wrap (x6 + 1)) (IntKind.i64.wrap (x7 + 1)) (res110_0 r1)))
              else none)
             else none))
           else none)
          else none)
          (if 0 ≤ (x7 : Int) ∧ (x7 : Int) < (List.length x1 : Int) then
           ((C110 F110 ([], []) (at_ (e := YAttr) x1 x7) x92).bind fun r1 =>
            (L109_110_0 F110 n m1 x0 x1 x6 (IntKind.i64.wrap (x7 + 1)) (res110_0 r1)))
          else none)))
       else none)
      else none)
      (bcond (((x6 : Int) == (List.length x0 : Int)) == false)
       (if 0 ≤ (x7 : Int) ∧ (x7 : Int) < (List.length x1 : Int) then
        (if 0 ≤ (x6 : Int) ∧ (x6 : Int) < (List.length x0 : Int) then
         (bcond (strLess (at_ (e := YAttr) x1 x7).1 (at_ (e := YAttr) x0 x6).1)
          (if 0 ≤ (x7 : Int) ∧ (x7 : Int) < (List.length x1 : Int) then
           ((C110 F110 ([], []) (at_ (e := YAttr) x1 x7) x92).bind fun r1 =>
            (L109_110_0 F110 n m1 x0 x1 x6 (IntKind.i64.wrap (x7 + 1)) (res110_0 r1)))
          else none)
          (if 0 ≤ (x6 : Int) ∧ (x6 : Int) < (List.length x0 : Int) then
           (if 0 ≤ (x7 : Int) ∧ (x7 : Int) < (List.length x1 : Int) then
            ((C110 F110 (at_ (e := YAttr) x0 x6) (at_ (e := YAttr) x1 x7) x92).bind fun r1 =>
             (L109_110_0 F110 n m1 x0 x1 (IntKind.i64.wrap (x6 + 1)) (IntKind.i64.wrap (x7 + 1)) (res110_0 r1)))
           else none)
          else none))
        else none)
       else none)
       (if 0 ≤ (x7 : Int) ∧ (x7 : Int) < (List.length x1 : Int) then
        ((C110 F110 ([], []) (at_ (e := YAttr) x1 x7) x92).bind fun r1 =>
         (L109_110_0 F110 n m1 x0 x1 x6 (IntKind.i64.wrap (x7 + 1)) (res110_0 r1)))
       else none)))
     (if 0 ≤ (x6 : Int) ∧ (x6 : Int) < (List.length x0 : Int) then
      ((C110 F110 (at_ (e := YAttr) x0 x6) ([], []) x92).bind fun r1 =>
       (L109_110_0 F110 n m1 x0 x1 (IntKind.i64.wrap (x6 + 1)) x7 (res110_0 r1)))
     else none))
    (some (ret109_110 x92)))
   (bcond (((x7 : Int) == (List.length x1 : Int)) == false)
    (bcond ((decide ((x6 : Int) < (List.length x0 : Int))) == true)
     (if 0 ≤ (x6 : Int) ∧ (x6 : Int) < (List.length x0 : Int) then
      (if 0 ≤ (x7 : Int) ∧ (x7 : Int) < (List.length x1 : Int) then
       (bcond (strLess (at_ (e := YAttr) x0 x6).1 (at_ (e := YAttr) x1 x7).1)
        (if 0 ≤ (x6 : Int) ∧ (x6 : Int) < (List.length x0 : Int) then
         ((C110 F110 (at_ (e := YAttr) x0 x6) ([], []) x92).bind fun r1 =>
          (L109_110_0 F110 n m1 x0 x1 (IntKind.i64.wrap (x6 + 1)) x7 (res110_0 r1)))
        else none)
        (bcond (((x6 : Int) == (List.length x0 : Int)) == false)
         (if 0 ≤ (x7 : Int) ∧ (x7 : Int) < (List.length x1 : Int) then
          (if 0 ≤ (x6 : Int) ∧ (x6 : Int) < (List.length x0 : Int) then
           (bcond (strLess (at_ (e := YAttr) x1 x7).1 (at_ (e := YAttr) x0 x6).1)
            (if 0 ≤ (x7 : Int) ∧ (x7 : Int) < (List.length x1 : Int) then
             ((C110 F110 ([], []) (at_ (e := YAttr) x1 x7) x92).bind fun r1 =>
              (L109_110_0 F110 n m1 x0 x1 x6 (IntKind.i64.wrap (x7 + 1)) (res110_0 r1)))
            else none)
            (if 0 ≤ (x6 : Int) ∧ (x6 : Int) < (List.length x0 : Int) then
             (if 0 ≤ (x7 : Int) ∧ (x7 : Int) < (List.length x1 : Int) then
              ((C110 F110 (at_ (e := YAttr) x0 x6) (at_ (e := YAttr) x1 x7) x92).bind fun r1 =>
               (L109_110_0 F110 n m1 x0 x1 (IntKind.i64.wrap (x6 + 1)) (IntKind.i64.wrap (x7 + 1)) (res110_0 r1)))
             else none)
            else none))
          else none)
         else none)
         (if 0 ≤ (x7 : Int) ∧ (x7 : Int) < (List.length x1 : Int) then
          ((C110 F110 ([], []) (at_ (e := YAttr) x1 x7) x92).bind fun r1 =>
           (L109_110_0 F110 n m1 x0 x1 x6 (IntKind.i64.wrap (x7 + 1)) (res110_0 r1)))
         else none)))
      else none)
     else none)
     (bcond (((x6 : Int) == (List.length x0 : Int)) == false)
      (if 0 ≤ (x7 : Int) ∧ (x7 : Int) < (List.length x1 : Int) then
       (if 0 ≤ (x6 : Int) ∧ (x6 : Int) < (List.length x0 : Int) then
        (bcond (strLess (at_ (e := YAttr) x1 x7).1 (at_ (e := YAttr) x0 x6).1)
         (if 0 ≤ (x7 : Int) ∧ (x7 : Int) < (List.length x1 : Int) then
          ((C110 F110 ([], []) (at_ (e := YAttr) x1 x7) x92).bind fun r1 =>
           (L109_110_0 F110 n m1 x0 x1 x6 (IntKind.i64.wrap (x7 + 1)) (res110_0 r1)))
         else none)
         (if 0 ≤ (x6 : Int) ∧ (x6 : Int) < (List.length x0 : Int) then
          (if 0 ≤ (x7 : Int) ∧ (x7 : Int) < (List.length x1 : Int) then
           ((C110 F110 (at_ (e := YAttr) x0 x6) (at_ (e := YAttr) x1 x7) x92).bind fun r1 =>
            (L109_110_0 F110 n m1 x0 x1 (IntKind.i64.wrap (x6 + 1)) (IntKind.i64.wrap (x7 + 1)) (res110_0 r1)))
          else none)
         else none))
       else none)
      else none)
      (if 0 ≤ (x7 : Int) ∧ (x7 : Int) < (List.length x1 : Int) then
       ((C110 F110 ([], []) (at_ (e := YAttr) x1 x7) x92).bind fun r1 =>
        (L109_110_0 F110 n m1 x0 x1 x6 (IntKind.i64.wrap (x7 + 1)) (res110_0 r1)))
      else none)))
    (if 0 ≤ (x6 : Int) ∧ (x6 : Int) < (List.length x0 : Int) then
     ((C110 F110 (at_ (e := YAttr) x0 x6) ([], []) x92).bind fun r1 =>
      (L109_110_0 F110 n m1 x0 x1 (IntKind.i64.wrap (x6 + 1)) x7 (res110_0 r1)))
    else none))) := by kernel_rfl
theorem run109_110 (F110 : sig110.Fn) (n : Nat) (a0 : List YAttr.den) (a1 : List YAttr.den) (b0_0 : List YAttr.den) : C109_110 (fun x y => run T (env109_110 F110) os109_110 sig109_110 Try.f109 hs109_110 n x y) a0 a1 b0_0 =
  (L109_110_0 F110 n n a0 a1 0 0 b0_0) := by kernel_rfl
theorem ok109_110 : fnOk os109_110 sig109_110 Try.f109 = true := by kernel_rfl
theorem fn109_110 : P.funcs[109]? = some Try.f109 := by kernel_rfl
noncomputable def F109_110 : sig109_110.Fn := fun x y => run T (env109_110 F110) os109_110 sig109_110 Try.f109 hs109_110 big x y
theorem S109_110 : Sound P 109 ⟨sig109_110, F109_110⟩ := sound_of (os := os109_110) (hs := hs109_110) (env_cons S110 (env_nil)) fn109_110 ok109_110 (fun x y out h => ⟨big, h⟩)
theorem e109_110 (a0 : List YAttr.den) (a1 : List YAttr.den) (b0_0 : List YAttr.den) : C109_110 F109_110 a0 a1 b0_0 =
  (L109_110_0 F110 big big a0 a1 0 0 b0_0) := run109_110 F110 big a0 a1 b0_0

/-! ### chancery/attr.Raw -/
def sig88 : Sig := ⟨[.v false (.list YAttr), .v false (.list YAttr)], [], [(false, [.fr (.list YAttr)])]⟩
def C88 (F : sig88.Fn) (a0 : List YAttr.den) (a1 : List YAttr.den) : Option sig88.Out := F (a0, a1, ()) ()
def ret88 (v0 : List YAttr.den) : sig88.Out := (((v0, ()), ()), ())
def res88_0 (r : sig88.Out) : List YAttr.den := r.1.1.1
@[simp] theorem res88_0_ret (v0 : List YAttr.den) : res88_0 (ret88 v0) = v0 := rfl
def os88 : List (Nat × Ord) := []
def hs88 : List Keep := []
@[reducible] def env88 (F109_110 : sig109_110.Fn) : Env := [(109, ⟨sig109_110, F109_110⟩)]
theorem run88 (F109_110 : sig109_110.Fn) (n : Nat) (a0 : List YAttr.den) (a1 : List YAttr.den) : C88 (fun x y => run T (env88 F109_110) os88 sig88 Try.f88 hs88 n x y) a0 a1 =
  ((C109_110 F109_110 a0 a1 []).bind fun r1 =>
   (some (ret88 (res109_110_0 r1)))) := by kernel_rfl
theorem ok88 : fnOk os88 sig88 Try.f88 = true := by kernel_rfl
theorem fn88 : P.funcs[88]? = some Try.f88 := by kernel_rfl
noncomputable def F88 : sig88.Fn := fun x y => run T (env88 F109_110) os88 sig88 Try.f88 hs88 big x y
theorem S88 : Sound P 88 ⟨sig88, F88⟩ := sound_of (os := os88) (hs := hs88) (env_cons S109_110 (env_nil)) fn88 ok88 (fun x y out h => ⟨big, h⟩)
theorem e88 (a0 : List YAttr.den) (a1 : List YAttr.den) : C88 F88 a0 a1 =
  ((C109_110 F109_110 a0 a1 []).bind fun r1 =>
   (some (ret88 (res109_110_0 r1)))) := run88 F109_110 big a0 a1

/-! ### chancery/attr.Apply -/
def sig43 : Sig := ⟨[.v false (.list YAttr), .v false (.list YAttr)], [], [(false, [.fr (.list YAttr)]), (false, [.fr (.int .i64)])]⟩
def C43 (F : sig43.Fn) (a0 : List YAttr.den) (a1 : List YAttr.den) : Option sig43.Out := F (a0, a1, ()) ()
def ret43 (v0 : List YAttr.den) (v1 : Int) : sig43.Out := (((v0, ()), (v1, ()), ()), ())
def res43_0 (r : sig43.Out) : List YAttr.den := r.1.1.1
@[simp] theorem res43_0_ret (v0 : List YAttr.den) (v1 : Int) : res43_0 (ret43 v0 v1) = v0 := rfl
def res43_1 (r : sig43.Out) : Int := r.1.2.1.1
@[simp] theorem res43_1_ret (v0 : List YAttr.den) (v1 : Int) : res43_1 (ret43 v0 v1) = v1 := rfl
def os43 : List (Nat × Ord) := []
def hs43 : List Keep := []
@[reducible] def env43 (F38 : sig38.Fn) (F40 : sig40.Fn) (F88 : sig88.Fn) : Env := [(38, ⟨sig38, F38⟩), (40, ⟨sig40, F40⟩), (88, ⟨sig88, F88⟩)]
theorem run43 (F38 : sig38.Fn) (F40 : sig40.Fn) (F88 : sig88.Fn) (n : Nat) (a0 : List YAttr.den) (a1 : List YAttr.den) : C43 (fun x y => run T (env43 F38 F40 F88) os43 sig43 Try.f43 hs43 n x y) a0 a1 =
  ((C38 F38 a0).bind fun r1 =>
   (bcond (((res38_0 r1) : Int) != 0)
    (some (ret43 [] (res38_0 r1)))
    ((C40 F40 a1).bind fun r2 =>
     (bcond (((res40_0 r2) : Int) != 0)
      (some (ret43 [] (res40_0 r2)))
      ((C88 F88 a0 a1).bind fun r3 =>
       (some (ret43 (res88_0 r3) 0))))))) := by kernel_rfl
theorem ok43 : fnOk os43 sig43 Try.f43 = true := by kernel_rfl
theorem fn43 : P.funcs[43]? = some Try.f43 := by kernel_rfl
noncomputable def F43 : sig43.Fn := fun x y => run T (env43 F38 F40 F88) os43 sig43 Try.f43 hs43 big x y
theorem S43 : Sound P 43 ⟨sig43, F43⟩ := sound_of (os := os43) (hs := hs43) (env_cons S38 (env_cons S40 (env_cons S88 (env_nil)))) fn43 ok43 (fun x y out h => ⟨big, h⟩)
theorem e43 (a0 : List YAttr.den) (a1 : List YAttr.den) : C43 F43 a0 a1 =
  ((C38 F38 a0).bind fun r1 =>
   (bcond (((res38_0 r1) : Int) != 0)
    (some (ret43 [] (res38_0 r1)))
    ((C40 F40 a1).bind fun r2 =>
     (bcond (((res40_0 r2) : Int) != 0)
      (some (ret43 [] (res40_0 r2)))
      ((C88 F88 a0 a1).bind fun r3 =>
       (some (ret43 (res88_0 r3) 0))))))) := run43 F38 F40 F88 big a0 a1

/-! ### chancery/chanceryref1.SameAttrs -/
def sig46 : Sig := ⟨[.v false (.list YAttr), .v false (.list YAttr)], [], [(false, [.fr .bool])]⟩
def C46 (F : sig46.Fn) (a0 : List YAttr.den) (a1 : List YAttr.den) : Option sig46.Out := F (a0, a1, ()) ()
def ret46 (v0 : Bool) : sig46.Out := (((v0, ()), ()), ())
def res46_0 (r : sig46.Out) : Bool := r.1.1.1
@[simp] theorem res46_0_ret (v0 : Bool) : res46_0 (ret46 v0) = v0 := rfl
def os46 : List (Nat × Ord) := [(6, .st 0 (.st 1 (.st 2 (.st 4 (.st 5 (.st 6 (.st 3 (.st 7 (.st 8 (.nil))))))))))]
def hs46 : List Keep := [[(0, []), (1, []), (12, []), (13, [])]]
@[reducible] def env46 : Env := []
noncomputable def L46_0 (n m1 : Nat) (x0 : List YAttr.den) (x1 : List YAttr.den) (x12 : Int) (x13 : Int) : Option sig46.Out :=
  loopAt T (env46) os46 sig46 Try.f46 hs46 n [.sr, .sr, .sl, .sr, .bl] m1 (mk 26 [(0, .cs false [.val (.list YAttr) x0]), (1, .cs false [.val (.list YAttr) x1]), (12, .cs false [.val (.int .i64) x12]), (13, .cs false [.val (.int .i64) x13])])
theorem L46_0_step (n m1 : Nat) (x0 : List YAttr.den) (x1 : List YAttr.den) (x12 : Int) (x13 : Int) : L46_0 n (m1 + 1) x0 x1 x12 x13 =
  (bcond (decide ((x13 : Int) < x12))
   (if 0 ≤ (x13 : Int) ∧ (x13 : Int) < (List.length x0 : Int) then
    (if 0 ≤ (x13 : Int) ∧ (x13 : Int) < (List.length x1 : Int) then
     (bcond (!((((at_ (e := YAttr) x0 x13).1 : List UInt8) == (at_ (e := YAttr) x1 x13).1) && ((((at_ (e := YAttr) x0 x13).2 : List UInt8) == (at_ (e := YAttr) x1 x13).2) && true)))
      (some (ret46 false))
      (L46_0 n m1 x0 x1 x12 (IntKind.i64.wrap (x13 + 1))))
    else none)
   else none)
   (some (ret46 true))) := by kernel_rfl
theorem run46 (n : Nat) (a0 : List YAttr.den) (a1 : List YAttr.den) : C46 (fun x y => run T (env46) os46 sig46 Try.f46 hs46 n x y) a0 a1 =
  (bcond (((List.length a0 : Int) : Int) != (List.length a1 : Int))
   (some (ret46 false))
   (L46_0 n n a0 a1 (List.length a0 : Int) 0)) := by kernel_rfl
theorem ok46 : fnOk os46 sig46 Try.f46 = true := by kernel_rfl
theorem fn46 : P.funcs[46]? = some Try.f46 := by kernel_rfl
noncomputable def F46 : sig46.Fn := fun x y => run T (env46) os46 sig46 Try.f46 hs46 big x y
theorem S46 : Sound P 46 ⟨sig46, F46⟩ := sound_of (os := os46) (hs := hs46) (env_nil) fn46 ok46 (fun x y out h => ⟨big, h⟩)
theorem e46 (a0 : List YAttr.den) (a1 : List YAttr.den) : C46 F46 a0 a1 =
  (bcond (((List.length a0 : Int) : Int) != (List.length a1 : Int))
   (some (ret46 false))
   (L46_0 big big a0 a1 (List.length a0 : Int) 0)) := run46 big a0 a1

/-! ### chancery/chancerylaw1.attrs -/
def sig35 : Sig := ⟨[], [], [(false, [.fr .bool])]⟩
def C35 (F : sig35.Fn) : Option sig35.Out := F () ()
def ret35 (v0 : Bool) : sig35.Out := (((v0, ()), ()), ())
def res35_0 (r : sig35.Out) : Bool := r.1.1.1
@[simp] theorem res35_0_ret (v0 : Bool) : res35_0 (ret35 v0) = v0 := rfl
def os35 : List (Nat × Ord) := []
def hs35 : List Keep := []
@[reducible] def env35 (F43 : sig43.Fn) (F46 : sig46.Fn) (F36 : sig36.Fn) : Env := [(43, ⟨sig43, F43⟩), (46, ⟨sig46, F46⟩), (36, ⟨sig36, F36⟩)]
theorem run35 (F43 : sig43.Fn) (F46 : sig46.Fn) (F36 : sig36.Fn) (n : Nat) : C35 (fun x y => run T (env35 F43 F46 F36) os35 sig35 Try.f35 hs35 n x y) =
  ((C43 F43 [([97], [49]), ([98], [50])] [([97], []), ([99], [51])]).bind fun r1 =>
   (bcond ((((res43_1 r1) : Int) == 0) == true)
    ((C46 F46 (res43_0 r1) [([98], [50]), ([99], [51])]).bind fun r2 =>
     (bcond ((res46_0 r2) == true)
      ((C36 F36 [109, 97, 114, 107, 46, 120, 49]).bind fun r3 =>
       (some (ret35 (res36_0 r3))))
      (some (ret35 false))))
    (some (ret35 false)))) := by kernel_rfl
theorem ok35 : fnOk os35 sig35 Try.f35 = true := by kernel_rfl
theorem fn35 : P.funcs[35]? = some Try.f35 := by kernel_rfl
noncomputable def F35 : sig35.Fn := fun x y => run T (env35 F43 F46 F36) os35 sig35 Try.f35 hs35 big x y
theorem S35 : Sound P 35 ⟨sig35, F35⟩ := sound_of (os := os35) (hs := hs35) (env_cons S43 (env_cons S46 (env_cons S36 (env_nil)))) fn35 ok35 (fun x y out h => ⟨big, h⟩)
theorem e35 : C35 F35 =
  ((C43 F43 [([97], [49]), ([98], [50])] [([97], []), ([99], [51])]).bind fun r1 =>
   (bcond ((((res43_1 r1) : Int) == 0) == true)
    ((C46 F46 (res43_0 r1) [([98], [50]), ([99], [51])]).bind fun r2 =>
     (bcond ((res46_0 r2) == true)
      ((C36 F36 [109, 97, 114, 107, 46, 120, 49]).bind fun r3 =>
       (some (ret35 (res36_0 r3))))
      (some (ret35 false))))
    (some (ret35 false)))) := run35 F43 F46 F36 big

/-! ### chancery/chanceryref1.Name -/
def sig37 : Sig := ⟨[.v false .str], [], [(false, [.fr .bool])]⟩
def C37 (F : sig37.Fn) (a0 : List UInt8) : Option sig37.Out := F (a0, ()) ()
def ret37 (v0 : Bool) : sig37.Out := (((v0, ()), ()), ())
def res37_0 (r : sig37.Out) : Bool := r.1.1.1
@[simp] theorem res37_0_ret (v0 : Bool) : res37_0 (ret37 v0) = v0 := rfl
def os37 : List (Nat × Ord) := []
def hs37 : List Keep := [[(0, []), (6, []), (7, [])]]
@[reducible] def env37 : Env := []
noncomputable def L37_0 (n m1 : Nat) (x0 : List UInt8) (x6 : Int) (x7 : Int) : Option sig37.Out :=
  loopAt T (env37) os37 sig37 Try.f37 hs37 n [.sr, .sl, .sr, .bl] m1 (mk 59 [(0, .cs false [.val .str x0]), (6, .cs false [.val (.int .i64) x6]), (7, .cs false [.val (.int .i64) x7])])
theorem L37_0_step (n m1 : Nat) (x0 : List UInt8) (x6 : Int) (x7 : Int) : L37_0 n (m1 + 1) x0 x6 x7 =
  (bcond (decide ((x7 : Int) < x6))
   (if 0 ≤ (x7 : Int) ∧ (x7 : Int) < (List.length x0 : Int) then
    (bcond ((decide ((((List.getD (x0 : List UInt8) (Int.toNat x7) 0).toNat : Int) : Int) ≥ 97)) == true)
     (if 0 ≤ (x7 : Int) ∧ (x7 : Int) < (List.length x0 : Int) then
      (bcond ((!(decide ((((List.getD (x0 : List UInt8) (Int.toNat x7) 0).toNat : Int) : Int) ≤ 122))) == true)
       (bcond (((x7 : Int) == 0) == false)
        (if 0 ≤ (x7 : Int) ∧ (x7 : Int) < (List.length x0 : Int) then
         (bcond (((((List.getD (x0 : List UInt8) (Int.toNat x7) 0).toNat : Int) : Int) != 46) == true)
          (if 0 ≤ (x7 : Int) ∧ (x7 : Int) < (List.length x0 : Int) then
           (bcond (((((List.getD (x0 : List UInt8) (Int.toNat x7) 0).toNat : Int) : Int) != 45) == true)
            (if 0 ≤ (x7 : Int) ∧ (x7 : Int) < (List.length x0 : Int) then
             (bcond ((decide ((((List.getD (x0 : List UInt8) (Int.toNat x7) 0).toNat : Int) : Int) < 48)) == false)
              (if 0 ≤ (x7 : Int) ∧ (x7 : Int) < (List.length x0 : Int) then
               (bcond (decide ((((List.getD (x0 : List UInt8) (Int.toNat x7) 0).toNat : Int) : Int) > 57))
                (some (ret37 false))
                (L37_0 n m1 x0 x6 (IntKind.i64.wrap (x7 + 1))))
              else none)
              (some (ret37 false)))
            else none)
            (L37_0 n m1 x0 x6 (IntKind.i64.wrap (x7 + 1))))
          else none)
          (L37_0 n m1 x0 x6 (IntKind.i64.wrap (x7 + 1))))
        else none)
        (some (ret37 false)))
       (L37_0 n m1 x0 x6 (IntKind.i64.wrap (x7 + 1))))
     else none)
     (bcond (((x7 : Int) == 0) == false)
      (if 0 ≤ (x7 : Int) ∧ (x7 : Int) < (List.length x0 : Int) then
       (bcond (((((List.getD (x0 : List UInt8) (Int.toNat x7) 0).toNat : Int) : Int) != 46) == true)
        (if 0 ≤ (x7 : Int) ∧ (x7 : Int) < (List.length x0 : Int) then
         (bcond (((((List.getD (x0 : List UInt8) (Int.toNat x7) 0).toNat : Int) : Int) != 45) == true)
          (if 0 ≤ (x7 : Int) ∧ (x7 : Int) < (List.length x0 : Int) then
           (bcond ((decide ((((List.getD (x0 : List UInt8) (Int.toNat x7) 0).toNat : Int) : Int) < 48)) == false)
            (if 0 ≤ (x7 : Int) ∧ (x7 : Int) < (List.length x0 : Int) then
             (bcond (decide ((((List.getD (x0 : List UInt8) (Int.toNat x7) 0).toNat : Int) : Int) > 57))
              (some (ret37 false))
              (L37_0 n m1 x0 x6 (IntKind.i64.wrap (x7 + 1))))
            else none)
            (some (ret37 false)))
          else none)
          (L37_0 n m1 x0 x6 (IntKind.i64.wrap (x7 + 1))))
        else none)
        (L37_0 n m1 x0 x6 (IntKind.i64.wrap (x7 + 1))))
      else none)
      (some (ret37 false))))
   else none)
   (bcond ((decide (((List.length x0 : Int) : Int) ≥ 1)) == true)
    (some (ret37 (decide (((List.length x0 : Int) : Int) ≤ 24))))
    (some (ret37 false)))) := by kernel_rfl
theorem run37 (n : Nat) (a0 : List UInt8) : C37 (fun x y => run T (env37) os37 sig37 Try.f37 hs37 n x y) a0 =
  (L37_0 n n a0 (List.length a0 : Int) 0) := by kernel_rfl
theorem ok37 : fnOk os37 sig37 Try.f37 = true := by kernel_rfl
theorem fn37 : P.funcs[37]? = some Try.f37 := by kernel_rfl
noncomputable def F37 : sig37.Fn := fun x y => run T (env37) os37 sig37 Try.f37 hs37 big x y
theorem S37 : Sound P 37 ⟨sig37, F37⟩ := sound_of (os := os37) (hs := hs37) (env_nil) fn37 ok37 (fun x y out h => ⟨big, h⟩)
theorem e37 (a0 : List UInt8) : C37 F37 a0 =
  (L37_0 big big a0 (List.length a0 : Int) 0) := run37 big a0

/-! ### chancery/chanceryref1.Value -/
def sig87 : Sig := ⟨[.v false .str], [], [(false, [.fr .bool])]⟩
def C87 (F : sig87.Fn) (a0 : List UInt8) : Option sig87.Out := F (a0, ()) ()
def ret87 (v0 : Bool) : sig87.Out := (((v0, ()), ()), ())
def res87_0 (r : sig87.Out) : Bool := r.1.1.1
@[simp] theorem res87_0_ret (v0 : Bool) : res87_0 (ret87 v0) = v0 := rfl
def os87 : List (Nat × Ord) := []
def hs87 : List Keep := [[(0, []), (5, []), (6, [])]]
@[reducible] def env87 : Env := []
noncomputable def L87_0 (n m1 : Nat) (x0 : List UInt8) (x5 : Int) (x6 : Int) : Option sig87.Out :=
  loopAt T (env87) os87 sig87 Try.f87 hs87 n [.sr, .sl, .sr, .bl] m1 (mk 28 [(0, .cs false [.val .str x0]), (5, .cs false [.val (.int .i64) x5]), (6, .cs false [.val (.int .i64) x6])])
theorem L87_0_step (n m1 : Nat) (x0 : List UInt8) (x5 : Int) (x6 : Int) : L87_0 n (m1 + 1) x0 x5 x6 =
  (bcond (decide ((x6 : Int) < x5))
   (if 0 ≤ (x6 : Int) ∧ (x6 : Int) < (List.length x0 : Int) then
    (bcond ((decide ((((List.getD (x0 : List UInt8) (Int.toNat x6) 0).toNat : Int) : Int) < 32)) == false)
     (if 0 ≤ (x6 : Int) ∧ (x6 : Int) < (List.length x0 : Int) then
      (bcond (decide ((((List.getD (x0 : List UInt8) (Int.toNat x6) 0).toNat : Int) : Int) > 126))
       (some (ret87 false))
       (L87_0 n m1 x0 x5 (IntKind.i64.wrap (x6 + 1))))
     else none)
     (some (ret87 false)))
   else none)
   (bcond ((decide (((List.length x0 : Int) : Int) ≥ 1)) == true)
    (some (ret87 (decide (((List.length x0 : Int) : Int) ≤ 200))))
    (some (ret87 false)))) := by kernel_rfl
theorem run87 (n : Nat) (a0 : List UInt8) : C87 (fun x y => run T (env87) os87 sig87 Try.f87 hs87 n x y) a0 =
  (L87_0 n n a0 (List.length a0 : Int) 0) := by kernel_rfl
theorem ok87 : fnOk os87 sig87 Try.f87 = true := by kernel_rfl
theorem fn87 : P.funcs[87]? = some Try.f87 := by kernel_rfl
noncomputable def F87 : sig87.Fn := fun x y => run T (env87) os87 sig87 Try.f87 hs87 big x y
theorem S87 : Sound P 87 ⟨sig87, F87⟩ := sound_of (os := os87) (hs := hs87) (env_nil) fn87 ok87 (fun x y out h => ⟨big, h⟩)
theorem e87 (a0 : List UInt8) : C87 F87 a0 =
  (L87_0 big big a0 (List.length a0 : Int) 0) := run87 big a0

/-! ### chancery/chanceryref1.AttrsError -/
def sig39 : Sig := ⟨[.v false (.list YAttr), .v false .bool], [], [(false, [.fr (.int .i64)])]⟩
def C39 (F : sig39.Fn) (a0 : List YAttr.den) (a1 : Bool) : Option sig39.Out := F (a0, a1, ()) ()
def ret39 (v0 : Int) : sig39.Out := (((v0, ()), ()), ())
def res39_0 (r : sig39.Out) : Int := r.1.1.1
@[simp] theorem res39_0_ret (v0 : Int) : res39_0 (ret39 v0) = v0 := rfl
def os39 : List (Nat × Ord) := [(8, .st 0 (.st 1 (.st 2 (.st 3 (.st 4 (.st 5 (.st 6 (.st 7 (.st 9 (.st 10 (.st 11 (.st 12 (.st 8 (.st 13 (.st 14 (.st 15 (.nil)))))))))))))))))]
def hs39 : List Keep := [[(0, []), (1, []), (7, []), (8, [])]]
@[reducible] def env39 (F37 : sig37.Fn) (F87 : sig87.Fn) : Env := [(37, ⟨sig37, F37⟩), (87, ⟨sig87, F87⟩)]
noncomputable def L39_0 (F37 : sig37.Fn) (F87 : sig87.Fn) (n m1 : Nat) (x0 : List YAttr.den) (x1 : Bool) (x7 : Int) (x8 : Int) : Option sig39.Out :=
  loopAt T (env39 F37 F87) os39 sig39 Try.f39 hs39 n [.sr, .sl, .sr, .bl] m1 (mk 54 [(0, .cs false [.val (.list YAttr) x0]), (1, .cs false [.val .bool x1]), (7, .cs false [.val (.int .i64) x7]), (8, .cs false [.val (.int .i64) x8])])
theorem L39_0_step (F37 : sig37.Fn) (F87 : sig87.Fn) (n m1 : Nat) (x0 : List YAttr.den) (x1 : Bool) (x7 : Int) (x8 : Int) : L39_0 F37 F87 n (m1 + 1) x0 x1 x7 x8 =
  (bcond (decide ((x8 : Int) < x7))
   (if 0 ≤ (x8 : Int) ∧ (x8 : Int) < (List.length x0 : Int) then
    ((C37 F37 (at_ (e := YAttr) x0 x8).1).bind fun r1 =>
     (bcond (!(res37_0 r1))
      (some (ret39 9))
      (if 0 ≤ (x8 : Int) ∧ (x8 : Int) < (List.length x0 : Int) then
       ((C87 F87 (at_ (e := YAttr) x0 x8).2).bind fun r2 =>
        (bcond ((!(res87_0 r2)) == true)
         (if 0 ≤ (x8 : Int) ∧ (x8 : Int) < (List.length x0 : Int) then
          (bcond ((!(((at_ (e := YAttr) x0 x8).2 : List UInt8) == [])) == false)
           (bcond (!x1)
            (some (ret39 23))
            (bcond ((decide ((x8 : Int) > 0)) == true)
             (if 0 ≤ ((IntKind.i64.wrap (x8 - 1)) : Int) ∧ ((IntKind.i64.wrap (x8 - 1)) : Int) < (List.length x0 : Int) then
              (if 0 ≤ (x8 : Int) ∧ (x8 : Int) < (List.length x0 : Int) then
               (bcond (!strLess (at_ (e := YAttr) x0 (IntKind.i64.wrap (x8 - 1))).1 (at_ (e := YAttr) x0 x8).1)
                (some (ret39 5))
                (L39_0 F37 F87 n m1 x0 x1 x7 (IntKind.i64.wrap (x8 + 1))))
              else none)
             else none)
             (L39_0 F37 F87 n m1 x0 x1 x7 (IntKind.i64.wrap (x8 + 1)))))
           (some (ret39 23)))
         else none)
         (bcond ((decide ((x8 : Int) > 0)) == true)
          (if 0 ≤ ((IntKind.i64.wrap (x8 - 1)) : Int) ∧ ((IntKind.i64.wrap (x8 - 1)) : Int) < (List.length x0 : Int) then
           (if 0 ≤ (x8 : Int) ∧ (x8 : Int) < (List.length x0 : Int) then
            (bcond (!strLess (at_ (e := YAttr) x0 (IntKind.i64.wrap (x8 - 1))).1 (at_ (e := YAttr) x0 x8).1)
             (some (ret39 5))
             (L39_0 F37 F87 n m1 x0 x1 x7 (IntKind.i64.wrap (x8 + 1))))
           else none)
          else none)
          (L39_0 F37 F87 n m1 x0 x1 x7 (IntKind.i64.wrap (x8 + 1))))))
      else none)))
   else none)
   (some (ret39 0))) := by kernel_rfl
theorem run39 (F37 : sig37.Fn) (F87 : sig87.Fn) (n : Nat) (a0 : List YAttr.den) (a1 : Bool) : C39 (fun x y => run T (env39 F37 F87) os39 sig39 Try.f39 hs39 n x y) a0 a1 =
  (L39_0 F37 F87 n n a0 a1 (List.length a0 : Int) 0) := by kernel_rfl
theorem ok39 : fnOk os39 sig39 Try.f39 = true := by kernel_rfl
theorem fn39 : P.funcs[39]? = some Try.f39 := by kernel_rfl
noncomputable def F39 : sig39.Fn := fun x y => run T (env39 F37 F87) os39 sig39 Try.f39 hs39 big x y
theorem S39 : Sound P 39 ⟨sig39, F39⟩ := sound_of (os := os39) (hs := hs39) (env_cons S37 (env_cons S87 (env_nil))) fn39 ok39 (fun x y out h => ⟨big, h⟩)
theorem e39 (a0 : List YAttr.den) (a1 : Bool) : C39 F39 a0 a1 =
  (L39_0 F37 F87 big big a0 a1 (List.length a0 : Int) 0) := run39 F37 F87 big a0 a1

/-! ### chancery/chanceryref1.Get -/
def sig42 : Sig := ⟨[.v false (.list YAttr), .v false .str], [], [(false, [.fr .str])]⟩
def C42 (F : sig42.Fn) (a0 : List YAttr.den) (a1 : List UInt8) : Option sig42.Out := F (a0, a1, ()) ()
def ret42 (v0 : List UInt8) : sig42.Out := (((v0, ()), ()), ())
def res42_0 (r : sig42.Out) : List UInt8 := r.1.1.1
@[simp] theorem res42_0_ret (v0 : List UInt8) : res42_0 (ret42 v0) = v0 := rfl
def os42 : List (Nat × Ord) := []
def hs42 : List Keep := [[(0, []), (1, []), (7, []), (8, [])]]
@[reducible] def env42 : Env := []
noncomputable def L42_0 (n m1 : Nat) (x0 : List YAttr.den) (x1 : List UInt8) (x7 : Int) (x8 : Int) : Option sig42.Out :=
  loopAt T (env42) os42 sig42 Try.f42 hs42 n [.sr, .sl, .sr, .bl] m1 (mk 24 [(0, .cs false [.val (.list YAttr) x0]), (1, .cs false [.val .str x1]), (7, .cs false [.val (.int .i64) x7]), (8, .cs false [.val (.int .i64) x8])])
theorem L42_0_step (n m1 : Nat) (x0 : List YAttr.den) (x1 : List UInt8) (x7 : Int) (x8 : Int) : L42_0 n (m1 + 1) x0 x1 x7 x8 =
  (bcond (decide ((x8 : Int) < x7))
   (if 0 ≤ (x8 : Int) ∧ (x8 : Int) < (List.length x0 : Int) then
    (bcond (((at_ (e := YAttr) x0 x8).1 : List UInt8) == x1)
     (if 0 ≤ (x8 : Int) ∧ (x8 : Int) < (List.length x0 : Int) then
      (some (ret42 (at_ (e := YAttr) x0 x8).2))
     else none)
     (L42_0 n m1 x0 x1 x7 (IntKind.i64.wrap (x8 + 1))))
   else none)
   (some (ret42 []))) := by kernel_rfl
theorem run42 (n : Nat) (a0 : List YAttr.den) (a1 : List UInt8) : C42 (fun x y => run T (env42) os42 sig42 Try.f42 hs42 n x y) a0 a1 =
  (L42_0 n n a0 a1 (List.length a0 : Int) 0) := by kernel_rfl
theorem ok42 : fnOk os42 sig42 Try.f42 = true := by kernel_rfl
theorem fn42 : P.funcs[42]? = some Try.f42 := by kernel_rfl
noncomputable def F42 : sig42.Fn := fun x y => run T (env42) os42 sig42 Try.f42 hs42 big x y
theorem S42 : Sound P 42 ⟨sig42, F42⟩ := sound_of (os := os42) (hs := hs42) (env_nil) fn42 ok42 (fun x y out h => ⟨big, h⟩)
theorem e42 (a0 : List YAttr.den) (a1 : List UInt8) : C42 F42 a0 a1 =
  (L42_0 big big a0 a1 (List.length a0 : Int) 0) := run42 big a0 a1

/-! ### chancery/chancerylaw1.AttrCheckSays -/
def sig6 : Sig := ⟨[.v false .str, .v false (.list YAttr)], [], [(false, [.fr .bool])]⟩
def C6 (F : sig6.Fn) (a0 : List UInt8) (a1 : List YAttr.den) : Option sig6.Out := F (a0, a1, ()) ()
def ret6 (v0 : Bool) : sig6.Out := (((v0, ()), ()), ())
def res6_0 (r : sig6.Out) : Bool := r.1.1.1
@[simp] theorem res6_0_ret (v0 : Bool) : res6_0 (ret6 v0) = v0 := rfl
def os6 : List (Nat × Ord) := []
def hs6 : List Keep := []
@[reducible] def env6 (F35 : sig35.Fn) (F36 : sig36.Fn) (F37 : sig37.Fn) (F38 : sig38.Fn) (F39 : sig39.Fn) (F40 : sig40.Fn) (F41 : sig41.Fn) (F42 : sig42.Fn) : Env := [(35, ⟨sig35, F35⟩), (36, ⟨sig36, F36⟩), (37, ⟨sig37, F37⟩), (38, ⟨sig38, F38⟩), (39, ⟨sig39, F39⟩), (40, ⟨sig40, F40⟩), (41, ⟨sig41, F41⟩), (42, ⟨sig42, F42⟩)]
theorem run6 (F35 : sig35.Fn) (F36 : sig36.Fn) (F37 : sig37.Fn) (F38 : sig38.Fn) (F39 : sig39.Fn) (F40 : sig40.Fn) (F41 : sig41.Fn) (F42 : sig42.Fn) (n : Nat) (a0 : List UInt8) (a1 : List YAttr.den) : C6 (fun x y => run T (env6 F35 F36 F37 F38 F39 F40 F41 F42) os6 sig6 Try.f6 hs6 n x y) a0 a1 =
  ((C35 F35 ).bind fun r1 =>
   (bcond ((res35_0 r1) == true)
    ((C36 F36 a0).bind fun r2 =>
     ((C37 F37 a0).bind fun r3 =>
      (bcond ((((res36_0 r2) : Bool) == (res37_0 r3)) == true)
       ((C38 F38 a1).bind fun r4 =>
        ((C39 F39 a1 false).bind fun r5 =>
         (bcond ((((res38_0 r4) : Int) == (res39_0 r5)) == true)
          ((C40 F40 a1).bind fun r6 =>
           ((C39 F39 a1 true).bind fun r7 =>
            (bcond ((((res40_0 r6) : Int) == (res39_0 r7)) == true)
             ((C41 F41 a1 a0).bind fun r8 =>
              ((C42 F42 a1 a0).bind fun r9 =>
               (some (ret6 (((res41_0 r8) : List UInt8) == (res42_0 r9))))))
             (some (ret6 false)))))
          (some (ret6 false)))))
       (some (ret6 false)))))
    (some (ret6 false)))) := by kernel_rfl
theorem ok6 : fnOk os6 sig6 Try.f6 = true := by kernel_rfl
theorem fn6 : P.funcs[6]? = some Try.f6 := by kernel_rfl
noncomputable def F6 : sig6.Fn := fun x y => run T (env6 F35 F36 F37 F38 F39 F40 F41 F42) os6 sig6 Try.f6 hs6 big x y
theorem S6 : Sound P 6 ⟨sig6, F6⟩ := sound_of (os := os6) (hs := hs6) (env_cons S35 (env_cons S36 (env_cons S37 (env_cons S38 (env_cons S39 (env_cons S40 (env_cons S41 (env_cons S42 (env_nil))))))))) fn6 ok6 (fun x y out h => ⟨big, h⟩)
theorem e6 (a0 : List UInt8) (a1 : List YAttr.den) : C6 F6 a0 a1 =
  ((C35 F35 ).bind fun r1 =>
   (bcond ((res35_0 r1) == true)
    ((C36 F36 a0).bind fun r2 =>
     ((C37 F37 a0).bind fun r3 =>
      (bcond ((((res36_0 r2) : Bool) == (res37_0 r3)) == true)
       ((C38 F38 a1).bind fun r4 =>
        ((C39 F39 a1 false).bind fun r5 =>
         (bcond ((((res38_0 r4) : Int) == (res39_0 r5)) == true)
          ((C40 F40 a1).bind fun r6 =>
           ((C39 F39 a1 true).bind fun r7 =>
            (bcond ((((res40_0 r6) : Int) == (res39_0 r7)) == true)
             ((C41 F41 a1 a0).bind fun r8 =>
              ((C42 F42 a1 a0).bind fun r9 =>
               (some (ret6 (((res41_0 r8) : List UInt8) == (res42_0 r9))))))
             (some (ret6 false)))))
          (some (ret6 false)))))
       (some (ret6 false)))))
    (some (ret6 false)))) := run6 F35 F36 F37 F38 F39 F40 F41 F42 big a0 a1
end Go.Ev
