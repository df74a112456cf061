/- Functions, step by step. -/
import Derived.Test.YtphlkpahfcainaaGBase
namespace Go.Ev
set_option linter.unusedVariables false
set_option maxRecDepth 100000
open Go.Proofs

/-! ### chancery/chanceryref1.Undoing -/
def sig77 : Sig := ⟨[.v false (.list YEntry), .v false (.int .i64)], [], [(false, [.fr .bool])]⟩
def C77 (F : sig77.Fn) (a0 : List YEntry.den) (a1 : Int) : Option sig77.Out := F (a0, a1, ()) ()
def ret77 (v0 : Bool) : sig77.Out := (((v0, ()), ()), ())
def res77_0 (r : sig77.Out) : Bool := r.1.1.1
@[simp] theorem res77_0_ret (v0 : Bool) : res77_0 (ret77 v0) = v0 := rfl
def os77 : List (Nat × List Nat) := []
def hs77 : List Keep := []
@[reducible] def env77 (F32 : sig32.Fn) : Env := [(32, ⟨sig32, F32⟩)]
theorem run77 (F32 : sig32.Fn) (n : Nat) (a0 : List YEntry.den) (a1 : Int) : C77 (fun x y => run T (env77 F32) os77 sig77 Try.f77 hs77 n x y) a0 a1 =
  (if 0 ≤ (a1 : Int) ∧ (a1 : Int) < (List.length a0 : Int) then
   ((C32 F32 (at_ (e := YEntry) a0 a1).2.2.2.1 1 a1).bind fun r1 =>
    (some (ret77 (res32_0 r1))))
  else none) := by kernel_rfl
theorem ok77 : fnOk os77 sig77 Try.f77 = true := by kernel_rfl
theorem fn77 : P.funcs[77]? = some Try.f77 := by kernel_rfl
noncomputable def F77 : sig77.Fn := fun x y => run T (env77 F32) os77 sig77 Try.f77 hs77 big x y
theorem S77 : Sound P 77 ⟨sig77, F77⟩ := sound_of (os := os77) (hs := hs77) (env_cons S32 (env_nil)) fn77 ok77 (fun x y out h => ⟨big, h⟩)
theorem e77 (a0 : List YEntry.den) (a1 : Int) : C77 F77 a0 a1 =
  (if 0 ≤ (a1 : Int) ∧ (a1 : Int) < (List.length a0 : Int) then
   ((C32 F32 (at_ (e := YEntry) a0 a1).2.2.2.1 1 a1).bind fun r1 =>
    (some (ret77 (res32_0 r1))))
  else none) := run77 F32 big a0 a1

/-! ### chancery/undo.undoes -/
def sig106 : Sig := ⟨[.v false (.list YEntry), .v false (.int .i64)], [], [(false, [.fr .bool])]⟩
def C106 (F : sig106.Fn) (a0 : List YEntry.den) (a1 : Int) : Option sig106.Out := F (a0, a1, ()) ()
def ret106 (v0 : Bool) : sig106.Out := (((v0, ()), ()), ())
def res106_0 (r : sig106.Out) : Bool := r.1.1.1
@[simp] theorem res106_0_ret (v0 : Bool) : res106_0 (ret106 v0) = v0 := rfl
def os106 : List (Nat × List Nat) := []
def hs106 : List Keep := []
@[reducible] def env106 : Env := []
theorem run106 (n : Nat) (a0 : List YEntry.den) (a1 : Int) : C106 (fun x y => run T (env106) os106 sig106 Try.f106 hs106 n x y) a0 a1 =
  (if 0 ≤ (a1 : Int) ∧ (a1 : Int) < (List.length a0 : Int) then
   (bcond ((decide (((at_ (e := YEntry) a0 a1).2.2.2.1 : Int) ≥ 1)) == true)
    (if 0 ≤ (a1 : Int) ∧ (a1 : Int) < (List.length a0 : Int) then
     (some (ret106 (decide (((at_ (e := YEntry) a0 a1).2.2.2.1 : Int) ≤ a1))))
    else none)
    (some (ret106 false)))
  else none) := by kernel_rfl
theorem ok106 : fnOk os106 sig106 Try.f106 = true := by kernel_rfl
theorem fn106 : P.funcs[106]? = some Try.f106 := by kernel_rfl
noncomputable def F106 : sig106.Fn := fun x y => run T (env106) os106 sig106 Try.f106 hs106 big x y
theorem S106 : Sound P 106 ⟨sig106, F106⟩ := sound_of (os := os106) (hs := hs106) (env_nil) fn106 ok106 (fun x y out h => ⟨big, h⟩)
theorem e106 (a0 : List YEntry.den) (a1 : Int) : C106 F106 a0 a1 =
  (if 0 ≤ (a1 : Int) ∧ (a1 : Int) < (List.length a0 : Int) then
   (bcond ((decide (((at_ (e := YEntry) a0 a1).2.2.2.1 : Int) ≥ 1)) == true)
    (if 0 ≤ (a1 : Int) ∧ (a1 : Int) < (List.length a0 : Int) then
     (some (ret106 (decide (((at_ (e := YEntry) a0 a1).2.2.2.1 : Int) ≤ a1))))
    else none)
    (some (ret106 false)))
  else none) := run106 big a0 a1

/-! ### chancery/undo.depth -/
def sig76 : Sig := ⟨[.v false (.list YEntry), .v false (.int .i64)], [], [(false, [.fr (.int .i64)])]⟩
def C76 (F : sig76.Fn) (a0 : List YEntry.den) (a1 : Int) : Option sig76.Out := F (a0, a1, ()) ()
def ret76 (v0 : Int) : sig76.Out := (((v0, ()), ()), ())
def res76_0 (r : sig76.Out) : Int := r.1.1.1
@[simp] theorem res76_0_ret (v0 : Int) : res76_0 (ret76 v0) = v0 := rfl
def os76 : List (Nat × List Nat) := []
def hs76 : List Keep := [[(0, []), (1, []), (5, [])]]
@[reducible] def env76 (F106 : sig106.Fn) : Env := [(106, ⟨sig106, F106⟩)]
noncomputable def L76_0 (F106 : sig106.Fn) (n m1 : Nat) (x0 : List YEntry.den) (x1 : Int) (x5 : Int) : Option sig76.Out :=
  loopAt T (env76 F106) os76 sig76 Try.f76 hs76 n [.sr, .sr, .sl, .bl] m1 (mk 18 [(0, .cs false [.val (.list YEntry) x0]), (1, .cs false [.val (.int .i64) x1]), (5, .cs false [.val (.int .i64) x5])])
theorem L76_0_step (F106 : sig106.Fn) (n m1 : Nat) (x0 : List YEntry.den) (x1 : Int) (x5 : Int) : L76_0 F106 n (m1 + 1) x0 x1 x5 =
  ((C106 F106 x0 x1).bind fun r1 =>
   (bcond (res106_0 r1)
    (if 0 ≤ (x1 : Int) ∧ (x1 : Int) < (List.length x0 : Int) then
     (L76_0 F106 n m1 x0 (IntKind.i64.wrap ((at_ (e := YEntry) x0 x1).2.2.2.1 - 1)) (IntKind.i64.wrap (x5 + 1)))
    else none)
    (some (ret76 x5)))) := by kernel_rfl
theorem run76 (F106 : sig106.Fn) (n : Nat) (a0 : List YEntry.den) (a1 : Int) : C76 (fun x y => run T (env76 F106) os76 sig76 Try.f76 hs76 n x y) a0 a1 =
  (L76_0 F106 n n a0 a1 0) := by kernel_rfl
theorem ok76 : fnOk os76 sig76 Try.f76 = true := by kernel_rfl
theorem fn76 : P.funcs[76]? = some Try.f76 := by kernel_rfl
noncomputable def F76 : sig76.Fn := fun x y => run T (env76 F106) os76 sig76 Try.f76 hs76 big x y
theorem S76 : Sound P 76 ⟨sig76, F76⟩ := sound_of (os := os76) (hs := hs76) (env_cons S106 (env_nil)) fn76 ok76 (fun x y out h => ⟨big, h⟩)
theorem e76 (a0 : List YEntry.den) (a1 : Int) : C76 F76 a0 a1 =
  (L76_0 F106 big big a0 a1 0) := run76 F106 big a0 a1

/-! ### chancery/undo.Counts -/
def sig15 : Sig := ⟨[.v false (.list YEntry)], [], [(false, [.fr (.list .bool)])]⟩
def C15 (F : sig15.Fn) (a0 : List YEntry.den) : Option sig15.Out := F (a0, ()) ()
def ret15 (v0 : List (Bool)) : sig15.Out := (((v0, ()), ()), ())
def res15_0 (r : sig15.Out) : List (Bool) := r.1.1.1
@[simp] theorem res15_0_ret (v0 : List (Bool)) : res15_0 (ret15 v0) = v0 := rfl
def os15 : List (Nat × List Nat) := []
def hs15 : List Keep := [[(0, []), (3, [(0, 4, .bool)]), (4, [(0, 4, .bool)]), (5, [])]]
@[reducible] def env15 : Env := []
noncomputable def L15_0 (n m1 : Nat) (x0 : List YEntry.den) (x3 : List (Bool)) (x4 : List (Bool)) (x5 : Int) : Option sig15.Out :=
  loopAt T (env15) os15 sig15 Try.f15 hs15 n [.sr, .sr, .sr, .sl, .sr, .bl] m1 (mk 59 [(0, .cs false [.val (.list YEntry) x0]), (3, .cs false [.own 4 .bool x3]), (4, .cs false [.own 4 .bool x4]), (5, .cs false [.val (.int .i64) x5])])
theorem L15_0_step (n m1 : Nat) (x0 : List YEntry.den) (x3 : List (Bool)) (x4 : List (Bool)) (x5 : Int) : L15_0 n (m1 + 1) x0 x3 x4 x5 =
  (bcond (decide ((x5 : Int) ≥ 0))
   (if 0 ≤ (x5 : Int) ∧ (x5 : Int) < (List.length x4 : Int) then
    (bcond ((!(at_ (e := .bool) x4 x5)) == true)
     (if 0 ≤ (x5 : Int) ∧ (x5 : Int) < (List.length x0 : Int) then
      (if 0 ≤ (x5 : Int) ∧ (x5 : Int) < (List.length x3 : Int) then
       (if 0 ≤ (x5 : Int) ∧ (x5 : Int) < (List.length x0 : Int) then
        (if 0 ≤ (x5 : Int) ∧ (x5 : Int) < (List.length (List.set x3 (Int.toNat x5) (((at_ (e := YEntry) x0 x5).2.2.2.2 : Int) == 0)) : Int) then
         (bcond ((at_ (e := .bool) (List.set x3 (Int.toNat x5) (((at_ (e := YEntry) x0 x5).2.2.2.2 : Int) == 0)) x5) == true)
          (bcond ((decide (((at_ (e := YEntry) x0 x5).2.2.2.1 : Int) ≥ 1)) == true)
           (bcond (decide (((at_ (e := YEntry) x0 x5).2.2.2.1 : Int) ≤ x5))
            (if 0 ≤ ((IntKind.i64.wrap ((at_ (e := YEntry) x0 x5).2.2.2.1 - 1)) : Int) ∧ ((IntKind.i64.wrap ((at_ (e := YEntry) x0 x5).2.2.2.1 - 1)) : Int) < (List.length x4 : Int) then
             (L15_0 n m1 x0 (List.set x3 (Int.toNat x5) (((at_ (e := YEntry) x0 x5).2.2.2.2 : Int) == 0)) (List.set x4 (Int.toNat (IntKind.i64.wrap ((at_ (e := YEntry) x0 x5).2.2.2.1 - 1))) true) (IntKind.i64.wrap (x5 - 1)))
            else none)
            (L15_0 n m1 x0 (List.set x3 (Int.toNat x5) (((at_ (e := YEntry) x0 x5).2.2.2.2 : Int) == 0)) x4 (IntKind.i64.wrap (x5 - 1))))
           (L15_0 n m1 x0 (List.set x3 (Int.toNat x5) (((at_ (e := YEntry) x0 x5).2.2.2.2 : Int) == 0)) x4 (IntKind.i64.wrap (x5 - 1))))
          (L15_0 n m1 x0 (List.set x3 (Int.toNat x5) (((at_ (e := YEntry) x0 x5).2.2.2.2 : Int) == 0)) x4 (IntKind.i64.wrap (x5 - 1))))
        else none)
       else none)
      else none)
     else none)
     (if 0 ≤ (x5 : Int) ∧ (x5 : Int) < (List.length x3 : Int) then
      (if 0 ≤ (x5 : Int) ∧ (x5 : Int) < (List.length x0 : Int) then
       (if 0 ≤ (x5 : Int) ∧ (x5 : Int) < (List.length (List.set x3 (Int.toNat x5) false) : Int) then
        (bcond ((at_ (e := .bool) (List.set x3 (Int.toNat x5) false) x5) == true)
         (bcond ((decide (((at_ (e := YEntry) x0 x5).2.2.2.1 : Int) ≥ 1)) == true)
          (bcond (decide (((at_ (e := YEntry) x0 x5).2.2.2.1 : Int) ≤ x5))
           (if 0 ≤ ((IntKind.i64.wrap ((at_ (e := YEntry) x0 x5).2.2.2.1 - 1)) : Int) ∧ ((IntKind.i64.wrap ((at_ (e := YEntry) x0 x5).2.2.2.1 - 1)) : Int) < (List.length x4 : Int) then
            (L15_0 n m1 x0 (List.set x3 (Int.toNat x5) false) (List.set x4 (Int.toNat (IntKind.i64.wrap ((at_ (e := YEntry) x0 x5).2.2.2.1 - 1))) true) (IntKind.i64.wrap (x5 - 1)))
           else none)
           (L15_0 n m1 x0 (List.set x3 (Int.toNat x5) false) x4 (IntKind.i64.wrap (x5 - 1))))
          (L15_0 n m1 x0 (List.set x3 (Int.toNat x5) false) x4 (IntKind.i64.wrap (x5 - 1))))
         (L15_0 n m1 x0 (List.set x3 (Int.toNat x5) false) x4 (IntKind.i64.wrap (x5 - 1))))
       else none)
      else none)
     else none))
   else none)
   (some (ret15 x3))) := by kernel_rfl
theorem run15 (n : Nat) (a0 : List YEntry.den) : C15 (fun x y => run T (env15) os15 sig15 Try.f15 hs15 n x y) a0 =
  (if 0 ≤ ((List.length a0 : Int) : Int) ∧ ((List.length a0 : Int) : Int) = (List.length a0 : Int) ∧ ((List.length a0 : Int) : Int) * 1 ≤ 140737488355328 ∧ ((List.length a0 : Int) : Int) ≤ 140737488355328 then
   (if 0 ≤ ((List.length a0 : Int) : Int) ∧ ((List.length a0 : Int) : Int) = (List.length a0 : Int) ∧ ((List.length a0 : Int) : Int) * 1 ≤ 140737488355328 ∧ ((List.length a0 : Int) : Int) ≤ 140737488355328 then
    (L15_0 n n a0 (List.replicate (Int.toNat (List.length a0 : Int)) false) (List.replicate (Int.toNat (List.length a0 : Int)) false) (IntKind.i64.wrap ((List.length a0 : Int) - 1)))
   else none)
  else none) := by kernel_rfl
theorem ok15 : fnOk os15 sig15 Try.f15 = true := by kernel_rfl
theorem fn15 : P.funcs[15]? = some Try.f15 := by kernel_rfl
noncomputable def F15 : sig15.Fn := fun x y => run T (env15) os15 sig15 Try.f15 hs15 big x y
theorem S15 : Sound P 15 ⟨sig15, F15⟩ := sound_of (os := os15) (hs := hs15) (env_nil) fn15 ok15 (fun x y out h => ⟨big, h⟩)
theorem e15 (a0 : List YEntry.den) : C15 F15 a0 =
  (if 0 ≤ ((List.length a0 : Int) : Int) ∧ ((List.length a0 : Int) : Int) = (List.length a0 : Int) ∧ ((List.length a0 : Int) : Int) * 1 ≤ 140737488355328 ∧ ((List.length a0 : Int) : Int) ≤ 140737488355328 then
   (if 0 ≤ ((List.length a0 : Int) : Int) ∧ ((List.length a0 : Int) : Int) = (List.length a0 : Int) ∧ ((List.length a0 : Int) : Int) * 1 ≤ 140737488355328 ∧ ((List.length a0 : Int) : Int) ≤ 140737488355328 then
    (L15_0 big big a0 (List.replicate (Int.toNat (List.length a0 : Int)) false) (List.replicate (Int.toNat (List.length a0 : Int)) false) (IntKind.i64.wrap ((List.length a0 : Int) - 1)))
   else none)
  else none) := run15 big a0

/-! ### chancery/undo.Last -/
def sig16 : Sig := ⟨[.v false (.list YEntry), .v false (.int .i64)], [], [(false, [.fr (.int .i64)])]⟩
def C16 (F : sig16.Fn) (a0 : List YEntry.den) (a1 : Int) : Option sig16.Out := F (a0, a1, ()) ()
def ret16 (v0 : Int) : sig16.Out := (((v0, ()), ()), ())
def res16_0 (r : sig16.Out) : Int := r.1.1.1
@[simp] theorem res16_0_ret (v0 : Int) : res16_0 (ret16 v0) = v0 := rfl
def os16 : List (Nat × List Nat) := []
def hs16 : List Keep := [[(0, []), (1, []), (5, []), (6, [])]]
@[reducible] def env16 (F15 : sig15.Fn) (F76 : sig76.Fn) : Env := [(15, ⟨sig15, F15⟩), (76, ⟨sig76, F76⟩)]
noncomputable def L16_0 (F15 : sig15.Fn) (F76 : sig76.Fn) (n m1 : Nat) (x0 : List YEntry.den) (x1 : Int) (x5 : List (Bool)) (x6 : Int) : Option sig16.Out :=
  loopAt T (env16 F15 F76) os16 sig16 Try.f16 hs16 n [.sr, .sr, .sl, .sr, .bl] m1 (mk 37 [(0, .cs false [.val (.list YEntry) x0]), (1, .cs false [.val (.int .i64) x1]), (5, .cs false [.val (.list .bool) x5]), (6, .cs false [.val (.int .i64) x6])])
theorem L16_0_step (F15 : sig15.Fn) (F76 : sig76.Fn) (n m1 : Nat) (x0 : List YEntry.den) (x1 : Int) (x5 : List (Bool)) (x6 : Int) : L16_0 F15 F76 n (m1 + 1) x0 x1 x5 x6 =
  (bcond (decide ((x6 : Int) ≥ 0))
   (if 0 ≤ (x6 : Int) ∧ (x6 : Int) < (List.length x0 : Int) then
    (bcond ((((at_ (e := YEntry) x0 x6).1 : Int) == x1) == true)
     (if 0 ≤ (x6 : Int) ∧ (x6 : Int) < (List.length x5 : Int) then
      (bcond ((at_ (e := .bool) x5 x6) == true)
       ((C76 F76 x0 x6).bind fun r1 =>
        (bcond (((res76_0 r1) : Int) == 0)
         (some (ret16 (IntKind.i64.wrap (x6 + 1))))
         (L16_0 F15 F76 n m1 x0 x1 x5 (IntKind.i64.wrap (x6 - 1)))))
       (L16_0 F15 F76 n m1 x0 x1 x5 (IntKind.i64.wrap (x6 - 1))))
     else none)
     (L16_0 F15 F76 n m1 x0 x1 x5 (IntKind.i64.wrap (x6 - 1))))
   else none)
   (some (ret16 0))) := by kernel_rfl
theorem run16 (F15 : sig15.Fn) (F76 : sig76.Fn) (n : Nat) (a0 : List YEntry.den) (a1 : Int) : C16 (fun x y => run T (env16 F15 F76) os16 sig16 Try.f16 hs16 n x y) a0 a1 =
  ((C15 F15 a0).bind fun r1 =>
   (L16_0 F15 F76 n n a0 a1 (res15_0 r1) (IntKind.i64.wrap ((List.length a0 : Int) - 1)))) := by kernel_rfl
theorem ok16 : fnOk os16 sig16 Try.f16 = true := by kernel_rfl
theorem fn16 : P.funcs[16]? = some Try.f16 := by kernel_rfl
noncomputable def F16 : sig16.Fn := fun x y => run T (env16 F15 F76) os16 sig16 Try.f16 hs16 big x y
theorem S16 : Sound P 16 ⟨sig16, F16⟩ := sound_of (os := os16) (hs := hs16) (env_cons S15 (env_cons S76 (env_nil))) fn16 ok16 (fun x y out h => ⟨big, h⟩)
theorem e16 (a0 : List YEntry.den) (a1 : Int) : C16 F16 a0 a1 =
  ((C15 F15 a0).bind fun r1 =>
   (L16_0 F15 F76 big big a0 a1 (res15_0 r1) (IntKind.i64.wrap ((List.length a0 : Int) - 1)))) := run16 F15 F76 big a0 a1

/-! ### chancery/undo.LastUndone -/
def sig19 : Sig := ⟨[.v false (.list YEntry), .v false (.int .i64)], [], [(false, [.fr (.int .i64)])]⟩
def C19 (F : sig19.Fn) (a0 : List YEntry.den) (a1 : Int) : Option sig19.Out := F (a0, a1, ()) ()
def ret19 (v0 : Int) : sig19.Out := (((v0, ()), ()), ())
def res19_0 (r : sig19.Out) : Int := r.1.1.1
@[simp] theorem res19_0_ret (v0 : Int) : res19_0 (ret19 v0) = v0 := rfl
def os19 : List (Nat × List Nat) := []
def hs19 : List Keep := [[(0, []), (1, []), (5, []), (6, [])]]
@[reducible] def env19 (F15 : sig15.Fn) (F76 : sig76.Fn) : Env := [(15, ⟨sig15, F15⟩), (76, ⟨sig76, F76⟩)]
noncomputable def L19_0 (F15 : sig15.Fn) (F76 : sig76.Fn) (n m1 : Nat) (x0 : List YEntry.den) (x1 : Int) (x5 : List (Bool)) (x6 : Int) : Option sig19.Out :=
  loopAt T (env19 F15 F76) os19 sig19 Try.f19 hs19 n [.sr, .sr, .sl, .sr, .bl] m1 (mk 47 [(0, .cs false [.val (.list YEntry) x0]), (1, .cs false [.val (.int .i64) x1]), (5, .cs false [.val (.list .bool) x5]), (6, .cs false [.val (.int .i64) x6])])
theorem L19_0_step (F15 : sig15.Fn) (F76 : sig76.Fn) (n m1 : Nat) (x0 : List YEntry.den) (x1 : Int) (x5 : List (Bool)) (x6 : Int) : L19_0 F15 F76 n (m1 + 1) x0 x1 x5 x6 =
  (bcond (decide ((x6 : Int) ≥ 0))
   (if 0 ≤ (x6 : Int) ∧ (x6 : Int) < (List.length x0 : Int) then
    (bcond ((((at_ (e := YEntry) x0 x6).1 : Int) != x1) == false)
     (if 0 ≤ (x6 : Int) ∧ (x6 : Int) < (List.length x0 : Int) then
      (bcond (((at_ (e := YEntry) x0 x6).2.2.2.2 : Int) != 0)
       (L19_0 F15 F76 n m1 x0 x1 x5 (IntKind.i64.wrap (x6 - 1)))
       ((C76 F76 x0 x6).bind fun r1 =>
        (if 2 = 0 then none else
         (bcond (((Int.tmod (res76_0 r1) 2) : Int) == 1)
          (if 0 ≤ (x6 : Int) ∧ (x6 : Int) < (List.length x5 : Int) then
           (bcond (at_ (e := .bool) x5 x6)
            (some (ret19 (IntKind.i64.wrap (x6 + 1))))
            (L19_0 F15 F76 n m1 x0 x1 x5 (IntKind.i64.wrap (x6 - 1))))
          else none)
          ((C76 F76 x0 x6).bind fun r2 =>
           (bcond (((res76_0 r2) : Int) == 0)
            (some (ret19 0))
            (L19_0 F15 F76 n m1 x0 x1 x5 (IntKind.i64.wrap (x6 - 1)))))))))
     else none)
     (L19_0 F15 F76 n m1 x0 x1 x5 (IntKind.i64.wrap (x6 - 1))))
   else none)
   (some (ret19 0))) := by kernel_rfl
theorem run19 (F15 : sig15.Fn) (F76 : sig76.Fn) (n : Nat) (a0 : List YEntry.den) (a1 : Int) : C19 (fun x y => run T (env19 F15 F76) os19 sig19 Try.f19 hs19 n x y) a0 a1 =
  ((C15 F15 a0).bind fun r1 =>
   (L19_0 F15 F76 n n a0 a1 (res15_0 r1) (IntKind.i64.wrap ((List.length a0 : Int) - 1)))) := by kernel_rfl
theorem ok19 : fnOk os19 sig19 Try.f19 = true := by kernel_rfl
theorem fn19 : P.funcs[19]? = some Try.f19 := by kernel_rfl
noncomputable def F19 : sig19.Fn := fun x y => run T (env19 F15 F76) os19 sig19 Try.f19 hs19 big x y
theorem S19 : Sound P 19 ⟨sig19, F19⟩ := sound_of (os := os19) (hs := hs19) (env_cons S15 (env_cons S76 (env_nil))) fn19 ok19 (fun x y out h => ⟨big, h⟩)
theorem e19 (a0 : List YEntry.den) (a1 : Int) : C19 F19 a0 a1 =
  ((C15 F15 a0).bind fun r1 =>
   (L19_0 F15 F76 big big a0 a1 (res15_0 r1) (IntKind.i64.wrap ((List.length a0 : Int) - 1)))) := run19 F15 F76 big a0 a1

/-! ### chancery/chanceryref1.Counting -/
def sig17 : Sig := ⟨[.v false (.list YEntry)], [], [(false, [.fr (.list .bool)])]⟩
def C17 (F : sig17.Fn) (a0 : List YEntry.den) : Option sig17.Out := F (a0, ()) ()
def ret17 (v0 : List (Bool)) : sig17.Out := (((v0, ()), ()), ())
def res17_0 (r : sig17.Out) : List (Bool) := r.1.1.1
@[simp] theorem res17_0_ret (v0 : List (Bool)) : res17_0 (ret17 v0) = v0 := rfl
def os17 : List (Nat × List Nat) := []
def hs17 : List Keep := [[(0, []), (3, [(0, 4, .bool)]), (4, [])], [(0, []), (3, [(0, 4, .bool)]), (4, []), (5, [])]]
@[reducible] def env17 : Env := []
noncomputable def L17_0 (n m1 : Nat) (x0 : List YEntry.den) (x3 : List (Bool)) (x4 : Int) : Option sig17.Out :=
  loopAt T (env17) os17 sig17 Try.f17 hs17 n [.sr, .sr, .sl, .sr, .bl] m1 (mk 51 [(0, .cs false [.val (.list YEntry) x0]), (3, .cs false [.own 4 .bool x3]), (4, .cs false [.val (.int .i64) x4])])
noncomputable def L17_1 (n m1 m2 : Nat) (x0 : List YEntry.den) (x3 : List (Bool)) (x4 : Int) (x5 : Int) : Option sig17.Out :=
  loopAt T (env17) os17 sig17 Try.f17 hs17 n [.sr, .sr, .sl, .sr, .bl, .lp m1, .sr, .sl, .bl, .sr, .sr, .bl] m2 (mk 51 [(0, .cs false [.val (.list YEntry) x0]), (3, .cs false [.own 4 .bool x3]), (4, .cs false [.val (.int .i64) x4]), (5, .cs false [.val (.int .i64) x5])])
theorem L17_0_step (n m1 : Nat) (x0 : List YEntry.den) (x3 : List (Bool)) (x4 : Int) : L17_0 n (m1 + 1) x0 x3 x4 =
  (bcond (decide ((x4 : Int) ≥ 0))
   (if 0 ≤ (x4 : Int) ∧ (x4 : Int) < (List.length x0 : Int) then
    (if 0 ≤ (x4 : Int) ∧ (x4 : Int) < (List.length x3 : Int) then
     (L17_1 n m1 n x0 (List.set x3 (Int.toNat x4) (((at_ (e := YEntry) x0 x4).2.2.2.2 : Int) == 0)) x4 (IntKind.i64.wrap (x4 + 1)))
    else none)
   else none)
   (some (ret17 x3))) := by kernel_rfl
theorem L17_1_step (n m1 m2 : Nat) (x0 : List YEntry.den) (x3 : List (Bool)) (x4 : Int) (x5 : Int) : L17_1 n m1 (m2 + 1) x0 x3 x4 x5 =
  (bcond (decide ((x5 : Int) < (List.length x0 : Int)))
   (if 0 ≤ (x5 : Int) ∧ (x5 : Int) < (List.length x0 : Int) then
    (bcond ((((at_ (e := YEntry) x0 x5).2.2.2.1 : Int) == (IntKind.i64.wrap (x4 + 1))) == true)
     (if 0 ≤ (x5 : Int) ∧ (x5 : Int) < (List.length x3 : Int) then
      (bcond (at_ (e := .bool) x3 x5)
       (if 0 ≤ (x4 : Int) ∧ (x4 : Int) < (List.length x3 : Int) then
        (L17_1 n m1 m2 x0 (List.set x3 (Int.toNat x4) false) x4 (IntKind.i64.wrap (x5 + 1)))
       else none)
       (L17_1 n m1 m2 x0 x3 x4 (IntKind.i64.wrap (x5 + 1))))
     else none)
     (L17_1 n m1 m2 x0 x3 x4 (IntKind.i64.wrap (x5 + 1))))
   else none)
   (L17_0 n m1 x0 x3 (IntKind.i64.wrap (x4 - 1)))) := by kernel_rfl
theorem run17 (n : Nat) (a0 : List YEntry.den) : C17 (fun x y => run T (env17) os17 sig17 Try.f17 hs17 n x y) a0 =
  (if 0 ≤ ((List.length a0 : Int) : Int) ∧ ((List.length a0 : Int) : Int) = (List.length a0 : Int) ∧ ((List.length a0 : Int) : Int) * 1 ≤ 140737488355328 ∧ ((List.length a0 : Int) : Int) ≤ 140737488355328 then
   (L17_0 n n a0 (List.replicate (Int.toNat (List.length a0 : Int)) false) (IntKind.i64.wrap ((List.length a0 : Int) - 1)))
  else none) := by kernel_rfl
theorem ok17 : fnOk os17 sig17 Try.f17 = true := by kernel_rfl
theorem fn17 : P.funcs[17]? = some Try.f17 := by kernel_rfl
noncomputable def F17 : sig17.Fn := fun x y => run T (env17) os17 sig17 Try.f17 hs17 big x y
theorem S17 : Sound P 17 ⟨sig17, F17⟩ := sound_of (os := os17) (hs := hs17) (env_nil) fn17 ok17 (fun x y out h => ⟨big, h⟩)
theorem e17 (a0 : List YEntry.den) : C17 F17 a0 =
  (if 0 ≤ ((List.length a0 : Int) : Int) ∧ ((List.length a0 : Int) : Int) = (List.length a0 : Int) ∧ ((List.length a0 : Int) : Int) * 1 ≤ 140737488355328 ∧ ((List.length a0 : Int) : Int) ≤ 140737488355328 then
   (L17_0 big big a0 (List.replicate (Int.toNat (List.length a0 : Int)) false) (IntKind.i64.wrap ((List.length a0 : Int) - 1)))
  else none) := run17 big a0

/-! ### chancery/chanceryref1.Level -/
def sig18 : Sig := ⟨[.v false (.list YEntry), .v false (.int .i64)], [], [(false, [.fr (.int .i64)])]⟩
def C18 (F : sig18.Fn) (a0 : List YEntry.den) (a1 : Int) : Option sig18.Out := F (a0, a1, ()) ()
def ret18 (v0 : Int) : sig18.Out := (((v0, ()), ()), ())
def res18_0 (r : sig18.Out) : Int := r.1.1.1
@[simp] theorem res18_0_ret (v0 : Int) : res18_0 (ret18 v0) = v0 := rfl
def os18 : List (Nat × List Nat) := []
def hs18 : List Keep := []
@[reducible] def env18 (F77 : sig77.Fn) (F18 : sig18.Fn) : Env := [(77, ⟨sig77, F77⟩), (18, ⟨sig18, F18⟩)]
theorem run18 (F77 : sig77.Fn) (F18 : sig18.Fn) (n : Nat) (a0 : List YEntry.den) (a1 : Int) : C18 (fun x y => run T (env18 F77 F18) os18 sig18 Try.f18 hs18 n x y) a0 a1 =
  ((C77 F77 a0 a1).bind fun r1 =>
   (bcond (!(res77_0 r1))
    (some (ret18 0))
    (if 0 ≤ (a1 : Int) ∧ (a1 : Int) < (List.length a0 : Int) then
     ((C18 F18 a0 (IntKind.i64.wrap ((at_ (e := YEntry) a0 a1).2.2.2.1 - 1))).bind fun r2 =>
      (bcond (((res18_0 r2) : Int) == 1)
       (some (ret18 2))
       (some (ret18 1))))
    else none))) := by kernel_rfl
theorem ok18 : fnOk os18 sig18 Try.f18 = true := by kernel_rfl
theorem fn18 : P.funcs[18]? = some Try.f18 := by kernel_rfl
noncomputable def F18k : Nat → sig18.Fn
  | 0 => fun _ _ => none
  | k + 1 => fun x y => run T (env18 F77 (F18k k)) os18 sig18 Try.f18 hs18 big x y
theorem S18k : ∀ k, Sound P 18 ⟨sig18, F18k k⟩
  | 0 => sound_of (os := os18) (hs := hs18) (env := []) env_nil fn18 ok18 (fun x y out h => by cases h)
  | k + 1 => sound_of (os := os18) (hs := hs18) (env_cons S77 (env_cons (S18k k) (env_nil))) fn18 ok18 (fun x y out h => ⟨big, h⟩)
noncomputable def F18 : sig18.Fn := fun x y => F18k big x y
theorem S18 : Sound P 18 ⟨sig18, F18⟩ := sound_fuel S18k _
theorem e18 (k : Nat) (a0 : List YEntry.den) (a1 : Int) : C18 (F18k (k + 1)) a0 a1 =
  ((C77 F77 a0 a1).bind fun r1 =>
   (bcond (!(res77_0 r1))
    (some (ret18 0))
    (if 0 ≤ (a1 : Int) ∧ (a1 : Int) < (List.length a0 : Int) then
     ((C18 (F18k k) a0 (IntKind.i64.wrap ((at_ (e := YEntry) a0 a1).2.2.2.1 - 1))).bind fun r2 =>
      (bcond (((res18_0 r2) : Int) == 1)
       (some (ret18 2))
       (some (ret18 1))))
    else none))) := run18 F77 (F18k k) big a0 a1
theorem e18_0 (a0 : List YEntry.den) (a1 : Int) : C18 (F18k 0) a0 a1 = none := rfl

/-! ### chancery/chancerylaw1.UndoCountsMatch -/
def sig3 : Sig := ⟨[.v false (.list YEntry), .v false (.int .i64)], [], [(false, [.fr .bool])]⟩
def C3 (F : sig3.Fn) (a0 : List YEntry.den) (a1 : Int) : Option sig3.Out := F (a0, a1, ()) ()
def ret3 (v0 : Bool) : sig3.Out := (((v0, ()), ()), ())
def res3_0 (r : sig3.Out) : Bool := r.1.1.1
@[simp] theorem res3_0_ret (v0 : Bool) : res3_0 (ret3 v0) = v0 := rfl
def os3 : List (Nat × List Nat) := [(14, [0, 1, 2, 4, 5, 6, 3, 7, 8])]
def hs3 : List Keep := [[(0, []), (1, []), (7, []), (8, []), (9, []), (10, []), (59, []), (60, [])]]
@[reducible] def env3 (F15 : sig15.Fn) (F16 : sig16.Fn) (F17 : sig17.Fn) (F18 : sig18.Fn) (F19 : sig19.Fn) : Env := [(15, ⟨sig15, F15⟩), (16, ⟨sig16, F16⟩), (17, ⟨sig17, F17⟩), (18, ⟨sig18, F18⟩), (19, ⟨sig19, F19⟩)]
noncomputable def L3_0 (F15 : sig15.Fn) (F16 : sig16.Fn) (F17 : sig17.Fn) (F18 : sig18.Fn) (F19 : sig19.Fn) (n m1 : Nat) (x0 : List YEntry.den) (x1 : Int) (x7 : List (Bool)) (x8 : List (Bool)) (x9 : Int) (x10 : Int) (x59 : Int) (x60 : Int) : Option sig3.Out :=
  loopAt T (env3 F15 F16 F17 F18 F19) os3 sig3 Try.f3 hs3 n [.sr, .sr, .sr, .sr, .sr, .sr, .sr, .sl, .sr, .bl] m1 (mk 123 [(0, .cs false [.val (.list YEntry) x0]), (1, .cs false [.val (.int .i64) x1]), (7, .cs false [.val (.list .bool) x7]), (8, .cs false [.val (.list .bool) x8]), (9, .cs false [.val (.int .i64) x9]), (10, .cs false [.val (.int .i64) x10]), (59, .cs false [.val (.int .i64) x59]), (60, .cs false [.val (.int .i64) x60])])
theorem L3_0_step (F15 : sig15.Fn) (F16 : sig16.Fn) (F17 : sig17.Fn) (F18 : sig18.Fn) (F19 : sig19.Fn) (n m1 : Nat) (x0 : List YEntry.den) (x1 : Int) (x7 : List (Bool)) (x8 : List (Bool)) (x9 : Int) (x10 : Int) (x59 : Int) (x60 : Int) : L3_0 F15 F16 F17 F18 F19 n (m1 + 1) x0 x1 x7 x8 x9 x10 x59 x60 =
  (bcond (decide ((x60 : Int) < x59))
   (if 0 ≤ (x60 : Int) ∧ (x60 : Int) < (List.length x7 : Int) then
    (if 0 ≤ (x60 : Int) ∧ (x60 : Int) < (List.length x8 : Int) then
     (bcond (((at_ (e := .bool) x7 x60) : Bool) != (at_ (e := .bool) x8 x60))
      (some (ret3 false))
      (if 0 ≤ (x60 : Int) ∧ (x60 : Int) < (List.length x0 : Int) then
       (bcond (((at_ (e := YEntry) x0 x60).1 : Int) != x1)
        (L3_0 F15 F16 F17 F18 F19 n m1 x0 x1 x7 x8 x9 x10 x59 (IntKind.i64.wrap (x60 + 1)))
        ((C18 F18 x0 x60).bind fun r1 =>
         (bcond ((((res18_0 r1) : Int) == 0) == true)
          (if 0 ≤ (x60 : Int) ∧ (x60 : Int) < (List.length x0 : Int) then
           (bcond (((at_ (e := YEntry) x0 x60).2.2.2.2 : Int) == 0)
            (if 0 ≤ (x60 : Int) ∧ (x60 : Int) < (List.length x8 : Int) then
             (bcond (at_ (e := .bool) x8 x60)
              (L3_0 F15 F16 F17 F18 F19 n m1 x0 x1 x7 x8 (IntKind.i64.wrap (x60 + 1)) 0 x59 (IntKind.i64.wrap (x60 + 1)))
              (L3_0 F15 F16 F17 F18 F19 n m1 x0 x1 x7 x8 x9 0 x59 (IntKind.i64.wrap (x60 + 1))))
            else none)
            (bcond ((((res18_0 r1) : Int) == 1) == true)
             (if 0 ≤ (x60 : Int) ∧ (x60 : Int) < (List.length x8 : Int) then
              (bcond (at_ (e := .bool) x8 x60)
               (L3_0 F15 F16 F17 F18 F19 n m1 x0 x1 x7 x8 x9 (IntKind.i64.wrap (x60 + 1)) x59 (IntKind.i64.wrap (x60 + 1)))
               (L3_0 F15 F16 F17 F18 F19 n m1 x0 x1 x7 x8 x9 x10 x59 (IntKind.i64.wrap (x60 + 1))))
             else none)
             (L3_0 F15 F16 F17 F18 F19 n m1 x0 x1 x7 x8 x9 x10 x59 (IntKind.i64.wrap (x60 + 1)))))
          else none)
          (bcond ((((res18_0 r1) : Int) == 1) == true)
           (if 0 ≤ (x60 : Int) ∧ (x60 : Int) < (List.length x8 : Int) then
            (bcond (at_ (e := .bool) x8 x60)
             (L3_0 F15 F16 F17 F18 F19 n m1 x0 x1 x7 x8 x9 (IntKind.i64.wrap (x60 + 1)) x59 (IntKind.i64.wrap (x60 + 1)))
             (L3_0 F15 F16 F17 F18 F19 n m1 x0 x1 x7 x8 x9 x10 x59 (IntKind.i64.wrap (x60 + 1))))
           else none)
           (L3_0 F15 F16 F17 F18 F19 n m1 x0 x1 x7 x8 x9 x10 x59 (IntKind.i64.wrap (x60 + 1)))))))
      else none))
    else none)
   else none)
   ((C16 F16 x0 x1).bind fun r1 =>
    (bcond ((((res16_0 r1) : Int) == x9) == true)
     ((C19 F19 x0 x1).bind fun r2 =>
      (some (ret3 (((res19_0 r2) : Int) == x10))))
     (some (ret3 false))))) := by kernel_rfl
theorem run3 (F15 : sig15.Fn) (F16 : sig16.Fn) (F17 : sig17.Fn) (F18 : sig18.Fn) (F19 : sig19.Fn) (n : Nat) (a0 : List YEntry.den) (a1 : Int) : C3 (fun x y => run T (env3 F15 F16 F17 F18 F19) os3 sig3 Try.f3 hs3 n x y) a0 a1 =
  ((C15 F15 [(1, (0, ([], (0, 0)))), (1, (0, ([], (1, 0)))), (1, (0, ([], (2, 0))))]).bind fun r1 =>
   (bcond ((((List.length (res15_0 r1) : Int) : Int) != 3) == false)
    (if 0 ≤ (0 : Int) ∧ (0 : Int) < (List.length (res15_0 r1) : Int) then
     (bcond ((!(at_ (e := .bool) (res15_0 r1) 0)) == false)
      (if 0 ≤ (1 : Int) ∧ (1 : Int) < (List.length (res15_0 r1) : Int) then
       (bcond ((at_ (e := .bool) (res15_0 r1) 1) == false)
        (if 0 ≤ (2 : Int) ∧ (2 : Int) < (List.length (res15_0 r1) : Int) then
         (bcond ((!(at_ (e := .bool) (res15_0 r1) 2)) == false)
          ((C16 F16 [(1, (0, ([], (0, 0)))), (1, (0, ([], (1, 0)))), (1, (0, ([], (2, 0))))] 1).bind fun r2 =>
           (bcond (((res16_0 r2) : Int) != 1)
            (some (ret3 false))
            (bcond (decide (((List.length a0 : Int) : Int) > 40))
             (if 0 ≤ (40 : Int) ∧ (40 : Int) ≤ (List.length a0 : Int) ∧ 0 ≤ (0 : Int) ∧ (0 : Int) ≤ 40 then
              ((C15 F15 (List.drop (Int.toNat 0) (List.take (Int.toNat 40) a0))).bind fun r3 =>
               ((C17 F17 (List.drop (Int.toNat 0) (List.take (Int.toNat 40) a0))).bind fun r4 =>
                (bcond (((List.length (res15_0 r3) : Int) : Int) != (List.length (res17_0 r4) : Int))
                 (some (ret3 false))
                 (L3_0 F15 F16 F17 F18 F19 n n (List.drop (Int.toNat 0) (List.take (Int.toNat 40) a0)) a1 (res15_0 r3) (res17_0 r4) 0 0 (List.length (List.drop (Int.toNat 0) (List.take (Int.toNat 40) a0)) : Int) 0))))
             else none)
             ((C15 F15 a0).bind fun r3 =>
              ((C17 F17 a0).bind fun r4 =>
               (bcond (((List.length (res15_0 r3) : Int) : Int) != (List.length (res17_0 r4) : Int))
                (some (ret3 false))
                (L3_0 F15 F16 F17 F18 F19 n n a0 a1 (res15_0 r3) (res17_0 r4) 0 0 (List.length a0 : Int) 0)))))))
          (some (ret3 false)))
        else none)
        (some (ret3 false)))
      else none)
      (some (ret3 false)))
    else none)
    (some (ret3 false)))) := by kernel_rfl
theorem ok3 : fnOk os3 sig3 Try.f3 = true := by kernel_rfl
theorem fn3 : P.funcs[3]? = some Try.f3 := by kernel_rfl
noncomputable def F3 : sig3.Fn := fun x y => run T (env3 F15 F16 F17 F18 F19) os3 sig3 Try.f3 hs3 big x y
theorem S3 : Sound P 3 ⟨sig3, F3⟩ := sound_of (os := os3) (hs := hs3) (env_cons S15 (env_cons S16 (env_cons S17 (env_cons S18 (env_cons S19 (env_nil)))))) fn3 ok3 (fun x y out h => ⟨big, h⟩)
theorem e3 (a0 : List YEntry.den) (a1 : Int) : C3 F3 a0 a1 =
  ((C15 F15 [(1, (0, ([], (0, 0)))), (1, (0, ([], (1, 0)))), (1, (0, ([], (2, 0))))]).bind fun r1 =>
   (bcond ((((List.length (res15_0 r1) : Int) : Int) != 3) == false)
    (if 0 ≤ (0 : Int) ∧ (0 : Int) < (List.length (res15_0 r1) : Int) then
     (bcond ((!(at_ (e := .bool) (res15_0 r1) 0)) == false)
      (if 0 ≤ (1 : Int) ∧ (1 : Int) < (List.length (res15_0 r1) : Int) then
       (bcond ((at_ (e := .bool) (res15_0 r1) 1) == false)
        (if 0 ≤ (2 : Int) ∧ (2 : Int) < (List.length (res15_0 r1) : Int) then
         (bcond ((!(at_ (e := .bool) (res15_0 r1) 2)) == false)
          ((C16 F16 [(1, (0, ([], (0, 0)))), (1, (0, ([], (1, 0)))), (1, (0, ([], (2, 0))))] 1).bind fun r2 =>
           (bcond (((res16_0 r2) : Int) != 1)
            (some (ret3 false))
            (bcond (decide (((List.length a0 : Int) : Int) > 40))
             (if 0 ≤ (40 : Int) ∧ (40 : Int) ≤ (List.length a0 : Int) ∧ 0 ≤ (0 : Int) ∧ (0 : Int) ≤ 40 then
              ((C15 F15 (List.drop (Int.toNat 0) (List.take (Int.toNat 40) a0))).bind fun r3 =>
               ((C17 F17 (List.drop (Int.toNat 0) (List.take (Int.toNat 40) a0))).bind fun r4 =>
                (bcond (((List.length (res15_0 r3) : Int) : Int) != (List.length (res17_0 r4) : Int))
                 (some (ret3 false))
                 (L3_0 F15 F16 F17 F18 F19 big big (List.drop (Int.toNat 0) (List.take (Int.toNat 40) a0)) a1 (res15_0 r3) (res17_0 r4) 0 0 (List.length (List.drop (Int.toNat 0) (List.take (Int.toNat 40) a0)) : Int) 0))))
             else none)
             ((C15 F15 a0).bind fun r3 =>
              ((C17 F17 a0).bind fun r4 =>
               (bcond (((List.length (res15_0 r3) : Int) : Int) != (List.length (res17_0 r4) : Int))
                (some (ret3 false))
                (L3_0 F15 F16 F17 F18 F19 big big a0 a1 (res15_0 r3) (res17_0 r4) 0 0 (List.length a0 : Int) 0)))))))
          (some (ret3 false)))
        else none)
        (some (ret3 false)))
      else none)
      (some (ret3 false)))
    else none)
    (some (ret3 false)))) := run3 F15 F16 F17 F18 F19 big a0 a1
end Go.Ev
