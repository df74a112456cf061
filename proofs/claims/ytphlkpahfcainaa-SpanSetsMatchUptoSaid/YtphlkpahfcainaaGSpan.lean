/- Functions, step by step. -/
import Derived.Test.YtphlkpahfcainaaGBase
namespace Go.Ev
set_option linter.unusedVariables false
set_option maxRecDepth 100000
open Go.Proofs

/-! ### chancery/span.Check -/
def sig21 : Sig := ⟨[.v false (.list YSpan)], [], [(false, [.fr (.int .i64)])]⟩
def C21 (F : sig21.Fn) (a0 : List YSpan.den) : Option sig21.Out := F (a0, ()) ()
def ret21 (v0 : Int) : sig21.Out := (((v0, ()), ()), ())
def res21_0 (r : sig21.Out) : Int := r.1.1.1
@[simp] theorem res21_0_ret (v0 : Int) : res21_0 (ret21 v0) = v0 := rfl
def os21 : List (Nat × Ord) := [(6, .st 0 (.st 1 (.st 2 (.st 3 (.st 5 (.st 6 (.st 7 (.st 8 (.st 9 (.st 4 (.st 10 (.st 11 (.st 12 (.nil))))))))))))))]
def hs21 : List Keep := [[(0, []), (5, []), (6, []), (7, [])]]
@[reducible] def env21 : Env := []
noncomputable def L21_0 (n m1 : Nat) (x0 : List YSpan.den) (x5 : List YSpan.den) (x6 : Int) (x7 : Int) : Option sig21.Out :=
  loopAt T (env21) os21 sig21 Try.f21 hs21 n [.sr, .sl, .sr, .bl] m1 (mk 41 [(0, .cs false [.val (.list YSpan) x0]), (5, .cs false [.val (.list YSpan) x5]), (6, .cs false [.val (.int .i64) x6]), (7, .cs false [.val (.int .i64) x7])])
theorem L21_0_step (n m1 : Nat) (x0 : List YSpan.den) (x5 : List YSpan.den) (x6 : Int) (x7 : Int) : L21_0 n (m1 + 1) x0 x5 x6 x7 =
  (bcond (decide ((x7 : Int) < x6))
   (if 0 ≤ (x7 : Int) ∧ (x7 : Int) < (List.length x5 : Int) then
    (bcond ((decide (((at_ (e := YSpan) x5 x7).1 : Int) < 0)) == false)
     (bcond ((decide (((at_ (e := YSpan) x5 x7).2 : Int) ≤ (at_ (e := YSpan) x5 x7).1)) == false)
      (bcond (decide (((at_ (e := YSpan) x5 x7).2 : Int) > 2147483647))
       (some (ret21 2))
       (bcond ((decide ((x7 : Int) > 0)) == true)
        (if 0 ≤ ((IntKind.i64.wrap (x7 - 1)) : Int) ∧ ((IntKind.i64.wrap (x7 - 1)) : Int) < (List.length x0 : Int) then
         (bcond (decide (((at_ (e := YSpan) x5 x7).1 : Int) ≤ (at_ (e := YSpan) x0 (IntKind.i64.wrap (x7 - 1))).2))
          (some (ret21 5))
          (L21_0 n m1 x0 x5 x6 (IntKind.i64.wrap (x7 + 1))))
        else none)
        (L21_0 n m1 x0 x5 x6 (IntKind.i64.wrap (x7 + 1)))))
      (some (ret21 2)))
     (some (ret21 2)))
   else none)
   (some (ret21 0))) := by kernel_rfl
theorem run21 (n : Nat) (a0 : List YSpan.den) : C21 (fun x y => run T (env21) os21 sig21 Try.f21 hs21 n x y) a0 =
  (L21_0 n n a0 a0 (List.length a0 : Int) 0) := by kernel_rfl
theorem ok21 : fnOk os21 sig21 Try.f21 = true := by kernel_rfl
theorem fn21 : P.funcs[21]? = some Try.f21 := by kernel_rfl
noncomputable def F21 : sig21.Fn := fun x y => run T (env21) os21 sig21 Try.f21 hs21 big x y
theorem S21 : Sound P 21 ⟨sig21, F21⟩ := sound_of (os := os21) (hs := hs21) (env_nil) fn21 ok21 (fun x y out h => ⟨big, h⟩)
theorem e21 (a0 : List YSpan.den) : C21 F21 a0 =
  (L21_0 big big a0 a0 (List.length a0 : Int) 0) := run21 big a0

/-! ### chancery/chancerylaw1.setError -/
def sig22 : Sig := ⟨[.v false (.list YSpan)], [], [(false, [.fr (.int .i64)])]⟩
def C22 (F : sig22.Fn) (a0 : List YSpan.den) : Option sig22.Out := F (a0, ()) ()
def ret22 (v0 : Int) : sig22.Out := (((v0, ()), ()), ())
def res22_0 (r : sig22.Out) : Int := r.1.1.1
@[simp] theorem res22_0_ret (v0 : Int) : res22_0 (ret22 v0) = v0 := rfl
def os22 : List (Nat × Ord) := [(4, .st 0 (.st 1 (.st 2 (.st 3 (.st 4 (.st 5 (.st 6 (.st 7 (.st 8 (.st 9 (.st 10 (.st 12 (.st 13 (.st 14 (.st 15 (.st 11 (.st 16 (.st 17 (.st 18 (.st 19 (.st 20 (.st 21 (.st 22 (.st 23 (.st 24 (.st 25 (.st 26 (.nil)))))))))))))))))))))))))))), (6, .st 0 (.st 1 (.st 2 (.st 3 (.st 4 (.st 5 (.st 6 (.st 8 (.st 9 (.st 10 (.st 11 (.st 12 (.st 7 (.st 13 (.st 14 (.st 15 (.nil)))))))))))))))))]
def hs22 : List Keep := [[(0, []), (5, []), (6, [])]]
@[reducible] def env22 : Env := []
noncomputable def L22_0 (n m1 : Nat) (x0 : List YSpan.den) (x5 : Int) (x6 : Int) : Option sig22.Out :=
  loopAt T (env22) os22 sig22 Try.f22 hs22 n [.sr, .sl, .sr, .bl] m1 (mk 53 [(0, .cs false [.val (.list YSpan) x0]), (5, .cs false [.val (.int .i64) x5]), (6, .cs false [.val (.int .i64) x6])])
theorem L22_0_step (n m1 : Nat) (x0 : List YSpan.den) (x5 : Int) (x6 : Int) : L22_0 n (m1 + 1) x0 x5 x6 =
  (bcond (decide ((x6 : Int) < x5))
   (if 0 ≤ (x6 : Int) ∧ (x6 : Int) < (List.length x0 : Int) then
    (bcond ((decide (((at_ (e := YSpan) x0 x6).1 : Int) < 0)) == false)
     (if 0 ≤ (x6 : Int) ∧ (x6 : Int) < (List.length x0 : Int) then
      (if 0 ≤ (x6 : Int) ∧ (x6 : Int) < (List.length x0 : Int) then
       (bcond ((decide (((at_ (e := YSpan) x0 x6).2 : Int) ≤ (at_ (e := YSpan) x0 x6).1)) == false)
        (if 0 ≤ (x6 : Int) ∧ (x6 : Int) < (List.length x0 : Int) then
         (bcond (decide (((at_ (e := YSpan) x0 x6).2 : Int) > 2147483647))
          (some (ret22 2))
          (bcond ((decide ((x6 : Int) > 0)) == true)
           (if 0 ≤ (x6 : Int) ∧ (x6 : Int) < (List.length x0 : Int) then
            (if 0 ≤ ((IntKind.i64.wrap (x6 - 1)) : Int) ∧ ((IntKind.i64.wrap (x6 - 1)) : Int) < (List.length x0 : Int) then
             (bcond (decide (((at_ (e := YSpan) x0 x6).1 : Int) ≤ (at_ (e := YSpan) x0 (IntKind.i64.wrap (x6 - 1))).2))
              (some (ret22 5))
              (L22_0 n m1 x0 x5 (IntKind.i64.wrap (x6 + 1))))
            else none)
           else none)
           (L22_0 n m1 x0 x5 (IntKind.i64.wrap (x6 + 1)))))
        else none)
        (some (ret22 2)))
      else none)
     else none)
     (some (ret22 2)))
   else none)
   (some (ret22 0))) := by kernel_rfl
theorem run22 (n : Nat) (a0 : List YSpan.den) : C22 (fun x y => run T (env22) os22 sig22 Try.f22 hs22 n x y) a0 =
  (L22_0 n n a0 (List.length a0 : Int) 0) := by kernel_rfl
theorem ok22 : fnOk os22 sig22 Try.f22 = true := by kernel_rfl
theorem fn22 : P.funcs[22]? = some Try.f22 := by kernel_rfl
noncomputable def F22 : sig22.Fn := fun x y => run T (env22) os22 sig22 Try.f22 hs22 big x y
theorem S22 : Sound P 22 ⟨sig22, F22⟩ := sound_of (os := os22) (hs := hs22) (env_nil) fn22 ok22 (fun x y out h => ⟨big, h⟩)
theorem e22 (a0 : List YSpan.den) : C22 F22 a0 =
  (L22_0 big big a0 (List.length a0 : Int) 0) := run22 big a0

/-! ### chancery/chancerylaw1.member -/
def sig26 : Sig := ⟨[.v false (.list YSpan), .v false (.int .i64)], [], [(false, [.fr .bool])]⟩
def C26 (F : sig26.Fn) (a0 : List YSpan.den) (a1 : Int) : Option sig26.Out := F (a0, a1, ()) ()
def ret26 (v0 : Bool) : sig26.Out := (((v0, ()), ()), ())
def res26_0 (r : sig26.Out) : Bool := r.1.1.1
@[simp] theorem res26_0_ret (v0 : Bool) : res26_0 (ret26 v0) = v0 := rfl
def os26 : List (Nat × Ord) := [(4, .st 0 (.st 1 (.st 2 (.st 3 (.st 4 (.st 6 (.st 7 (.st 8 (.st 9 (.st 10 (.st 11 (.st 5 (.st 12 (.nil))))))))))))))]
def hs26 : List Keep := [[(0, []), (1, []), (7, []), (8, [])]]
@[reducible] def env26 (F32 : sig32.Fn) : Env := [(32, ⟨sig32, F32⟩)]
noncomputable def L26_0 (F32 : sig32.Fn) (n m1 : Nat) (x0 : List YSpan.den) (x1 : Int) (x7 : Int) (x8 : Int) : Option sig26.Out :=
  loopAt T (env26 F32) os26 sig26 Try.f26 hs26 n [.sr, .sl, .sr, .bl] m1 (mk 25 [(0, .cs false [.val (.list YSpan) x0]), (1, .cs false [.val (.int .i64) x1]), (7, .cs false [.val (.int .i64) x7]), (8, .cs false [.val (.int .i64) x8])])
theorem L26_0_step (F32 : sig32.Fn) (n m1 : Nat) (x0 : List YSpan.den) (x1 : Int) (x7 : Int) (x8 : Int) : L26_0 F32 n (m1 + 1) x0 x1 x7 x8 =
  (bcond (decide ((x8 : Int) < x7))
   (if 0 ≤ (x8 : Int) ∧ (x8 : Int) < (List.length x0 : Int) then
    (if 0 ≤ (x8 : Int) ∧ (x8 : Int) < (List.length x0 : Int) then
     ((C32 F32 x1 (at_ (e := YSpan) x0 x8).1 (IntKind.i64.wrap ((at_ (e := YSpan) x0 x8).2 - 1))).bind fun r1 =>
      (bcond (res32_0 r1)
       (some (ret26 true))
       (L26_0 F32 n m1 x0 x1 x7 (IntKind.i64.wrap (x8 + 1)))))
    else none)
   else none)
   (some (ret26 false))) := by kernel_rfl
theorem run26 (F32 : sig32.Fn) (n : Nat) (a0 : List YSpan.den) (a1 : Int) : C26 (fun x y => run T (env26 F32) os26 sig26 Try.f26 hs26 n x y) a0 a1 =
  (L26_0 F32 n n a0 a1 (List.length a0 : Int) 0) := by kernel_rfl
theorem ok26 : fnOk os26 sig26 Try.f26 = true := by kernel_rfl
theorem fn26 : P.funcs[26]? = some Try.f26 := by kernel_rfl
noncomputable def F26 : sig26.Fn := fun x y => run T (env26 F32) os26 sig26 Try.f26 hs26 big x y
theorem S26 : Sound P 26 ⟨sig26, F26⟩ := sound_of (os := os26) (hs := hs26) (env_cons S32 (env_nil)) fn26 ok26 (fun x y out h => ⟨big, h⟩)
theorem e26 (a0 : List YSpan.den) (a1 : Int) : C26 F26 a0 a1 =
  (L26_0 F32 big big a0 a1 (List.length a0 : Int) 0) := run26 F32 big a0 a1

/-! ### chancery/span.end -/
def sig118 : Sig := ⟨[.v false (.list YSpan), .v false (.int .i64)], [], [(false, [.fr (.int .i64)])]⟩
def C118 (F : sig118.Fn) (a0 : List YSpan.den) (a1 : Int) : Option sig118.Out := F (a0, a1, ()) ()
def ret118 (v0 : Int) : sig118.Out := (((v0, ()), ()), ())
def res118_0 (r : sig118.Out) : Int := r.1.1.1
@[simp] theorem res118_0_ret (v0 : Int) : res118_0 (ret118 v0) = v0 := rfl
def os118 : List (Nat × Ord) := []
def hs118 : List Keep := []
@[reducible] def env118 : Env := []
theorem run118 (n : Nat) (a0 : List YSpan.den) (a1 : Int) : C118 (fun x y => run T (env118) os118 sig118 Try.f118 hs118 n x y) a0 a1 =
  (if 2 = 0 then none else
   (bcond (((Int.tmod a1 2) : Int) == 0)
    (if 2 = 0 then none else
     (if 0 ≤ ((IntKind.i64.wrap (Int.tdiv a1 2)) : Int) ∧ ((IntKind.i64.wrap (Int.tdiv a1 2)) : Int) < (List.length a0 : Int) then
      (some (ret118 (at_ (e := YSpan) a0 (IntKind.i64.wrap (Int.tdiv a1 2))).1))
     else none))
    (if 2 = 0 then none else
     (if 0 ≤ ((IntKind.i64.wrap (Int.tdiv a1 2)) : Int) ∧ ((IntKind.i64.wrap (Int.tdiv a1 2)) : Int) < (List.length a0 : Int) then
      (some (ret118 (at_ (e := YSpan) a0 (IntKind.i64.wrap (Int.tdiv a1 2))).2))
     else none)))) := by kernel_rfl
theorem ok118 : fnOk os118 sig118 Try.f118 = true := by kernel_rfl
theorem fn118 : P.funcs[118]? = some Try.f118 := by kernel_rfl
noncomputable def F118 : sig118.Fn := fun x y => run T (env118) os118 sig118 Try.f118 hs118 big x y
theorem S118 : Sound P 118 ⟨sig118, F118⟩ := sound_of (os := os118) (hs := hs118) (env_nil) fn118 ok118 (fun x y out h => ⟨big, h⟩)
theorem e118 (a0 : List YSpan.den) (a1 : Int) : C118 F118 a0 a1 =
  (if 2 = 0 then none else
   (bcond (((Int.tmod a1 2) : Int) == 0)
    (if 2 = 0 then none else
     (if 0 ≤ ((IntKind.i64.wrap (Int.tdiv a1 2)) : Int) ∧ ((IntKind.i64.wrap (Int.tdiv a1 2)) : Int) < (List.length a0 : Int) then
      (some (ret118 (at_ (e := YSpan) a0 (IntKind.i64.wrap (Int.tdiv a1 2))).1))
     else none))
    (if 2 = 0 then none else
     (if 0 ≤ ((IntKind.i64.wrap (Int.tdiv a1 2)) : Int) ∧ ((IntKind.i64.wrap (Int.tdiv a1 2)) : Int) < (List.length a0 : Int) then
      (some (ret118 (at_ (e := YSpan) a0 (IntKind.i64.wrap (Int.tdiv a1 2))).2))
     else none)))) := run118 big a0 a1

/-! ### chancery/span.add -/
def sig119 : Sig := ⟨[.o 38 YSpan, .v true YSpan], [], [(false, [.ow 38 YSpan])]⟩
def C119 (F : sig119.Fn) (a0 : List YSpan.den) (a1 : YSpan.den) : Option sig119.Out := F (a0, a1, ()) ()
def ret119 (v0 : List YSpan.den) : sig119.Out := (((v0, ()), ()), ())
def res119_0 (r : sig119.Out) : List YSpan.den := r.1.1.1
@[simp] theorem res119_0_ret (v0 : List YSpan.den) : res119_0 (ret119 v0) = v0 := rfl
def os119 : List (Nat × Ord) := [(2, .st 0 (.st 1 (.st 2 (.st 3 (.st 5 (.st 6 (.st 7 (.st 8 (.st 4 (.st 9 (.st 10 (.st 11 (.nil))))))))))))), (3, .st 0 (.st 1 (.st 2 (.st 3 (.st 4 (.st 5 (.st 7 (.st 6 (.st 8 (.st 9 (.st 10 (.st 11 (.st 12 (.nil))))))))))))))]
def hs119 : List Keep := []
@[reducible] def env119 : Env := []
theorem run119 (n : Nat) (a0 : List YSpan.den) (a1 : YSpan.den) : C119 (fun x y => run T (env119) os119 sig119 Try.f119 hs119 n x y) a0 a1 =
  (bcond ((decide (((IntKind.i64.wrap ((List.length a0 : Int) - 1)) : Int) ≥ 0)) == true)
   (if 0 ≤ ((IntKind.i64.wrap ((List.length a0 : Int) - 1)) : Int) ∧ ((IntKind.i64.wrap ((List.length a0 : Int) - 1)) : Int) < (List.length a0 : Int) then
    (bcond (decide ((a1.1 : Int) ≤ (at_ (e := YSpan) a0 (IntKind.i64.wrap ((List.length a0 : Int) - 1))).2))
     (if 0 ≤ ((IntKind.i64.wrap ((List.length a0 : Int) - 1)) : Int) ∧ ((IntKind.i64.wrap ((List.length a0 : Int) - 1)) : Int) < (List.length a0 : Int) then
      (if 0 ≤ ((IntKind.i64.wrap ((List.length a0 : Int) - 1)) : Int) ∧ ((IntKind.i64.wrap ((List.length a0 : Int) - 1)) : Int) < (List.length a0 : Int) then
       (some (ret119 (List.set a0 (Int.toNat (IntKind.i64.wrap ((List.length a0 : Int) - 1))) ((at_ (e := YSpan) a0 (IntKind.i64.wrap ((List.length a0 : Int) - 1))).1, (if (a1.2 : Int) > (at_ (e := YSpan) a0 (IntKind.i64.wrap ((List.length a0 : Int) - 1))).2 then a1.2 else (at_ (e := YSpan) a0 (IntKind.i64.wrap ((List.length a0 : Int) - 1))).2)))))
      else none)
     else none)
     (if (List.length (a0 : List YSpan.den) + List.length ([a1] : List YSpan.den)) * 16 ≤ 140737488355328 then
      (some (ret119 (a0 ++ [a1])))
     else none))
   else none)
   (if (List.length (a0 : List YSpan.den) + List.length ([a1] : List YSpan.den)) * 16 ≤ 140737488355328 then
    (some (ret119 (a0 ++ [a1])))
   else none)) := by kernel_rfl
theorem ok119 : fnOk os119 sig119 Try.f119 = true := by kernel_rfl
theorem fn119 : P.funcs[119]? = some Try.f119 := by kernel_rfl
noncomputable def F119 : sig119.Fn := fun x y => run T (env119) os119 sig119 Try.f119 hs119 big x y
theorem S119 : Sound P 119 ⟨sig119, F119⟩ := sound_of (os := os119) (hs := hs119) (env_nil) fn119 ok119 (fun x y out h => ⟨big, h⟩)
theorem e119 (a0 : List YSpan.den) (a1 : YSpan.den) : C119 F119 a0 a1 =
  (bcond ((decide (((IntKind.i64.wrap ((List.length a0 : Int) - 1)) : Int) ≥ 0)) == true)
   (if 0 ≤ ((IntKind.i64.wrap ((List.length a0 : Int) - 1)) : Int) ∧ ((IntKind.i64.wrap ((List.length a0 : Int) - 1)) : Int) < (List.length a0 : Int) then
    (bcond (decide ((a1.1 : Int) ≤ (at_ (e := YSpan) a0 (IntKind.i64.wrap ((List.length a0 : Int) - 1))).2))
     (if 0 ≤ ((IntKind.i64.wrap ((List.length a0 : Int) - 1)) : Int) ∧ ((IntKind.i64.wrap ((List.length a0 : Int) - 1)) : Int) < (List.length a0 : Int) then
      (if 0 ≤ ((IntKind.i64.wrap ((List.length a0 : Int) - 1)) : Int) ∧ ((IntKind.i64.wrap ((List.length a0 : Int) - 1)) : Int) < (List.length a0 : Int) then
       (some (ret119 (List.set a0 (Int.toNat (IntKind.i64.wrap ((List.length a0 : Int) - 1))) ((at_ (e := YSpan) a0 (IntKind.i64.wrap ((List.length a0 : Int) - 1))).1, (if (a1.2 : Int) > (at_ (e := YSpan) a0 (IntKind.i64.wrap ((List.length a0 : Int) - 1))).2 then a1.2 else (at_ (e := YSpan) a0 (IntKind.i64.wrap ((List.length a0 : Int) - 1))).2)))))
      else none)
     else none)
     (if (List.length (a0 : List YSpan.den) + List.length ([a1] : List YSpan.den)) * 16 ≤ 140737488355328 then
      (some (ret119 (a0 ++ [a1])))
     else none))
   else none)
   (if (List.length (a0 : List YSpan.den) + List.length ([a1] : List YSpan.den)) * 16 ≤ 140737488355328 then
    (some (ret119 (a0 ++ [a1])))
   else none)) := run119 big a0 a1

/-! ### chancery/span.Union$1 -/
def sig79 : Sig := ⟨[.v false .bool, .v false .bool], [], [(false, [.fr .bool])]⟩
def C79 (F : sig79.Fn) (a0 : Bool) (a1 : Bool) : Option sig79.Out := F (a0, a1, ()) ()
def ret79 (v0 : Bool) : sig79.Out := (((v0, ()), ()), ())
def res79_0 (r : sig79.Out) : Bool := r.1.1.1
@[simp] theorem res79_0_ret (v0 : Bool) : res79_0 (ret79 v0) = v0 := rfl
def os79 : List (Nat × Ord) := []
def hs79 : List Keep := []
@[reducible] def env79 : Env := []
theorem run79 (n : Nat) (a0 : Bool) (a1 : Bool) : C79 (fun x y => run T (env79) os79 sig79 Try.f79 hs79 n x y) a0 a1 =
  (bcond (a0 == false)
   (some (ret79 a1))
   (some (ret79 true))) := by kernel_rfl
theorem ok79 : fnOk os79 sig79 Try.f79 = true := by kernel_rfl
theorem fn79 : P.funcs[79]? = some Try.f79 := by kernel_rfl
noncomputable def F79 : sig79.Fn := fun x y => run T (env79) os79 sig79 Try.f79 hs79 big x y
theorem S79 : Sound P 79 ⟨sig79, F79⟩ := sound_of (os := os79) (hs := hs79) (env_nil) fn79 ok79 (fun x y out h => ⟨big, h⟩)
theorem e79 (a0 : Bool) (a1 : Bool) : C79 F79 a0 a1 =
  (bcond (a0 == false)
   (some (ret79 a1))
   (some (ret79 true))) := run79 big a0 a1

/-! ### chancery/span.merged -/
def sig107_79 : Sig := ⟨[.v false (.list YSpan), .v false (.list YSpan), .f 79 []], [], [(false, [.fr (.list YSpan)])]⟩
def C107_79 (F : sig107_79.Fn) (a0 : List YSpan.den) (a1 : List YSpan.den) : Option sig107_79.Out := F (a0, a1, ()) ()
def ret107_79 (v0 : List YSpan.den) : sig107_79.Out := (((v0, ()), ()), ())
def res107_79_0 (r : sig107_79.Out) : List YSpan.den := r.1.1.1
@[simp] theorem res107_79_0_ret (v0 : List YSpan.den) : res107_79_0 (ret107_79 v0) = v0 := rfl
def os107_79 : List (Nat × Ord) := []
def hs107_79 : List Keep := [[(0, []), (1, []), (2, []), (7, [(0, 38, YSpan)]), (8, []), (9, []), (10, [])], [(0, []), (1, []), (2, []), (7, [(0, 38, YSpan)]), (8, []), (9, []), (10, [])], [(0, []), (1, []), (2, []), (7, [(0, 38, YSpan)]), (8, []), (9, []), (10, [])]]
@[reducible] def env107_79 (F118 : sig118.Fn) (F79 : sig79.Fn) (F119 : sig119.Fn) : Env := [(118, ⟨sig118, F118⟩), (79, ⟨sig79, F79⟩), (119, ⟨sig119, F119⟩)]
noncomputable def L107_79_0 (F118 : sig118.Fn) (F79 : sig79.Fn) (F119 : sig119.Fn) (n m1 : Nat) (x0 : List YSpan.den) (x1 : List YSpan.den) (x7 : List YSpan.den) (x8 : Int) (x9 : Int) (x10 : Int) : Option sig107_79.Out :=
  loopAt T (env107_79 F118 F79 F119) os107_79 sig107_79 Try.f107 hs107_79 n [.sr, .sr, .sr, .sl, .bl] m1 (mk 90 [(0, .cs false [.val (.list YSpan) x0]), (1, .cs false [.val (.list YSpan) x1]), (2, .cs false [.clo 79 []]), (7, .cs false [.own 38 YSpan x7]), (8, .cs false [.val (.int .i64) x8]), (9, .cs false [.val (.int .i64) x9]), (10, .cs false [.val (.int .i64) x10])])
noncomputable def L107_79_1 (F118 : sig118.Fn) (F79 : sig79.Fn) (F119 : sig119.Fn) (n m1 m2 : Nat) (x0 : List YSpan.den) (x1 : List YSpan.den) (x7 : List YSpan.den) (x8 : Int) (x9 : Int) (x10 : Int) : Option sig107_79.Out :=
  loopAt T (env107_79 F118 F79 F119) os107_79 sig107_79 Try.f107 hs107_79 n [.sr, .sr, .sr, .sl, .bl, .lp m1, .sr, .bl, .sr, .sr, .sr, .sr, .sr, .sl, .bl] m2 (mk 90 [(0, .cs false [.val (.list YSpan) x0]), (1, .cs false [.val (.list YSpan) x1]), (2, .cs false [.clo 79 []]), (7, .cs false [.own 38 YSpan x7]), (8, .cs false [.val (.int .i64) x8]), (9, .cs false [.val (.int .i64) x9]), (10, .cs false [.val (.int .i64) x10])])
noncomputable def L107_79_2 (F118 : sig118.Fn) (F79 : sig79.Fn) (F119 : sig119.Fn) (n m1 m2 : Nat) (x0 : List YSpan.den) (x1 : List YSpan.den) (x7 : List YSpan.den) (x8 : Int) (x9 : Int) (x10 : Int) : Option sig107_79.Out :=
  loopAt T (env107_79 F118 F79 F119) os107_79 sig107_79 Try.f107 hs107_79 n [.sr, .sr, .sr, .sl, .bl, .lp m1, .sr, .bl, .sr, .sr, .sr, .sr, .sr, .sr, .bl] m2 (mk 90 [(0, .cs false [.val (.list YSpan) x0]), (1, .cs false [.val (.list YSpan) x1]), (2, .cs false [.clo 79 []]), (7, .cs false [.own 38 YSpan x7]), (8, .cs false [.val (.int .i64) x8]), (9, .cs false [.val (.int .i64) x9]), (10, .cs false [.val (.int .i64) x10])])
theorem L107_79_0_step (F118 : sig118.Fn) (F79 : sig79.Fn) (F119 : sig119.Fn) (n m1 : Nat) (x0 : List YSpan.den) (x1 : List YSpan.den) (x7 : List YSpan.den) (x8 : Int) (x9 : Int) (x10 : Int) : L107_79_0 F118 F79 F119 n (m1 + 1) x0 x1 x7 x8 x9 x10 =
  (bcond ((decide ((x9 : Int) < (IntKind.i64.wrap (2 * (List.length x0 : Int))))) == false)
   (bcond (decide ((x10 : Int) < (IntKind.i64.wrap (2 * (List.length x1 : Int)))))
    (bcond (decide ((x9 : Int) < (IntKind.i64.wrap (2 * (List.length x0 : Int)))))
     ((C118 F118 x0 x9).bind fun r1 =>
      (bcond (decide ((x10 : Int) < (IntKind.i64.wrap (2 * (List.length x1 : Int)))))
       ((C118 F118 x1 x10).bind fun r2 =>
        (bcond ((decide ((x8 : Int) < (if ((res118_0 r2) : Int) < (res118_0 r1) then (res118_0 r2) else (res118_0 r1)))) == true)
         (if 2 = 0 then none else
          (if 2 = 0 then none else
           ((C79 F79 (((Int.tmod x9 2) : Int) == 1) (((Int.tmod x10 2) : Int) == 1)).bind fun r3 =>
            (bcond (res79_0 r3)
             ((C119 F119 x7 (x8, (if ((res118_0 r2) : Int) < (res118_0 r1) then (res118_0 r2) else (res118_0 r1)))).bind fun r4 =>
              (L107_79_1 F118 F79 F119 n m1 n x0 x1 (res119_0 r4) (if ((res118_0 r2) : Int) < (res118_0 r1) then (res118_0 r2) else (res118_0 r1)) x9 x10))
             (L107_79_1 F118 F79 F119 n m1 n x0 x1 x7 (if ((res118_0 r2) : Int) < (res118_0 r1) then (res118_0 r2) else (res118_0 r1)) x9 x10)))))
         (L107_79_1 F118 F79 F119 n m1 n x0 x1 x7 (if ((res118_0 r2) : Int) < (res118_0 r1) then (res118_0 r2) else (res118_0 r1)) x9 x10)))
       (bcond ((decide ((x8 : Int) < (res118_0 r1))) == true)
        (if 2 = 0 then none else
         (if 2 = 0 then none else
          ((C79 F79 (((Int.tmod x9 2) : Int) == 1) (((Int.tmod x10 2) : Int) == 1)).bind fun r2 =>
           (bcond (res79_0 r2)
            ((C119 F119 x7 (x8, (res118_0 r1))).bind fun r3 =>
             (L107_79_1 F118 F79 F119 n m1 n x0 x1 (res119_0 r3) (res118_0 r1) x9 x10))
            (L107_79_1 F118 F79 F119 n m1 n x0 x1 x7 (res118_0 r1) x9 x10)))))
        (L107_79_1 F118 F79 F119 n m1 n x0 x1 x7 (res118_0 r1) x9 x10))))
     (bcond (decide ((x10 : Int) < (IntKind.i64.wrap (2 * (List.length x1 : Int)))))
      ((C118 F118 x1 x10).bind fun r1 =>
       (bcond ((decide ((x8 : Int) < (if ((res118_0 r1) : Int) < 2147483648 then (res118_0 r1) else 2147483648))) == true)
        (if 2 = 0 then none else
         (if 2 = 0 then none else
          ((C79 F79 (((Int.tmod x9 2) : Int) == 1) (((Int.tmod x10 2) : Int) == 1)).bind fun r2 =>
           (bcond (res79_0 r2)
            ((C119 F119 x7 (x8, (if ((res118_0 r1) : Int) < 2147483648 then (res118_0 r1) else 2147483648))).bind fun r3 =>
             (L107_79_1 F118 F79 F119 n m1 n x0 x1 (res119_0 r3) (if ((res118_0 r1) : Int) < 2147483648 then (res118_0 r1) else 2147483648) x9 x10))
            (L107_79_1 F118 F79 F119 n m1 n x0 x1 x7 (if ((res118_0 r1) : Int) < 2147483648 then (res118_0 r1) else 2147483648) x9 x10)))))
        (L107_79_1 F118 F79 F119 n m1 n x0 x1 x7 (if ((res118_0 r1) : Int) < 2147483648 then (res118_0 r1) else 2147483648) x9 x10)))
      (bcond ((decide ((x8 : Int) < 2147483648)) == true)
       (if 2 = 0 then none else
        (if 2 = 0 then none else
         ((C79 F79 (((Int.tmod x9 2) : Int) == 1) (((Int.tmod x10 2) : Int) == 1)).bind fun r1 =>
          (bcond (res79_0 r1)
           ((C119 F119 x7 (x8, 2147483648)).bind fun r2 =>
            (L107_79_1 F118 F79 F119 n m1 n x0 x1 (res119_0 r2) 2147483648 x9 x10))
           (L107_79_1 F118 F79 F119 n m1 n x0 x1 x7 2147483648 x9 x10)))))
       (L107_79_1 F118 F79 F119 n m1 n x0 x1 x7 2147483648 x9 x10))))
    (some (ret107_79 x7)))
   (bcond (decide ((x9 : Int) < (IntKind.i64.wrap (2 * (List.length x0 : Int)))))
    ((C118 F118 x0 x9).bind fun r1 =>
     (bcond (decide ((x10 : Int) < (IntKind.i64.wrap (2 * (List.length x1 : Int)))))
      ((C118 F118 x1 x10).bind fun r2 =>
       (bcond ((decide ((x8 : Int) < (if ((res118_0 r2) : Int) < (res118_0 r1) then (res118_0 r2) else (res118_0 r1)))) == true)
        (if 2 = 0 then none else
         (if 2 = 0 then none else
          ((C79 F79 (((Int.tmod x9 2) : Int) == 1) (((Int.tmod x10 2) : Int) == 1)).bind fun r3 =>
           (bcond (res79_0 r3)
            ((C119 F119 x7 (x8, (if ((res118_0 r2) : Int) < (res118_0 r1) then (res118_0 r2) else (res118_0 r1)))).bind fun r4 =>
             (L107_79_1 F118 F79 F119 n m1 n x0 x1 (res119_0 r4) (if ((res118_0 r2) : Int) < (res118_0 r1) then (res118_0 r2) else (res118_0 r1)) x9 x10))
            (L107_79_1 F118 F79 F119 n m1 n x0 x1 x7 (if ((res118_0 r2) : Int) < (res118_0 r1) then (res118_0 r2) else (res118_0 r1)) x9 x10)))))
        (L107_79_1 F118 F79 F119 n m1 n x0 x1 x7 (if ((res118_0 r2) : Int) < (res118_0 r1) then (res118_0 r2) else (res118_0 r1)) x9 x10)))
      (bcond ((decide ((x8 : Int) < (res118_0 r1))) == true)
       (if 2 = 0 then none else
        (if 2 = 0 then none else
         ((C79 F79 (((Int.tmod x9 2) : Int) == 1) (((Int.tmod x10 2) : Int) == 1)).bind fun r2 =>
          (bcond (res79_0 r2)
           ((C119 F119 x7 (x8, (res118_0 r1))).bind fun r3 =>
            (L107_79_1 F118 F79 F119 n m1 n x0 x1 (res119_0 r3) (res118_0 r1) x9 x10))
           (L107_79_1 F118 F79 F119 n m1 n x0 x1 x7 (res118_0 r1) x9 x10)))))
       (L107_79_1 F118 F79 F119 n m1 n x0 x1 x7 (res118_0 r1) x9 x10))))
    (bcond (decide ((x10 : Int) < (IntKind.i64.wrap (2 * (List.length x1 : Int)))))
     ((C118 F118 x1 x10).bind fun r1 =>
      (bcond ((decide ((x8 : Int) < (if ((res118_0 r1) : Int) < 2147483648 then (res118_0 r1) else 2147483648))) == true)
       (if 2 = 0 then none else
        (if 2 = 0 then none else
         ((C79 F79 (((Int.tmod x9 2) : Int) == 1) (((Int.tmod x10 2) : Int) == 1)).bind fun r2 =>
          (bcond (res79_0 r2)
           ((C119 F119 x7 (x8, (if ((res118_0 r1) : Int) < 2147483648 then (res118_0 r1) else 2147483648))).bind fun r3 =>
            (L107_79_1 F118 F79 F119 n m1 n x0 x1 (res119_0 r3) (if ((res118_0 r1) : Int) < 2147483648 then (res118_0 r1) else 2147483648) x9 x10))
           (L107_79_1 F118 F79 F119 n m1 n x0 x1 x7 (if ((res118_0 r1) : Int) < 2147483648 then (res118_0 r1) else 2147483648) x9 x10)))))
       (L107_79_1 F118 F79 F119 n m1 n x0 x1 x7 (if ((res118_0 r1) : Int) < 2147483648 then (res118_0 r1) else 2147483648) x9 x10)))
     (bcond ((decide ((x8 : Int) < 2147483648)) == true)
      (if 2 = 0 then none else
       (if 2 = 0 then none else
        ((C79 F79 (((Int.tmod x9 2) : Int) == 1) (((Int.tmod x10 2) : Int) == 1)).bind fun r1 =>
         (bcond (res79_0 r1)
          ((C119 F119 x7 (x8, 2147483648)).bind fun r2 =>
           (L107_79_1 F118 F79 F119 n m1 n x0 x1 (res119_0 r2) 2147483648 x9 x10))
          (L107_79_1 F118 F79 F119 n m1 n x0 x1 x7 2147483648 x9 x10)))))
      (L107_79_1 F118 F79 F119 n m1 n x0 x1 x7 2147483648 x9 x10))))) := by kernel_rfl
theorem L107_79_1_step (F118 : sig118.Fn) (F79 : sig79.Fn) (F119 : sig119.Fn) (n m1 m2 : Nat) (x0 : List YSpan.den) (x1 : List YSpan.den) (x7 : List YSpan.den) (x8 : Int) (x9 : Int) (x10 : Int) : L107_79_1 F118 F79 F119 n m1 (m2 + 1) x0 x1 x7 x8 x9 x10 =
  (bcond ((decide ((x9 : Int) < (IntKind.i64.wrap (2 * (List.length x0 : Int))))) == true)
   ((C118 F118 x0 x9).bind fun r1 =>
    (bcond (((res118_0 r1) : Int) == x8)
     (L107_79_1 F118 F79 F119 n m1 m2 x0 x1 x7 x8 (IntKind.i64.wrap (x9 + 1)) x10)
     (L107_79_2 F118 F79 F119 n m1 n x0 x1 x7 x8 x9 x10)))
   (L107_79_2 F118 F79 F119 n m1 n x0 x1 x7 x8 x9 x10)) := by kernel_rfl
theorem L107_79_2_step (F118 : sig118.Fn) (F79 : sig79.Fn) (F119 : sig119.Fn) (n m1 m2 : Nat) (x0 : List YSpan.den) (x1 : List YSpan.den) (x7 : List YSpan.den) (x8 : Int) (x9 : Int) (x10 : Int) : L107_79_2 F118 F79 F119 n m1 (m2 + 1) x0 x1 x7 x8 x9 x10 =
  (bcond ((decide ((x10 : Int) < (IntKind.i64.wrap (2 * (List.length x1 : Int))))) == true)
   ((C118 F118 x1 x10).bind fun r1 =>
    (bcond (((res118_0 r1) : Int) == x8)
     (L107_79_2 F118 F79 F119 n m1 m2 x0 x1 x7 x8 x9 (IntKind.i64.wrap (x10 + 1)))
     (L107_79_0 F118 F79 F119 n m1 x0 x1 x7 x8 x9 x10)))
   (L107_79_0 F118 F79 F119 n m1 x0 x1 x7 x8 x9 x10)) := by kernel_rfl
theorem run107_79 (F118 : sig118.Fn) (F79 : sig79.Fn) (F119 : sig119.Fn) (n : Nat) (a0 : List YSpan.den) (a1 : List YSpan.den) : C107_79 (fun x y => run T (env107_79 F118 F79 F119) os107_79 sig107_79 Try.f107 hs107_79 n x y) a0 a1 =
  (L107_79_0 F118 F79 F119 n n a0 a1 [] 0 0 0) := by kernel_rfl
theorem ok107_79 : fnOk os107_79 sig107_79 Try.f107 = true := by kernel_rfl
theorem fn107_79 : P.funcs[107]? = some Try.f107 := by kernel_rfl
noncomputable def F107_79 : sig107_79.Fn := fun x y => run T (env107_79 F118 F79 F119) os107_79 sig107_79 Try.f107 hs107_79 big x y
theorem S107_79 : Sound P 107 ⟨sig107_79, F107_79⟩ := sound_of (os := os107_79) (hs := hs107_79) (env_cons S118 (env_cons S79 (env_cons S119 (env_nil)))) fn107_79 ok107_79 (fun x y out h => ⟨big, h⟩)
theorem e107_79 (a0 : List YSpan.den) (a1 : List YSpan.den) : C107_79 F107_79 a0 a1 =
  (L107_79_0 F118 F79 F119 big big a0 a1 [] 0 0 0) := run107_79 F118 F79 F119 big a0 a1

/-! ### chancery/span.two -/
def sig78_79 : Sig := ⟨[.v false (.list YSpan), .v false (.list YSpan), .f 79 []], [], [(false, [.fr (.list YSpan)]), (false, [.fr (.int .i64)])]⟩
def C78_79 (F : sig78_79.Fn) (a0 : List YSpan.den) (a1 : List YSpan.den) : Option sig78_79.Out := F (a0, a1, ()) ()
def ret78_79 (v0 : List YSpan.den) (v1 : Int) : sig78_79.Out := (((v0, ()), (v1, ()), ()), ())
def res78_79_0 (r : sig78_79.Out) : List YSpan.den := r.1.1.1
@[simp] theorem res78_79_0_ret (v0 : List YSpan.den) (v1 : Int) : res78_79_0 (ret78_79 v0 v1) = v0 := rfl
def res78_79_1 (r : sig78_79.Out) : Int := r.1.2.1.1
@[simp] theorem res78_79_1_ret (v0 : List YSpan.den) (v1 : Int) : res78_79_1 (ret78_79 v0 v1) = v1 := rfl
def os78_79 : List (Nat × Ord) := []
def hs78_79 : List Keep := []
@[reducible] def env78_79 (F21 : sig21.Fn) (F107_79 : sig107_79.Fn) : Env := [(21, ⟨sig21, F21⟩), (107, ⟨sig107_79, F107_79⟩)]
theorem run78_79 (F21 : sig21.Fn) (F107_79 : sig107_79.Fn) (n : Nat) (a0 : List YSpan.den) (a1 : List YSpan.den) : C78_79 (fun x y => run T (env78_79 F21 F107_79) os78_79 sig78_79 Try.f78 hs78_79 n x y) a0 a1 =
  ((C21 F21 a0).bind fun r1 =>
   (bcond (((res21_0 r1) : Int) != 0)
    (some (ret78_79 [] (res21_0 r1)))
    ((C21 F21 a1).bind fun r2 =>
     (bcond (((res21_0 r2) : Int) != 0)
      (some (ret78_79 [] (res21_0 r2)))
      ((C107_79 F107_79 a0 a1).bind fun r3 =>
       (some (ret78_79 (res107_79_0 r3) 0))))))) := by kernel_rfl
theorem ok78_79 : fnOk os78_79 sig78_79 Try.f78 = true := by kernel_rfl
theorem fn78_79 : P.funcs[78]? = some Try.f78 := by kernel_rfl
noncomputable def F78_79 : sig78_79.Fn := fun x y => run T (env78_79 F21 F107_79) os78_79 sig78_79 Try.f78 hs78_79 big x y
theorem S78_79 : Sound P 78 ⟨sig78_79, F78_79⟩ := sound_of (os := os78_79) (hs := hs78_79) (env_cons S21 (env_cons S107_79 (env_nil))) fn78_79 ok78_79 (fun x y out h => ⟨big, h⟩)
theorem e78_79 (a0 : List YSpan.den) (a1 : List YSpan.den) : C78_79 F78_79 a0 a1 =
  ((C21 F21 a0).bind fun r1 =>
   (bcond (((res21_0 r1) : Int) != 0)
    (some (ret78_79 [] (res21_0 r1)))
    ((C21 F21 a1).bind fun r2 =>
     (bcond (((res21_0 r2) : Int) != 0)
      (some (ret78_79 [] (res21_0 r2)))
      ((C107_79 F107_79 a0 a1).bind fun r3 =>
       (some (ret78_79 (res107_79_0 r3) 0))))))) := run78_79 F21 F107_79 big a0 a1

/-! ### chancery/span.Union -/
def sig23 : Sig := ⟨[.v false (.list YSpan), .v false (.list YSpan)], [], [(false, [.fr (.list YSpan)]), (false, [.fr (.int .i64)])]⟩
def C23 (F : sig23.Fn) (a0 : List YSpan.den) (a1 : List YSpan.den) : Option sig23.Out := F (a0, a1, ()) ()
def ret23 (v0 : List YSpan.den) (v1 : Int) : sig23.Out := (((v0, ()), (v1, ()), ()), ())
def res23_0 (r : sig23.Out) : List YSpan.den := r.1.1.1
@[simp] theorem res23_0_ret (v0 : List YSpan.den) (v1 : Int) : res23_0 (ret23 v0 v1) = v0 := rfl
def res23_1 (r : sig23.Out) : Int := r.1.2.1.1
@[simp] theorem res23_1_ret (v0 : List YSpan.den) (v1 : Int) : res23_1 (ret23 v0 v1) = v1 := rfl
def os23 : List (Nat × Ord) := []
def hs23 : List Keep := []
@[reducible] def env23 (F78_79 : sig78_79.Fn) : Env := [(78, ⟨sig78_79, F78_79⟩)]
theorem run23 (F78_79 : sig78_79.Fn) (n : Nat) (a0 : List YSpan.den) (a1 : List YSpan.den) : C23 (fun x y => run T (env23 F78_79) os23 sig23 Try.f23 hs23 n x y) a0 a1 =
  ((C78_79 F78_79 a0 a1).bind fun r1 =>
   (some (ret23 (res78_79_0 r1) (res78_79_1 r1)))) := by kernel_rfl
theorem ok23 : fnOk os23 sig23 Try.f23 = true := by kernel_rfl
theorem fn23 : P.funcs[23]? = some Try.f23 := by kernel_rfl
noncomputable def F23 : sig23.Fn := fun x y => run T (env23 F78_79) os23 sig23 Try.f23 hs23 big x y
theorem S23 : Sound P 23 ⟨sig23, F23⟩ := sound_of (os := os23) (hs := hs23) (env_cons S78_79 (env_nil)) fn23 ok23 (fun x y out h => ⟨big, h⟩)
theorem e23 (a0 : List YSpan.den) (a1 : List YSpan.den) : C23 F23 a0 a1 =
  ((C78_79 F78_79 a0 a1).bind fun r1 =>
   (some (ret23 (res78_79_0 r1) (res78_79_1 r1)))) := run23 F78_79 big a0 a1

/-! ### chancery/span.Meet$1 -/
def sig80 : Sig := ⟨[.v false .bool, .v false .bool], [], [(false, [.fr .bool])]⟩
def C80 (F : sig80.Fn) (a0 : Bool) (a1 : Bool) : Option sig80.Out := F (a0, a1, ()) ()
def ret80 (v0 : Bool) : sig80.Out := (((v0, ()), ()), ())
def res80_0 (r : sig80.Out) : Bool := r.1.1.1
@[simp] theorem res80_0_ret (v0 : Bool) : res80_0 (ret80 v0) = v0 := rfl
def os80 : List (Nat × Ord) := []
def hs80 : List Keep := []
@[reducible] def env80 : Env := []
theorem run80 (n : Nat) (a0 : Bool) (a1 : Bool) : C80 (fun x y => run T (env80) os80 sig80 Try.f80 hs80 n x y) a0 a1 =
  (bcond (a0 == true)
   (some (ret80 a1))
   (some (ret80 false))) := by kernel_rfl
theorem ok80 : fnOk os80 sig80 Try.f80 = true := by kernel_rfl
theorem fn80 : P.funcs[80]? = some Try.f80 := by kernel_rfl
noncomputable def F80 : sig80.Fn := fun x y => run T (env80) os80 sig80 Try.f80 hs80 big x y
theorem S80 : Sound P 80 ⟨sig80, F80⟩ := sound_of (os := os80) (hs := hs80) (env_nil) fn80 ok80 (fun x y out h => ⟨big, h⟩)
theorem e80 (a0 : Bool) (a1 : Bool) : C80 F80 a0 a1 =
  (bcond (a0 == true)
   (some (ret80 a1))
   (some (ret80 false))) := run80 big a0 a1

/-! ### chancery/span.merged -/
def sig107_80 : Sig := ⟨[.v false (.list YSpan), .v false (.list YSpan), .f 80 []], [], [(false, [.fr (.list YSpan)])]⟩
def C107_80 (F : sig107_80.Fn) (a0 : List YSpan.den) (a1 : List YSpan.den) : Option sig107_80.Out := F (a0, a1, ()) ()
def ret107_80 (v0 : List YSpan.den) : sig107_80.Out := (((v0, ()), ()), ())
def res107_80_0 (r : sig107_80.Out) : List YSpan.den := r.1.1.1
@[simp] theorem res107_80_0_ret (v0 : List YSpan.den) : res107_80_0 (ret107_80 v0) = v0 := rfl
def os107_80 : List (Nat × Ord) := []
def hs107_80 : List Keep := [[(0, []), (1, []), (2, []), (7, [(0, 38, YSpan)]), (8, []), (9, []), (10, [])], [(0, []), (1, []), (2, []), (7, [(0, 38, YSpan)]), (8, []), (9, []), (10, [])], [(0, []), (1, []), (2, []), (7, [(0, 38, YSpan)]), (8, []), (9, []), (10, [])]]
@[reducible] def env107_80 (F118 : sig118.Fn) (F80 : sig80.Fn) (F119 : sig119.Fn) : Env := [(118, ⟨sig118, F118⟩), (80, ⟨sig80, F80⟩), (119, ⟨sig119, F119⟩)]
noncomputable def L107_80_0 (F118 : sig118.Fn) (F80 : sig80.Fn) (F119 : sig119.Fn) (n m1 : Nat) (x0 : List YSpan.den) (x1 : List YSpan.den) (x7 : List YSpan.den) (x8 : Int) (x9 : Int) (x10 : Int) : Option sig107_80.Out :=
  loopAt T (env107_80 F118 F80 F119) os107_80 sig107_80 Try.f107 hs107_80 n [.sr, .sr, .sr, .sl, .bl] m1 (mk 90 [(0, .cs false [.val (.list YSpan) x0]), (1, .cs false [.val (.list YSpan) x1]), (2, .cs false [.clo 80 []]), (7, .cs false [.own 38 YSpan x7]), (8, .cs false [.val (.int .i64) x8]), (9, .cs false [.val (.int .i64) x9]), (10, .cs false [.val (.int .i64) x10])])
noncomputable def L107_80_1 (F118 : sig118.Fn) (F80 : sig80.Fn) (F119 : sig119.Fn) (n m1 m2 : Nat) (x0 : List YSpan.den) (x1 : List YSpan.den) (x7 : List YSpan.den) (x8 : Int) (x9 : Int) (x10 : Int) : Option sig107_80.Out :=
  loopAt T (env107_80 F118 F80 F119) os107_80 sig107_80 Try.f107 hs107_80 n [.sr, .sr, .sr, .sl, .bl, .lp m1, .sr, .bl, .sr, .sr, .sr, .sr, .sr, .sl, .bl] m2 (mk 90 [(0, .cs false [.val (.list YSpan) x0]), (1, .cs false [.val (.list YSpan) x1]), (2, .cs false [.clo 80 []]), (7, .cs false [.own 38 YSpan x7]), (8, .cs false [.val (.int .i64) x8]), (9, .cs false [.val (.int .i64) x9]), (10, .cs false [.val (.int .i64) x10])])
noncomputable def L107_80_2 (F118 : sig118.Fn) (F80 : sig80.Fn) (F119 : sig119.Fn) (n m1 m2 : Nat) (x0 : List YSpan.den) (x1 : List YSpan.den) (x7 : List YSpan.den) (x8 : Int) (x9 : Int) (x10 : Int) : Option sig107_80.Out :=
  loopAt T (env107_80 F118 F80 F119) os107_80 sig107_80 Try.f107 hs107_80 n [.sr, .sr, .sr, .sl, .bl, .lp m1, .sr, .bl, .sr, .sr, .sr, .sr, .sr, .sr, .bl] m2 (mk 90 [(0, .cs false [.val (.list YSpan) x0]), (1, .cs false [.val (.list YSpan) x1]), (2, .cs false [.clo 80 []]), (7, .cs false [.own 38 YSpan x7]), (8, .cs false [.val (.int .i64) x8]), (9, .cs false [.val (.int .i64) x9]), (10, .cs false [.val (.int .i64) x10])])
theorem L107_80_0_step (F118 : sig118.Fn) (F80 : sig80.Fn) (F119 : sig119.Fn) (n m1 : Nat) (x0 : List YSpan.den) (x1 : List YSpan.den) (x7 : List YSpan.den) (x8 : Int) (x9 : Int) (x10 : Int) : L107_80_0 F118 F80 F119 n (m1 + 1) x0 x1 x7 x8 x9 x10 =
  (bcond ((decide ((x9 : Int) < (IntKind.i64.wrap (2 * (List.length x0 : Int))))) == false)
   (bcond (decide ((x10 : Int) < (IntKind.i64.wrap (2 * (List.length x1 : Int)))))
    (bcond (decide ((x9 : Int) < (IntKind.i64.wrap (2 * (List.length x0 : Int)))))
     ((C118 F118 x0 x9).bind fun r1 =>
      (bcond (decide ((x10 : Int) < (IntKind.i64.wrap (2 * (List.length x1 : Int)))))
       ((C118 F118 x1 x10).bind fun r2 =>
        (bcond ((decide ((x8 : Int) < (if ((res118_0 r2) : Int) < (res118_0 r1) then (res118_0 r2) else (res118_0 r1)))) == true)
         (if 2 = 0 then none else
          (if 2 = 0 then none else
           ((C80 F80 (((Int.tmod x9 2) : Int) == 1) (((Int.tmod x10 2) : Int) == 1)).bind fun r3 =>
            (bcond (res80_0 r3)
             ((C119 F119 x7 (x8, (if ((res118_0 r2) : Int) < (res118_0 r1) then (res118_0 r2) else (res118_0 r1)))).bind fun r4 =>
              (L107_80_1 F118 F80 F119 n m1 n x0 x1 (res119_0 r4) (if ((res118_0 r2) : Int) < (res118_0 r1) then (res118_0 r2) else (res118_0 r1)) x9 x10))
             (L107_80_1 F118 F80 F119 n m1 n x0 x1 x7 (if ((res118_0 r2) : Int) < (res118_0 r1) then (res118_0 r2) else (res118_0 r1)) x9 x10)))))
         (L107_80_1 F118 F80 F119 n m1 n x0 x1 x7 (if ((res118_0 r2) : Int) < (res118_0 r1) then (res118_0 r2) else (res118_0 r1)) x9 x10)))
       (bcond ((decide ((x8 : Int) < (res118_0 r1))) == true)
        (if 2 = 0 then none else
         (if 2 = 0 then none else
          ((C80 F80 (((Int.tmod x9 2) : Int) == 1) (((Int.tmod x10 2) : Int) == 1)).bind fun r2 =>
           (bcond (res80_0 r2)
            ((C119 F119 x7 (x8, (res118_0 r1))).bind fun r3 =>
             (L107_80_1 F118 F80 F119 n m1 n x0 x1 (res119_0 r3) (res118_0 r1) x9 x10))
            (L107_80_1 F118 F80 F119 n m1 n x0 x1 x7 (res118_0 r1) x9 x10)))))
        (L107_80_1 F118 F80 F119 n m1 n x0 x1 x7 (res118_0 r1) x9 x10))))
     (bcond (decide ((x10 : Int) < (IntKind.i64.wrap (2 * (List.length x1 : Int)))))
      ((C118 F118 x1 x10).bind fun r1 =>
       (bcond ((decide ((x8 : Int) < (if ((res118_0 r1) : Int) < 2147483648 then (res118_0 r1) else 2147483648))) == true)
        (if 2 = 0 then none else
         (if 2 = 0 then none else
          ((C80 F80 (((Int.tmod x9 2) : Int) == 1) (((Int.tmod x10 2) : Int) == 1)).bind fun r2 =>
           (bcond (res80_0 r2)
            ((C119 F119 x7 (x8, (if ((res118_0 r1) : Int) < 2147483648 then (res118_0 r1) else 2147483648))).bind fun r3 =>
             (L107_80_1 F118 F80 F119 n m1 n x0 x1 (res119_0 r3) (if ((res118_0 r1) : Int) < 2147483648 then (res118_0 r1) else 2147483648) x9 x10))
            (L107_80_1 F118 F80 F119 n m1 n x0 x1 x7 (if ((res118_0 r1) : Int) < 2147483648 then (res118_0 r1) else 2147483648) x9 x10)))))
        (L107_80_1 F118 F80 F119 n m1 n x0 x1 x7 (if ((res118_0 r1) : Int) < 2147483648 then (res118_0 r1) else 2147483648) x9 x10)))
      (bcond ((decide ((x8 : Int) < 2147483648)) == true)
       (if 2 = 0 then none else
        (if 2 = 0 then none else
         ((C80 F80 (((Int.tmod x9 2) : Int) == 1) (((Int.tmod x10 2) : Int) == 1)).bind fun r1 =>
          (bcond (res80_0 r1)
           ((C119 F119 x7 (x8, 2147483648)).bind fun r2 =>
            (L107_80_1 F118 F80 F119 n m1 n x0 x1 (res119_0 r2) 2147483648 x9 x10))
           (L107_80_1 F118 F80 F119 n m1 n x0 x1 x7 2147483648 x9 x10)))))
       (L107_80_1 F118 F80 F119 n m1 n x0 x1 x7 2147483648 x9 x10))))
    (some (ret107_80 x7)))
   (bcond (decide ((x9 : Int) < (IntKind.i64.wrap (2 * (List.length x0 : Int)))))
    ((C118 F118 x0 x9).bind fun r1 =>
     (bcond (decide ((x10 : Int) < (IntKind.i64.wrap (2 * (List.length x1 : Int)))))
      ((C118 F118 x1 x10).bind fun r2 =>
       (bcond ((decide ((x8 : Int) < (if ((res118_0 r2) : Int) < (res118_0 r1) then (res118_0 r2) else (res118_0 r1)))) == true)
        (if 2 = 0 then none else
         (if 2 = 0 then none else
          ((C80 F80 (((Int.tmod x9 2) : Int) == 1) (((Int.tmod x10 2) : Int) == 1)).bind fun r3 =>
           (bcond (res80_0 r3)
            ((C119 F119 x7 (x8, (if ((res118_0 r2) : Int) < (res118_0 r1) then (res118_0 r2) else (res118_0 r1)))).bind fun r4 =>
             (L107_80_1 F118 F80 F119 n m1 n x0 x1 (res119_0 r4) (if ((res118_0 r2) : Int) < (res118_0 r1) then (res118_0 r2) else (res118_0 r1)) x9 x10))
            (L107_80_1 F118 F80 F119 n m1 n x0 x1 x7 (if ((res118_0 r2) : Int) < (res118_0 r1) then (res118_0 r2) else (res118_0 r1)) x9 x10)))))
        (L107_80_1 F118 F80 F119 n m1 n x0 x1 x7 (if ((res118_0 r2) : Int) < (res118_0 r1) then (res118_0 r2) else (res118_0 r1)) x9 x10)))
      (bcond ((decide ((x8 : Int) < (res118_0 r1))) == true)
       (if 2 = 0 then none else
        (if 2 = 0 then none else
         ((C80 F80 (((Int.tmod x9 2) : Int) == 1) (((Int.tmod x10 2) : Int) == 1)).bind fun r2 =>
          (bcond (res80_0 r2)
           ((C119 F119 x7 (x8, (res118_0 r1))).bind fun r3 =>
            (L107_80_1 F118 F80 F119 n m1 n x0 x1 (res119_0 r3) (res118_0 r1) x9 x10))
           (L107_80_1 F118 F80 F119 n m1 n x0 x1 x7 (res118_0 r1) x9 x10)))))
       (L107_80_1 F118 F80 F119 n m1 n x0 x1 x7 (res118_0 r1) x9 x10))))
    (bcond (decide ((x10 : Int) < (IntKind.i64.wrap (2 * (List.length x1 : Int)))))
     ((C118 F118 x1 x10).bind fun r1 =>
      (bcond ((decide ((x8 : Int) < (if ((res118_0 r1) : Int) < 2147483648 then (res118_0 r1) else 2147483648))) == true)
       (if 2 = 0 then none else
        (if 2 = 0 then none else
         ((C80 F80 (((Int.tmod x9 2) : Int) == 1) (((Int.tmod x10 2) : Int) == 1)).bind fun r2 =>
          (bcond (res80_0 r2)
           ((C119 F119 x7 (x8, (if ((res118_0 r1) : Int) < 2147483648 then (res118_0 r1) else 2147483648))).bind fun r3 =>
            (L107_80_1 F118 F80 F119 n m1 n x0 x1 (res119_0 r3) (if ((res118_0 r1) : Int) < 2147483648 then (res118_0 r1) else 2147483648) x9 x10))
           (L107_80_1 F118 F80 F119 n m1 n x0 x1 x7 (if ((res118_0 r1) : Int) < 2147483648 then (res118_0 r1) else 2147483648) x9 x10)))))
       (L107_80_1 F118 F80 F119 n m1 n x0 x1 x7 (if ((res118_0 r1) : Int) < 2147483648 then (res118_0 r1) else 2147483648) x9 x10)))
     (bcond ((decide ((x8 : Int) < 2147483648)) == true)
      (if 2 = 0 then none else
       (if 2 = 0 then none else
        ((C80 F80 (((Int.tmod x9 2) : Int) == 1) (((Int.tmod x10 2) : Int) == 1)).bind fun r1 =>
         (bcond (res80_0 r1)
          ((C119 F119 x7 (x8, 2147483648)).bind fun r2 =>
           (L107_80_1 F118 F80 F119 n m1 n x0 x1 (res119_0 r2) 2147483648 x9 x10))
          (L107_80_1 F118 F80 F119 n m1 n x0 x1 x7 2147483648 x9 x10)))))
      (L107_80_1 F118 F80 F119 n m1 n x0 x1 x7 2147483648 x9 x10))))) := by kernel_rfl
theorem L107_80_1_step (F118 : sig118.Fn) (F80 : sig80.Fn) (F119 : sig119.Fn) (n m1 m2 : Nat) (x0 : List YSpan.den) (x1 : List YSpan.den) (x7 : List YSpan.den) (x8 : Int) (x9 : Int) (x10 : Int) : L107_80_1 F118 F80 F119 n m1 (m2 + 1) x0 x1 x7 x8 x9 x10 =
  (bcond ((decide ((x9 : Int) < (IntKind.i64.wrap (2 * (List.length x0 : Int))))) == true)
   ((C118 F118 x0 x9).bind fun r1 =>
    (bcond (((res118_0 r1) : Int) == x8)
     (L107_80_1 F118 F80 F119 n m1 m2 x0 x1 x7 x8 (IntKind.i64.wrap (x9 + 1)) x10)
     (L107_80_2 F118 F80 F119 n m1 n x0 x1 x7 x8 x9 x10)))
   (L107_80_2 F118 F80 F119 n m1 n x0 x1 x7 x8 x9 x10)) := by kernel_rfl
theorem L107_80_2_step (F118 : sig118.Fn) (F80 : sig80.Fn) (F119 : sig119.Fn) (n m1 m2 : Nat) (x0 : List YSpan.den) (x1 : List YSpan.den) (x7 : List YSpan.den) (x8 : Int) (x9 : Int) (x10 : Int) : L107_80_2 F118 F80 F119 n m1 (m2 + 1) x0 x1 x7 x8 x9 x10 =
  (bcond ((decide ((x10 : Int) < (IntKind.i64.wrap (2 * (List.length x1 : Int))))) == true)
   ((C118 F118 x1 x10).bind fun r1 =>
    (bcond (((res118_0 r1) : Int) == x8)
     (L107_80_2 F118 F80 F119 n m1 m2 x0 x1 x7 x8 x9 (IntKind.i64.wrap (x10 + 1)))
     (L107_80_0 F118 F80 F119 n m1 x0 x1 x7 x8 x9 x10)))
   (L107_80_0 F118 F80 F119 n m1 x0 x1 x7 x8 x9 x10)) := by kernel_rfl
theorem run107_80 (F118 : sig118.Fn) (F80 : sig80.Fn) (F119 : sig119.Fn) (n : Nat) (a0 : List YSpan.den) (a1 : List YSpan.den) : C107_80 (fun x y => run T (env107_80 F118 F80 F119) os107_80 sig107_80 Try.f107 hs107_80 n x y) a0 a1 =
  (L107_80_0 F118 F80 F119 n n a0 a1 [] 0 0 0) := by kernel_rfl
theorem ok107_80 : fnOk os107_80 sig107_80 Try.f107 = true := by kernel_rfl
theorem fn107_80 : P.funcs[107]? = some Try.f107 := by kernel_rfl
noncomputable def F107_80 : sig107_80.Fn := fun x y => run T (env107_80 F118 F80 F119) os107_80 sig107_80 Try.f107 hs107_80 big x y
theorem S107_80 : Sound P 107 ⟨sig107_80, F107_80⟩ := sound_of (os := os107_80) (hs := hs107_80) (env_cons S118 (env_cons S80 (env_cons S119 (env_nil)))) fn107_80 ok107_80 (fun x y out h => ⟨big, h⟩)
theorem e107_80 (a0 : List YSpan.den) (a1 : List YSpan.den) : C107_80 F107_80 a0 a1 =
  (L107_80_0 F118 F80 F119 big big a0 a1 [] 0 0 0) := run107_80 F118 F80 F119 big a0 a1

/-! ### chancery/span.two -/
def sig78_80 : Sig := ⟨[.v false (.list YSpan), .v false (.list YSpan), .f 80 []], [], [(false, [.fr (.list YSpan)]), (false, [.fr (.int .i64)])]⟩
def C78_80 (F : sig78_80.Fn) (a0 : List YSpan.den) (a1 : List YSpan.den) : Option sig78_80.Out := F (a0, a1, ()) ()
def ret78_80 (v0 : List YSpan.den) (v1 : Int) : sig78_80.Out := (((v0, ()), (v1, ()), ()), ())
def res78_80_0 (r : sig78_80.Out) : List YSpan.den := r.1.1.1
@[simp] theorem res78_80_0_ret (v0 : List YSpan.den) (v1 : Int) : res78_80_0 (ret78_80 v0 v1) = v0 := rfl
def res78_80_1 (r : sig78_80.Out) : Int := r.1.2.1.1
@[simp] theorem res78_80_1_ret (v0 : List YSpan.den) (v1 : Int) : res78_80_1 (ret78_80 v0 v1) = v1 := rfl
def os78_80 : List (Nat × Ord) := []
def hs78_80 : List Keep := []
@[reducible] def env78_80 (F21 : sig21.Fn) (F107_80 : sig107_80.Fn) : Env := [(21, ⟨sig21, F21⟩), (107, ⟨sig107_80, F107_80⟩)]
theorem run78_80 (F21 : sig21.Fn) (F107_80 : sig107_80.Fn) (n : Nat) (a0 : List YSpan.den) (a1 : List YSpan.den) : C78_80 (fun x y => run T (env78_80 F21 F107_80) os78_80 sig78_80 Try.f78 hs78_80 n x y) a0 a1 =
  ((C21 F21 a0).bind fun r1 =>
   (bcond (((res21_0 r1) : Int) != 0)
    (some (ret78_80 [] (res21_0 r1)))
    ((C21 F21 a1).bind fun r2 =>
     (bcond (((res21_0 r2) : Int) != 0)
      (some (ret78_80 [] (res21_0 r2)))
      ((C107_80 F107_80 a0 a1).bind fun r3 =>
       (some (ret78_80 (res107_80_0 r3) 0))))))) := by kernel_rfl
theorem ok78_80 : fnOk os78_80 sig78_80 Try.f78 = true := by kernel_rfl
theorem fn78_80 : P.funcs[78]? = some Try.f78 := by kernel_rfl
noncomputable def F78_80 : sig78_80.Fn := fun x y => run T (env78_80 F21 F107_80) os78_80 sig78_80 Try.f78 hs78_80 big x y
theorem S78_80 : Sound P 78 ⟨sig78_80, F78_80⟩ := sound_of (os := os78_80) (hs := hs78_80) (env_cons S21 (env_cons S107_80 (env_nil))) fn78_80 ok78_80 (fun x y out h => ⟨big, h⟩)
theorem e78_80 (a0 : List YSpan.den) (a1 : List YSpan.den) : C78_80 F78_80 a0 a1 =
  ((C21 F21 a0).bind fun r1 =>
   (bcond (((res21_0 r1) : Int) != 0)
    (some (ret78_80 [] (res21_0 r1)))
    ((C21 F21 a1).bind fun r2 =>
     (bcond (((res21_0 r2) : Int) != 0)
      (some (ret78_80 [] (res21_0 r2)))
      ((C107_80 F107_80 a0 a1).bind fun r3 =>
       (some (ret78_80 (res107_80_0 r3) 0))))))) := run78_80 F21 F107_80 big a0 a1

/-! ### chancery/span.Meet -/
def sig24 : Sig := ⟨[.v false (.list YSpan), .v false (.list YSpan)], [], [(false, [.fr (.list YSpan)]), (false, [.fr (.int .i64)])]⟩
def C24 (F : sig24.Fn) (a0 : List YSpan.den) (a1 : List YSpan.den) : Option sig24.Out := F (a0, a1, ()) ()
def ret24 (v0 : List YSpan.den) (v1 : Int) : sig24.Out := (((v0, ()), (v1, ()), ()), ())
def res24_0 (r : sig24.Out) : List YSpan.den := r.1.1.1
@[simp] theorem res24_0_ret (v0 : List YSpan.den) (v1 : Int) : res24_0 (ret24 v0 v1) = v0 := rfl
def res24_1 (r : sig24.Out) : Int := r.1.2.1.1
@[simp] theorem res24_1_ret (v0 : List YSpan.den) (v1 : Int) : res24_1 (ret24 v0 v1) = v1 := rfl
def os24 : List (Nat × Ord) := []
def hs24 : List Keep := []
@[reducible] def env24 (F78_80 : sig78_80.Fn) : Env := [(78, ⟨sig78_80, F78_80⟩)]
theorem run24 (F78_80 : sig78_80.Fn) (n : Nat) (a0 : List YSpan.den) (a1 : List YSpan.den) : C24 (fun x y => run T (env24 F78_80) os24 sig24 Try.f24 hs24 n x y) a0 a1 =
  ((C78_80 F78_80 a0 a1).bind fun r1 =>
   (some (ret24 (res78_80_0 r1) (res78_80_1 r1)))) := by kernel_rfl
theorem ok24 : fnOk os24 sig24 Try.f24 = true := by kernel_rfl
theorem fn24 : P.funcs[24]? = some Try.f24 := by kernel_rfl
noncomputable def F24 : sig24.Fn := fun x y => run T (env24 F78_80) os24 sig24 Try.f24 hs24 big x y
theorem S24 : Sound P 24 ⟨sig24, F24⟩ := sound_of (os := os24) (hs := hs24) (env_cons S78_80 (env_nil)) fn24 ok24 (fun x y out h => ⟨big, h⟩)
theorem e24 (a0 : List YSpan.den) (a1 : List YSpan.den) : C24 F24 a0 a1 =
  ((C78_80 F78_80 a0 a1).bind fun r1 =>
   (some (ret24 (res78_80_0 r1) (res78_80_1 r1)))) := run24 F78_80 big a0 a1

/-! ### chancery/span.Minus$1 -/
def sig81 : Sig := ⟨[.v false .bool, .v false .bool], [], [(false, [.fr .bool])]⟩
def C81 (F : sig81.Fn) (a0 : Bool) (a1 : Bool) : Option sig81.Out := F (a0, a1, ()) ()
def ret81 (v0 : Bool) : sig81.Out := (((v0, ()), ()), ())
def res81_0 (r : sig81.Out) : Bool := r.1.1.1
@[simp] theorem res81_0_ret (v0 : Bool) : res81_0 (ret81 v0) = v0 := rfl
def os81 : List (Nat × Ord) := []
def hs81 : List Keep := []
@[reducible] def env81 : Env := []
theorem run81 (n : Nat) (a0 : Bool) (a1 : Bool) : C81 (fun x y => run T (env81) os81 sig81 Try.f81 hs81 n x y) a0 a1 =
  (bcond (a0 == true)
   (some (ret81 (!a1)))
   (some (ret81 false))) := by kernel_rfl
theorem ok81 : fnOk os81 sig81 Try.f81 = true := by kernel_rfl
theorem fn81 : P.funcs[81]? = some Try.f81 := by kernel_rfl
noncomputable def F81 : sig81.Fn := fun x y => run T (env81) os81 sig81 Try.f81 hs81 big x y
theorem S81 : Sound P 81 ⟨sig81, F81⟩ := sound_of (os := os81) (hs := hs81) (env_nil) fn81 ok81 (fun x y out h => ⟨big, h⟩)
theorem e81 (a0 : Bool) (a1 : Bool) : C81 F81 a0 a1 =
  (bcond (a0 == true)
   (some (ret81 (!a1)))
   (some (ret81 false))) := run81 big a0 a1

/-! ### chancery/span.merged -/
def sig107_81 : Sig := ⟨[.v false (.list YSpan), .v false (.list YSpan), .f 81 []], [], [(false, [.fr (.list YSpan)])]⟩
def C107_81 (F : sig107_81.Fn) (a0 : List YSpan.den) (a1 : List YSpan.den) : Option sig107_81.Out := F (a0, a1, ()) ()
def ret107_81 (v0 : List YSpan.den) : sig107_81.Out := (((v0, ()), ()), ())
def res107_81_0 (r : sig107_81.Out) : List YSpan.den := r.1.1.1
@[simp] theorem res107_81_0_ret (v0 : List YSpan.den) : res107_81_0 (ret107_81 v0) = v0 := rfl
def os107_81 : List (Nat × Ord) := []
def hs107_81 : List Keep := [[(0, []), (1, []), (2, []), (7, [(0, 38, YSpan)]), (8, []), (9, []), (10, [])], [(0, []), (1, []), (2, []), (7, [(0, 38, YSpan)]), (8, []), (9, []), (10, [])], [(0, []), (1, []), (2, []), (7, [(0, 38, YSpan)]), (8, []), (9, []), (10, [])]]
@[reducible] def env107_81 (F118 : sig118.Fn) (F81 : sig81.Fn) (F119 : sig119.Fn) : Env := [(118, ⟨sig118, F118⟩), (81, ⟨sig81, F81⟩), (119, ⟨sig119, F119⟩)]
noncomputable def L107_81_0 (F118 : sig118.Fn) (F81 : sig81.Fn) (F119 : sig119.Fn) (n m1 : Nat) (x0 : List YSpan.den) (x1 : List YSpan.den) (x7 : List YSpan.den) (x8 : Int) (x9 : Int) (x10 : Int) : Option sig107_81.Out :=
  loopAt T (env107_81 F118 F81 F119) os107_81 sig107_81 Try.f107 hs107_81 n [.sr, .sr, .sr, .sl, .bl] m1 (mk 90 [(0, .cs false [.val (.list YSpan) x0]), (1, .cs false [.val (.list YSpan) x1]), (2, .cs false [.clo 81 []]), (7, .cs false [.own 38 YSpan x7]), (8, .cs false [.val (.int .i64) x8]), (9, .cs false [.val (.int .i64) x9]), (10, .cs false [.val (.int .i64) x10])])
noncomputable def L107_81_1 (F118 : sig118.Fn) (F81 : sig81.Fn) (F119 : sig119.Fn) (n m1 m2 : Nat) (x0 : List YSpan.den) (x1 : List YSpan.den) (x7 : List YSpan.den) (x8 : Int) (x9 : Int) (x10 : Int) : Option sig107_81.Out :=
  loopAt T (env107_81 F118 F81 F119) os107_81 sig107_81 Try.f107 hs107_81 n [.sr, .sr, .sr, .sl, .bl, .lp m1, .sr, .bl, .sr, .sr, .sr, .sr, .sr, .sl, .bl] m2 (mk 90 [(0, .cs false [.val (.list YSpan) x0]), (1, .cs false [.val (.list YSpan) x1]), (2, .cs false [.clo 81 []]), (7, .cs false [.own 38 YSpan x7]), (8, .cs false [.val (.int .i64) x8]), (9, .cs false [.val (.int .i64) x9]), (10, .cs false [.val (.int .i64) x10])])
noncomputable def L107_81_2 (F118 : sig118.Fn) (F81 : sig81.Fn) (F119 : sig119.Fn) (n m1 m2 : Nat) (x0 : List YSpan.den) (x1 : List YSpan.den) (x7 : List YSpan.den) (x8 : Int) (x9 : Int) (x10 : Int) : Option sig107_81.Out :=
  loopAt T (env107_81 F118 F81 F119) os107_81 sig107_81 Try.f107 hs107_81 n [.sr, .sr, .sr, .sl, .bl, .lp m1, .sr, .bl, .sr, .sr, .sr, .sr, .sr, .sr, .bl] m2 (mk 90 [(0, .cs false [.val (.list YSpan) x0]), (1, .cs false [.val (.list YSpan) x1]), (2, .cs false [.clo 81 []]), (7, .cs false [.own 38 YSpan x7]), (8, .cs false [.val (.int .i64) x8]), (9, .cs false [.val (.int .i64) x9]), (10, .cs false [.val (.int .i64) x10])])
theorem L107_81_0_step (F118 : sig118.Fn) (F81 : sig81.Fn) (F119 : sig119.Fn) (n m1 : Nat) (x0 : List YSpan.den) (x1 : List YSpan.den) (x7 : List YSpan.den) (x8 : Int) (x9 : Int) (x10 : Int) : L107_81_0 F118 F81 F119 n (m1 + 1) x0 x1 x7 x8 x9 x10 =
  (bcond ((decide ((x9 : Int) < (IntKind.i64.wrap (2 * (List.length x0 : Int))))) == false)
   (bcond (decide ((x10 : Int) < (IntKind.i64.wrap (2 * (List.length x1 : Int)))))
    (bcond (decide ((x9 : Int) < (IntKind.i64.wrap (2 * (List.length x0 : Int)))))
     ((C118 F118 x0 x9).bind fun r1 =>
      (bcond (decide ((x10 : Int) < (IntKind.i64.wrap (2 * (List.length x1 : Int)))))
       ((C118 F118 x1 x10).bind fun r2 =>
        (bcond ((decide ((x8 : Int) < (if ((res118_0 r2) : Int) < (res118_0 r1) then (res118_0 r2) else (res118_0 r1)))) == true)
         (if 2 = 0 then none else
          (if 2 = 0 then none else
           ((C81 F81 (((Int.tmod x9 2) : Int) == 1) (((Int.tmod x10 2) : Int) == 1)).bind fun r3 =>
            (bcond (res81_0 r3)
             ((C119 F119 x7 (x8, (if ((res118_0 r2) : Int) < (res118_0 r1) then (res118_0 r2) else (res118_0 r1)))).bind fun r4 =>
              (L107_81_1 F118 F81 F119 n m1 n x0 x1 (res119_0 r4) (if ((res118_0 r2) : Int) < (res118_0 r1) then (res118_0 r2) else (res118_0 r1)) x9 x10))
             (L107_81_1 F118 F81 F119 n m1 n x0 x1 x7 (if ((res118_0 r2) : Int) < (res118_0 r1) then (res118_0 r2) else (res118_0 r1)) x9 x10)))))
         (L107_81_1 F118 F81 F119 n m1 n x0 x1 x7 (if ((res118_0 r2) : Int) < (res118_0 r1) then (res118_0 r2) else (res118_0 r1)) x9 x10)))
       (bcond ((decide ((x8 : Int) < (res118_0 r1))) == true)
        (if 2 = 0 then none else
         (if 2 = 0 then none else
          ((C81 F81 (((Int.tmod x9 2) : Int) == 1) (((Int.tmod x10 2) : Int) == 1)).bind fun r2 =>
           (bcond (res81_0 r2)
            ((C119 F119 x7 (x8, (res118_0 r1))).bind fun r3 =>
             (L107_81_1 F118 F81 F119 n m1 n x0 x1 (res119_0 r3) (res118_0 r1) x9 x10))
            (L107_81_1 F118 F81 F119 n m1 n x0 x1 x7 (res118_0 r1) x9 x10)))))
        (L107_81_1 F118 F81 F119 n m1 n x0 x1 x7 (res118_0 r1) x9 x10))))
     (bcond (decide ((x10 : Int) < (IntKind.i64.wrap (2 * (List.length x1 : Int)))))
      ((C118 F118 x1 x10).bind fun r1 =>
       (bcond ((decide ((x8 : Int) < (if ((res118_0 r1) : Int) < 2147483648 then (res118_0 r1) else 2147483648))) == true)
        (if 2 = 0 then none else
         (if 2 = 0 then none else
          ((C81 F81 (((Int.tmod x9 2) : Int) == 1) (((Int.tmod x10 2) : Int) == 1)).bind fun r2 =>
           (bcond (res81_0 r2)
            ((C119 F119 x7 (x8, (if ((res118_0 r1) : Int) < 2147483648 then (res118_0 r1) else 2147483648))).bind fun r3 =>
             (L107_81_1 F118 F81 F119 n m1 n x0 x1 (res119_0 r3) (if ((res118_0 r1) : Int) < 2147483648 then (res118_0 r1) else 2147483648) x9 x10))
            (L107_81_1 F118 F81 F119 n m1 n x0 x1 x7 (if ((res118_0 r1) : Int) < 2147483648 then (res118_0 r1) else 2147483648) x9 x10)))))
        (L107_81_1 F118 F81 F119 n m1 n x0 x1 x7 (if ((res118_0 r1) : Int) < 2147483648 then (res118_0 r1) else 2147483648) x9 x10)))
      (bcond ((decide ((x8 : Int) < 2147483648)) == true)
       (if 2 = 0 then none else
        (if 2 = 0 then none else
         ((C81 F81 (((Int.tmod x9 2) : Int) == 1) (((Int.tmod x10 2) : Int) == 1)).bind fun r1 =>
          (bcond (res81_0 r1)
           ((C119 F119 x7 (x8, 2147483648)).bind fun r2 =>
            (L107_81_1 F118 F81 F119 n m1 n x0 x1 (res119_0 r2) 2147483648 x9 x10))
           (L107_81_1 F118 F81 F119 n m1 n x0 x1 x7 2147483648 x9 x10)))))
       (L107_81_1 F118 F81 F119 n m1 n x0 x1 x7 2147483648 x9 x10))))
    (some (ret107_81 x7)))
   (bcond (decide ((x9 : Int) < (IntKind.i64.wrap (2 * (List.length x0 : Int)))))
    ((C118 F118 x0 x9).bind fun r1 =>
     (bcond (decide ((x10 : Int) < (IntKind.i64.wrap (2 * (List.length x1 : Int)))))
      ((C118 F118 x1 x10).bind fun r2 =>
       (bcond ((decide ((x8 : Int) < (if ((res118_0 r2) : Int) < (res118_0 r1) then (res118_0 r2) else (res118_0 r1)))) == true)
        (if 2 = 0 then none else
         (if 2 = 0 then none else
          ((C81 F81 (((Int.tmod x9 2) : Int) == 1) (((Int.tmod x10 2) : Int) == 1)).bind fun r3 =>
           (bcond (res81_0 r3)
            ((C119 F119 x7 (x8, (if ((res118_0 r2) : Int) < (res118_0 r1) then (res118_0 r2) else (res118_0 r1)))).bind fun r4 =>
             (L107_81_1 F118 F81 F119 n m1 n x0 x1 (res119_0 r4) (if ((res118_0 r2) : Int) < (res118_0 r1) then (res118_0 r2) else (res118_0 r1)) x9 x10))
            (L107_81_1 F118 F81 F119 n m1 n x0 x1 x7 (if ((res118_0 r2) : Int) < (res118_0 r1) then (res118_0 r2) else (res118_0 r1)) x9 x10)))))
        (L107_81_1 F118 F81 F119 n m1 n x0 x1 x7 (if ((res118_0 r2) : Int) < (res118_0 r1) then (res118_0 r2) else (res118_0 r1)) x9 x10)))
      (bcond ((decide ((x8 : Int) < (res118_0 r1))) == true)
       (if 2 = 0 then none else
        (if 2 = 0 then none else
         ((C81 F81 (((Int.tmod x9 2) : Int) == 1) (((Int.tmod x10 2) : Int) == 1)).bind fun r2 =>
          (bcond (res81_0 r2)
           ((C119 F119 x7 (x8, (res118_0 r1))).bind fun r3 =>
            (L107_81_1 F118 F81 F119 n m1 n x0 x1 (res119_0 r3) (res118_0 r1) x9 x10))
           (L107_81_1 F118 F81 F119 n m1 n x0 x1 x7 (res118_0 r1) x9 x10)))))
       (L107_81_1 F118 F81 F119 n m1 n x0 x1 x7 (res118_0 r1) x9 x10))))
    (bcond (decide ((x10 : Int) < (IntKind.i64.wrap (2 * (List.length x1 : Int)))))
     ((C118 F118 x1 x10).bind fun r1 =>
      (bcond ((decide ((x8 : Int) < (if ((res118_0 r1) : Int) < 2147483648 then (res118_0 r1) else 2147483648))) == true)
       (if 2 = 0 then none else
        (if 2 = 0 then none else
         ((C81 F81 (((Int.tmod x9 2) : Int) == 1) (((Int.tmod x10 2) : Int) == 1)).bind fun r2 =>
          (bcond (res81_0 r2)
           ((C119 F119 x7 (x8, (if ((res118_0 r1) : Int) < 2147483648 then (res118_0 r1) else 2147483648))).bind fun r3 =>
            (L107_81_1 F118 F81 F119 n m1 n x0 x1 (res119_0 r3) (if ((res118_0 r1) : Int) < 2147483648 then (res118_0 r1) else 2147483648) x9 x10))
           (L107_81_1 F118 F81 F119 n m1 n x0 x1 x7 (if ((res118_0 r1) : Int) < 2147483648 then (res118_0 r1) else 2147483648) x9 x10)))))
       (L107_81_1 F118 F81 F119 n m1 n x0 x1 x7 (if ((res118_0 r1) : Int) < 2147483648 then (res118_0 r1) else 2147483648) x9 x10)))
     (bcond ((decide ((x8 : Int) < 2147483648)) == true)
      (if 2 = 0 then none else
       (if 2 = 0 then none else
        ((C81 F81 (((Int.tmod x9 2) : Int) == 1) (((Int.tmod x10 2) : Int) == 1)).bind fun r1 =>
         (bcond (res81_0 r1)
          ((C119 F119 x7 (x8, 2147483648)).bind fun r2 =>
           (L107_81_1 F118 F81 F119 n m1 n x0 x1 (res119_0 r2) 2147483648 x9 x10))
          (L107_81_1 F118 F81 F119 n m1 n x0 x1 x7 2147483648 x9 x10)))))
      (L107_81_1 F118 F81 F119 n m1 n x0 x1 x7 2147483648 x9 x10))))) := by kernel_rfl
theorem L107_81_1_step (F118 : sig118.Fn) (F81 : sig81.Fn) (F119 : sig119.Fn) (n m1 m2 : Nat) (x0 : List YSpan.den) (x1 : List YSpan.den) (x7 : List YSpan.den) (x8 : Int) (x9 : Int) (x10 : Int) : L107_81_1 F118 F81 F119 n m1 (m2 + 1) x0 x1 x7 x8 x9 x10 =
  (bcond ((decide ((x9 : Int) < (IntKind.i64.wrap (2 * (List.length x0 : Int))))) == true)
   ((C118 F118 x0 x9).bind fun r1 =>
    (bcond (((res118_0 r1) : Int) == x8)
     (L107_81_1 F118 F81 F119 n m1 m2 x0 x1 x7 x8 (IntKind.i64.wrap (x9 + 1)) x10)
     (L107_81_2 F118 F81 F119 n m1 n x0 x1 x7 x8 x9 x10)))
   (L107_81_2 F118 F81 F119 n m1 n x0 x1 x7 x8 x9 x10)) := by kernel_rfl
theorem L107_81_2_step (F118 : sig118.Fn) (F81 : sig81.Fn) (F119 : sig119.Fn) (n m1 m2 : Nat) (x0 : List YSpan.den) (x1 : List YSpan.den) (x7 : List YSpan.den) (x8 : Int) (x9 : Int) (x10 : Int) : L107_81_2 F118 F81 F119 n m1 (m2 + 1) x0 x1 x7 x8 x9 x10 =
  (bcond ((decide ((x10 : Int) < (IntKind.i64.wrap (2 * (List.length x1 : Int))))) == true)
   ((C118 F118 x1 x10).bind fun r1 =>
    (bcond (((res118_0 r1) : Int) == x8)
     (L107_81_2 F118 F81 F119 n m1 m2 x0 x1 x7 x8 x9 (IntKind.i64.wrap (x10 + 1)))
     (L107_81_0 F118 F81 F119 n m1 x0 x1 x7 x8 x9 x10)))
   (L107_81_0 F118 F81 F119 n m1 x0 x1 x7 x8 x9 x10)) := by kernel_rfl
theorem run107_81 (F118 : sig118.Fn) (F81 : sig81.Fn) (F119 : sig119.Fn) (n : Nat) (a0 : List YSpan.den) (a1 : List YSpan.den) : C107_81 (fun x y => run T (env107_81 F118 F81 F119) os107_81 sig107_81 Try.f107 hs107_81 n x y) a0 a1 =
  (L107_81_0 F118 F81 F119 n n a0 a1 [] 0 0 0) := by kernel_rfl
theorem ok107_81 : fnOk os107_81 sig107_81 Try.f107 = true := by kernel_rfl
theorem fn107_81 : P.funcs[107]? = some Try.f107 := by kernel_rfl
noncomputable def F107_81 : sig107_81.Fn := fun x y => run T (env107_81 F118 F81 F119) os107_81 sig107_81 Try.f107 hs107_81 big x y
theorem S107_81 : Sound P 107 ⟨sig107_81, F107_81⟩ := sound_of (os := os107_81) (hs := hs107_81) (env_cons S118 (env_cons S81 (env_cons S119 (env_nil)))) fn107_81 ok107_81 (fun x y out h => ⟨big, h⟩)
theorem e107_81 (a0 : List YSpan.den) (a1 : List YSpan.den) : C107_81 F107_81 a0 a1 =
  (L107_81_0 F118 F81 F119 big big a0 a1 [] 0 0 0) := run107_81 F118 F81 F119 big a0 a1

/-! ### chancery/span.two -/
def sig78_81 : Sig := ⟨[.v false (.list YSpan), .v false (.list YSpan), .f 81 []], [], [(false, [.fr (.list YSpan)]), (false, [.fr (.int .i64)])]⟩
def C78_81 (F : sig78_81.Fn) (a0 : List YSpan.den) (a1 : List YSpan.den) : Option sig78_81.Out := F (a0, a1, ()) ()
def ret78_81 (v0 : List YSpan.den) (v1 : Int) : sig78_81.Out := (((v0, ()), (v1, ()), ()), ())
def res78_81_0 (r : sig78_81.Out) : List YSpan.den := r.1.1.1
@[simp] theorem res78_81_0_ret (v0 : List YSpan.den) (v1 : Int) : res78_81_0 (ret78_81 v0 v1) = v0 := rfl
def res78_81_1 (r : sig78_81.Out) : Int := r.1.2.1.1
@[simp] theorem res78_81_1_ret (v0 : List YSpan.den) (v1 : Int) : res78_81_1 (ret78_81 v0 v1) = v1 := rfl
def os78_81 : List (Nat × Ord) := []
def hs78_81 : List Keep := []
@[reducible] def env78_81 (F21 : sig21.Fn) (F107_81 : sig107_81.Fn) : Env := [(21, ⟨sig21, F21⟩), (107, ⟨sig107_81, F107_81⟩)]
theorem run78_81 (F21 : sig21.Fn) (F107_81 : sig107_81.Fn) (n : Nat) (a0 : List YSpan.den) (a1 : List YSpan.den) : C78_81 (fun x y => run T (env78_81 F21 F107_81) os78_81 sig78_81 Try.f78 hs78_81 n x y) a0 a1 =
  ((C21 F21 a0).bind fun r1 =>
   (bcond (((res21_0 r1) : Int) != 0)
    (some (ret78_81 [] (res21_0 r1)))
    ((C21 F21 a1).bind fun r2 =>
     (bcond (((res21_0 r2) : Int) != 0)
      (some (ret78_81 [] (res21_0 r2)))
      ((C107_81 F107_81 a0 a1).bind fun r3 =>
       (some (ret78_81 (res107_81_0 r3) 0))))))) := by kernel_rfl
theorem ok78_81 : fnOk os78_81 sig78_81 Try.f78 = true := by kernel_rfl
theorem fn78_81 : P.funcs[78]? = some Try.f78 := by kernel_rfl
noncomputable def F78_81 : sig78_81.Fn := fun x y => run T (env78_81 F21 F107_81) os78_81 sig78_81 Try.f78 hs78_81 big x y
theorem S78_81 : Sound P 78 ⟨sig78_81, F78_81⟩ := sound_of (os := os78_81) (hs := hs78_81) (env_cons S21 (env_cons S107_81 (env_nil))) fn78_81 ok78_81 (fun x y out h => ⟨big, h⟩)
theorem e78_81 (a0 : List YSpan.den) (a1 : List YSpan.den) : C78_81 F78_81 a0 a1 =
  ((C21 F21 a0).bind fun r1 =>
   (bcond (((res21_0 r1) : Int) != 0)
    (some (ret78_81 [] (res21_0 r1)))
    ((C21 F21 a1).bind fun r2 =>
     (bcond (((res21_0 r2) : Int) != 0)
      (some (ret78_81 [] (res21_0 r2)))
      ((C107_81 F107_81 a0 a1).bind fun r3 =>
       (some (ret78_81 (res107_81_0 r3) 0))))))) := run78_81 F21 F107_81 big a0 a1

/-! ### chancery/span.Minus -/
def sig25 : Sig := ⟨[.v false (.list YSpan), .v false (.list YSpan)], [], [(false, [.fr (.list YSpan)]), (false, [.fr (.int .i64)])]⟩
def C25 (F : sig25.Fn) (a0 : List YSpan.den) (a1 : List YSpan.den) : Option sig25.Out := F (a0, a1, ()) ()
def ret25 (v0 : List YSpan.den) (v1 : Int) : sig25.Out := (((v0, ()), (v1, ()), ()), ())
def res25_0 (r : sig25.Out) : List YSpan.den := r.1.1.1
@[simp] theorem res25_0_ret (v0 : List YSpan.den) (v1 : Int) : res25_0 (ret25 v0 v1) = v0 := rfl
def res25_1 (r : sig25.Out) : Int := r.1.2.1.1
@[simp] theorem res25_1_ret (v0 : List YSpan.den) (v1 : Int) : res25_1 (ret25 v0 v1) = v1 := rfl
def os25 : List (Nat × Ord) := []
def hs25 : List Keep := []
@[reducible] def env25 (F78_81 : sig78_81.Fn) : Env := [(78, ⟨sig78_81, F78_81⟩)]
theorem run25 (F78_81 : sig78_81.Fn) (n : Nat) (a0 : List YSpan.den) (a1 : List YSpan.den) : C25 (fun x y => run T (env25 F78_81) os25 sig25 Try.f25 hs25 n x y) a0 a1 =
  ((C78_81 F78_81 a0 a1).bind fun r1 =>
   (some (ret25 (res78_81_0 r1) (res78_81_1 r1)))) := by kernel_rfl
theorem ok25 : fnOk os25 sig25 Try.f25 = true := by kernel_rfl
theorem fn25 : P.funcs[25]? = some Try.f25 := by kernel_rfl
noncomputable def F25 : sig25.Fn := fun x y => run T (env25 F78_81) os25 sig25 Try.f25 hs25 big x y
theorem S25 : Sound P 25 ⟨sig25, F25⟩ := sound_of (os := os25) (hs := hs25) (env_cons S78_81 (env_nil)) fn25 ok25 (fun x y out h => ⟨big, h⟩)
theorem e25 (a0 : List YSpan.den) (a1 : List YSpan.den) : C25 F25 a0 a1 =
  ((C78_81 F78_81 a0 a1).bind fun r1 =>
   (some (ret25 (res78_81_0 r1) (res78_81_1 r1)))) := run25 F78_81 big a0 a1

/-! ### chancery/chancerylaw1.spans -/
def sig20 : Sig := ⟨[], [], [(false, [.fr .bool])]⟩
def C20 (F : sig20.Fn) : Option sig20.Out := F () ()
def ret20 (v0 : Bool) : sig20.Out := (((v0, ()), ()), ())
def res20_0 (r : sig20.Out) : Bool := r.1.1.1
@[simp] theorem res20_0_ret (v0 : Bool) : res20_0 (ret20 v0) = v0 := rfl
def os20 : List (Nat × Ord) := []
def hs20 : List Keep := []
@[reducible] def env20 (F23 : sig23.Fn) : Env := [(23, ⟨sig23, F23⟩)]
theorem run20 (F23 : sig23.Fn) (n : Nat) : C20 (fun x y => run T (env20 F23) os20 sig20 Try.f20 hs20 n x y) =
  ((C23 F23 [(0, 2)] [(2, 3)]).bind fun r1 =>
   (bcond ((((res23_1 r1) : Int) == 0) == true)
    (bcond ((((List.length (res23_0 r1) : Int) : Int) == 1) == true)
     (if 0 ≤ (0 : Int) ∧ (0 : Int) < (List.length (res23_0 r1) : Int) then
      (some (ret20 ((((at_ (e := YSpan) (res23_0 r1) 0).1 : Int) == 0) && ((((at_ (e := YSpan) (res23_0 r1) 0).2 : Int) == 3) && true))))
     else none)
     (some (ret20 false)))
    (some (ret20 false)))) := by kernel_rfl
theorem ok20 : fnOk os20 sig20 Try.f20 = true := by kernel_rfl
theorem fn20 : P.funcs[20]? = some Try.f20 := by kernel_rfl
noncomputable def F20 : sig20.Fn := fun x y => run T (env20 F23) os20 sig20 Try.f20 hs20 big x y
theorem S20 : Sound P 20 ⟨sig20, F20⟩ := sound_of (os := os20) (hs := hs20) (env_cons S23 (env_nil)) fn20 ok20 (fun x y out h => ⟨big, h⟩)
theorem e20 : C20 F20 =
  ((C23 F23 [(0, 2)] [(2, 3)]).bind fun r1 =>
   (bcond ((((res23_1 r1) : Int) == 0) == true)
    (bcond ((((List.length (res23_0 r1) : Int) : Int) == 1) == true)
     (if 0 ≤ (0 : Int) ∧ (0 : Int) < (List.length (res23_0 r1) : Int) then
      (some (ret20 ((((at_ (e := YSpan) (res23_0 r1) 0).1 : Int) == 0) && ((((at_ (e := YSpan) (res23_0 r1) 0).2 : Int) == 3) && true))))
     else none)
     (some (ret20 false)))
    (some (ret20 false)))) := run20 F23 big

/-! ### chancery/chancerylaw1.SpanSetsMatch -/
def sig4 : Sig := ⟨[.v false (.list YSpan), .v false (.list YSpan)], [], [(false, [.fr .bool])]⟩
def C4 (F : sig4.Fn) (a0 : List YSpan.den) (a1 : List YSpan.den) : Option sig4.Out := F (a0, a1, ()) ()
def ret4 (v0 : Bool) : sig4.Out := (((v0, ()), ()), ())
def res4_0 (r : sig4.Out) : Bool := r.1.1.1
@[simp] theorem res4_0_ret (v0 : Bool) : res4_0 (ret4 v0) = v0 := rfl
def os4 : List (Nat × Ord) := [(19, .st 0 (.st 1 (.st 2 (.st 3 (.st 6 (.st 7 (.st 8 (.st 9 (.st 11 (.st 12 (.st 13 (.st 14 (.st 17 (.st 18 (.st 19 (.st 20 (.st 23 (.alt 4 (.st 5 (.st 15 (.st 16 (.st 10 (.st 21 (.st 22 (.nil))))))) (.alt 10 (.alt 4 (.st 5 (.st 15 (.st 16 (.st 21 (.st 22 (.nil)))))) (.alt 15 (.st 16 (.st 4 (.st 5 (.st 21 (.st 22 (.nil)))))) (.st 21 (.alt 4 (.st 5 (.st 15 (.st 16 (.st 22 (.nil))))) (.st 15 (.st 16 (.st 4 (.st 5 (.st 22 (.nil)))))))))) (.alt 15 (.st 16 (.st 4 (.st 5 (.st 10 (.st 21 (.st 22 (.nil))))))) (.st 21 (.alt 4 (.st 5 (.st 15 (.st 16 (.st 10 (.st 22 (.nil)))))) (.alt 10 (.alt 4 (.st 5 (.st 15 (.st 16 (.st 22 (.nil))))) (.st 15 (.st 16 (.st 4 (.st 5 (.st 22 (.nil))))))) (.st 15 (.st 16 (.st 4 (.st 5 (.st 10 (.st 22 (.nil)))))))))))))))))))))))))))))), (34, .st 0 (.st 1 (.st 2 (.st 3 (.st 5 (.st 6 (.st 7 (.st 8 (.st 11 (.st 4 (.st 9 (.st 10 (.nil)))))))))))))]
def hs4 : List Keep := [[(0, []), (1, []), (5, []), (7, []), (9, []), (110, []), (111, [])], [(0, []), (1, []), (5, []), (7, []), (9, []), (13, []), (110, []), (111, []), (115, []), (116, [])], [(0, []), (1, []), (5, []), (7, []), (9, []), (13, []), (110, []), (111, []), (115, []), (116, []), (141, []), (142, [])], [(0, []), (1, []), (186, []), (187, [])], [(0, []), (1, []), (20, []), (186, []), (187, []), (191, []), (192, [])], [(0, []), (1, []), (20, []), (186, []), (187, []), (191, []), (192, []), (205, []), (206, [])]]
@[reducible] def env4 (F20 : sig20.Fn) (F21 : sig21.Fn) (F22 : sig22.Fn) (F23 : sig23.Fn) (F24 : sig24.Fn) (F25 : sig25.Fn) (F26 : sig26.Fn) : Env := [(20, ⟨sig20, F20⟩), (21, ⟨sig21, F21⟩), (22, ⟨sig22, F22⟩), (23, ⟨sig23, F23⟩), (24, ⟨sig24, F24⟩), (25, ⟨sig25, F25⟩), (26, ⟨sig26, F26⟩)]
noncomputable def L4_0 (F20 : sig20.Fn) (F21 : sig21.Fn) (F22 : sig22.Fn) (F23 : sig23.Fn) (F24 : sig24.Fn) (F25 : sig25.Fn) (F26 : sig26.Fn) (n m1 : Nat) (x0 : List YSpan.den) (x1 : List YSpan.den) (x5 : List YSpan.den) (x7 : List YSpan.den) (x9 : List YSpan.den) (x110_0 : List YSpan.den) (x110_1 : List YSpan.den) (x111 : Int) : Option sig4.Out :=
  loopAt T (env4 F20 F21 F22 F23 F24 F25 F26) os4 sig4 Try.f4 hs4 n [.sr, .sr, .sr, .sr, .sr, .sr, .sr, .sr, .sr, .sl, .sr, .bl] m1 (mk 230 [(0, .cs false [.val (.list YSpan) x0]), (1, .cs false [.val (.list YSpan) x1]), (5, .cs false [.val (.list YSpan) x5]), (7, .cs false [.val (.list YSpan) x7]), (9, .cs false [.val (.list YSpan) x9]), (110, .cs true [.val (.list YSpan) x110_0, .val (.list YSpan) x110_1]), (111, .cs false [.val (.int .i64) x111])])
noncomputable def L4_1 (F20 : sig20.Fn) (F21 : sig21.Fn) (F22 : sig22.Fn) (F23 : sig23.Fn) (F24 : sig24.Fn) (F25 : sig25.Fn) (F26 : sig26.Fn) (n m1 m2 : Nat) (x0 : List YSpan.den) (x1 : List YSpan.den) (x5 : List YSpan.den) (x7 : List YSpan.den) (x9 : List YSpan.den) (x13 : List YSpan.den) (x110_0 : List YSpan.den) (x110_1 : List YSpan.den) (x111 : Int) (x115 : Int) (x116 : Int) : Option sig4.Out :=
  loopAt T (env4 F20 F21 F22 F23 F24 F25 F26) os4 sig4 Try.f4 hs4 n [.sr, .sr, .sr, .sr, .sr, .sr, .sr, .sr, .sr, .sl, .sr, .bl, .lp m1, .sr, .sr, .sl, .bl, .sr, .sr, .bl] m2 (mk 230 [(0, .cs false [.val (.list YSpan) x0]), (1, .cs false [.val (.list YSpan) x1]), (5, .cs false [.val (.list YSpan) x5]), (7, .cs false [.val (.list YSpan) x7]), (9, .cs false [.val (.list YSpan) x9]), (13, .cs false [.val (.list YSpan) x13]), (110, .cs true [.val (.list YSpan) x110_0, .val (.list YSpan) x110_1]), (111, .cs false [.val (.int .i64) x111]), (115, .cs false [.val (.int .i64) x115]), (116, .cs false [.val (.int .i64) x116])])
noncomputable def L4_3 (F20 : sig20.Fn) (F21 : sig21.Fn) (F22 : sig22.Fn) (F23 : sig23.Fn) (F24 : sig24.Fn) (F25 : sig25.Fn) (F26 : sig26.Fn) (n m1 : Nat) (x0 : List YSpan.den) (x1 : List YSpan.den) (x186_0 : List YSpan.den) (x186_1 : List YSpan.den) (x186_2 : List YSpan.den) (x187 : Int) : Option sig4.Out :=
  loopAt T (env4 F20 F21 F22 F23 F24 F25 F26) os4 sig4 Try.f4 hs4 n [.sr, .sr, .sr, .sr, .sr, .sr, .sr, .sr, .sr, .sr, .sl, .sr, .bl] m1 (mk 230 [(0, .cs false [.val (.list YSpan) x0]), (1, .cs false [.val (.list YSpan) x1]), (186, .cs true [.val (.list YSpan) x186_0, .val (.list YSpan) x186_1, .val (.list YSpan) x186_2]), (187, .cs false [.val (.int .i64) x187])])
noncomputable def L4_2 (F20 : sig20.Fn) (F21 : sig21.Fn) (F22 : sig22.Fn) (F23 : sig23.Fn) (F24 : sig24.Fn) (F25 : sig25.Fn) (F26 : sig26.Fn) (n m1 m2 m3 : Nat) (x0 : List YSpan.den) (x1 : List YSpan.den) (x5 : List YSpan.den) (x7 : List YSpan.den) (x9 : List YSpan.den) (x13 : List YSpan.den) (x110_0 : List YSpan.den) (x110_1 : List YSpan.den) (x111 : Int) (x115 : Int) (x116 : Int) (x141_0 : Int) (x141_1 : Int) (x141_2 : Int) (x141_3 : Int) (x142 : Int) : Option sig4.Out :=
  loopAt T (env4 F20 F21 F22 F23 F24 F25 F26) os4 sig4 Try.f4 hs4 n [.sr, .sr, .sr, .sr, .sr, .sr, .sr, .sr, .sr, .sl, .sr, .bl, .lp m1, .sr, .sr, .sl, .bl, .sr, .sr, .bl, .lp m2, .sr, .sr, .sl, .bl, .sr, .sr, .bl] m3 (mk 230 [(0, .cs false [.val (.list YSpan) x0]), (1, .cs false [.val (.list YSpan) x1]), (5, .cs false [.val (.list YSpan) x5]), (7, .cs false [.val (.list YSpan) x7]), (9, .cs false [.val (.list YSpan) x9]), (13, .cs false [.val (.list YSpan) x13]), (110, .cs true [.val (.list YSpan) x110_0, .val (.list YSpan) x110_1]), (111, .cs false [.val (.int .i64) x111]), (115, .cs false [.val (.int .i64) x115]), (116, .cs false [.val (.int .i64) x116]), (141, .cs true [.val (.int .i64) x141_0, .val (.int .i64) x141_1, .val (.int .i64) x141_2, .val (.int .i64) x141_3]), (142, .cs false [.val (.int .i64) x142])])
noncomputable def L4_4 (F20 : sig20.Fn) (F21 : sig21.Fn) (F22 : sig22.Fn) (F23 : sig23.Fn) (F24 : sig24.Fn) (F25 : sig25.Fn) (F26 : sig26.Fn) (n m1 m2 : Nat) (x0 : List YSpan.den) (x1 : List YSpan.den) (x20 : List YSpan.den) (x186_0 : List YSpan.den) (x186_1 : List YSpan.den) (x186_2 : List YSpan.den) (x187 : Int) (x191 : Int) (x192 : Int) : Option sig4.Out :=
  loopAt T (env4 F20 F21 F22 F23 F24 F25 F26) os4 sig4 Try.f4 hs4 n [.sr, .sr, .sr, .sr, .sr, .sr, .sr, .sr, .sr, .sr, .sl, .sr, .bl, .lp m1, .sr, .sr, .sl, .bl, .sr, .sr, .bl] m2 (mk 230 [(0, .cs false [.val (.list YSpan) x0]), (1, .cs false [.val (.list YSpan) x1]), (20, .cs false [.val (.list YSpan) x20]), (186, .cs true [.val (.list YSpan) x186_0, .val (.list YSpan) x186_1, .val (.list YSpan) x186_2]), (187, .cs false [.val (.int .i64) x187]), (191, .cs false [.val (.int .i64) x191]), (192, .cs false [.val (.int .i64) x192])])
noncomputable def L4_5 (F20 : sig20.Fn) (F21 : sig21.Fn) (F22 : sig22.Fn) (F23 : sig23.Fn) (F24 : sig24.Fn) (F25 : sig25.Fn) (F26 : sig26.Fn) (n m1 m2 m3 : Nat) (x0 : List YSpan.den) (x1 : List YSpan.den) (x20 : List YSpan.den) (x186_0 : List YSpan.den) (x186_1 : List YSpan.den) (x186_2 : List YSpan.den) (x187 : Int) (x191 : Int) (x192 : Int) (x205_0 : Int) (x205_1 : Int) (x206 : Int) : Option sig4.Out :=
  loopAt T (env4 F20 F21 F22 F23 F24 F25 F26) os4 sig4 Try.f4 hs4 n [.sr, .sr, .sr, .sr, .sr, .sr, .sr, .sr, .sr, .sr, .sl, .sr, .bl, .lp m1, .sr, .sr, .sl, .bl, .sr, .sr, .bl, .lp m2, .sr, .sr, .sl, .bl, .sr, .sr, .bl] m3 (mk 230 [(0, .cs false [.val (.list YSpan) x0]), (1, .cs false [.val (.list YSpan) x1]), (20, .cs false [.val (.list YSpan) x20]), (186, .cs true [.val (.list YSpan) x186_0, .val (.list YSpan) x186_1, .val (.list YSpan) x186_2]), (187, .cs false [.val (.int .i64) x187]), (191, .cs false [.val (.int .i64) x191]), (192, .cs false [.val (.int .i64) x192]), (205, .cs true [.val (.int .i64) x205_0, .val (.int .i64) x205_1]), (206, .cs false [.val (.int .i64) x206])])
theorem L4_0_step (F20 : sig20.Fn) (F21 : sig21.Fn) (F22 : sig22.Fn) (F23 : sig23.Fn) (F24 : sig24.Fn) (F25 : sig25.Fn) (F26 : sig26.Fn) (n m1 : Nat) (x0 : List YSpan.den) (x1 : List YSpan.den) (x5 : List YSpan.den) (x7 : List YSpan.den) (x9 : List YSpan.den) (x110_0 : List YSpan.den) (x110_1 : List YSpan.den) (x111 : Int) : L4_0 F20 F21 F22 F23 F24 F25 F26 n (m1 + 1) x0 x1 x5 x7 x9 x110_0 x110_1 x111 =
  (bcond (decide ((x111 : Int) < 2))
   (if 0 ≤ (x111 : Int) ∧ (x111 : Int) < 2 then
    (L4_1 F20 F21 F22 F23 F24 F25 F26 n m1 n x0 x1 x5 x7 x9 (at_ (e := (.list YSpan)) [x110_0, x110_1] x111) x110_0 x110_1 x111 (List.length (at_ (e := (.list YSpan)) [x110_0, x110_1] x111) : Int) 0)
   else none)
   (L4_3 F20 F21 F22 F23 F24 F25 F26 n n x0 x1 x5 x7 x9 0)) := by kernel_rfl
theorem L4_1_raw (F20 : sig20.Fn) (F21 : sig21.Fn) (F22 : sig22.Fn) (F23 : sig23.Fn) (F24 : sig24.Fn) (F25 : sig25.Fn) (F26 : sig26.Fn) (n m1 m2 : Nat) (x0 : List YSpan.den) (x1 : List YSpan.den) (x5 : List YSpan.den) (x7 : List YSpan.den) (x9 : List YSpan.den) (x13 : List YSpan.den) (x110_0 : List YSpan.den) (x110_1 : List YSpan.den) (x111 : Int) (x115 : Int) (x116 : Int) : L4_1 F20 F21 F22 F23 F24 F25 F26 n m1 (m2 + 1) x0 x1 x5 x7 x9 x13 x110_0 x110_1 x111 x115 x116 =
  (bcond (decide ((x116 : Int) < x115))
   (if 0 ≤ (x116 : Int) ∧ (x116 : Int) < (List.length x13 : Int) then
    (if 0 ≤ (x116 : Int) ∧ (x116 : Int) < (List.length x13 : Int) then
     (if 0 ≤ (x116 : Int) ∧ (x116 : Int) < (List.length x13 : Int) then
      (if 0 ≤ (x116 : Int) ∧ (x116 : Int) < (List.length x13 : Int) then
       (agree
        (L4_2 F20 F21 F22 F23 F24 F25 F26 n m1 m2 n x0 x1 x5 x7 x9 x13 x110_0 x110_1 x111 x115 x116 (IntKind.i64.wrap ((at_ (e := YSpan) x13 x116).1 - 1)) (at_ (e := YSpan) x13 x116).1 (IntKind.i64.wrap ((at_ (e := YSpan) x13 x116).2 - 1)) (at_ (e := YSpan) x13 x116).2 0)
       (agree
        (agree
         (L4_2 F20 F21 F22 F23 F24 F25 F26 n m1 m2 n x0 x1 x5 x7 x9 x13 x110_0 x110_1 x111 x115 x116 (IntKind.i64.wrap ((at_ (e := YSpan) x13 x116).1 - 1)) (at_ (e := YSpan) x13 x116).1 (IntKind.i64.wrap ((at_ (e := YSpan) x13 x116).2 - 1)) (at_ (e := YSpan) x13 x116).2 0)
        (agree
         (L4_2 F20 F21 F22 F23 F24 F25 F26 n m1 m2 n x0 x1 x5 x7 x9 x13 x110_0 x110_1 x111 x115 x116 (IntKind.i64.wrap ((at_ (e := YSpan) x13 x116).1 - 1)) (at_ (e := YSpan) x13 x116).1 (IntKind.i64.wrap ((at_ (e := YSpan) x13 x116).2 - 1)) (at_ (e := YSpan) x13 x116).2 0)
         (agree
          (L4_2 F20 F21 F22 F23 F24 F25 F26 n m1 m2 n x0 x1 x5 x7 x9 x13 x110_0 x110_1 x111 x115 x116 (IntKind.i64.wrap ((at_ (e := YSpan) x13 x116).1 - 1)) (at_ (e := YSpan) x13 x116).1 (IntKind.i64.wrap ((at_ (e := YSpan) x13 x116).2 - 1)) (at_ (e := YSpan) x13 x116).2 0)
          (L4_2 F20 F21 F22 F23 F24 F25 F26 n m1 m2 n x0 x1 x5 x7 x9 x13 x110_0 x110_1 x111 x115 x116 (IntKind.i64.wrap ((at_ (e := YSpan) x13 x116).1 - 1)) (at_ (e := YSpan) x13 x116).1 (IntKind.i64.wrap ((at_ (e := YSpan) x13 x116).2 - 1)) (at_ (e := YSpan) x13 x116).2 0))))
       (agree
        (L4_2 F20 F21 F22 F23 F24 F25 F26 n m1 m2 n x0 x1 x5 x7 x9 x13 x110_0 x110_1 x111 x115 x116 (IntKind.i64.wrap ((at_ (e := YSpan) x13 x116).1 - 1)) (at_ (e := YSpan) x13 x116).1 (IntKind.i64.wrap ((at_ (e := YSpan) x13 x116).2 - 1)) (at_ (e := YSpan) x13 x116).2 0)
        (agree
         (L4_2 F20 F21 F22 F23 F24 F25 F26 n m1 m2 n x0 x1 x5 x7 x9 x13 x110_0 x110_1 x111 x115 x116 (IntKind.i64.wrap ((at_ (e := YSpan) x13 x116).1 - 1)) (at_ (e := YSpan) x13 x116).1 (IntKind.i64.wrap ((at_ (e := YSpan) x13 x116).2 - 1)) (at_ (e := YSpan) x13 x116).2 0)
        (agree
         (agree
          (L4_2 F20 F21 F22 F23 F24 F25 F26 n m1 m2 n x0 x1 x5 x7 x9 x13 x110_0 x110_1 x111 x115 x116 (IntKind.i64.wrap ((at_ (e := YSpan) x13 x116).1 - 1)) (at_ (e := YSpan) x13 x116).1 (IntKind.i64.wrap ((at_ (e := YSpan) x13 x116).2 - 1)) (at_ (e := YSpan) x13 x116).2 0)
          (L4_2 F20 F21 F22 F23 F24 F25 F26 n m1 m2 n x0 x1 x5 x7 x9 x13 x110_0 x110_1 x111 x115 x116 (IntKind.i64.wrap ((at_ (e := YSpan) x13 x116).1 - 1)) (at_ (e := YSpan) x13 x116).1 (IntKind.i64.wrap ((at_ (e := YSpan) x13 x116).2 - 1)) (at_ (e := YSpan) x13 x116).2 0))
         (L4_2 F20 F21 F22 F23 F24 F25 F26 n m1 m2 n x0 x1 x5 x7 x9 x13 x110_0 x110_1 x111 x115 x116 (IntKind.i64.wrap ((at_ (e := YSpan) x13 x116).1 - 1)) (at_ (e := YSpan) x13 x116).1 (IntKind.i64.wrap ((at_ (e := YSpan) x13 x116).2 - 1)) (at_ (e := YSpan) x13 x116).2 0))))))
      else none)
     else none)
    else none)
   else none)
   (L4_0 F20 F21 F22 F23 F24 F25 F26 n m1 x0 x1 x5 x7 x9 x110_0 x110_1 (IntKind.i64.wrap (x111 + 1)))) := by kernel_rfl
theorem L4_1_step (F20 : sig20.Fn) (F21 : sig21.Fn) (F22 : sig22.Fn) (F23 : sig23.Fn) (F24 : sig24.Fn) (F25 : sig25.Fn) (F26 : sig26.Fn) (n m1 m2 : Nat) (x0 : List YSpan.den) (x1 : List YSpan.den) (x5 : List YSpan.den) (x7 : List YSpan.den) (x9 : List YSpan.den) (x13 : List YSpan.den) (x110_0 : List YSpan.den) (x110_1 : List YSpan.den) (x111 : Int) (x115 : Int) (x116 : Int) : L4_1 F20 F21 F22 F23 F24 F25 F26 n m1 (m2 + 1) x0 x1 x5 x7 x9 x13 x110_0 x110_1 x111 x115 x116 =
  (bcond (decide ((x116 : Int) < x115))
   (if 0 ≤ (x116 : Int) ∧ (x116 : Int) < (List.length x13 : Int) then
    (if 0 ≤ (x116 : Int) ∧ (x116 : Int) < (List.length x13 : Int) then
     (if 0 ≤ (x116 : Int) ∧ (x116 : Int) < (List.length x13 : Int) then
      (if 0 ≤ (x116 : Int) ∧ (x116 : Int) < (List.length x13 : Int) then
       (L4_2 F20 F21 F22 F23 F24 F25 F26 n m1 m2 n x0 x1 x5 x7 x9 x13 x110_0 x110_1 x111 x115 x116 (IntKind.i64.wrap ((at_ (e := YSpan) x13 x116).1 - 1)) (at_ (e := YSpan) x13 x116).1 (IntKind.i64.wrap ((at_ (e := YSpan) x13 x116).2 - 1)) (at_ (e := YSpan) x13 x116).2 0)
      else none)
     else none)
    else none)
   else none)
   (L4_0 F20 F21 F22 F23 F24 F25 F26 n m1 x0 x1 x5 x7 x9 x110_0 x110_1 (IntKind.i64.wrap (x111 + 1)))) := by rw [L4_1_raw]; simp only [agree_self]
theorem L4_3_step (F20 : sig20.Fn) (F21 : sig21.Fn) (F22 : sig22.Fn) (F23 : sig23.Fn) (F24 : sig24.Fn) (F25 : sig25.Fn) (F26 : sig26.Fn) (n m1 : Nat) (x0 : List YSpan.den) (x1 : List YSpan.den) (x186_0 : List YSpan.den) (x186_1 : List YSpan.den) (x186_2 : List YSpan.den) (x187 : Int) : L4_3 F20 F21 F22 F23 F24 F25 F26 n (m1 + 1) x0 x1 x186_0 x186_1 x186_2 x187 =
  (bcond (decide ((x187 : Int) < 3))
   (if 0 ≤ (x187 : Int) ∧ (x187 : Int) < 3 then
    (L4_4 F20 F21 F22 F23 F24 F25 F26 n m1 n x0 x1 (at_ (e := (.list YSpan)) [x186_0, x186_1, x186_2] x187) x186_0 x186_1 x186_2 x187 (List.length (at_ (e := (.list YSpan)) [x186_0, x186_1, x186_2] x187) : Int) 0)
   else none)
   (some (ret4 true))) := by kernel_rfl
theorem L4_2_step (F20 : sig20.Fn) (F21 : sig21.Fn) (F22 : sig22.Fn) (F23 : sig23.Fn) (F24 : sig24.Fn) (F25 : sig25.Fn) (F26 : sig26.Fn) (n m1 m2 m3 : Nat) (x0 : List YSpan.den) (x1 : List YSpan.den) (x5 : List YSpan.den) (x7 : List YSpan.den) (x9 : List YSpan.den) (x13 : List YSpan.den) (x110_0 : List YSpan.den) (x110_1 : List YSpan.den) (x111 : Int) (x115 : Int) (x116 : Int) (x141_0 : Int) (x141_1 : Int) (x141_2 : Int) (x141_3 : Int) (x142 : Int) : L4_2 F20 F21 F22 F23 F24 F25 F26 n m1 m2 (m3 + 1) x0 x1 x5 x7 x9 x13 x110_0 x110_1 x111 x115 x116 x141_0 x141_1 x141_2 x141_3 x142 =
  (bcond (decide ((x142 : Int) < 4))
   (if 0 ≤ (x142 : Int) ∧ (x142 : Int) < 4 then
    ((C26 F26 x0 (at_ (e := (.int .i64)) [x141_0, x141_1, x141_2, x141_3] x142)).bind fun r1 =>
     ((C26 F26 x1 (at_ (e := (.int .i64)) [x141_0, x141_1, x141_2, x141_3] x142)).bind fun r2 =>
      ((C26 F26 x5 (at_ (e := (.int .i64)) [x141_0, x141_1, x141_2, x141_3] x142)).bind fun r3 =>
       (bcond ((res26_0 r1) == false)
        (bcond ((((res26_0 r3) : Bool) != (res26_0 r2)) == false)
         ((C26 F26 x7 (at_ (e := (.int .i64)) [x141_0, x141_1, x141_2, x141_3] x142)).bind fun r4 =>
          (bcond ((res26_0 r1) == true)
           (bcond ((((res26_0 r4) : Bool) != (res26_0 r2)) == false)
            ((C26 F26 x9 (at_ (e := (.int .i64)) [x141_0, x141_1, x141_2, x141_3] x142)).bind fun r5 =>
             (bcond ((res26_0 r1) == true)
              (bcond (((res26_0 r5) : Bool) != (!(res26_0 r2)))
               (some (ret4 false))
               (L4_2 F20 F21 F22 F23 F24 F25 F26 n m1 m2 m3 x0 x1 x5 x7 x9 x13 x110_0 x110_1 x111 x115 x116 x141_0 x141_1 x141_2 x141_3 (IntKind.i64.wrap (x142 + 1))))
              (bcond (((res26_0 r5) : Bool) != false)
               (some (ret4 false))
               (L4_2 F20 F21 F22 F23 F24 F25 F26 n m1 m2 m3 x0 x1 x5 x7 x9 x13 x110_0 x110_1 x111 x115 x116 x141_0 x141_1 x141_2 x141_3 (IntKind.i64.wrap (x142 + 1))))))
            (some (ret4 false)))
           (bcond ((((res26_0 r4) : Bool) != false) == false)
            ((C26 F26 x9 (at_ (e := (.int .i64)) [x141_0, x141_1, x141_2, x141_3] x142)).bind fun r5 =>
             (bcond ((res26_0 r1) == true)
              (bcond (((res26_0 r5) : Bool) != (!(res26_0 r2)))
               (some (ret4 false))
               (L4_2 F20 F21 F22 F23 F24 F25 F26 n m1 m2 m3 x0 x1 x5 x7 x9 x13 x110_0 x110_1 x111 x115 x116 x141_0 x141_1 x141_2 x141_3 (IntKind.i64.wrap (x142 + 1))))
              (bcond (((res26_0 r5) : Bool) != false)
               (some (ret4 false))
               (L4_2 F20 F21 F22 F23 F24 F25 F26 n m1 m2 m3 x0 x1 x5 x7 x9 x13 x110_0 x110_1 x111 x115 x116 x141_0 x141_1 x141_2 x141_3 (IntKind.i64.wrap (x142 + 1))))))
            (some (ret4 false)))))
         (some (ret4 false)))
        (bcond ((((res26_0 r3) : Bool) != true) == false)
         ((C26 F26 x7 (at_ (e := (.int .i64)) [x141_0, x141_1, x141_2, x141_3] x142)).bind fun r4 =>
          (bcond ((res26_0 r1) == true)
           (bcond ((((res26_0 r4) : Bool) != (res26_0 r2)) == false)
            ((C26 F26 x9 (at_ (e := (.int .i64)) [x141_0, x141_1, x141_2, x141_3] x142)).bind fun r5 =>
             (bcond ((res26_0 r1) == true)
              (bcond (((res26_0 r5) : Bool) != (!(res26_0 r2)))
               (some (ret4 false))
               (L4_2 F20 F21 F22 F23 F24 F25 F26 n m1 m2 m3 x0 x1 x5 x7 x9 x13 x110_0 x110_1 x111 x115 x116 x141_0 x141_1 x141_2 x141_3 (IntKind.i64.wrap (x142 + 1))))
              (bcond (((res26_0 r5) : Bool) != false)
               (some (ret4 false))
               (L4_2 F20 F21 F22 F23 F24 F25 F26 n m1 m2 m3 x0 x1 x5 x7 x9 x13 x110_0 x110_1 x111 x115 x116 x141_0 x141_1 x141_2 x141_3 (IntKind.i64.wrap (x142 + 1))))))
            (some (ret4 false)))
           (bcond ((((res26_0 r4) : Bool) != false) == false)
            ((C26 F26 x9 (at_ (e := (.int .i64)) [x141_0, x141_1, x141_2, x141_3] x142)).bind fun r5 =>
             (bcond ((res26_0 r1) == true)
              (bcond (((res26_0 r5) : Bool) != (!(res26_0 r2)))
               (some (ret4 false))
               (L4_2 F20 F21 F22 F23 F24 F25 F26 n m1 m2 m3 x0 x1 x5 x7 x9 x13 x110_0 x110_1 x111 x115 x116 x141_0 x141_1 x141_2 x141_3 (IntKind.i64.wrap (x142 + 1))))
              (bcond (((res26_0 r5) : Bool) != false)
               (some (ret4 false))
               (L4_2 F20 F21 F22 F23 F24 F25 F26 n m1 m2 m3 x0 x1 x5 x7 x9 x13 x110_0 x110_1 x111 x115 x116 x141_0 x141_1 x141_2 x141_3 (IntKind.i64.wrap (x142 + 1))))))
            (some (ret4 false)))))
         (some (ret4 false)))))))
   else none)
   (L4_1 F20 F21 F22 F23 F24 F25 F26 n m1 m2 x0 x1 x5 x7 x9 x13 x110_0 x110_1 x111 x115 (IntKind.i64.wrap (x116 + 1)))) := by kernel_rfl
theorem L4_4_step (F20 : sig20.Fn) (F21 : sig21.Fn) (F22 : sig22.Fn) (F23 : sig23.Fn) (F24 : sig24.Fn) (F25 : sig25.Fn) (F26 : sig26.Fn) (n m1 m2 : Nat) (x0 : List YSpan.den) (x1 : List YSpan.den) (x20 : List YSpan.den) (x186_0 : List YSpan.den) (x186_1 : List YSpan.den) (x186_2 : List YSpan.den) (x187 : Int) (x191 : Int) (x192 : Int) : L4_4 F20 F21 F22 F23 F24 F25 F26 n m1 (m2 + 1) x0 x1 x20 x186_0 x186_1 x186_2 x187 x191 x192 =
  (bcond (decide ((x192 : Int) < x191))
   (if 0 ≤ (x192 : Int) ∧ (x192 : Int) < (List.length x20 : Int) then
    (if 0 ≤ (x192 : Int) ∧ (x192 : Int) < (List.length x20 : Int) then
     (L4_5 F20 F21 F22 F23 F24 F25 F26 n m1 m2 n x0 x1 x20 x186_0 x186_1 x186_2 x187 x191 x192 (at_ (e := YSpan) x20 x192).1 (at_ (e := YSpan) x20 x192).2 0)
    else none)
   else none)
   (L4_3 F20 F21 F22 F23 F24 F25 F26 n m1 x0 x1 x186_0 x186_1 x186_2 (IntKind.i64.wrap (x187 + 1)))) := by kernel_rfl
theorem L4_5_step (F20 : sig20.Fn) (F21 : sig21.Fn) (F22 : sig22.Fn) (F23 : sig23.Fn) (F24 : sig24.Fn) (F25 : sig25.Fn) (F26 : sig26.Fn) (n m1 m2 m3 : Nat) (x0 : List YSpan.den) (x1 : List YSpan.den) (x20 : List YSpan.den) (x186_0 : List YSpan.den) (x186_1 : List YSpan.den) (x186_2 : List YSpan.den) (x187 : Int) (x191 : Int) (x192 : Int) (x205_0 : Int) (x205_1 : Int) (x206 : Int) : L4_5 F20 F21 F22 F23 F24 F25 F26 n m1 m2 (m3 + 1) x0 x1 x20 x186_0 x186_1 x186_2 x187 x191 x192 x205_0 x205_1 x206 =
  (bcond (decide ((x206 : Int) < 2))
   (if 0 ≤ (x206 : Int) ∧ (x206 : Int) < 2 then
    ((C26 F26 x0 (at_ (e := (.int .i64)) [x205_0, x205_1] x206)).bind fun r1 =>
     ((C26 F26 x0 (IntKind.i64.wrap ((at_ (e := (.int .i64)) [x205_0, x205_1] x206) - 1))).bind fun r2 =>
      (bcond ((((res26_0 r1) : Bool) == (res26_0 r2)) == true)
       ((C26 F26 x1 (at_ (e := (.int .i64)) [x205_0, x205_1] x206)).bind fun r3 =>
        ((C26 F26 x1 (IntKind.i64.wrap ((at_ (e := (.int .i64)) [x205_0, x205_1] x206) - 1))).bind fun r4 =>
         (bcond (((res26_0 r3) : Bool) == (res26_0 r4))
          (some (ret4 false))
          (L4_5 F20 F21 F22 F23 F24 F25 F26 n m1 m2 m3 x0 x1 x20 x186_0 x186_1 x186_2 x187 x191 x192 x205_0 x205_1 (IntKind.i64.wrap (x206 + 1))))))
       (L4_5 F20 F21 F22 F23 F24 F25 F26 n m1 m2 m3 x0 x1 x20 x186_0 x186_1 x186_2 x187 x191 x192 x205_0 x205_1 (IntKind.i64.wrap (x206 + 1))))))
   else none)
   (L4_4 F20 F21 F22 F23 F24 F25 F26 n m1 m2 x0 x1 x20 x186_0 x186_1 x186_2 x187 x191 (IntKind.i64.wrap (x192 + 1)))) := by kernel_rfl
theorem run4 (F20 : sig20.Fn) (F21 : sig21.Fn) (F22 : sig22.Fn) (F23 : sig23.Fn) (F24 : sig24.Fn) (F25 : sig25.Fn) (F26 : sig26.Fn) (n : Nat) (a0 : List YSpan.den) (a1 : List YSpan.den) : C4 (fun x y => run T (env4 F20 F21 F22 F23 F24 F25 F26) os4 sig4 Try.f4 hs4 n x y) a0 a1 =
  ((C20 F20 ).bind fun r1 =>
   (bcond ((!(res20_0 r1)) == false)
    ((C21 F21 a0).bind fun r2 =>
     ((C22 F22 a0).bind fun r3 =>
      (bcond (((res21_0 r2) : Int) != (res22_0 r3))
       (some (ret4 false))
       ((C23 F23 a0 a1).bind fun r4 =>
        ((C24 F24 a0 a1).bind fun r5 =>
         ((C25 F25 a0 a1).bind fun r6 =>
          ((C22 F22 a0).bind fun r7 =>
           (bcond (((res22_0 r7) : Int) == 0)
            ((C22 F22 a1).bind fun r8 =>
             (bcond (((res22_0 r8) : Int) != 0)
              (bcond ((((res23_1 r4) : Int) == (res22_0 r8)) == true)
               (bcond ((((res24_1 r5) : Int) == (res22_0 r8)) == true)
                (bcond ((((res25_1 r6) : Int) == (res22_0 r8)) == true)
                 (some (ret4 (((IntKind.i64.wrap ((IntKind.i64.wrap ((List.length (res23_0 r4) : Int) + (List.length (res24_0 r5) : Int))) + (List.length (res25_0 r6) : Int))) : Int) == 0)))
                 (some (ret4 false)))
                (some (ret4 false)))
               (some (ret4 false)))
              (bcond ((((res23_1 r4) : Int) != 0) == false)
               (bcond ((((res24_1 r5) : Int) != 0) == false)
                (bcond ((((res25_1 r6) : Int) != 0) == false)
                 ((C22 F22 (res23_0 r4)).bind fun r9 =>
                  (bcond ((((res22_0 r9) : Int) != 0) == false)
                   ((C22 F22 (res24_0 r5)).bind fun r10 =>
                    (bcond ((((res22_0 r10) : Int) != 0) == false)
                     ((C22 F22 (res25_0 r6)).bind fun r11 =>
                      (bcond (((res22_0 r11) : Int) != 0)
                       (some (ret4 false))
                       (L4_0 F20 F21 F22 F23 F24 F25 F26 n n a0 a1 (res23_0 r4) (res24_0 r5) (res25_0 r6) a0 a1 0)))
                     (some (ret4 false))))
                   (some (ret4 false))))
                 (some (ret4 false)))
                (some (ret4 false)))
               (some (ret4 false)))))
            (bcond (((res22_0 r7) : Int) != 0)
             (bcond ((((res23_1 r4) : Int) == (res22_0 r7)) == true)
              (bcond ((((res24_1 r5) : Int) == (res22_0 r7)) == true)
               (bcond ((((res25_1 r6) : Int) == (res22_0 r7)) == true)
                (some (ret4 (((IntKind.i64.wrap ((IntKind.i64.wrap ((List.length (res23_0 r4) : Int) + (List.length (res24_0 r5) : Int))) + (List.length (res25_0 r6) : Int))) : Int) == 0)))
                (some (ret4 false)))
               (some (ret4 false)))
              (some (ret4 false)))
             (bcond ((((res23_1 r4) : Int) != 0) == false)
              (bcond ((((res24_1 r5) : Int) != 0) == false)
               (bcond ((((res25_1 r6) : Int) != 0) == false)
                ((C22 F22 (res23_0 r4)).bind fun r8 =>
                 (bcond ((((res22_0 r8) : Int) != 0) == false)
                  ((C22 F22 (res24_0 r5)).bind fun r9 =>
                   (bcond ((((res22_0 r9) : Int) != 0) == false)
                    ((C22 F22 (res25_0 r6)).bind fun r10 =>
                     (bcond (((res22_0 r10) : Int) != 0)
                      (some (ret4 false))
                      (L4_0 F20 F21 F22 F23 F24 F25 F26 n n a0 a1 (res23_0 r4) (res24_0 r5) (res25_0 r6) a0 a1 0)))
                    (some (ret4 false))))
                  (some (ret4 false))))
                (some (ret4 false)))
               (some (ret4 false)))
              (some (ret4 false))))))))))))
    (some (ret4 false)))) := by kernel_rfl
theorem ok4 : fnOk os4 sig4 Try.f4 = true := by kernel_rfl
theorem fn4 : P.funcs[4]? = some Try.f4 := by kernel_rfl
noncomputable def F4 : sig4.Fn := fun x y => run T (env4 F20 F21 F22 F23 F24 F25 F26) os4 sig4 Try.f4 hs4 big x y
theorem S4 : Sound P 4 ⟨sig4, F4⟩ := sound_of (os := os4) (hs := hs4) (env_cons S20 (env_cons S21 (env_cons S22 (env_cons S23 (env_cons S24 (env_cons S25 (env_cons S26 (env_nil)))))))) fn4 ok4 (fun x y out h => ⟨big, h⟩)
theorem e4 (a0 : List YSpan.den) (a1 : List YSpan.den) : C4 F4 a0 a1 =
  ((C20 F20 ).bind fun r1 =>
   (bcond ((!(res20_0 r1)) == false)
    ((C21 F21 a0).bind fun r2 =>
     ((C22 F22 a0).bind fun r3 =>
      (bcond (((res21_0 r2) : Int) != (res22_0 r3))
       (some (ret4 false))
       ((C23 F23 a0 a1).bind fun r4 =>
        ((C24 F24 a0 a1).bind fun r5 =>
         ((C25 F25 a0 a1).bind fun r6 =>
          ((C22 F22 a0).bind fun r7 =>
           (bcond (((res22_0 r7) : Int) == 0)
            ((C22 F22 a1).bind fun r8 =>
             (bcond (((res22_0 r8) : Int) != 0)
              (bcond ((((res23_1 r4) : Int) == (res22_0 r8)) == true)
               (bcond ((((res24_1 r5) : Int) == (res22_0 r8)) == true)
                (bcond ((((res25_1 r6) : Int) == (res22_0 r8)) == true)
                 (some (ret4 (((IntKind.i64.wrap ((IntKind.i64.wrap ((List.length (res23_0 r4) : Int) + (List.length (res24_0 r5) : Int))) + (List.length (res25_0 r6) : Int))) : Int) == 0)))
                 (some (ret4 false)))
                (some (ret4 false)))
               (some (ret4 false)))
              (bcond ((((res23_1 r4) : Int) != 0) == false)
               (bcond ((((res24_1 r5) : Int) != 0) == false)
                (bcond ((((res25_1 r6) : Int) != 0) == false)
                 ((C22 F22 (res23_0 r4)).bind fun r9 =>
                  (bcond ((((res22_0 r9) : Int) != 0) == false)
                   ((C22 F22 (res24_0 r5)).bind fun r10 =>
                    (bcond ((((res22_0 r10) : Int) != 0) == false)
                     ((C22 F22 (res25_0 r6)).bind fun r11 =>
                      (bcond (((res22_0 r11) : Int) != 0)
                       (some (ret4 false))
                       (L4_0 F20 F21 F22 F23 F24 F25 F26 big big a0 a1 (res23_0 r4) (res24_0 r5) (res25_0 r6) a0 a1 0)))
                     (some (ret4 false))))
                   (some (ret4 false))))
                 (some (ret4 false)))
                (some (ret4 false)))
               (some (ret4 false)))))
            (bcond (((res22_0 r7) : Int) != 0)
             (bcond ((((res23_1 r4) : Int) == (res22_0 r7)) == true)
              (bcond ((((res24_1 r5) : Int) == (res22_0 r7)) == true)
               (bcond ((((res25_1 r6) : Int) == (res22_0 r7)) == true)
                (some (ret4 (((IntKind.i64.wrap ((IntKind.i64.wrap ((List.length (res23_0 r4) : Int) + (List.length (res24_0 r5) : Int))) + (List.length (res25_0 r6) : Int))) : Int) == 0)))
                (some (ret4 false)))
               (some (ret4 false)))
              (some (ret4 false)))
             (bcond ((((res23_1 r4) : Int) != 0) == false)
              (bcond ((((res24_1 r5) : Int) != 0) == false)
               (bcond ((((res25_1 r6) : Int) != 0) == false)
                ((C22 F22 (res23_0 r4)).bind fun r8 =>
                 (bcond ((((res22_0 r8) : Int) != 0) == false)
                  ((C22 F22 (res24_0 r5)).bind fun r9 =>
                   (bcond ((((res22_0 r9) : Int) != 0) == false)
                    ((C22 F22 (res25_0 r6)).bind fun r10 =>
                     (bcond (((res22_0 r10) : Int) != 0)
                      (some (ret4 false))
                      (L4_0 F20 F21 F22 F23 F24 F25 F26 big big a0 a1 (res23_0 r4) (res24_0 r5) (res25_0 r6) a0 a1 0)))
                    (some (ret4 false))))
                  (some (ret4 false))))
                (some (ret4 false)))
               (some (ret4 false)))
              (some (ret4 false))))))))))))
    (some (ret4 false)))) := run4 F20 F21 F22 F23 F24 F25 F26 big a0 a1
end Go.Ev
