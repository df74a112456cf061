/- Functions, step by step. -/
import Derived.Test.YtphlkpahfcainaaGAxis
import Derived.Test.YtphlkpahfcainaaGAttrP
namespace Go.Ev
set_option linter.unusedVariables false
set_option maxRecDepth 100000
open Go.Proofs

/-! ### chancery/flow.Char -/
def sig120 : Sig := ⟨[.v false (.int .i64)], [], [(false, [.fr .bool])]⟩
def C120 (F : sig120.Fn) (a0 : Int) : Option sig120.Out := F (a0, ()) ()
def ret120 (v0 : Bool) : sig120.Out := (((v0, ()), ()), ())
def res120_0 (r : sig120.Out) : Bool := r.1.1.1
@[simp] theorem res120_0_ret (v0 : Bool) : res120_0 (ret120 v0) = v0 := rfl
def os120 : List (Nat × Ord) := []
def hs120 : List Keep := []
@[reducible] def env120 : Env := []
theorem run120 (n : Nat) (a0 : Int) : C120 (fun x y => run T (env120) os120 sig120 Try.f120 hs120 n x y) a0 =
  (bcond (((a0 : Int) == 9) == false)
   (bcond (((a0 : Int) == 10) == false)
    (bcond ((decide ((a0 : Int) ≥ 32)) == true)
     (bcond ((decide ((a0 : Int) < 127)) == false)
      (bcond ((decide ((a0 : Int) ≥ 160)) == true)
       (bcond ((decide ((a0 : Int) < 55296)) == false)
        (bcond ((decide ((a0 : Int) > 57343)) == true)
         (some (ret120 (decide ((a0 : Int) ≤ 1114111))))
         (some (ret120 false)))
        (some (ret120 true)))
       (bcond ((decide ((a0 : Int) > 57343)) == true)
        (some (ret120 (decide ((a0 : Int) ≤ 1114111))))
        (some (ret120 false))))
      (some (ret120 true)))
     (bcond ((decide ((a0 : Int) ≥ 160)) == true)
      (bcond ((decide ((a0 : Int) < 55296)) == false)
       (bcond ((decide ((a0 : Int) > 57343)) == true)
        (some (ret120 (decide ((a0 : Int) ≤ 1114111))))
        (some (ret120 false)))
       (some (ret120 true)))
      (bcond ((decide ((a0 : Int) > 57343)) == true)
       (some (ret120 (decide ((a0 : Int) ≤ 1114111))))
       (some (ret120 false)))))
    (some (ret120 true)))
   (some (ret120 true))) := by kernel_rfl
theorem ok120 : fnOk os120 sig120 Try.f120 = true := by kernel_rfl
theorem fn120 : P.funcs[120]? = some Try.f120 := by kernel_rfl
noncomputable def F120 : sig120.Fn := fun x y => run T (env120) os120 sig120 Try.f120 hs120 big x y
theorem S120 : Sound P 120 ⟨sig120, F120⟩ := sound_of (os := os120) (hs := hs120) (env_nil) fn120 ok120 (fun x y out h => ⟨big, h⟩)
theorem e120 (a0 : Int) : C120 F120 a0 =
  (bcond (((a0 : Int) == 9) == false)
   (bcond (((a0 : Int) == 10) == false)
    (bcond ((decide ((a0 : Int) ≥ 32)) == true)
     (bcond ((decide ((a0 : Int) < 127)) == false)
      (bcond ((decide ((a0 : Int) ≥ 160)) == true)
       (bcond ((decide ((a0 : Int) < 55296)) == false)
        (bcond ((decide ((a0 : Int) > 57343)) == true)
         (some (ret120 (decide ((a0 : Int) ≤ 1114111))))
         (some (ret120 false)))
        (some (ret120 true)))
       (bcond ((decide ((a0 : Int) > 57343)) == true)
        (some (ret120 (decide ((a0 : Int) ≤ 1114111))))
        (some (ret120 false))))
      (some (ret120 true)))
     (bcond ((decide ((a0 : Int) ≥ 160)) == true)
      (bcond ((decide ((a0 : Int) < 55296)) == false)
       (bcond ((decide ((a0 : Int) > 57343)) == true)
        (some (ret120 (decide ((a0 : Int) ≤ 1114111))))
        (some (ret120 false)))
       (some (ret120 true)))
      (bcond ((decide ((a0 : Int) > 57343)) == true)
       (some (ret120 (decide ((a0 : Int) ≤ 1114111))))
       (some (ret120 false)))))
    (some (ret120 true)))
   (some (ret120 true))) := run120 big a0

/-! ### chancery/flow.elem -/
def sig112 : Sig := ⟨[.v true YElem], [], [(false, [.fr (.int .i64)])]⟩
def C112 (F : sig112.Fn) (a0 : YElem.den) : Option sig112.Out := F (a0, ()) ()
def ret112 (v0 : Int) : sig112.Out := (((v0, ()), ()), ())
def res112_0 (r : sig112.Out) : Int := r.1.1.1
@[simp] theorem res112_0_ret (v0 : Int) : res112_0 (ret112 v0) = v0 := rfl
def os112 : List (Nat × Ord) := []
def hs112 : List Keep := []
@[reducible] def env112 (F120 : sig120.Fn) (F38 : sig38.Fn) : Env := [(120, ⟨sig120, F120⟩), (38, ⟨sig38, F38⟩)]
theorem run112 (F120 : sig120.Fn) (F38 : sig38.Fn) (n : Nat) (a0 : YElem.den) : C112 (fun x y => run T (env112 F120 F38) os112 sig112 Try.f112 hs112 n x y) a0 =
  (bcond ((((a0.1 : Int) != 0) : Bool) == ((a0.2.1 : Int) != 0))
   (some (ret112 4))
   (bcond (((a0.2.1 : Int) == 0) == true)
    ((C120 F120 a0.1).bind fun r1 =>
     (bcond (!(res120_0 r1))
      (some (ret112 2))
      (bcond (((a0.2.1 : Int) != 0) == true)
       (bcond ((decide ((a0.2.1 : Int) < 1)) == false)
        (bcond (decide ((a0.2.1 : Int) > 1073741824))
         (some (ret112 2))
         ((C38 F38 a0.2.2).bind fun r2 =>
          (some (ret112 (res38_0 r2)))))
        (some (ret112 2)))
       ((C38 F38 a0.2.2).bind fun r2 =>
        (some (ret112 (res38_0 r2)))))))
    (bcond (((a0.2.1 : Int) != 0) == true)
     (bcond ((decide ((a0.2.1 : Int) < 1)) == false)
      (bcond (decide ((a0.2.1 : Int) > 1073741824))
       (some (ret112 2))
       ((C38 F38 a0.2.2).bind fun r1 =>
        (some (ret112 (res38_0 r1)))))
      (some (ret112 2)))
     ((C38 F38 a0.2.2).bind fun r1 =>
      (some (ret112 (res38_0 r1))))))) := by kernel_rfl
theorem ok112 : fnOk os112 sig112 Try.f112 = true := by kernel_rfl
theorem fn112 : P.funcs[112]? = some Try.f112 := by kernel_rfl
noncomputable def F112 : sig112.Fn := fun x y => run T (env112 F120 F38) os112 sig112 Try.f112 hs112 big x y
theorem S112 : Sound P 112 ⟨sig112, F112⟩ := sound_of (os := os112) (hs := hs112) (env_cons S120 (env_cons S38 (env_nil))) fn112 ok112 (fun x y out h => ⟨big, h⟩)
theorem e112 (a0 : YElem.den) : C112 F112 a0 =
  (bcond ((((a0.1 : Int) != 0) : Bool) == ((a0.2.1 : Int) != 0))
   (some (ret112 4))
   (bcond (((a0.2.1 : Int) == 0) == true)
    ((C120 F120 a0.1).bind fun r1 =>
     (bcond (!(res120_0 r1))
      (some (ret112 2))
      (bcond (((a0.2.1 : Int) != 0) == true)
       (bcond ((decide ((a0.2.1 : Int) < 1)) == false)
        (bcond (decide ((a0.2.1 : Int) > 1073741824))
         (some (ret112 2))
         ((C38 F38 a0.2.2).bind fun r2 =>
          (some (ret112 (res38_0 r2)))))
        (some (ret112 2)))
       ((C38 F38 a0.2.2).bind fun r2 =>
        (some (ret112 (res38_0 r2)))))))
    (bcond (((a0.2.1 : Int) != 0) == true)
     (bcond ((decide ((a0.2.1 : Int) < 1)) == false)
      (bcond (decide ((a0.2.1 : Int) > 1073741824))
       (some (ret112 2))
       ((C38 F38 a0.2.2).bind fun r1 =>
        (some (ret112 (res38_0 r1)))))
      (some (ret112 2)))
     ((C38 F38 a0.2.2).bind fun r1 =>
      (some (ret112 (res38_0 r1))))))) := run112 F120 F38 big a0

/-! ### chancery/flow.CheckPart -/
def sig92 : Sig := ⟨[.v false (.list YElem)], [], [(false, [.fr (.int .i64)])]⟩
def C92 (F : sig92.Fn) (a0 : List YElem.den) : Option sig92.Out := F (a0, ()) ()
def ret92 (v0 : Int) : sig92.Out := (((v0, ()), ()), ())
def res92_0 (r : sig92.Out) : Int := r.1.1.1
@[simp] theorem res92_0_ret (v0 : Int) : res92_0 (ret92 v0) = v0 := rfl
def os92 : List (Nat × Ord) := []
def hs92 : List Keep := [[(6, []), (7, []), (8, [])]]
@[reducible] def env92 (F112 : sig112.Fn) : Env := [(112, ⟨sig112, F112⟩)]
noncomputable def L92_0 (F112 : sig112.Fn) (n m1 : Nat) (x6 : List YElem.den) (x7 : Int) (x8 : Int) : Option sig92.Out :=
  loopAt T (env92 F112) os92 sig92 Try.f92 hs92 n [.sr, .sl, .sr, .bl] m1 (mk 18 [(6, .cs false [.val (.list YElem) x6]), (7, .cs false [.val (.int .i64) x7]), (8, .cs false [.val (.int .i64) x8])])
theorem L92_0_step (F112 : sig112.Fn) (n m1 : Nat) (x6 : List YElem.den) (x7 : Int) (x8 : Int) : L92_0 F112 n (m1 + 1) x6 x7 x8 =
  (bcond (decide ((x8 : Int) < x7))
   (if 0 ≤ (x8 : Int) ∧ (x8 : Int) < (List.length x6 : Int) then
    ((C112 F112 (at_ (e := YElem) x6 x8)).bind fun r1 =>
     (bcond (((res112_0 r1) : Int) != 0)
      (some (ret92 (res112_0 r1)))
      (L92_0 F112 n m1 x6 x7 (IntKind.i64.wrap (x8 + 1)))))
   else none)
   (some (ret92 0))) := by kernel_rfl
theorem run92 (F112 : sig112.Fn) (n : Nat) (a0 : List YElem.den) : C92 (fun x y => run T (env92 F112) os92 sig92 Try.f92 hs92 n x y) a0 =
  (L92_0 F112 n n a0 (List.length a0 : Int) 0) := by kernel_rfl
theorem ok92 : fnOk os92 sig92 Try.f92 = true := by kernel_rfl
theorem fn92 : P.funcs[92]? = some Try.f92 := by kernel_rfl
noncomputable def F92 : sig92.Fn := fun x y => run T (env92 F112) os92 sig92 Try.f92 hs92 big x y
theorem S92 : Sound P 92 ⟨sig92, F92⟩ := sound_of (os := os92) (hs := hs92) (env_cons S112 (env_nil)) fn92 ok92 (fun x y out h => ⟨big, h⟩)
theorem e92 (a0 : List YElem.den) : C92 F92 a0 =
  (L92_0 F112 big big a0 (List.length a0 : Int) 0) := run92 F112 big a0

/-! ### chancery/track.Hidden -/
def sig113 : Sig := ⟨[.v true YElem, .v false (.int .i64)], [], [(false, [.fr .bool])]⟩
def C113 (F : sig113.Fn) (a0 : YElem.den) (a1 : Int) : Option sig113.Out := F (a0, a1, ()) ()
def ret113 (v0 : Bool) : sig113.Out := (((v0, ()), ()), ())
def res113_0 (r : sig113.Out) : Bool := r.1.1.1
@[simp] theorem res113_0_ret (v0 : Bool) : res113_0 (ret113 v0) = v0 := rfl
def os113 : List (Nat × Ord) := []
def hs113 : List Keep := []
@[reducible] def env113 (F41 : sig41.Fn) : Env := [(41, ⟨sig41, F41⟩)]
theorem run113 (F41 : sig41.Fn) (n : Nat) (a0 : YElem.den) (a1 : Int) : C113 (fun x y => run T (env113 F41) os113 sig113 Try.f113 hs113 n x y) a0 a1 =
  ((C41 F41 a0.2.2 [104, 105, 100, 100, 101, 110]).bind fun r1 =>
   (bcond ((((res41_0 r1) : List UInt8) == [111, 110]) == false)
    (bcond (((a1 : Int) == 0) == true)
     ((C41 F41 a0.2.2 [99, 117, 116]).bind fun r2 =>
      (bcond ((!(((res41_0 r2) : List UInt8) == [])) == false)
       (bcond (((a1 : Int) == 1) == true)
        ((C41 F41 a0.2.2 [97, 100, 100]).bind fun r3 =>
         (some (ret113 (!(((res41_0 r3) : List UInt8) == [])))))
        (some (ret113 false)))
       (some (ret113 true))))
     (bcond (((a1 : Int) == 1) == true)
      ((C41 F41 a0.2.2 [97, 100, 100]).bind fun r2 =>
       (some (ret113 (!(((res41_0 r2) : List UInt8) == [])))))
      (some (ret113 false))))
    (some (ret113 true)))) := by kernel_rfl
theorem ok113 : fnOk os113 sig113 Try.f113 = true := by kernel_rfl
theorem fn113 : P.funcs[113]? = some Try.f113 := by kernel_rfl
noncomputable def F113 : sig113.Fn := fun x y => run T (env113 F41) os113 sig113 Try.f113 hs113 big x y
theorem S113 : Sound P 113 ⟨sig113, F113⟩ := sound_of (os := os113) (hs := hs113) (env_cons S41 (env_nil)) fn113 ok113 (fun x y out h => ⟨big, h⟩)
theorem e113 (a0 : YElem.den) (a1 : Int) : C113 F113 a0 a1 =
  ((C41 F41 a0.2.2 [104, 105, 100, 100, 101, 110]).bind fun r1 =>
   (bcond ((((res41_0 r1) : List UInt8) == [111, 110]) == false)
    (bcond (((a1 : Int) == 0) == true)
     ((C41 F41 a0.2.2 [99, 117, 116]).bind fun r2 =>
      (bcond ((!(((res41_0 r2) : List UInt8) == [])) == false)
       (bcond (((a1 : Int) == 1) == true)
        ((C41 F41 a0.2.2 [97, 100, 100]).bind fun r3 =>
         (some (ret113 (!(((res41_0 r3) : List UInt8) == [])))))
        (some (ret113 false)))
       (some (ret113 true))))
     (bcond (((a1 : Int) == 1) == true)
      ((C41 F41 a0.2.2 [97, 100, 100]).bind fun r2 =>
       (some (ret113 (!(((res41_0 r2) : List UInt8) == [])))))
      (some (ret113 false))))
    (some (ret113 true)))) := run113 F41 big a0 a1

/-! ### chancery/track.Places -/
def sig93 : Sig := ⟨[.v false (.list YElem), .v false (.int .i64)], [], [(false, [.fr (.list (.int .i64))])]⟩
def C93 (F : sig93.Fn) (a0 : List YElem.den) (a1 : Int) : Option sig93.Out := F (a0, a1, ()) ()
def ret93 (v0 : List (Int)) : sig93.Out := (((v0, ()), ()), ())
def res93_0 (r : sig93.Out) : List (Int) := r.1.1.1
@[simp] theorem res93_0_ret (v0 : List (Int)) : res93_0 (ret93 v0) = v0 := rfl
def os93 : List (Nat × Ord) := []
def hs93 : List Keep := [[(0, []), (1, []), (5, [(0, 3, (.int .i64))]), (8, []), (9, []), (10, [])]]
@[reducible] def env93 (F113 : sig113.Fn) : Env := [(113, ⟨sig113, F113⟩)]
noncomputable def L93_0 (F113 : sig113.Fn) (n m1 : Nat) (x0 : List YElem.den) (x1 : Int) (x5 : List (Int)) (x8 : List YElem.den) (x9 : Int) (x10 : Int) : Option sig93.Out :=
  loopAt T (env93 F113) os93 sig93 Try.f93 hs93 n [.sr, .sr, .sl, .sr, .bl] m1 (mk 37 [(0, .cs false [.val (.list YElem) x0]), (1, .cs false [.val (.int .i64) x1]), (5, .cs false [.own 3 (.int .i64) x5]), (8, .cs false [.val (.list YElem) x8]), (9, .cs false [.val (.int .i64) x9]), (10, .cs false [.val (.int .i64) x10])])
theorem L93_0_step (F113 : sig113.Fn) (n m1 : Nat) (x0 : List YElem.den) (x1 : Int) (x5 : List (Int)) (x8 : List YElem.den) (x9 : Int) (x10 : Int) : L93_0 F113 n (m1 + 1) x0 x1 x5 x8 x9 x10 =
  (bcond (decide ((x10 : Int) < x9))
   (if 0 ≤ (x10 : Int) ∧ (x10 : Int) < (List.length x8 : Int) then
    ((C113 F113 (at_ (e := YElem) x8 x10) x1).bind fun r1 =>
     (bcond ((!(res113_0 r1)) == false)
      (bcond (((x10 : Int) == (IntKind.i64.wrap ((List.length x0 : Int) - 1))) == true)
       (bcond (((at_ (e := YElem) x8 x10).1 : Int) == 10)
        (if (List.length (x5 : List Int) + List.length ([x10] : List Int)) * 8 ≤ 140737488355328 then
         (L93_0 F113 n m1 x0 x1 (x5 ++ [x10]) x8 x9 (IntKind.i64.wrap (x10 + 1)))
        else none)
        (L93_0 F113 n m1 x0 x1 x5 x8 x9 (IntKind.i64.wrap (x10 + 1))))
       (L93_0 F113 n m1 x0 x1 x5 x8 x9 (IntKind.i64.wrap (x10 + 1))))
      (if (List.length (x5 : List Int) + List.length ([x10] : List Int)) * 8 ≤ 140737488355328 then
       (L93_0 F113 n m1 x0 x1 (x5 ++ [x10]) x8 x9 (IntKind.i64.wrap (x10 + 1)))
      else none)))
   else none)
   (some (ret93 x5))) := by kernel_rfl
theorem run93 (F113 : sig113.Fn) (n : Nat) (a0 : List YElem.den) (a1 : Int) : C93 (fun x y => run T (env93 F113) os93 sig93 Try.f93 hs93 n x y) a0 a1 =
  (L93_0 F113 n n a0 a1 [] a0 (List.length a0 : Int) 0) := by kernel_rfl
theorem ok93 : fnOk os93 sig93 Try.f93 = true := by kernel_rfl
theorem fn93 : P.funcs[93]? = some Try.f93 := by kernel_rfl
noncomputable def F93 : sig93.Fn := fun x y => run T (env93 F113) os93 sig93 Try.f93 hs93 big x y
theorem S93 : Sound P 93 ⟨sig93, F93⟩ := sound_of (os := os93) (hs := hs93) (env_cons S113 (env_nil)) fn93 ok93 (fun x y out h => ⟨big, h⟩)
theorem e93 (a0 : List YElem.den) (a1 : Int) : C93 F93 a0 a1 =
  (L93_0 F113 big big a0 a1 [] a0 (List.length a0 : Int) 0) := run93 F113 big a0 a1

/-! ### chancery/track.Shown -/
def sig49 : Sig := ⟨[.v false (.list YElem), .v false (.int .i64)], [], [(false, [.fr (.list (.int .i64))]), (false, [.fr (.int .i64)])]⟩
def C49 (F : sig49.Fn) (a0 : List YElem.den) (a1 : Int) : Option sig49.Out := F (a0, a1, ()) ()
def ret49 (v0 : List (Int)) (v1 : Int) : sig49.Out := (((v0, ()), (v1, ()), ()), ())
def res49_0 (r : sig49.Out) : List (Int) := r.1.1.1
@[simp] theorem res49_0_ret (v0 : List (Int)) (v1 : Int) : res49_0 (ret49 v0 v1) = v0 := rfl
def res49_1 (r : sig49.Out) : Int := r.1.2.1.1
@[simp] theorem res49_1_ret (v0 : List (Int)) (v1 : Int) : res49_1 (ret49 v0 v1) = v1 := rfl
def os49 : List (Nat × Ord) := []
def hs49 : List Keep := []
@[reducible] def env49 (F92 : sig92.Fn) (F93 : sig93.Fn) : Env := [(92, ⟨sig92, F92⟩), (93, ⟨sig93, F93⟩)]
theorem run49 (F92 : sig92.Fn) (F93 : sig93.Fn) (n : Nat) (a0 : List YElem.den) (a1 : Int) : C49 (fun x y => run T (env49 F92 F93) os49 sig49 Try.f49 hs49 n x y) a0 a1 =
  ((C92 F92 a0).bind fun r1 =>
   (bcond (((res92_0 r1) : Int) != 0)
    (some (ret49 [] (res92_0 r1)))
    (bcond ((decide ((a1 : Int) < 0)) == false)
     (bcond (decide ((a1 : Int) > 2))
      (some (ret49 [] 1))
      ((C93 F93 a0 a1).bind fun r2 =>
       (some (ret49 (res93_0 r2) 0))))
     (some (ret49 [] 1))))) := by kernel_rfl
theorem ok49 : fnOk os49 sig49 Try.f49 = true := by kernel_rfl
theorem fn49 : P.funcs[49]? = some Try.f49 := by kernel_rfl
noncomputable def F49 : sig49.Fn := fun x y => run T (env49 F92 F93) os49 sig49 Try.f49 hs49 big x y
theorem S49 : Sound P 49 ⟨sig49, F49⟩ := sound_of (os := os49) (hs := hs49) (env_cons S92 (env_cons S93 (env_nil))) fn49 ok49 (fun x y out h => ⟨big, h⟩)
theorem e49 (a0 : List YElem.den) (a1 : Int) : C49 F49 a0 a1 =
  ((C92 F92 a0).bind fun r1 =>
   (bcond (((res92_0 r1) : Int) != 0)
    (some (ret49 [] (res92_0 r1)))
    (bcond ((decide ((a1 : Int) < 0)) == false)
     (bcond (decide ((a1 : Int) > 2))
      (some (ret49 [] 1))
      ((C93 F93 a0 a1).bind fun r2 =>
       (some (ret49 (res93_0 r2) 0))))
     (some (ret49 [] 1))))) := run49 F92 F93 big a0 a1

/-! ### chancery/chancerylaw1.end -/
def sig91 : Sig := ⟨[], [], [(true, [.fr YElem])]⟩
def C91 (F : sig91.Fn) : Option sig91.Out := F () ()
def ret91 (v0 : YElem.den) : sig91.Out := (((v0, ()), ()), ())
def res91_0 (r : sig91.Out) : YElem.den := r.1.1.1
@[simp] theorem res91_0_ret (v0 : YElem.den) : res91_0 (ret91 v0) = v0 := rfl
def os91 : List (Nat × Ord) := []
def hs91 : List Keep := []
@[reducible] def env91 : Env := []
theorem run91 (n : Nat) : C91 (fun x y => run T (env91) os91 sig91 Try.f91 hs91 n x y) =
  (some (ret91 (10, (0, [])))) := by kernel_rfl
theorem ok91 : fnOk os91 sig91 Try.f91 = true := by kernel_rfl
theorem fn91 : P.funcs[91]? = some Try.f91 := by kernel_rfl
noncomputable def F91 : sig91.Fn := fun x y => run T (env91) os91 sig91 Try.f91 hs91 big x y
theorem S91 : Sound P 91 ⟨sig91, F91⟩ := sound_of (os := os91) (hs := hs91) (env_nil) fn91 ok91 (fun x y out h => ⟨big, h⟩)
theorem e91 : C91 F91 =
  (some (ret91 (10, (0, [])))) := run91 big

/-! ### chancery/chancerylaw1.tracks -/
def sig48 : Sig := ⟨[], [], [(false, [.fr .bool])]⟩
def C48 (F : sig48.Fn) : Option sig48.Out := F () ()
def ret48 (v0 : Bool) : sig48.Out := (((v0, ()), ()), ())
def res48_0 (r : sig48.Out) : Bool := r.1.1.1
@[simp] theorem res48_0_ret (v0 : Bool) : res48_0 (ret48 v0) = v0 := rfl
def os48 : List (Nat × Ord) := []
def hs48 : List Keep := []
@[reducible] def env48 (F91 : sig91.Fn) (F49 : sig49.Fn) (F34 : sig34.Fn) : Env := [(91, ⟨sig91, F91⟩), (49, ⟨sig49, F49⟩), (34, ⟨sig34, F34⟩)]
theorem run48 (F91 : sig91.Fn) (F49 : sig49.Fn) (F34 : sig34.Fn) (n : Nat) : C48 (fun x y => run T (env48 F91 F49 F34) os48 sig48 Try.f48 hs48 n x y) =
  ((C91 F91 ).bind fun r1 =>
   ((C49 F49 [(97, (0, [])), (98, (0, [([99, 117, 116], [120])])), (res91_0 r1)] 0).bind fun r2 =>
    (bcond ((((res49_1 r2) : Int) == 0) == true)
     ((C34 F34 (res49_0 r2) [0, 2]).bind fun r3 =>
      (some (ret48 (res34_0 r3))))
     (some (ret48 false))))) := by kernel_rfl
theorem ok48 : fnOk os48 sig48 Try.f48 = true := by kernel_rfl
theorem fn48 : P.funcs[48]? = some Try.f48 := by kernel_rfl
noncomputable def F48 : sig48.Fn := fun x y => run T (env48 F91 F49 F34) os48 sig48 Try.f48 hs48 big x y
theorem S48 : Sound P 48 ⟨sig48, F48⟩ := sound_of (os := os48) (hs := hs48) (env_cons S91 (env_cons S49 (env_cons S34 (env_nil)))) fn48 ok48 (fun x y out h => ⟨big, h⟩)
theorem e48 : C48 F48 =
  ((C91 F91 ).bind fun r1 =>
   ((C49 F49 [(97, (0, [])), (98, (0, [([99, 117, 116], [120])])), (res91_0 r1)] 0).bind fun r2 =>
    (bcond ((((res49_1 r2) : Int) == 0) == true)
     ((C34 F34 (res49_0 r2) [0, 2]).bind fun r3 =>
      (some (ret48 (res34_0 r3))))
     (some (ret48 false))))) := run48 F91 F49 F34 big

/-! ### chancery/track.Changes -/
def sig50 : Sig := ⟨[.v false (.list YElem)], [], [(false, [.fr (.list YSpan)]), (false, [.fr (.int .i64)])]⟩
def C50 (F : sig50.Fn) (a0 : List YElem.den) : Option sig50.Out := F (a0, ()) ()
def ret50 (v0 : List YSpan.den) (v1 : Int) : sig50.Out := (((v0, ()), (v1, ()), ()), ())
def res50_0 (r : sig50.Out) : List YSpan.den := r.1.1.1
@[simp] theorem res50_0_ret (v0 : List YSpan.den) (v1 : Int) : res50_0 (ret50 v0 v1) = v0 := rfl
def res50_1 (r : sig50.Out) : Int := r.1.2.1.1
@[simp] theorem res50_1_ret (v0 : List YSpan.den) (v1 : Int) : res50_1 (ret50 v0 v1) = v1 := rfl
def os50 : List (Nat × Ord) := [(8, .st 0 (.st 3 (.st 1 (.alt 2 (.st 4 (.st 5 (.st 6 (.st 7 (.nil))))) (.st 4 (.st 2 (.st 5 (.st 6 (.st 7 (.nil))))))))))]
def hs50 : List Keep := [[(0, []), (5, [(0, 38, YSpan)]), (16, []), (17, []), (18, [])]]
@[reducible] def env50 (F92 : sig92.Fn) (F41 : sig41.Fn) : Env := [(92, ⟨sig92, F92⟩), (41, ⟨sig41, F41⟩)]
noncomputable def L50_0 (F92 : sig92.Fn) (F41 : sig41.Fn) (n m1 : Nat) (x0 : List YElem.den) (x5 : List YSpan.den) (x16 : List YElem.den) (x17 : Int) (x18 : Int) : Option sig50.Out :=
  loopAt T (env50 F92 F41) os50 sig50 Try.f50 hs50 n [.sr, .sr, .sr, .sl, .sr, .bl] m1 (mk 88 [(0, .cs false [.val (.list YElem) x0]), (5, .cs false [.own 38 YSpan x5]), (16, .cs false [.val (.list YElem) x16]), (17, .cs false [.val (.int .i64) x17]), (18, .cs false [.val (.int .i64) x18])])
theorem L50_0_raw (F92 : sig92.Fn) (F41 : sig41.Fn) (n m1 : Nat) (x0 : List YElem.den) (x5 : List YSpan.den) (x16 : List YElem.den) (x17 : Int) (x18 : Int) : L50_0 F92 F41 n (m1 + 1) x0 x5 x16 x17 x18 =
  (bcond (decide ((x18 : Int) < x17))
   (if 0 ≤ (x18 : Int) ∧ (x18 : Int) < (List.length x16 : Int) then
    (agree
     ((C41 F41 (at_ (e := YElem) x16 x18).2.2 [97, 100, 100]).bind fun r1 =>
      ((C41 F41 (at_ (e := YElem) x16 x18).2.2 [99, 117, 116]).bind fun r2 =>
       (bcond ((((res41_0 r1) : List UInt8) == []) == true)
        (bcond (((res41_0 r2) : List UInt8) == [])
         (L50_0 F92 F41 n m1 x0 x5 x16 x17 (IntKind.i64.wrap (x18 + 1)))
         (bcond ((decide (((IntKind.i64.wrap ((List.length x5 : Int) - 1)) : Int) ≥ 0)) == true)
          (if 0 ≤ ((IntKind.i64.wrap ((List.length x5 : Int) - 1)) : Int) ∧ ((IntKind.i64.wrap ((List.length x5 : Int) - 1)) : Int) < (List.length x5 : Int) then
           (bcond ((((at_ (e := YSpan) x5 (IntKind.i64.wrap ((List.length x5 : Int) - 1))).2 : Int) == x18) == true)
            (if 0 ≤ ((IntKind.i64.wrap (x18 - 1)) : Int) ∧ ((IntKind.i64.wrap (x18 - 1)) : Int) < (List.length x0 : Int) then
             ((C41 F41 (at_ (e := YElem) x0 (IntKind.i64.wrap (x18 - 1))).2.2 [97, 100, 100]).bind fun r3 =>
              (bcond ((((res41_0 r3) : List UInt8) == (res41_0 r1)) == true)
               (if 0 ≤ ((IntKind.i64.wrap (x18 - 1)) : Int) ∧ ((IntKind.i64.wrap (x18 - 1)) : Int) < (List.length x0 : Int) then
                ((C41 F41 (at_ (e := YElem) x0 (IntKind.i64.wrap (x18 - 1))).2.2 [99, 117, 116]).bind fun r4 =>
                 (bcond (((res41_0 r4) : List UInt8) == (res41_0 r2))
                  (if 0 ≤ ((IntKind.i64.wrap ((List.length x5 : Int) - 1)) : Int) ∧ ((IntKind.i64.wrap ((List.length x5 : Int) - 1)) : Int) < (List.length x5 : Int) then
                   (if 0 ≤ ((IntKind.i64.wrap ((List.length x5 : Int) - 1)) : Int) ∧ ((IntKind.i64.wrap ((List.length x5 : Int) - 1)) : Int) < (List.length x5 : Int) then
                    (L50_0 F92 F41 n m1 x0 (List.set x5 (Int.toNat (IntKind.i64.wrap ((List.length x5 : Int) - 1))) ((at_ (e := YSpan) x5 (IntKind.i64.wrap ((List.length x5 : Int) - 1))).1, (IntKind.i64.wrap ((at_ (e := YSpan) x5 (IntKind.i64.wrap ((List.length x5 : Int) - 1))).2 + 1)))) x16 x17 (IntKind.i64.wrap (x18 + 1)))
                   else none)
                  else none)
                  (if (List.length (x5 : List YSpan.den) + List.length ([(x18, (IntKind.i64.wrap (x18 + 1)))] : List YSpan.den)) * 16 ≤ 140737488355328 then
                   (L50_0 F92 F41 n m1 x0 (x5 ++ [(x18, (IntKind.i64.wrap (x18 + 1)))]) x16 x17 (IntKind.i64.wrap (x18 + 1)))
                  else none)))
               else none)
               (if (List.length (x5 : List YSpan.den) + List.length ([(x18, (IntKind.i64.wrap (x18 + 1)))] : List YSpan.den)) * 16 ≤ 140737488355328 then
                (L50_0 F92 F41 n m1 x0 (x5 ++ [(x18, (IntKind.i64.wrap (x18 + 1)))]) x16 x17 (IntKind.i64.wrap (x18 + 1)))
               else none)))
            else none)
            (if (List.length (x5 : List YSpan.den) + List.length ([(x18, (IntKind.i64.wrap (x18 + 1)))] : List YSpan.den)) * 16 ≤ 140737488355328 then
             (L50_0 F92 F41 n m1 x0 (x5 ++ [(x18, (IntKind.i64.wrap (x18 + 1)))]) x16 x17 (IntKind.i64.wrap (x18 + 1)))
            else none))
          else none)
          (if (List.length (x5 : List YSpan.den) + List.length ([(x18, (IntKind.i64.wrap (x18 + 1)))] : List YSpan.den)) * 16 ≤ 140737488355328 then
           (L50_0 F92 F41 n m1 x0 (x5 ++ [(x18, (IntKind.i64.wrap (x18 + 1)))]) x16 x17 (IntKind.i64.wrap (x18 + 1)))
          else none)))
        (bcond ((decide (((IntKind.i64.wrap ((List.length x5 : Int) - 1)) : Int) ≥ 0)) == true)
         (if 0 ≤ ((IntKind.i64.wrap ((List.length x5 : Int) - 1)) : Int) ∧ ((IntKind.i64.wrap ((List.length x5 : Int) - 1)) : Int) < (List.length x5 : Int) then
          (bcond ((((at_ (e := YSpan) x5 (IntKind.i64.wrap ((List.length x5 : Int) - 1))).2 : Int) == x18) == true)
           (if 0 ≤ ((IntKind.i64.wrap (x18 - 1)) : Int) ∧ ((IntKind.i64.wrap (x18 - 1)) : Int) < (List.length x0 : Int) then
            ((C41 F41 (at_ (e := YElem) x0 (IntKind.i64.wrap (x18 - 1))).2.2 [97, 100, 100]).bind fun r3 =>
             (bcond ((((res41_0 r3) : List UInt8) == (res41_0 r1)) == true)
              (if 0 ≤ ((IntKind.i64.wrap (x18 - 1)) : Int) ∧ ((IntKind.i64.wrap (x18 - 1)) : Int) < (List.length x0 : Int) then
               ((C41 F41 (at_ (e := YElem) x0 (IntKind.i64.wrap (x18 - 1))).2.2 [99, 117, 116]).bind fun r4 =>
                (bcond (((res41_0 r4) : List UInt8) == (res41_0 r2))
                 (if 0 ≤ ((IntKind.i64.wrap ((List.length x5 : Int) - 1)) : Int) ∧ ((IntKind.i64.wrap ((List.length x5 : Int) - 1)) : Int) < (List.length x5 : Int) then
                  (if 0 ≤ ((IntKind.i64.wrap ((List.length x5 : Int) - 1)) : Int) ∧ ((IntKind.i64.wrap ((List.length x5 : Int) - 1)) : Int) < (List.length x5 : Int) then
                   (L50_0 F92 F41 n m1 x0 (List.set x5 (Int.toNat (IntKind.i64.wrap ((List.length x5 : Int) - 1))) ((at_ (e := YSpan) x5 (IntKind.i64.wrap ((List.length x5 : Int) - 1))).1, (IntKind.i64.wrap ((at_ (e := YSpan) x5 (IntKind.i64.wrap ((List.length x5 : Int) - 1))).2 + 1)))) x16 x17 (IntKind.i64.wrap (x18 + 1)))
                  else none)
                 else none)
                 (if (List.length (x5 : List YSpan.den) + List.length ([(x18, (IntKind.i64.wrap (x18 + 1)))] : List YSpan.den)) * 16 ≤ 140737488355328 then
                  (L50_0 F92 F41 n m1 x0 (x5 ++ [(x18, (IntKind.i64.wrap (x18 + 1)))]) x16 x17 (IntKind.i64.wrap (x18 + 1)))
                 else none)))
              else none)
              (if (List.length (x5 : List YSpan.den) + List.length ([(x18, (IntKind.i64.wrap (x18 + 1)))] : List YSpan.den)) * 16 ≤ 140737488355328 then
               (L50_0 F92 F41 n m1 x0 (x5 ++ [(x18, (IntKind.i64.wrap (x18 + 1)))]) x16 x17 (IntKind.i64.wrap (x18 + 1)))
              else none)))
           else none)
           (if (List.length (x5 : List YSpan.den) + List.length ([(x18, (IntKind.i64.wrap (x18 + 1)))] : List YSpan.den)) * 16 ≤ 140737488355328 then
            (L50_0 F92 F41 n m1 x0 (x5 ++ [(x18, (IntKind.i64.wrap (x18 + 1)))]) x16 x17 (IntKind.i64.wrap (x18 + 1)))
           else none))
         else none)
         (if (List.length (x5 : List YSpan.den) + List.length ([(x18, (IntKind.i64.wrap (x18 + 1)))] : List YSpan.den)) * 16 ≤ 140737488355328 then
          (L50_0 F92 F41 n m1 x0 (x5 ++ [(x18, (IntKind.i64.wrap (x18 + 1)))]) x16 x17 (IntKind.i64.wrap (x18 + 1)))
         else none)))))
     ((C41 F41 (at_ (e := YElem) x16 x18).2.2 [97, 100, 100]).bind fun r1 =>
      ((C41 F41 (at_ (e := YElem) x16 x18).2.2 [99, 117, 116]).bind fun r2 =>
       (bcond ((((res41_0 r1) : List UInt8) == []) == true)
        (bcond (((res41_0 r2) : List UInt8) == [])
         (L50_0 F92 F41 n m1 x0 x5 x16 x17 (IntKind.i64.wrap (x18 + 1)))
         (bcond ((decide (((IntKind.i64.wrap ((List.length x5 : Int) - 1)) : Int) ≥ 0)) == true)
          (if 0 ≤ ((IntKind.i64.wrap ((List.length x5 : Int) - 1)) : Int) ∧ ((IntKind.i64.wrap ((List.length x5 : Int) - 1)) : Int) < (List.length x5 : Int) then
           (bcond ((((at_ (e := YSpan) x5 (IntKind.i64.wrap ((List.length x5 : Int) - 1))).2 : Int) == x18) == true)
            (if 0 ≤ ((IntKind.i64.wrap (x18 - 1)) : Int) ∧ ((IntKind.i64.wrap (x18 - 1)) : Int) < (List.length x0 : Int) then
             ((C41 F41 (at_ (e := YElem) x0 (IntKind.i64.wrap (x18 - 1))).2.2 [97, 100, 100]).bind fun r3 =>
              (bcond ((((res41_0 r3) : List UInt8) == (res41_0 r1)) == true)
               (if 0 ≤ ((IntKind.i64.wrap (x18 - 1)) : Int) ∧ ((IntKind.i64.wrap (x18 - 1)) : Int) < (List.length x0 : Int) then
                ((C41 F41 (at_ (e := YElem) x0 (IntKind.i64.wrap (x18 - 1))).2.2 [99, 117, 116]).bind fun r4 =>
                 (bcond (((res41_0 r4) : List UInt8) == (res41_0 r2))
                  (if 0 ≤ ((IntKind.i64.wrap ((List.length x5 : Int) - 1)) : Int) ∧ ((IntKind.i64.wrap ((List.length x5 : Int) - 1)) : Int) < (List.length x5 : Int) then
                   (if 0 ≤ ((IntKind.i64.wrap ((List.length x5 : Int) - 1)) : Int) ∧ ((IntKind.i64.wrap ((List.length x5 : Int) - 1)) : Int) < (List.length x5 : Int) then
                    (L50_0 F92 F41 n m1 x0 (List.set x5 (Int.toNat (IntKind.i64.wrap ((List.length x5 : Int) - 1))) ((at_ (e := YSpan) x5 (IntKind.i64.wrap ((List.length x5 : Int) - 1))).1, (IntKind.i64.wrap ((at_ (e := YSpan) x5 (IntKind.i64.wrap ((List.length x5 : Int) - 1))).2 + 1)))) x16 x17 (IntKind.i64.wrap (x18 + 1)))
                   else none)
                  else none)
                  (if (List.length (x5 : List YSpan.den) + List.length ([(x18, (IntKind.i64.wrap (x18 + 1)))] : List YSpan.den)) * 16 ≤ 140737488355328 then
                   (L50_0 F92 F41 n m1 x0 (x5 ++ [(x18, (IntKind.i64.wrap (x18 + 1)))]) x16 x17 (IntKind.i64.wrap (x18 + 1)))
                  else none)))
               else none)
               (if (List.length (x5 : List YSpan.den) + List.length ([(x18, (IntKind.i64.wrap (x18 + 1)))] : List YSpan.den)) * 16 ≤ 140737488355328 then
                (L50_0 F92 F41 n m1 x0 (x5 ++ [(x18, (IntKind.i64.wrap (x18 + 1)))]) x16 x17 (IntKind.i64.wrap (x18 + 1)))
               else none)))
            else none)
            (if (List.length (x5 : List YSpan.den) + List.length ([(x18, (IntKind.i64.wrap (x18 + 1)))] : List YSpan.den)) * 16 ≤ 140737488355328 then
             (L50_0 F92 F41 n m1 x0 (x5 ++ [(x18, (IntKind.i64.wrap (x18 + 1)))]) x16 x17 (IntKind.i64.wrap (x18 + 1)))
            else none))
          else none)
          (if (List.length (x5 : List YSpan.den) + List.length ([(x18, (IntKind.i64.wrap (x18 + 1)))] : List YSpan.den)) * 16 ≤ 140737488355328 then
           (L50_0 F92 F41 n m1 x0 (x5 ++ [(x18, (IntKind.i64.wrap (x18 + 1)))]) x16 x17 (IntKind.i64.wrap (x18 + 1)))
          else none)))
        (bcond ((decide (((IntKind.i64.wrap ((List.length x5 : Int) - 1)) : Int) ≥ 0)) == true)
         (if 0 ≤ ((IntKind.i64.wrap ((List.length x5 : Int) - 1)) : Int) ∧ ((IntKind.i64.wrap ((List.length x5 : Int) - 1)) : Int) < (List.length x5 : Int) then
          (bcond ((((at_ (e := YSpan) x5 (IntKind.i64.wrap ((List.length x5 : Int) - 1))).2 : Int) == x18) == true)
           (if 0 ≤ ((IntKind.i64.wrap (x18 - 1)) : Int) ∧ ((IntKind.i64.wrap (x18 - 1)) : Int) < (List.length x0 : Int) then
            ((C41 F41 (at_ (e := YElem) x0 (IntKind.i64.wrap (x18 - 1))).2.2 [97, 100, 100]).bind fun r3 =>
             (bcond ((((res41_0 r3) : List UInt8) == (res41_0 r1)) == true)
              (if 0 ≤ ((IntKind.i64.wrap (x18 - 1)) : Int) ∧ ((IntKind.i64.wrap (x18 - 1)) : Int) < (List.length x0 : Int) then
               ((C41 F41 (at_ (e := YElem) x0 (IntKind.i64.wrap (x18 - 1))).2.2 [99, 117, 116]).bind fun r4 =>
                (bcond (((res41_0 r4) : List UInt8) == (res41_0 r2))
                 (if 0 ≤ ((IntKind.i64.wrap ((List.length x5 : Int) - 1)) : Int) ∧ ((IntKind.i64.wrap ((List.length x5 : Int) - 1)) : Int) < (List.length x5 : Int) then
                  (if 0 ≤ ((IntKind.i64.wrap ((List.length x5 : Int) - 1)) : Int) ∧ ((IntKind.i64.wrap ((List.length x5 : Int) - 1)) : Int) < (List.length x5 : Int) then
                   (L50_0 F92 F41 n m1 x0 (List.set x5 (Int.toNat (IntKind.i64.wrap ((List.length x5 : Int) - 1))) ((at_ (e := YSpan) x5 (IntKind.i64.wrap ((List.length x5 : Int) - 1))).1, (IntKind.i64.wrap ((at_ (e := YSpan) x5 (IntKind.i64.wrap ((List.length x5 : Int) - 1))).2 + 1)))) x16 x17 (IntKind.i64.wrap (x18 + 1)))
                  else none)
                 else none)
                 (if (List.length (x5 : List YSpan.den) + List.length ([(x18, (IntKind.i64.wrap (x18 + 1)))] : List YSpan.den)) * 16 ≤ 140737488355328 then
                  (L50_0 F92 F41 n m1 x0 (x5 ++ [(x18, (IntKind.i64.wrap (x18 + 1)))]) x16 x17 (IntKind.i64.wrap (x18 + 1)))
                 else none)))
              else none)
              (if (List.length (x5 : List YSpan.den) + List.length ([(x18, (IntKind.i64.wrap (x18 + 1)))] : List YSpan.den)) * 16 ≤ 140737488355328 then
               (L50_0 F92 F41 n m1 x0 (x5 ++ [(x18, (IntKind.i64.wrap (x18 + 1)))]) x16 x17 (IntKind.i64.wrap (x18 + 1)))
              else none)))
           else none)
           (if (List.length (x5 : List YSpan.den) + List.length ([(x18, (IntKind.i64.wrap (x18 + 1)))] : List YSpan.den)) * 16 ≤ 140737488355328 then
            (L50_0 F92 F41 n m1 x0 (x5 ++ [(x18, (IntKind.i64.wrap (x18 + 1)))]) x16 x17 (IntKind.i64.wrap (x18 + 1)))
           else none))
         else none)
         (if (List.length (x5 : List YSpan.den) + List.length ([(x18, (IntKind.i64.wrap (x18 + 1)))] : List YSpan.den)) * 16 ≤ 140737488355328 then
          (L50_0 F92 F41 n m1 x0 (x5 ++ [(x18, (IntKind.i64.wrap (x18 + 1)))]) x16 x17 (IntKind.i64.wrap (x18 + 1)))
         else none))))))
   else none)
   (some (ret50 x5 0))) := by kernel_rfl
theorem L50_0_step (F92 : sig92.Fn) (F41 : sig41.Fn) (n m1 : Nat) (x0 : List YElem.den) (x5 : List YSpan.den) (x16 : List YElem.den) (x17 : Int) (x18 : Int) : L50_0 F92 F41 n (m1 + 1) x0 x5 x16 x17 x18 =
  (bcond (decide ((x18 : Int) < x17))
   (if 0 ≤ (x18 : Int) ∧ (x18 : Int) < (List.length x16 : Int) then
    ((C41 F41 (at_ (e := YElem) x16 x18).2.2 [97, 100, 100]).bind fun r1 =>
     ((C41 F41 (at_ (e := YElem) x16 x18).2.2 [99, 117, 116]).bind fun r2 =>
      (bcond ((((res41_0 r1) : List UInt8) == []) == true)
       (bcond (((res41_0 r2) : List UInt8) == [])
        (L50_0 F92 F41 n m1 x0 x5 x16 x17 (IntKind.i64.wrap (x18 + 1)))
        (bcond ((decide (((IntKind.i64.wrap ((List.length x5 : Int) - 1)) : Int) ≥ 0)) == true)
         (if 0 ≤ ((IntKind.i64.wrap ((List.length x5 : Int) - 1)) : Int) ∧ ((IntKind.i64.wrap ((List.length x5 : Int) - 1)) : Int) < (List.length x5 : Int) then
          (bcond ((((at_ (e := YSpan) x5 (IntKind.i64.wrap ((List.length x5 : Int) - 1))).2 : Int) == x18) == true)
           (if 0 ≤ ((IntKind.i64.wrap (x18 - 1)) : Int) ∧ ((IntKind.i64.wrap (x18 - 1)) : Int) < (List.length x0 : Int) then
            ((C41 F41 (at_ (e := YElem) x0 (IntKind.i64.wrap (x18 - 1))).2.2 [97, 100, 100]).bind fun r3 =>
             (bcond ((((res41_0 r3) : List UInt8) == (res41_0 r1)) == true)
              (if 0 ≤ ((IntKind.i64.wrap (x18 - 1)) : Int) ∧ ((IntKind.i64.wrap (x18 - 1)) : Int) < (List.length x0 : Int) then
               ((C41 F41 (at_ (e := YElem) x0 (IntKind.i64.wrap (x18 - 1))).2.2 [99, 117, 116]).bind fun r4 =>
                (bcond (((res41_0 r4) : List UInt8) == (res41_0 r2))
                 (if 0 ≤ ((IntKind.i64.wrap ((List.length x5 : Int) - 1)) : Int) ∧ ((IntKind.i64.wrap ((List.length x5 : Int) - 1)) : Int) < (List.length x5 : Int) then
                  (if 0 ≤ ((IntKind.i64.wrap ((List.length x5 : Int) - 1)) : Int) ∧ ((IntKind.i64.wrap ((List.length x5 : Int) - 1)) : Int) < (List.length x5 : Int) then
                   (L50_0 F92 F41 n m1 x0 (List.set x5 (Int.toNat (IntKind.i64.wrap ((List.length x5 : Int) - 1))) ((at_ (e := YSpan) x5 (IntKind.i64.wrap ((List.length x5 : Int) - 1))).1, (IntKind.i64.wrap ((at_ (e := YSpan) x5 (IntKind.i64.wrap ((List.length x5 : Int) - 1))).2 + 1)))) x16 x17 (IntKind.i64.wrap (x18 + 1)))
                  else none)
                 else none)
                 (if (List.length (x5 : List YSpan.den) + List.length ([(x18, (IntKind.i64.wrap (x18 + 1)))] : List YSpan.den)) * 16 ≤ 140737488355328 then
                  (L50_0 F92 F41 n m1 x0 (x5 ++ [(x18, (IntKind.i64.wrap (x18 + 1)))]) x16 x17 (IntKind.i64.wrap (x18 + 1)))
                 else none)))
              else none)
              (if (List.length (x5 : List YSpan.den) + List.length ([(x18, (IntKind.i64.wrap (x18 + 1)))] : List YSpan.den)) * 16 ≤ 140737488355328 then
               (L50_0 F92 F41 n m1 x0 (x5 ++ [(x18, (IntKind.i64.wrap (x18 + 1)))]) x16 x17 (IntKind.i64.wrap (x18 + 1)))
              else none)))
           else none)
           (if (List.length (x5 : List YSpan.den) + List.length ([(x18, (IntKind.i64.wrap (x18 + 1)))] : List YSpan.den)) * 16 ≤ 140737488355328 then
            (L50_0 F92 F41 n m1 x0 (x5 ++ [(x18, (IntKind.i64.wrap (x18 + 1)))]) x16 x17 (IntKind.i64.wrap (x18 + 1)))
           else none))
         else none)
         (if (List.length (x5 : List YSpan.den) + List.length ([(x18, (IntKind.i64.wrap (x18 + 1)))] : List YSpan.den)) * 16 ≤ 140737488355328 then
          (L50_0 F92 F41 n m1 x0 (x5 ++ [(x18, (IntKind.i64.wrap (x18 + 1)))]) x16 x17 (IntKind.i64.wrap (x18 + 1)))
         else none)))
       (bcond ((decide (((IntKind.i64.wrap ((List.length x5 : Int) - 1)) : Int) ≥ 0)) == true)
        (if 0 ≤ ((IntKind.i64.wrap ((List.length x5 : Int) - 1)) : Int) ∧ ((IntKind.i64.wrap ((List.length x5 : Int) - 1)) : Int) < (List.length x5 : Int) then
         (bcond ((((at_ (e := YSpan) x5 (IntKind.i64.wrap ((List.length x5 : Int) - 1))).2 : Int) == x18) == true)
          (if 0 ≤ ((IntKind.i64.wrap (x18 - 1)) : Int) ∧ ((IntKind.i64.wrap (x18 - 1)) : Int) < (List.length x0 : Int) then
           ((C41 F41 (at_ (e := YElem) x0 (IntKind.i64.wrap (x18 - 1))).2.2 [97, 100, 100]).bind fun r3 =>
            (bcond ((((res41_0 r3) : List UInt8) == (res41_0 r1)) == true)
             (if 0 ≤ ((IntKind.i64.wrap (x18 - 1)) : Int) ∧ ((IntKind.i64.wrap (x18 - 1)) : Int) < (List.length x0 : Int) then
              ((C41 F41 (at_ (e := YElem) x0 (IntKind.i64.wrap (x18 - 1))).2.2 [99, 117, 116]).bind fun r4 =>
               (bcond (((res41_0 r4) : List UInt8) == (res41_0 r2))
                (if 0 ≤ ((IntKind.i64.wrap ((List.length x5 : Int) - 1)) : Int) ∧ ((IntKind.i64.wrap ((List.length x5 : Int) - 1)) : Int) < (List.length x5 : Int) then
                 (if 0 ≤ ((IntKind.i64.wrap ((List.length x5 : Int) - 1)) : Int) ∧ ((IntKind.i64.wrap ((List.length x5 : Int) - 1)) : Int) < (List.length x5 : Int) then
                  (L50_0 F92 F41 n m1 x0 (List.set x5 (Int.toNat (IntKind.i64.wrap ((List.length x5 : Int) - 1))) ((at_ (e := YSpan) x5 (IntKind.i64.wrap ((List.length x5 : Int) - 1))).1, (IntKind.i64.wrap ((at_ (e := YSpan) x5 (IntKind.i64.wrap ((List.length x5 : Int) - 1))).2 + 1)))) x16 x17 (IntKind.i64.wrap (x18 + 1)))
                 else none)
                else none)
                (if (List.length (x5 : List YSpan.den) + List.length ([(x18, (IntKind.i64.wrap (x18 + 1)))] : List YSpan.den)) * 16 ≤ 140737488355328 then
                 (L50_0 F92 F41 n m1 x0 (x5 ++ [(x18, (IntKind.i64.wrap (x18 + 1)))]) x16 x17 (IntKind.i64.wrap (x18 + 1)))
                else none)))
             else none)
             (if (List.length (x5 : List YSpan.den) + List.length ([(x18, (IntKind.i64.wrap (x18 + 1)))] : List YSpan.den)) * 16 ≤ 140737488355328 then
              (L50_0 F92 F41 n m1 x0 (x5 ++ [(x18, (IntKind.i64.wrap (x18 + 1)))]) x16 x17 (IntKind.i64.wrap (x18 + 1)))
             else none)))
          else none)
          (if (List.length (x5 : List YSpan.den) + List.length ([(x18, (IntKind.i64.wrap (x18 + 1)))] : List YSpan.den)) * 16 ≤ 140737488355328 then
           (L50_0 F92 F41 n m1 x0 (x5 ++ [(x18, (IntKind.i64.wrap (x18 + 1)))]) x16 x17 (IntKind.i64.wrap (x18 + 1)))
          else none))
        else none)
        (if (List.length (x5 : List YSpan.den) + List.length ([(x18, (IntKind.i64.wrap (x18 + 1)))] : List YSpan.den)) * 16 ≤ 140737488355328 then
         (L50_0 F92 F41 n m1 x0 (x5 ++ [(x18, (IntKind.i64.wrap (x18 + 1)))]) x16 x17 (IntKind.i64.wrap (x18 + 1)))
        else none)))))
   else none)
   (some (ret50 x5 0))) := by rw [L50_0_raw]; simp only [agree_self]
theorem run50 (F92 : sig92.Fn) (F41 : sig41.Fn) (n : Nat) (a0 : List YElem.den) : C50 (fun x y => run T (env50 F92 F41) os50 sig50 Try.f50 hs50 n x y) a0 =
  ((C92 F92 a0).bind fun r1 =>
   (bcond (((res92_0 r1) : Int) != 0)
    (some (ret50 [] (res92_0 r1)))
    (L50_0 F92 F41 n n a0 [] a0 (List.length a0 : Int) 0))) := by kernel_rfl
theorem ok50 : fnOk os50 sig50 Try.f50 = true := by kernel_rfl
theorem fn50 : P.funcs[50]? = some Try.f50 := by kernel_rfl
noncomputable def F50 : sig50.Fn := fun x y => run T (env50 F92 F41) os50 sig50 Try.f50 hs50 big x y
theorem S50 : Sound P 50 ⟨sig50, F50⟩ := sound_of (os := os50) (hs := hs50) (env_cons S92 (env_cons S41 (env_nil))) fn50 ok50 (fun x y out h => ⟨big, h⟩)
theorem e50 (a0 : List YElem.den) : C50 F50 a0 =
  ((C92 F92 a0).bind fun r1 =>
   (bcond (((res92_0 r1) : Int) != 0)
    (some (ret50 [] (res92_0 r1)))
    (L50_0 F92 F41 big big a0 [] a0 (List.length a0 : Int) 0))) := run50 F92 F41 big a0

/-! ### chancery/chanceryref1.Char -/
def sig114 : Sig := ⟨[.v false (.int .i64)], [], [(false, [.fr .bool])]⟩
def C114 (F : sig114.Fn) (a0 : Int) : Option sig114.Out := F (a0, ()) ()
def ret114 (v0 : Bool) : sig114.Out := (((v0, ()), ()), ())
def res114_0 (r : sig114.Out) : Bool := r.1.1.1
@[simp] theorem res114_0_ret (v0 : Bool) : res114_0 (ret114 v0) = v0 := rfl
def os114 : List (Nat × Ord) := []
def hs114 : List Keep := []
@[reducible] def env114 (F32 : sig32.Fn) : Env := [(32, ⟨sig32, F32⟩)]
theorem run114 (F32 : sig32.Fn) (n : Nat) (a0 : Int) : C114 (fun x y => run T (env114 F32) os114 sig114 Try.f114 hs114 n x y) a0 =
  (bcond (((a0 : Int) == 9) == false)
   (bcond (((a0 : Int) == 10) == false)
    ((C32 F32 a0 32 126).bind fun r1 =>
     (bcond ((res32_0 r1) == false)
      ((C32 F32 a0 160 55295).bind fun r2 =>
       (bcond ((res32_0 r2) == false)
        ((C32 F32 a0 57344 1114111).bind fun r3 =>
         (some (ret114 (res32_0 r3))))
        (some (ret114 true))))
      (some (ret114 true))))
    (some (ret114 true)))
   (some (ret114 true))) := by kernel_rfl
theorem ok114 : fnOk os114 sig114 Try.f114 = true := by kernel_rfl
theorem fn114 : P.funcs[114]? = some Try.f114 := by kernel_rfl
noncomputable def F114 : sig114.Fn := fun x y => run T (env114 F32) os114 sig114 Try.f114 hs114 big x y
theorem S114 : Sound P 114 ⟨sig114, F114⟩ := sound_of (os := os114) (hs := hs114) (env_cons S32 (env_nil)) fn114 ok114 (fun x y out h => ⟨big, h⟩)
theorem e114 (a0 : Int) : C114 F114 a0 =
  (bcond (((a0 : Int) == 9) == false)
   (bcond (((a0 : Int) == 10) == false)
    ((C32 F32 a0 32 126).bind fun r1 =>
     (bcond ((res32_0 r1) == false)
      ((C32 F32 a0 160 55295).bind fun r2 =>
       (bcond ((res32_0 r2) == false)
        ((C32 F32 a0 57344 1114111).bind fun r3 =>
         (some (ret114 (res32_0 r3))))
        (some (ret114 true))))
      (some (ret114 true))))
    (some (ret114 true)))
   (some (ret114 true))) := run114 F32 big a0

/-! ### chancery/chanceryref1.ElemError -/
def sig94 : Sig := ⟨[.v true YElem], [], [(false, [.fr (.int .i64)])]⟩
def C94 (F : sig94.Fn) (a0 : YElem.den) : Option sig94.Out := F (a0, ()) ()
def ret94 (v0 : Int) : sig94.Out := (((v0, ()), ()), ())
def res94_0 (r : sig94.Out) : Int := r.1.1.1
@[simp] theorem res94_0_ret (v0 : Int) : res94_0 (ret94 v0) = v0 := rfl
def os94 : List (Nat × Ord) := []
def hs94 : List Keep := []
@[reducible] def env94 (F114 : sig114.Fn) (F32 : sig32.Fn) (F39 : sig39.Fn) : Env := [(114, ⟨sig114, F114⟩), (32, ⟨sig32, F32⟩), (39, ⟨sig39, F39⟩)]
theorem run94 (F114 : sig114.Fn) (F32 : sig32.Fn) (F39 : sig39.Fn) (n : Nat) (a0 : YElem.den) : C94 (fun x y => run T (env94 F114 F32 F39) os94 sig94 Try.f94 hs94 n x y) a0 =
  (bcond (((a0.1 : Int) == 0) == true)
   (bcond (((a0.2.1 : Int) == 0) == false)
    (bcond (((a0.1 : Int) != 0) == true)
     (bcond ((a0.2.1 : Int) != 0)
      (some (ret94 4))
      (bcond (((a0.1 : Int) != 0) == true)
       ((C114 F114 a0.1).bind fun r1 =>
        (bcond ((!(res114_0 r1)) == false)
         (bcond (((a0.2.1 : Int) != 0) == true)
          ((C32 F32 a0.2.1 1 1073741824).bind fun r2 =>
           (bcond (!(res32_0 r2))
            (some (ret94 2))
            ((C39 F39 a0.2.2 false).bind fun r3 =>
             (some (ret94 (res39_0 r3))))))
          ((C39 F39 a0.2.2 false).bind fun r2 =>
           (some (ret94 (res39_0 r2)))))
         (some (ret94 2))))
       (bcond (((a0.2.1 : Int) != 0) == true)
        ((C32 F32 a0.2.1 1 1073741824).bind fun r1 =>
         (bcond (!(res32_0 r1))
          (some (ret94 2))
          ((C39 F39 a0.2.2 false).bind fun r2 =>
           (some (ret94 (res39_0 r2))))))
        ((C39 F39 a0.2.2 false).bind fun r1 =>
         (some (ret94 (res39_0 r1)))))))
     (bcond (((a0.1 : Int) != 0) == true)
      ((C114 F114 a0.1).bind fun r1 =>
       (bcond ((!(res114_0 r1)) == false)
        (bcond (((a0.2.1 : Int) != 0) == true)
         ((C32 F32 a0.2.1 1 1073741824).bind fun r2 =>
          (bcond (!(res32_0 r2))
           (some (ret94 2))
           ((C39 F39 a0.2.2 false).bind fun r3 =>
            (some (ret94 (res39_0 r3))))))
         ((C39 F39 a0.2.2 false).bind fun r2 =>
          (some (ret94 (res39_0 r2)))))
        (some (ret94 2))))
      (bcond (((a0.2.1 : Int) != 0) == true)
       ((C32 F32 a0.2.1 1 1073741824).bind fun r1 =>
        (bcond (!(res32_0 r1))
         (some (ret94 2))
         ((C39 F39 a0.2.2 false).bind fun r2 =>
          (some (ret94 (res39_0 r2))))))
       ((C39 F39 a0.2.2 false).bind fun r1 =>
        (some (ret94 (res39_0 r1)))))))
    (some (ret94 4)))
   (bcond (((a0.1 : Int) != 0) == true)
    (bcond ((a0.2.1 : Int) != 0)
     (some (ret94 4))
     (bcond (((a0.1 : Int) != 0) == true)
      ((C114 F114 a0.1).bind fun r1 =>
       (bcond ((!(res114_0 r1)) == false)
        (bcond (((a0.2.1 : Int) != 0) == true)
         ((C32 F32 a0.2.1 1 1073741824).bind fun r2 =>
          (bcond (!(res32_0 r2))
           (some (ret94 2))
           ((C39 F39 a0.2.2 false).bind fun r3 =>
            (some (ret94 (res39_0 r3))))))
         ((C39 F39 a0.2.2 false).bind fun r2 =>
          (some (ret94 (res39_0 r2)))))
        (some (ret94 2))))
      (bcond (((a0.2.1 : Int) != 0) == true)
       ((C32 F32 a0.2.1 1 1073741824).bind fun r1 =>
        (bcond (!(res32_0 r1))
         (some (ret94 2))
         ((C39 F39 a0.2.2 false).bind fun r2 =>
          (some (ret94 (res39_0 r2))))))
       ((C39 F39 a0.2.2 false).bind fun r1 =>
        (some (ret94 (res39_0 r1)))))))
    (bcond (((a0.1 : Int) != 0) == true)
     ((C114 F114 a0.1).bind fun r1 =>
      (bcond ((!(res114_0 r1)) == false)
       (bcond (((a0.2.1 : Int) != 0) == true)
        ((C32 F32 a0.2.1 1 1073741824).bind fun r2 =>
         (bcond (!(res32_0 r2))
          (some (ret94 2))
          ((C39 F39 a0.2.2 false).bind fun r3 =>
           (some (ret94 (res39_0 r3))))))
        ((C39 F39 a0.2.2 false).bind fun r2 =>
         (some (ret94 (res39_0 r2)))))
       (some (ret94 2))))
     (bcond (((a0.2.1 : Int) != 0) == true)
      ((C32 F32 a0.2.1 1 1073741824).bind fun r1 =>
       (bcond (!(res32_0 r1))
        (some (ret94 2))
        ((C39 F39 a0.2.2 false).bind fun r2 =>
         (some (ret94 (res39_0 r2))))))
      ((C39 F39 a0.2.2 false).bind fun r1 =>
       (some (ret94 (res39_0 r1)))))))) := by kernel_rfl
theorem ok94 : fnOk os94 sig94 Try.f94 = true := by kernel_rfl
theorem fn94 : P.funcs[94]? = some Try.f94 := by kernel_rfl
noncomputable def F94 : sig94.Fn := fun x y => run T (env94 F114 F32 F39) os94 sig94 Try.f94 hs94 big x y
theorem S94 : Sound P 94 ⟨sig94, F94⟩ := sound_of (os := os94) (hs := hs94) (env_cons S114 (env_cons S32 (env_cons S39 (env_nil)))) fn94 ok94 (fun x y out h => ⟨big, h⟩)
theorem e94 (a0 : YElem.den) : C94 F94 a0 =
  (bcond (((a0.1 : Int) == 0) == true)
   (bcond (((a0.2.1 : Int) == 0) == false)
    (bcond (((a0.1 : Int) != 0) == true)
     (bcond ((a0.2.1 : Int) != 0)
      (some (ret94 4))
      (bcond (((a0.1 : Int) != 0) == true)
       ((C114 F114 a0.1).bind fun r1 =>
        (bcond ((!(res114_0 r1)) == false)
         (bcond (((a0.2.1 : Int) != 0) == true)
          ((C32 F32 a0.2.1 1 1073741824).bind fun r2 =>
           (bcond (!(res32_0 r2))
            (some (ret94 2))
            ((C39 F39 a0.2.2 false).bind fun r3 =>
             (some (ret94 (res39_0 r3))))))
          ((C39 F39 a0.2.2 false).bind fun r2 =>
           (some (ret94 (res39_0 r2)))))
         (some (ret94 2))))
       (bcond (((a0.2.1 : Int) != 0) == true)
        ((C32 F32 a0.2.1 1 1073741824).bind fun r1 =>
         (bcond (!(res32_0 r1))
          (some (ret94 2))
          ((C39 F39 a0.2.2 false).bind fun r2 =>
           (some (ret94 (res39_0 r2))))))
        ((C39 F39 a0.2.2 false).bind fun r1 =>
         (some (ret94 (res39_0 r1)))))))
     (bcond (((a0.1 : Int) != 0) == true)
      ((C114 F114 a0.1).bind fun r1 =>
       (bcond ((!(res114_0 r1)) == false)
        (bcond (((a0.2.1 : Int) != 0) == true)
         ((C32 F32 a0.2.1 1 1073741824).bind fun r2 =>
          (bcond (!(res32_0 r2))
           (some (ret94 2))
           ((C39 F39 a0.2.2 false).bind fun r3 =>
            (some (ret94 (res39_0 r3))))))
         ((C39 F39 a0.2.2 false).bind fun r2 =>
          (some (ret94 (res39_0 r2)))))
        (some (ret94 2))))
      (bcond (((a0.2.1 : Int) != 0) == true)
       ((C32 F32 a0.2.1 1 1073741824).bind fun r1 =>
        (bcond (!(res32_0 r1))
         (some (ret94 2))
         ((C39 F39 a0.2.2 false).bind fun r2 =>
          (some (ret94 (res39_0 r2))))))
       ((C39 F39 a0.2.2 false).bind fun r1 =>
        (some (ret94 (res39_0 r1)))))))
    (some (ret94 4)))
   (bcond (((a0.1 : Int) != 0) == true)
    (bcond ((a0.2.1 : Int) != 0)
     (some (ret94 4))
     (bcond (((a0.1 : Int) != 0) == true)
      ((C114 F114 a0.1).bind fun r1 =>
       (bcond ((!(res114_0 r1)) == false)
        (bcond (((a0.2.1 : Int) != 0) == true)
         ((C32 F32 a0.2.1 1 1073741824).bind fun r2 =>
          (bcond (!(res32_0 r2))
           (some (ret94 2))
           ((C39 F39 a0.2.2 false).bind fun r3 =>
            (some (ret94 (res39_0 r3))))))
         ((C39 F39 a0.2.2 false).bind fun r2 =>
          (some (ret94 (res39_0 r2)))))
        (some (ret94 2))))
      (bcond (((a0.2.1 : Int) != 0) == true)
       ((C32 F32 a0.2.1 1 1073741824).bind fun r1 =>
        (bcond (!(res32_0 r1))
         (some (ret94 2))
         ((C39 F39 a0.2.2 false).bind fun r2 =>
          (some (ret94 (res39_0 r2))))))
       ((C39 F39 a0.2.2 false).bind fun r1 =>
        (some (ret94 (res39_0 r1)))))))
    (bcond (((a0.1 : Int) != 0) == true)
     ((C114 F114 a0.1).bind fun r1 =>
      (bcond ((!(res114_0 r1)) == false)
       (bcond (((a0.2.1 : Int) != 0) == true)
        ((C32 F32 a0.2.1 1 1073741824).bind fun r2 =>
         (bcond (!(res32_0 r2))
          (some (ret94 2))
          ((C39 F39 a0.2.2 false).bind fun r3 =>
           (some (ret94 (res39_0 r3))))))
        ((C39 F39 a0.2.2 false).bind fun r2 =>
         (some (ret94 (res39_0 r2)))))
       (some (ret94 2))))
     (bcond (((a0.2.1 : Int) != 0) == true)
      ((C32 F32 a0.2.1 1 1073741824).bind fun r1 =>
       (bcond (!(res32_0 r1))
        (some (ret94 2))
        ((C39 F39 a0.2.2 false).bind fun r2 =>
         (some (ret94 (res39_0 r2))))))
      ((C39 F39 a0.2.2 false).bind fun r1 =>
       (some (ret94 (res39_0 r1)))))))) := run94 F114 F32 F39 big a0

/-! ### chancery/chanceryref1.PartError -/
def sig51 : Sig := ⟨[.v false (.list YElem)], [], [(false, [.fr (.int .i64)])]⟩
def C51 (F : sig51.Fn) (a0 : List YElem.den) : Option sig51.Out := F (a0, ()) ()
def ret51 (v0 : Int) : sig51.Out := (((v0, ()), ()), ())
def res51_0 (r : sig51.Out) : Int := r.1.1.1
@[simp] theorem res51_0_ret (v0 : Int) : res51_0 (ret51 v0) = v0 := rfl
def os51 : List (Nat × Ord) := []
def hs51 : List Keep := [[(0, []), (6, []), (7, [])]]
@[reducible] def env51 (F94 : sig94.Fn) : Env := [(94, ⟨sig94, F94⟩)]
noncomputable def L51_0 (F94 : sig94.Fn) (n m1 : Nat) (x0 : List YElem.den) (x6 : Int) (x7 : Int) : Option sig51.Out :=
  loopAt T (env51 F94) os51 sig51 Try.f51 hs51 n [.sr, .sl, .sr, .bl] m1 (mk 19 [(0, .cs false [.val (.list YElem) x0]), (6, .cs false [.val (.int .i64) x6]), (7, .cs false [.val (.int .i64) x7])])
theorem L51_0_step (F94 : sig94.Fn) (n m1 : Nat) (x0 : List YElem.den) (x6 : Int) (x7 : Int) : L51_0 F94 n (m1 + 1) x0 x6 x7 =
  (bcond (decide ((x7 : Int) < x6))
   (if 0 ≤ (x7 : Int) ∧ (x7 : Int) < (List.length x0 : Int) then
    ((C94 F94 (at_ (e := YElem) x0 x7)).bind fun r1 =>
     (bcond (((res94_0 r1) : Int) != 0)
      (some (ret51 (res94_0 r1)))
      (L51_0 F94 n m1 x0 x6 (IntKind.i64.wrap (x7 + 1)))))
   else none)
   (some (ret51 0))) := by kernel_rfl
theorem run51 (F94 : sig94.Fn) (n : Nat) (a0 : List YElem.den) : C51 (fun x y => run T (env51 F94) os51 sig51 Try.f51 hs51 n x y) a0 =
  (L51_0 F94 n n a0 (List.length a0 : Int) 0) := by kernel_rfl
theorem ok51 : fnOk os51 sig51 Try.f51 = true := by kernel_rfl
theorem fn51 : P.funcs[51]? = some Try.f51 := by kernel_rfl
noncomputable def F51 : sig51.Fn := fun x y => run T (env51 F94) os51 sig51 Try.f51 hs51 big x y
theorem S51 : Sound P 51 ⟨sig51, F51⟩ := sound_of (os := os51) (hs := hs51) (env_cons S94 (env_nil)) fn51 ok51 (fun x y out h => ⟨big, h⟩)
theorem e51 (a0 : List YElem.den) : C51 F51 a0 =
  (L51_0 F94 big big a0 (List.length a0 : Int) 0) := run51 F94 big a0

/-! ### chancery/chanceryref1.Shown -/
def sig52 : Sig := ⟨[.v false (.list YElem), .v false (.int .i64)], [], [(false, [.fr (.list (.int .i64))])]⟩
def C52 (F : sig52.Fn) (a0 : List YElem.den) (a1 : Int) : Option sig52.Out := F (a0, a1, ()) ()
def ret52 (v0 : List (Int)) : sig52.Out := (((v0, ()), ()), ())
def res52_0 (r : sig52.Out) : List (Int) := r.1.1.1
@[simp] theorem res52_0_ret (v0 : List (Int)) : res52_0 (ret52 v0) = v0 := rfl
def os52 : List (Nat × Ord) := []
def hs52 : List Keep := [[(0, []), (1, []), (5, [(0, 3, (.int .i64))]), (10, []), (11, [])]]
@[reducible] def env52 (F42 : sig42.Fn) (F95 : sig95.Fn) : Env := [(42, ⟨sig42, F42⟩), (95, ⟨sig95, F95⟩)]
noncomputable def L52_0 (F42 : sig42.Fn) (F95 : sig95.Fn) (n m1 : Nat) (x0 : List YElem.den) (x1 : Int) (x5 : List (Int)) (x10 : Int) (x11 : Int) : Option sig52.Out :=
  loopAt T (env52 F42 F95) os52 sig52 Try.f52 hs52 n [.sr, .sr, .sl, .sr, .bl] m1 (mk 58 [(0, .cs false [.val (.list YElem) x0]), (1, .cs false [.val (.int .i64) x1]), (5, .cs false [.own 3 (.int .i64) x5]), (10, .cs false [.val (.int .i64) x10]), (11, .cs false [.val (.int .i64) x11])])
theorem L52_0_step (F42 : sig42.Fn) (F95 : sig95.Fn) (n m1 : Nat) (x0 : List YElem.den) (x1 : Int) (x5 : List (Int)) (x10 : Int) (x11 : Int) : L52_0 F42 F95 n (m1 + 1) x0 x1 x5 x10 x11 =
  (bcond (decide ((x11 : Int) < x10))
   (if 0 ≤ (x11 : Int) ∧ (x11 : Int) < (List.length x0 : Int) then
    ((C42 F42 (at_ (e := YElem) x0 x11).2.2 [104, 105, 100, 100, 101, 110]).bind fun r1 =>
     (bcond (((x1 : Int) == 0) == true)
      ((C95 F95 (at_ (e := YElem) x0 x11).2.2 [99, 117, 116]).bind fun r2 =>
       (bcond ((res95_0 r2) == false)
        (bcond (((x1 : Int) == 1) == true)
         ((C95 F95 (at_ (e := YElem) x0 x11).2.2 [97, 100, 100]).bind fun r3 =>
          (bcond (res95_0 r3)
           (bcond (((x11 : Int) == (IntKind.i64.wrap ((List.length x0 : Int) - 1))) == true)
            (if 0 ≤ (x11 : Int) ∧ (x11 : Int) < (List.length x0 : Int) then
             (bcond (((at_ (e := YElem) x0 x11).1 : Int) == 10)
              (if (List.length (x5 : List Int) + List.length ([x11] : List Int)) * 8 ≤ 140737488355328 then
               (L52_0 F42 F95 n m1 x0 x1 (x5 ++ [x11]) x10 (IntKind.i64.wrap (x11 + 1)))
              else none)
              (L52_0 F42 F95 n m1 x0 x1 x5 x10 (IntKind.i64.wrap (x11 + 1))))
            else none)
            (L52_0 F42 F95 n m1 x0 x1 x5 x10 (IntKind.i64.wrap (x11 + 1))))
           (bcond ((!(((res42_0 r1) : List UInt8) == [111, 110])) == false)
            (bcond (((x11 : Int) == (IntKind.i64.wrap ((List.length x0 : Int) - 1))) == true)
             (if 0 ≤ (x11 : Int) ∧ (x11 : Int) < (List.length x0 : Int) then
              (bcond (((at_ (e := YElem) x0 x11).1 : Int) == 10)
               (if (List.length (x5 : List Int) + List.length ([x11] : List Int)) * 8 ≤ 140737488355328 then
                (L52_0 F42 F95 n m1 x0 x1 (x5 ++ [x11]) x10 (IntKind.i64.wrap (x11 + 1)))
               else none)
               (L52_0 F42 F95 n m1 x0 x1 x5 x10 (IntKind.i64.wrap (x11 + 1))))
             else none)
             (L52_0 F42 F95 n m1 x0 x1 x5 x10 (IntKind.i64.wrap (x11 + 1))))
            (if (List.length (x5 : List Int) + List.length ([x11] : List Int)) * 8 ≤ 140737488355328 then
             (L52_0 F42 F95 n m1 x0 x1 (x5 ++ [x11]) x10 (IntKind.i64.wrap (x11 + 1)))
            else none))))
         (bcond ((!(((res42_0 r1) : List UInt8) == [111, 110])) == false)
          (bcond (((x11 : Int) == (IntKind.i64.wrap ((List.length x0 : Int) - 1))) == true)
           (if 0 ≤ (x11 : Int) ∧ (x11 : Int) < (List.length x0 : Int) then
            (bcond (((at_ (e := YElem) x0 x11).1 : Int) == 10)
             (if (List.length (x5 : List Int) + List.length ([x11] : List Int)) * 8 ≤ 140737488355328 then
              (L52_0 F42 F95 n m1 x0 x1 (x5 ++ [x11]) x10 (IntKind.i64.wrap (x11 + 1)))
             else none)
             (L52_0 F42 F95 n m1 x0 x1 x5 x10 (IntKind.i64.wrap (x11 + 1))))
           else none)
           (L52_0 F42 F95 n m1 x0 x1 x5 x10 (IntKind.i64.wrap (x11 + 1))))
          (if (List.length (x5 : List Int) + List.length ([x11] : List Int)) * 8 ≤ 140737488355328 then
           (L52_0 F42 F95 n m1 x0 x1 (x5 ++ [x11]) x10 (IntKind.i64.wrap (x11 + 1)))
          else none)))
        (bcond (((x11 : Int) == (IntKind.i64.wrap ((List.length x0 : Int) - 1))) == true)
         (if 0 ≤ (x11 : Int) ∧ (x11 : Int) < (List.length x0 : Int) then
          (bcond (((at_ (e := YElem) x0 x11).1 : Int) == 10)
           (if (List.length (x5 : List Int) + List.length ([x11] : List Int)) * 8 ≤ 140737488355328 then
            (L52_0 F42 F95 n m1 x0 x1 (x5 ++ [x11]) x10 (IntKind.i64.wrap (x11 + 1)))
           else none)
           (L52_0 F42 F95 n m1 x0 x1 x5 x10 (IntKind.i64.wrap (x11 + 1))))
         else none)
         (L52_0 F42 F95 n m1 x0 x1 x5 x10 (IntKind.i64.wrap (x11 + 1))))))
      (bcond (((x1 : Int) == 1) == true)
       ((C95 F95 (at_ (e := YElem) x0 x11).2.2 [97, 100, 100]).bind fun r2 =>
        (bcond (res95_0 r2)
         (bcond (((x11 : Int) == (IntKind.i64.wrap ((List.length x0 : Int) - 1))) == true)
          (if 0 ≤ (x11 : Int) ∧ (x11 : Int) < (List.length x0 : Int) then
           (bcond (((at_ (e := YElem) x0 x11).1 : Int) == 10)
            (if (List.length (x5 : List Int) + List.length ([x11] : List Int)) * 8 ≤ 140737488355328 then
             (L52_0 F42 F95 n m1 x0 x1 (x5 ++ [x11]) x10 (IntKind.i64.wrap (x11 + 1)))
            else none)
            (L52_0 F42 F95 n m1 x0 x1 x5 x10 (IntKind.i64.wrap (x11 + 1))))
          else none)
          (L52_0 F42 F95 n m1 x0 x1 x5 x10 (IntKind.i64.wrap (x11 + 1))))
         (bcond ((!(((res42_0 r1) : List UInt8) == [111, 110])) == false)
          (bcond (((x11 : Int) == (IntKind.i64.wrap ((List.length x0 : Int) - 1))) == true)
           (if 0 ≤ (x11 : Int) ∧ (x11 : Int) < (List.length x0 : Int) then
            (bcond (((at_ (e := YElem) x0 x11).1 : Int) == 10)
             (if (List.length (x5 : List Int) + List.length ([x11] : List Int)) * 8 ≤ 140737488355328 then
              (L52_0 F42 F95 n m1 x0 x1 (x5 ++ [x11]) x10 (IntKind.i64.wrap (x11 + 1)))
             else none)
             (L52_0 F42 F95 n m1 x0 x1 x5 x10 (IntKind.i64.wrap (x11 + 1))))
           else none)
           (L52_0 F42 F95 n m1 x0 x1 x5 x10 (IntKind.i64.wrap (x11 + 1))))
          (if (List.length (x5 : List Int) + List.length ([x11] : List Int)) * 8 ≤ 140737488355328 then
           (L52_0 F42 F95 n m1 x0 x1 (x5 ++ [x11]) x10 (IntKind.i64.wrap (x11 + 1)))
          else none))))
       (bcond ((!(((res42_0 r1) : List UInt8) == [111, 110])) == false)
        (bcond (((x11 : Int) == (IntKind.i64.wrap ((List.length x0 : Int) - 1))) == true)
         (if 0 ≤ (x11 : Int) ∧ (x11 : Int) < (List.length x0 : Int) then
          (bcond (((at_ (e := YElem) x0 x11).1 : Int) == 10)
           (if (List.length (x5 : List Int) + List.length ([x11] : List Int)) * 8 ≤ 140737488355328 then
            (L52_0 F42 F95 n m1 x0 x1 (x5 ++ [x11]) x10 (IntKind.i64.wrap (x11 + 1)))
           else none)
           (L52_0 F42 F95 n m1 x0 x1 x5 x10 (IntKind.i64.wrap (x11 + 1))))
         else none)
         (L52_0 F42 F95 n m1 x0 x1 x5 x10 (IntKind.i64.wrap (x11 + 1))))
        (if (List.length (x5 : List Int) + List.length ([x11] : List Int)) * 8 ≤ 140737488355328 then
         (L52_0 F42 F95 n m1 x0 x1 (x5 ++ [x11]) x10 (IntKind.i64.wrap (x11 + 1)))
        else none)))))
   else none)
   (some (ret52 x5))) := by kernel_rfl
theorem run52 (F42 : sig42.Fn) (F95 : sig95.Fn) (n : Nat) (a0 : List YElem.den) (a1 : Int) : C52 (fun x y => run T (env52 F42 F95) os52 sig52 Try.f52 hs52 n x y) a0 a1 =
  (L52_0 F42 F95 n n a0 a1 [] (List.length a0 : Int) 0) := by kernel_rfl
theorem ok52 : fnOk os52 sig52 Try.f52 = true := by kernel_rfl
theorem fn52 : P.funcs[52]? = some Try.f52 := by kernel_rfl
noncomputable def F52 : sig52.Fn := fun x y => run T (env52 F42 F95) os52 sig52 Try.f52 hs52 big x y
theorem S52 : Sound P 52 ⟨sig52, F52⟩ := sound_of (os := os52) (hs := hs52) (env_cons S42 (env_cons S95 (env_nil))) fn52 ok52 (fun x y out h => ⟨big, h⟩)
theorem e52 (a0 : List YElem.den) (a1 : Int) : C52 F52 a0 a1 =
  (L52_0 F42 F95 big big a0 a1 [] (List.length a0 : Int) 0) := run52 F42 F95 big a0 a1

/-! ### chancery/chancerylaw1.TrackShownMatches -/
def sig8 : Sig := ⟨[.v false (.list YElem), .v false (.int .i64)], [], [(false, [.fr .bool])]⟩
def C8 (F : sig8.Fn) (a0 : List YElem.den) (a1 : Int) : Option sig8.Out := F (a0, a1, ()) ()
def ret8 (v0 : Bool) : sig8.Out := (((v0, ()), ()), ())
def res8_0 (r : sig8.Out) : Bool := r.1.1.1
@[simp] theorem res8_0_ret (v0 : Bool) : res8_0 (ret8 v0) = v0 := rfl
def os8 : List (Nat × Ord) := [(13, .st 0 (.st 1 (.st 2 (.st 3 (.st 6 (.st 7 (.st 8 (.st 9 (.st 4 (.alt 5 (.st 10 (.st 11 (.st 12 (.st 13 (.nil))))) (.st 10 (.st 5 (.st 11 (.st 12 (.st 13 (.nil))))))))))))))))]
def hs8 : List Keep := [[(0, []), (1, []), (5, []), (6, []), (7, []), (10, []), (11, [])], [(0, []), (1, []), (5, []), (6, []), (7, []), (10, []), (11, []), (12, []), (13, []), (14, [])]]
@[reducible] def env8 (F48 : sig48.Fn) (F49 : sig49.Fn) (F50 : sig50.Fn) (F51 : sig51.Fn) (F42 : sig42.Fn) (F32 : sig32.Fn) (F52 : sig52.Fn) (F34 : sig34.Fn) : Env := [(48, ⟨sig48, F48⟩), (49, ⟨sig49, F49⟩), (50, ⟨sig50, F50⟩), (51, ⟨sig51, F51⟩), (42, ⟨sig42, F42⟩), (32, ⟨sig32, F32⟩), (52, ⟨sig52, F52⟩), (34, ⟨sig34, F34⟩)]
noncomputable def L8_0 (F48 : sig48.Fn) (F49 : sig49.Fn) (F50 : sig50.Fn) (F51 : sig51.Fn) (F42 : sig42.Fn) (F32 : sig32.Fn) (F52 : sig52.Fn) (F34 : sig34.Fn) (n m1 : Nat) (x0 : List YElem.den) (x1 : Int) (x5 : List (Int)) (x6 : Int) (x7 : List YSpan.den) (x10 : Int) (x11 : Int) : Option sig8.Out :=
  loopAt T (env8 F48 F49 F50 F51 F42 F32 F52 F34) os8 sig8 Try.f8 hs8 n [.sr, .sr, .sr, .sr, .sr, .sr, .sr, .sl, .sr, .bl] m1 (mk 139 [(0, .cs false [.val (.list YElem) x0]), (1, .cs false [.val (.int .i64) x1]), (5, .cs false [.val (.list (.int .i64)) x5]), (6, .cs false [.val (.int .i64) x6]), (7, .cs false [.val (.list YSpan) x7]), (10, .cs false [.val (.int .i64) x10]), (11, .cs false [.val (.int .i64) x11])])
noncomputable def L8_1 (F48 : sig48.Fn) (F49 : sig49.Fn) (F50 : sig50.Fn) (F51 : sig51.Fn) (F42 : sig42.Fn) (F32 : sig32.Fn) (F52 : sig52.Fn) (F34 : sig34.Fn) (n m1 m2 : Nat) (x0 : List YElem.den) (x1 : Int) (x5 : List (Int)) (x6 : Int) (x7 : List YSpan.den) (x10 : Int) (x11 : Int) (x12 : List UInt8) (x13 : List UInt8) (x14 : Int) : Option sig8.Out :=
  loopAt T (env8 F48 F49 F50 F51 F42 F32 F52 F34) os8 sig8 Try.f8 hs8 n [.sr, .sr, .sr, .sr, .sr, .sr, .sr, .sl, .sr, .bl, .lp m1, .sr, .bl, .sr, .sr, .sl, .bl] m2 (mk 139 [(0, .cs false [.val (.list YElem) x0]), (1, .cs false [.val (.int .i64) x1]), (5, .cs false [.val (.list (.int .i64)) x5]), (6, .cs false [.val (.int .i64) x6]), (7, .cs false [.val (.list YSpan) x7]), (10, .cs false [.val (.int .i64) x10]), (11, .cs false [.val (.int .i64) x11]), (12, .cs false [.val .str x12]), (13, .cs false [.val .str x13]), (14, .cs false [.val (.int .i64) x14])])
theorem L8_0_raw (F48 : sig48.Fn) (F49 : sig49.Fn) (F50 : sig50.Fn) (F51 : sig51.Fn) (F42 : sig42.Fn) (F32 : sig32.Fn) (F52 : sig52.Fn) (F34 : sig34.Fn) (n m1 : Nat) (x0 : List YElem.den) (x1 : Int) (x5 : List (Int)) (x6 : Int) (x7 : List YSpan.den) (x10 : Int) (x11 : Int) : L8_0 F48 F49 F50 F51 F42 F32 F52 F34 n (m1 + 1) x0 x1 x5 x6 x7 x10 x11 =
  (bcond (decide ((x11 : Int) < (List.length x0 : Int)))
   (if 0 ≤ (x11 : Int) ∧ (x11 : Int) < (List.length x0 : Int) then
    (if 0 ≤ (x11 : Int) ∧ (x11 : Int) < (List.length x0 : Int) then
     (agree
      ((C42 F42 (at_ (e := YElem) x0 x11).2.2 [97, 100, 100]).bind fun r1 =>
       ((C42 F42 (at_ (e := YElem) x0 x11).2.2 [99, 117, 116]).bind fun r2 =>
        (L8_1 F48 F49 F50 F51 F42 F32 F52 F34 n m1 n x0 x1 x5 x6 x7 x10 x11 (res42_0 r1) (res42_0 r2) x11)))
      ((C42 F42 (at_ (e := YElem) x0 x11).2.2 [97, 100, 100]).bind fun r1 =>
       ((C42 F42 (at_ (e := YElem) x0 x11).2.2 [99, 117, 116]).bind fun r2 =>
        (L8_1 F48 F49 F50 F51 F42 F32 F52 F34 n m1 n x0 x1 x5 x6 x7 x10 x11 (res42_0 r1) (res42_0 r2) x11))))
    else none)
   else none)
   (bcond ((x10 : Int) != (List.length x7 : Int))
    (some (ret8 false))
    ((C32 F32 x1 0 2).bind fun r1 =>
     (bcond (!(res32_0 r1))
      (bcond (((x6 : Int) == 1) == true)
       (some (ret8 (((List.length x5 : Int) : Int) == 0)))
       (some (ret8 false)))
      (bcond (((x6 : Int) == 0) == true)
       ((C52 F52 x0 x1).bind fun r2 =>
        ((C34 F34 x5 (res52_0 r2)).bind fun r3 =>
         (some (ret8 (res34_0 r3)))))
       (some (ret8 false))))))) := by kernel_rfl
theorem L8_0_step (F48 : sig48.Fn) (F49 : sig49.Fn) (F50 : sig50.Fn) (F51 : sig51.Fn) (F42 : sig42.Fn) (F32 : sig32.Fn) (F52 : sig52.Fn) (F34 : sig34.Fn) (n m1 : Nat) (x0 : List YElem.den) (x1 : Int) (x5 : List (Int)) (x6 : Int) (x7 : List YSpan.den) (x10 : Int) (x11 : Int) : L8_0 F48 F49 F50 F51 F42 F32 F52 F34 n (m1 + 1) x0 x1 x5 x6 x7 x10 x11 =
  (bcond (decide ((x11 : Int) < (List.length x0 : Int)))
   (if 0 ≤ (x11 : Int) ∧ (x11 : Int) < (List.length x0 : Int) then
    (if 0 ≤ (x11 : Int) ∧ (x11 : Int) < (List.length x0 : Int) then
     ((C42 F42 (at_ (e := YElem) x0 x11).2.2 [97, 100, 100]).bind fun r1 =>
      ((C42 F42 (at_ (e := YElem) x0 x11).2.2 [99, 117, 116]).bind fun r2 =>
       (L8_1 F48 F49 F50 F51 F42 F32 F52 F34 n m1 n x0 x1 x5 x6 x7 x10 x11 (res42_0 r1) (res42_0 r2) x11)))
    else none)
   else none)
   (bcond ((x10 : Int) != (List.length x7 : Int))
    (some (ret8 false))
    ((C32 F32 x1 0 2).bind fun r1 =>
     (bcond (!(res32_0 r1))
      (bcond (((x6 : Int) == 1) == true)
       (some (ret8 (((List.length x5 : Int) : Int) == 0)))
       (some (ret8 false)))
      (bcond (((x6 : Int) == 0) == true)
       ((C52 F52 x0 x1).bind fun r2 =>
        ((C34 F34 x5 (res52_0 r2)).bind fun r3 =>
         (some (ret8 (res34_0 r3)))))
       (some (ret8 false))))))) := by rw [L8_0_raw]; simp only [agree_self]
theorem L8_1_step (F48 : sig48.Fn) (F49 : sig49.Fn) (F50 : sig50.Fn) (F51 : sig51.Fn) (F42 : sig42.Fn) (F32 : sig32.Fn) (F52 : sig52.Fn) (F34 : sig34.Fn) (n m1 m2 : Nat) (x0 : List YElem.den) (x1 : Int) (x5 : List (Int)) (x6 : Int) (x7 : List YSpan.den) (x10 : Int) (x11 : Int) (x12 : List UInt8) (x13 : List UInt8) (x14 : Int) : L8_1 F48 F49 F50 F51 F42 F32 F52 F34 n m1 (m2 + 1) x0 x1 x5 x6 x7 x10 x11 x12 x13 x14 =
  (bcond ((decide ((x14 : Int) < (List.length x0 : Int))) == true)
   (if 0 ≤ (x14 : Int) ∧ (x14 : Int) < (List.length x0 : Int) then
    ((C42 F42 (at_ (e := YElem) x0 x14).2.2 [97, 100, 100]).bind fun r1 =>
     (bcond ((((res42_0 r1) : List UInt8) == x12) == true)
      (if 0 ≤ (x14 : Int) ∧ (x14 : Int) < (List.length x0 : Int) then
       ((C42 F42 (at_ (e := YElem) x0 x14).2.2 [99, 117, 116]).bind fun r2 =>
        (bcond (((res42_0 r2) : List UInt8) == x13)
         (L8_1 F48 F49 F50 F51 F42 F32 F52 F34 n m1 m2 x0 x1 x5 x6 x7 x10 x11 x12 x13 (IntKind.i64.wrap (x14 + 1)))
         (bcond ((!((x12 : List UInt8) == [])) == false)
          (bcond (!((x13 : List UInt8) == []))
           (bcond ((decide ((x10 : Int) ≥ (List.length x7 : Int))) == false)
            (if 0 ≤ (x10 : Int) ∧ (x10 : Int) < (List.length x7 : Int) then
             (bcond (!((((at_ (e := YSpan) x7 x10).1 : Int) == x11) && ((((at_ (e := YSpan) x7 x10).2 : Int) == x14) && true)))
              (some (ret8 false))
              (L8_0 F48 F49 F50 F51 F42 F32 F52 F34 n m1 x0 x1 x5 x6 x7 (IntKind.i64.wrap (x10 + 1)) x14))
            else none)
            (some (ret8 false)))
           (L8_0 F48 F49 F50 F51 F42 F32 F52 F34 n m1 x0 x1 x5 x6 x7 x10 x14))
          (bcond ((decide ((x10 : Int) ≥ (List.length x7 : Int))) == false)
           (if 0 ≤ (x10 : Int) ∧ (x10 : Int) < (List.length x7 : Int) then
            (bcond (!((((at_ (e := YSpan) x7 x10).1 : Int) == x11) && ((((at_ (e := YSpan) x7 x10).2 : Int) == x14) && true)))
             (some (ret8 false))
             (L8_0 F48 F49 F50 F51 F42 F32 F52 F34 n m1 x0 x1 x5 x6 x7 (IntKind.i64.wrap (x10 + 1)) x14))
           else none)
           (some (ret8 false))))))
      else none)
      (bcond ((!((x12 : List UInt8) == [])) == false)
       (bcond (!((x13 : List UInt8) == []))
        (bcond ((decide ((x10 : Int) ≥ (List.length x7 : Int))) == false)
         (if 0 ≤ (x10 : Int) ∧ (x10 : Int) < (List.length x7 : Int) then
          (bcond (!((((at_ (e := YSpan) x7 x10).1 : Int) == x11) && ((((at_ (e := YSpan) x7 x10).2 : Int) == x14) && true)))
           (some (ret8 false))
           (L8_0 F48 F49 F50 F51 F42 F32 F52 F34 n m1 x0 x1 x5 x6 x7 (IntKind.i64.wrap (x10 + 1)) x14))
         else none)
         (some (ret8 false)))
        (L8_0 F48 F49 F50 F51 F42 F32 F52 F34 n m1 x0 x1 x5 x6 x7 x10 x14))
       (bcond ((decide ((x10 : Int) ≥ (List.length x7 : Int))) == false)
        (if 0 ≤ (x10 : Int) ∧ (x10 : Int) < (List.length x7 : Int) then
         (bcond (!((((at_ (e := YSpan) x7 x10).1 : Int) == x11) && ((((at_ (e := YSpan) x7 x10).2 : Int) == x14) && true)))
          (some (ret8 false))
          (L8_0 F48 F49 F50 F51 F42 F32 F52 F34 n m1 x0 x1 x5 x6 x7 (IntKind.i64.wrap (x10 + 1)) x14))
        else none)
        (some (ret8 false))))))
   else none)
   (bcond ((!((x12 : List UInt8) == [])) == false)
    (bcond (!((x13 : List UInt8) == []))
     (bcond ((decide ((x10 : Int) ≥ (List.length x7 : Int))) == false)
      (if 0 ≤ (x10 : Int) ∧ (x10 : Int) < (List.length x7 : Int) then
       (bcond (!((((at_ (e := YSpan) x7 x10).1 : Int) == x11) && ((((at_ (e := YSpan) x7 x10).2 : Int) == x14) && true)))
        (some (ret8 false))
        (L8_0 F48 F49 F50 F51 F42 F32 F52 F34 n m1 x0 x1 x5 x6 x7 (IntKind.i64.wrap (x10 + 1)) x14))
      else none)
      (some (ret8 false)))
     (L8_0 F48 F49 F50 F51 F42 F32 F52 F34 n m1 x0 x1 x5 x6 x7 x10 x14))
    (bcond ((decide ((x10 : Int) ≥ (List.length x7 : Int))) == false)
     (if 0 ≤ (x10 : Int) ∧ (x10 : Int) < (List.length x7 : Int) then
      (bcond (!((((at_ (e := YSpan) x7 x10).1 : Int) == x11) && ((((at_ (e := YSpan) x7 x10).2 : Int) == x14) && true)))
       (some (ret8 false))
       (L8_0 F48 F49 F50 F51 F42 F32 F52 F34 n m1 x0 x1 x5 x6 x7 (IntKind.i64.wrap (x10 + 1)) x14))
     else none)
     (some (ret8 false))))) := by kernel_rfl
theorem run8 (F48 : sig48.Fn) (F49 : sig49.Fn) (F50 : sig50.Fn) (F51 : sig51.Fn) (F42 : sig42.Fn) (F32 : sig32.Fn) (F52 : sig52.Fn) (F34 : sig34.Fn) (n : Nat) (a0 : List YElem.den) (a1 : Int) : C8 (fun x y => run T (env8 F48 F49 F50 F51 F42 F32 F52 F34) os8 sig8 Try.f8 hs8 n x y) a0 a1 =
  ((C48 F48 ).bind fun r1 =>
   (bcond (!(res48_0 r1))
    (some (ret8 false))
    ((C49 F49 a0 a1).bind fun r2 =>
     ((C50 F50 a0).bind fun r3 =>
      ((C51 F51 a0).bind fun r4 =>
       (bcond (((res51_0 r4) : Int) != 0)
        (bcond ((((res49_1 r2) : Int) == (res51_0 r4)) == true)
         (bcond ((((res50_1 r3) : Int) == (res51_0 r4)) == true)
          (some (ret8 (((IntKind.i64.wrap ((List.length (res49_0 r2) : Int) + (List.length (res50_0 r3) : Int))) : Int) == 0)))
          (some (ret8 false)))
         (some (ret8 false)))
        (bcond (((res50_1 r3) : Int) != 0)
         (some (ret8 false))
         (L8_0 F48 F49 F50 F51 F42 F32 F52 F34 n n a0 a1 (res49_0 r2) (res49_1 r2) (res50_0 r3) 0 0)))))))) := by kernel_rfl
theorem ok8 : fnOk os8 sig8 Try.f8 = true := by kernel_rfl
theorem fn8 : P.funcs[8]? = some Try.f8 := by kernel_rfl
noncomputable def F8 : sig8.Fn := fun x y => run T (env8 F48 F49 F50 F51 F42 F32 F52 F34) os8 sig8 Try.f8 hs8 big x y
theorem S8 : Sound P 8 ⟨sig8, F8⟩ := sound_of (os := os8) (hs := hs8) (env_cons S48 (env_cons S49 (env_cons S50 (env_cons S51 (env_cons S42 (env_cons S32 (env_cons S52 (env_cons S34 (env_nil))))))))) fn8 ok8 (fun x y out h => ⟨big, h⟩)
theorem e8 (a0 : List YElem.den) (a1 : Int) : C8 F8 a0 a1 =
  ((C48 F48 ).bind fun r1 =>
   (bcond (!(res48_0 r1))
    (some (ret8 false))
    ((C49 F49 a0 a1).bind fun r2 =>
     ((C50 F50 a0).bind fun r3 =>
      ((C51 F51 a0).bind fun r4 =>
       (bcond (((res51_0 r4) : Int) != 0)
        (bcond ((((res49_1 r2) : Int) == (res51_0 r4)) == true)
         (bcond ((((res50_1 r3) : Int) == (res51_0 r4)) == true)
          (some (ret8 (((IntKind.i64.wrap ((List.length (res49_0 r2) : Int) + (List.length (res50_0 r3) : Int))) : Int) == 0)))
          (some (ret8 false)))
         (some (ret8 false)))
        (bcond (((res50_1 r3) : Int) != 0)
         (some (ret8 false))
         (L8_0 F48 F49 F50 F51 F42 F32 F52 F34 big big a0 a1 (res49_0 r2) (res49_1 r2) (res50_0 r3) 0 0)))))))) := run8 F48 F49 F50 F51 F42 F32 F52 F34 big a0 a1
end Go.Ev
