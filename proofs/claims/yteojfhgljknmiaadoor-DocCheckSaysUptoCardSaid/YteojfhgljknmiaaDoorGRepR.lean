/- Functions, step by step. -/
import Derived.Test.YteojfhgljknmiaaDoorGFlows
namespace Go.Ev
set_option linter.unusedVariables false
set_option maxRecDepth 100000
open Go.Proofs
def sig_R_Place : Sig := ⟨[.v false .str], [], [(false, [.fr .bool])]⟩
def C_R_Place (F : sig_R_Place.Fn) (a0 : List UInt8) : Option sig_R_Place.Out := F (a0, ()) ()
def ret_R_Place (v0 : Bool) : sig_R_Place.Out := (((v0, ()), ()), ())
def res_R_Place_0 (r : sig_R_Place.Out) : Bool := r.1.1.1
@[simp] theorem res_R_Place_0_ret (v0 : Bool) : res_R_Place_0 (ret_R_Place v0) = v0 := rfl
def os_R_Place : RegT := ⟨[], [], false⟩
def hs_R_Place : List Keep := [[(0, []), (5, []), (6, [])]]
@[reducible] noncomputable def env_R_Place : Env := []
noncomputable def L_R_Place_0 (n m1 : Nat) (x0 : List UInt8) (x5 : Int) (x6 : Int) : Option sig_R_Place.Out :=
  loopAt T (env_R_Place) os_R_Place sig_R_Place Tryd.f112 hs_R_Place n [.sr, .sl, .sr, .bl] m1 (mk 36 [(0, .cs false [.val .str x0]), (5, .cs false [.val (.int .i64) x5]), (6, .cs false [.val (.int .i64) x6])])
theorem L_R_Place_0_step (n m1 : Nat) (x0 : List UInt8) (x5 : Int) (x6 : Int) : L_R_Place_0 n (m1 + 1) x0 x5 x6 =
  (bcond (decide ((x6 : Int) < x5))
   (if 0 ≤ (x6 : Int) ∧ (x6 : Int) < (List.length x0 : Int) then
    (bcond ((decide ((((List.getD (x0 : List UInt8) (Int.toNat x6) 0).toNat : Int) : Int) < 97)) == false)
     (if 0 ≤ (x6 : Int) ∧ (x6 : Int) < (List.length x0 : Int) then
      (bcond (decide ((((List.getD (x0 : List UInt8) (Int.toNat x6) 0).toNat : Int) : Int) > 122))
       (some (ret_R_Place false))
       (L_R_Place_0 n m1 x0 x5 (IntKind.i64.wrap (x6 + 1))))
     else none)
     (some (ret_R_Place false)))
   else none)
   (bcond ((decide (((List.length x0 : Int) : Int) ≥ 1)) == true)
    (bcond ((decide (((List.length x0 : Int) : Int) ≤ 200)) == true)
     (if 0 ≤ ((IntKind.i64.wrap ((List.length x0 : Int) - 1)) : Int) ∧ ((IntKind.i64.wrap ((List.length x0 : Int) - 1)) : Int) < (List.length x0 : Int) then
      (some (ret_R_Place ((((List.getD (x0 : List UInt8) (Int.toNat (IntKind.i64.wrap ((List.length x0 : Int) - 1))) 0).toNat : Int) : Int) != 97)))
     else none)
     (some (ret_R_Place false)))
    (some (ret_R_Place false)))) := by kernel_rfl
theorem ok_R_Place : fnOk os_R_Place sig_R_Place Tryd.f112 = true := by kernel_rfl
theorem fn_R_Place : P.funcs[112]? = some Tryd.f112 := by kernel_rfl
noncomputable def F_R_Place : sig_R_Place.Fn := fun x y => run T (env_R_Place) os_R_Place sig_R_Place Tryd.f112 hs_R_Place big x y
theorem S_R_Place : Sound P 112 ⟨sig_R_Place, F_R_Place⟩ := sound_of (os := os_R_Place) (hs := hs_R_Place) (env_nil) fn_R_Place ok_R_Place (fun x y out h => ⟨big, h⟩)
theorem e_R_Place (a0 : List UInt8) : C_R_Place F_R_Place a0 =
  (L_R_Place_0 big big a0 (List.length a0 : Int) 0) := by kernel_rfl
def sig_R_Earlier : Sig := ⟨[.v true YDrawOp, .v true YDrawOp], [], [(false, [.fr .bool])]⟩
def C_R_Earlier (F : sig_R_Earlier.Fn) (a0 : YDrawOp.den) (a1 : YDrawOp.den) : Option sig_R_Earlier.Out := F (a0, a1, ()) ()
def ret_R_Earlier (v0 : Bool) : sig_R_Earlier.Out := (((v0, ()), ()), ())
def res_R_Earlier_0 (r : sig_R_Earlier.Out) : Bool := r.1.1.1
@[simp] theorem res_R_Earlier_0_ret (v0 : Bool) : res_R_Earlier_0 (ret_R_Earlier v0) = v0 := rfl
def os_R_Earlier : RegT := ⟨[], [], false⟩
def hs_R_Earlier : List Keep := []
@[reducible] noncomputable def env_R_Earlier : Env := []
theorem ok_R_Earlier : fnOk os_R_Earlier sig_R_Earlier Tryd.f113 = true := by kernel_rfl
theorem fn_R_Earlier : P.funcs[113]? = some Tryd.f113 := by kernel_rfl
noncomputable def F_R_Earlier : sig_R_Earlier.Fn := fun x y => run T (env_R_Earlier) os_R_Earlier sig_R_Earlier Tryd.f113 hs_R_Earlier big x y
theorem S_R_Earlier : Sound P 113 ⟨sig_R_Earlier, F_R_Earlier⟩ := sound_of (os := os_R_Earlier) (hs := hs_R_Earlier) (env_nil) fn_R_Earlier ok_R_Earlier (fun x y out h => ⟨big, h⟩)
theorem e_R_Earlier (a0 : YDrawOp.den) (a1 : YDrawOp.den) : C_R_Earlier F_R_Earlier a0 a1 =
  (bcond ((decide ((a0.1 : Int) < a1.1)) == false)
   (bcond (((a0.1 : Int) == a1.1) == true)
    (some (ret_R_Earlier (decide ((a0.2.1 : Int) < a1.2.1))))
    (some (ret_R_Earlier false)))
   (some (ret_R_Earlier true))) := by kernel_rfl
def sig_R_DrawError : Sig := ⟨[.v false (.list YDrawOp)], [], [(false, [.fr (.int .i64)])]⟩
def C_R_DrawError (F : sig_R_DrawError.Fn) (a0 : List YDrawOp.den) : Option sig_R_DrawError.Out := F (a0, ()) ()
def ret_R_DrawError (v0 : Int) : sig_R_DrawError.Out := (((v0, ()), ()), ())
def res_R_DrawError_0 (r : sig_R_DrawError.Out) : Int := r.1.1.1
@[simp] theorem res_R_DrawError_0_ret (v0 : Int) : res_R_DrawError_0 (ret_R_DrawError v0) = v0 := rfl
def os_R_DrawError : RegT := ⟨[(22, .st 0 (.st 1 (.st 2 (.st 3 (.st 4 (.st 5 (.st 6 (.st 7 (.st 8 (.st 9 (.st 10 (.st 11 (.nil)))))))))))))], [], false⟩
def hs_R_DrawError : List Keep := [[(0, []), (6, []), (7, [])]]
@[reducible] noncomputable def env_R_DrawError : Env := [(47, ⟨sig_R_In, F_R_In⟩), (112, ⟨sig_R_Place, F_R_Place⟩), (113, ⟨sig_R_Earlier, F_R_Earlier⟩), (89, ⟨sig_R_Name, F_R_Name⟩), (90, ⟨sig_R_Value, F_R_Value⟩)]
noncomputable def L_R_DrawError_0 (n m1 : Nat) (x0 : List YDrawOp.den) (x6 : Int) (x7 : Int) : Option sig_R_DrawError.Out :=
  loopAt T (env_R_DrawError) os_R_DrawError sig_R_DrawError Tryd.f86 hs_R_DrawError n [.sr, .sl, .sr, .bl] m1 (mk 91 [(0, .cs false [.val (.list YDrawOp) x0]), (6, .cs false [.val (.int .i64) x6]), (7, .cs false [.val (.int .i64) x7])])
noncomputable def J_R_DrawError_0 (n m1 : Nat) (y0 : List YDrawOp.den) (y3 : Int) (y4 : YDrawOp.den) (y6 : Int) (y7 : Int) : Option sig_R_DrawError.Out :=
  (bcond ((decide ((y3 : Int) > 0)) == true)
   (if 0 ≤ ((IntKind.i64.wrap (y3 - 1)) : Int) ∧ ((IntKind.i64.wrap (y3 - 1)) : Int) < (List.length y0 : Int) then
    ((C_R_Earlier F_R_Earlier (at_ (e := YDrawOp) y0 (IntKind.i64.wrap (y3 - 1))) y4).bind fun r6 =>
     (bcond (!(res_R_Earlier_0 r6))
      (some (ret_R_DrawError 5))
      (L_R_DrawError_0 n m1 y0 y6 (IntKind.i64.wrap (y7 + 1)))))
   else none)
   (L_R_DrawError_0 n m1 y0 y6 (IntKind.i64.wrap (y7 + 1))))
theorem L_R_DrawError_0_step (n m1 : Nat) (x0 : List YDrawOp.den) (x6 : Int) (x7 : Int) : L_R_DrawError_0 n (m1 + 1) x0 x6 x7 =
  (bcond (decide ((x7 : Int) < x6))
   (if 0 ≤ (x7 : Int) ∧ (x7 : Int) < (List.length x0 : Int) then
    (bcond ((((at_ (e := YDrawOp) x0 x7).2.2.1 : Int) != 0) == true)
     (bcond (((at_ (e := YDrawOp) x0 x7).2.2.1 : Int) != 1)
      (some (ret_R_DrawError 8))
      ((C_R_In F_R_In (at_ (e := YDrawOp) x0 x7).1 1 1073741824).bind fun r1 =>
       (bcond ((!(res_R_In_0 r1)) == false)
        ((C_R_In F_R_In (at_ (e := YDrawOp) x0 x7).2.1 0 1000).bind fun r2 =>
         (bcond ((!(res_R_In_0 r2)) == false)
          ((C_R_In F_R_In (at_ (e := YDrawOp) x0 x7).2.2.2.1 1 1073741824).bind fun r3 =>
           (bcond (!(res_R_In_0 r3))
            (some (ret_R_DrawError 2))
            (bcond (((at_ (e := YDrawOp) x0 x7).2.2.1 : Int) == 0)
             (bcond ((!(((at_ (e := YDrawOp) x0 x7).2.2.2.2.2.2.1 : List UInt8) == [])) == false)
              (bcond (!(((at_ (e := YDrawOp) x0 x7).2.2.2.2.2.2.2 : List UInt8) == []))
               (some (ret_R_DrawError 4))
               ((C_R_In F_R_In (at_ (e := YDrawOp) x0 x7).2.2.2.2.1 (-1) 1073741824).bind fun r4 =>
                (bcond (!(res_R_In_0 r4))
                 (some (ret_R_DrawError 2))
                 ((C_R_Place F_R_Place (at_ (e := YDrawOp) x0 x7).2.2.2.2.2.1).bind fun r5 =>
                  (bcond (!(res_R_Place_0 r5))
                   (some (ret_R_DrawError 9))
                   (J_R_DrawError_0 n m1 x0 x7 (at_ (e := YDrawOp) x0 x7) x6 x7))))))
              (some (ret_R_DrawError 4)))
             (bcond ((((at_ (e := YDrawOp) x0 x7).2.2.2.2.1 : Int) != 0) == false)
              (bcond (!(((at_ (e := YDrawOp) x0 x7).2.2.2.2.2.1 : List UInt8) == []))
               (some (ret_R_DrawError 4))
               ((C_R_Name F_R_Name (at_ (e := YDrawOp) x0 x7).2.2.2.2.2.2.1).bind fun r4 =>
                (bcond (!(res_R_Name_0 r4))
                 (some (ret_R_DrawError 9))
                 (bcond ((!(((at_ (e := YDrawOp) x0 x7).2.2.2.2.2.2.2 : List UInt8) == [])) == true)
                  ((C_R_Value F_R_Value (at_ (e := YDrawOp) x0 x7).2.2.2.2.2.2.2).bind fun r5 =>
                   (bcond (!(res_R_Value_0 r5))
                    (some (ret_R_DrawError 23))
                    (J_R_DrawError_0 n m1 x0 x7 (at_ (e := YDrawOp) x0 x7) x6 x7)))
                  (J_R_DrawError_0 n m1 x0 x7 (at_ (e := YDrawOp) x0 x7) x6 x7)))))
              (some (ret_R_DrawError 4))))))
          (some (ret_R_DrawError 2))))
        (some (ret_R_DrawError 2)))))
     ((C_R_In F_R_In (at_ (e := YDrawOp) x0 x7).1 1 1073741824).bind fun r1 =>
      (bcond ((!(res_R_In_0 r1)) == false)
       ((C_R_In F_R_In (at_ (e := YDrawOp) x0 x7).2.1 0 1000).bind fun r2 =>
        (bcond ((!(res_R_In_0 r2)) == false)
         ((C_R_In F_R_In (at_ (e := YDrawOp) x0 x7).2.2.2.1 1 1073741824).bind fun r3 =>
          (bcond (!(res_R_In_0 r3))
           (some (ret_R_DrawError 2))
           (bcond (((at_ (e := YDrawOp) x0 x7).2.2.1 : Int) == 0)
            (bcond ((!(((at_ (e := YDrawOp) x0 x7).2.2.2.2.2.2.1 : List UInt8) == [])) == false)
             (bcond (!(((at_ (e := YDrawOp) x0 x7).2.2.2.2.2.2.2 : List UInt8) == []))
              (some (ret_R_DrawError 4))
              ((C_R_In F_R_In (at_ (e := YDrawOp) x0 x7).2.2.2.2.1 (-1) 1073741824).bind fun r4 =>
               (bcond (!(res_R_In_0 r4))
                (some (ret_R_DrawError 2))
                ((C_R_Place F_R_Place (at_ (e := YDrawOp) x0 x7).2.2.2.2.2.1).bind fun r5 =>
                 (bcond (!(res_R_Place_0 r5))
                  (some (ret_R_DrawError 9))
                  (J_R_DrawError_0 n m1 x0 x7 (at_ (e := YDrawOp) x0 x7) x6 x7))))))
             (some (ret_R_DrawError 4)))
            (bcond ((((at_ (e := YDrawOp) x0 x7).2.2.2.2.1 : Int) != 0) == false)
             (bcond (!(((at_ (e := YDrawOp) x0 x7).2.2.2.2.2.1 : List UInt8) == []))
              (some (ret_R_DrawError 4))
              ((C_R_Name F_R_Name (at_ (e := YDrawOp) x0 x7).2.2.2.2.2.2.1).bind fun r4 =>
               (bcond (!(res_R_Name_0 r4))
                (some (ret_R_DrawError 9))
                (bcond ((!(((at_ (e := YDrawOp) x0 x7).2.2.2.2.2.2.2 : List UInt8) == [])) == true)
                 ((C_R_Value F_R_Value (at_ (e := YDrawOp) x0 x7).2.2.2.2.2.2.2).bind fun r5 =>
                  (bcond (!(res_R_Value_0 r5))
                   (some (ret_R_DrawError 23))
                   (J_R_DrawError_0 n m1 x0 x7 (at_ (e := YDrawOp) x0 x7) x6 x7)))
                 (J_R_DrawError_0 n m1 x0 x7 (at_ (e := YDrawOp) x0 x7) x6 x7)))))
             (some (ret_R_DrawError 4))))))
         (some (ret_R_DrawError 2))))
       (some (ret_R_DrawError 2)))))
   else none)
   (some (ret_R_DrawError 0))) := by kernel_rfl
theorem ok_R_DrawError : fnOk os_R_DrawError sig_R_DrawError Tryd.f86 = true := by kernel_rfl
theorem fn_R_DrawError : P.funcs[86]? = some Tryd.f86 := by kernel_rfl
noncomputable def F_R_DrawError : sig_R_DrawError.Fn := fun x y => run T (env_R_DrawError) os_R_DrawError sig_R_DrawError Tryd.f86 hs_R_DrawError big x y
theorem S_R_DrawError : Sound P 86 ⟨sig_R_DrawError, F_R_DrawError⟩ := sound_of (os := os_R_DrawError) (hs := hs_R_DrawError) (env_cons S_R_In (env_cons S_R_Place (env_cons S_R_Earlier (env_cons S_R_Name (env_cons S_R_Value (env_nil)))))) fn_R_DrawError ok_R_DrawError (fun x y out h => ⟨big, h⟩)
theorem e_R_DrawError (a0 : List YDrawOp.den) : C_R_DrawError F_R_DrawError a0 =
  (L_R_DrawError_0 big big a0 (List.length a0 : Int) 0) := by kernel_rfl
end Go.Ev
