/- Functions, step by step. -/
import Derived.Test.YtpmeeopafdgbpaaDoorGGridS
import Derived.Test.YtpmeeopafdgbpaaDoorGValid
namespace Go.Ev
set_option linter.unusedVariables false
set_option maxRecDepth 100000
open Go.Proofs
def sig_R_EmptyCell : Sig := ⟨[.v true YCell], [], [(false, [.fr .bool])]⟩
def C_R_EmptyCell (F : sig_R_EmptyCell.Fn) (a0 : YCell.den) : Option sig_R_EmptyCell.Out := F (a0, ()) ()
def ret_R_EmptyCell (v0 : Bool) : sig_R_EmptyCell.Out := (((v0, ()), ()), ())
def res_R_EmptyCell_0 (r : sig_R_EmptyCell.Out) : Bool := r.1.1.1
@[simp] theorem res_R_EmptyCell_0_ret (v0 : Bool) : res_R_EmptyCell_0 (ret_R_EmptyCell v0) = v0 := rfl
def os_R_EmptyCell : RegT := ⟨[], [], false⟩
def hs_R_EmptyCell : List Keep := []
@[reducible] noncomputable def env_R_EmptyCell : Env := []
theorem ok_R_EmptyCell : fnOk os_R_EmptyCell sig_R_EmptyCell Tryd.f36 = true := by kernel_rfl
theorem fn_R_EmptyCell : P.funcs[36]? = some Tryd.f36 := by kernel_rfl
noncomputable def F_R_EmptyCell : sig_R_EmptyCell.Fn := fun x y => run T (env_R_EmptyCell) os_R_EmptyCell sig_R_EmptyCell Tryd.f36 hs_R_EmptyCell big x y
theorem S_R_EmptyCell : Sound P 36 ⟨sig_R_EmptyCell, F_R_EmptyCell⟩ := sound_of (os := os_R_EmptyCell) (hs := hs_R_EmptyCell) (env_nil) fn_R_EmptyCell ok_R_EmptyCell (fun x y out h => ⟨big, h⟩)
theorem e_R_EmptyCell (a0 : YCell.den) : C_R_EmptyCell F_R_EmptyCell a0 =
  (bcond (((a0.2.2.1 : List UInt8) == []) == true)
   (bcond (((a0.2.2.2.1 : Int) == 0) == true)
    (some (ret_R_EmptyCell (((List.length a0.2.2.2.2 : Int) : Int) == 0)))
    (some (ret_R_EmptyCell false)))
   (some (ret_R_EmptyCell false))) := by kernel_rfl
def sig_R_CellsError : Sig := ⟨[.v false (.list YCell), .v false (.int .i64), .v false (.int .i64), .v false .bool], [], [(false, [.fr (.int .i64)])]⟩
def C_R_CellsError (F : sig_R_CellsError.Fn) (a0 : List YCell.den) (a1 : Int) (a2 : Int) (a3 : Bool) : Option sig_R_CellsError.Out := F (a0, a1, a2, a3, ()) ()
def ret_R_CellsError (v0 : Int) : sig_R_CellsError.Out := (((v0, ()), ()), ())
def res_R_CellsError_0 (r : sig_R_CellsError.Out) : Int := r.1.1.1
@[simp] theorem res_R_CellsError_0_ret (v0 : Int) : res_R_CellsError_0 (ret_R_CellsError v0) = v0 := rfl
def os_R_CellsError : RegT := ⟨[(14, .st 0 (.st 1 (.st 2 (.st 3 (.st 5 (.st 6 (.st 7 (.st 8 (.st 9 (.st 4 (.st 10 (.st 11 (.st 12 (.st 13 (.st 15 (.st 16 (.st 17 (.st 18 (.st 19 (.st 14 (.st 20 (.st 21 (.st 22 (.st 23 (.st 25 (.st 26 (.st 27 (.st 28 (.st 29 (.st 24 (.st 30 (.st 31 (.st 32 (.st 33 (.st 34 (.nil))))))))))))))))))))))))))))))))))))], [], false⟩
def hs_R_CellsError : List Keep := [[(0, []), (1, []), (2, []), (3, []), (13, []), (14, [])]]
@[reducible] noncomputable def env_R_CellsError : Env := [(24, ⟨sig_R_In, F_R_In⟩), (15, ⟨sig_R_CellText, F_R_CellText⟩), (63, ⟨sig_R_AttrsError, F_R_AttrsError⟩), (36, ⟨sig_R_EmptyCell, F_R_EmptyCell⟩)]
noncomputable def L_R_CellsError_0 (n m1 : Nat) (x0 : List YCell.den) (x1 : Int) (x2 : Int) (x3 : Bool) (x13 : Int) (x14 : Int) : Option sig_R_CellsError.Out :=
  loopAt T (env_R_CellsError) os_R_CellsError sig_R_CellsError Tryd.f25 hs_R_CellsError n [.sr, .sl, .sr, .bl] m1 (mk 93 [(0, .cs false [.val (.list YCell) x0]), (1, .cs false [.val (.int .i64) x1]), (2, .cs false [.val (.int .i64) x2]), (3, .cs false [.val .bool x3]), (13, .cs false [.val (.int .i64) x13]), (14, .cs false [.val (.int .i64) x14])])
theorem L_R_CellsError_0_step (n m1 : Nat) (x0 : List YCell.den) (x1 : Int) (x2 : Int) (x3 : Bool) (x13 : Int) (x14 : Int) : L_R_CellsError_0 n (m1 + 1) x0 x1 x2 x3 x13 x14 =
  (bcond (decide ((x14 : Int) < x13))
   (if 0 ≤ (x14 : Int) ∧ (x14 : Int) < (List.length x0 : Int) then
    ((C_R_In F_R_In (at_ (e := YCell) x0 x14).1 0 (IntKind.i64.wrap (x1 - 1))).bind fun r1 =>
     (bcond ((!(res_R_In_0 r1)) == false)
      ((C_R_In F_R_In (at_ (e := YCell) x0 x14).2.1 0 (IntKind.i64.wrap (x2 - 1))).bind fun r2 =>
       (bcond ((!(res_R_In_0 r2)) == false)
        ((C_R_In F_R_In (at_ (e := YCell) x0 x14).2.2.2.1 0 1073741824).bind fun r3 =>
         (bcond (!(res_R_In_0 r3))
          (some (ret_R_CellsError 2))
          ((C_R_CellText F_R_CellText (at_ (e := YCell) x0 x14).2.2.1).bind fun r4 =>
           (bcond (!(res_R_CellText_0 r4))
            (some (ret_R_CellsError 23))
            ((C_R_AttrsError F_R_AttrsError (at_ (e := YCell) x0 x14).2.2.2.2 false).bind fun r5 =>
             (bcond (((res_R_AttrsError_0 r5) : Int) != 0)
              (some (ret_R_CellsError (res_R_AttrsError_0 r5)))
              (bcond ((!x3) == true)
               ((C_R_EmptyCell F_R_EmptyCell (at_ (e := YCell) x0 x14)).bind fun r6 =>
                (bcond (res_R_EmptyCell_0 r6)
                 (some (ret_R_CellsError 4))
                 (bcond ((decide ((x14 : Int) > 0)) == true)
                  (if 0 ≤ ((IntKind.i64.wrap (x14 - 1)) : Int) ∧ ((IntKind.i64.wrap (x14 - 1)) : Int) < (List.length x0 : Int) then
                   (bcond ((decide (((at_ (e := YCell) x0 x14).1 : Int) < (at_ (e := YCell) x0 (IntKind.i64.wrap (x14 - 1))).1)) == false)
                    (if 0 ≤ ((IntKind.i64.wrap (x14 - 1)) : Int) ∧ ((IntKind.i64.wrap (x14 - 1)) : Int) < (List.length x0 : Int) then
                     (bcond ((((at_ (e := YCell) x0 x14).1 : Int) == (at_ (e := YCell) x0 (IntKind.i64.wrap (x14 - 1))).1) == true)
                      (if 0 ≤ ((IntKind.i64.wrap (x14 - 1)) : Int) ∧ ((IntKind.i64.wrap (x14 - 1)) : Int) < (List.length x0 : Int) then
                       (bcond (decide (((at_ (e := YCell) x0 x14).2.1 : Int) ≤ (at_ (e := YCell) x0 (IntKind.i64.wrap (x14 - 1))).2.1))
                        (some (ret_R_CellsError 5))
                        (L_R_CellsError_0 n m1 x0 x1 x2 x3 x13 (IntKind.i64.wrap (x14 + 1))))
                      else none)
                      (L_R_CellsError_0 n m1 x0 x1 x2 x3 x13 (IntKind.i64.wrap (x14 + 1))))
                    else none)
                    (some (ret_R_CellsError 5)))
                  else none)
                  (L_R_CellsError_0 n m1 x0 x1 x2 x3 x13 (IntKind.i64.wrap (x14 + 1))))))
               (bcond ((decide ((x14 : Int) > 0)) == true)
                (if 0 ≤ ((IntKind.i64.wrap (x14 - 1)) : Int) ∧ ((IntKind.i64.wrap (x14 - 1)) : Int) < (List.length x0 : Int) then
                 (bcond ((decide (((at_ (e := YCell) x0 x14).1 : Int) < (at_ (e := YCell) x0 (IntKind.i64.wrap (x14 - 1))).1)) == false)
                  (if 0 ≤ ((IntKind.i64.wrap (x14 - 1)) : Int) ∧ ((IntKind.i64.wrap (x14 - 1)) : Int) < (List.length x0 : Int) then
                   (bcond ((((at_ (e := YCell) x0 x14).1 : Int) == (at_ (e := YCell) x0 (IntKind.i64.wrap (x14 - 1))).1) == true)
                    (if 0 ≤ ((IntKind.i64.wrap (x14 - 1)) : Int) ∧ ((IntKind.i64.wrap (x14 - 1)) : Int) < (List.length x0 : Int) then
                     (bcond (decide (((at_ (e := YCell) x0 x14).2.1 : Int) ≤ (at_ (e := YCell) x0 (IntKind.i64.wrap (x14 - 1))).2.1))
                      (some (ret_R_CellsError 5))
                      (L_R_CellsError_0 n m1 x0 x1 x2 x3 x13 (IntKind.i64.wrap (x14 + 1))))
                    else none)
                    (L_R_CellsError_0 n m1 x0 x1 x2 x3 x13 (IntKind.i64.wrap (x14 + 1))))
                  else none)
                  (some (ret_R_CellsError 5)))
                else none)
                (L_R_CellsError_0 n m1 x0 x1 x2 x3 x13 (IntKind.i64.wrap (x14 + 1)))))))))))
        (some (ret_R_CellsError 2))))
      (some (ret_R_CellsError 2))))
   else none)
   (some (ret_R_CellsError 0))) := by kernel_rfl
theorem ok_R_CellsError : fnOk os_R_CellsError sig_R_CellsError Tryd.f25 = true := by kernel_rfl
theorem fn_R_CellsError : P.funcs[25]? = some Tryd.f25 := by kernel_rfl
noncomputable def F_R_CellsError : sig_R_CellsError.Fn := fun x y => run T (env_R_CellsError) os_R_CellsError sig_R_CellsError Tryd.f25 hs_R_CellsError big x y
theorem S_R_CellsError : Sound P 25 ⟨sig_R_CellsError, F_R_CellsError⟩ := sound_of (os := os_R_CellsError) (hs := hs_R_CellsError) (env_cons S_R_In (env_cons S_R_CellText (env_cons S_R_AttrsError (env_cons S_R_EmptyCell (env_nil))))) fn_R_CellsError ok_R_CellsError (fun x y out h => ⟨big, h⟩)
theorem e_R_CellsError (a0 : List YCell.den) (a1 : Int) (a2 : Int) (a3 : Bool) : C_R_CellsError F_R_CellsError a0 a1 a2 a3 =
  (L_R_CellsError_0 big big a0 a1 a2 a3 (List.length a0 : Int) 0) := by kernel_rfl
def sig_R_Lies : Sig := ⟨[.v true YRect, .v false (.int .i64), .v false (.int .i64)], [], [(false, [.fr .bool])]⟩
def C_R_Lies (F : sig_R_Lies.Fn) (a0 : YRect.den) (a1 : Int) (a2 : Int) : Option sig_R_Lies.Out := F (a0, a1, a2, ()) ()
def ret_R_Lies (v0 : Bool) : sig_R_Lies.Out := (((v0, ()), ()), ())
def res_R_Lies_0 (r : sig_R_Lies.Out) : Bool := r.1.1.1
@[simp] theorem res_R_Lies_0_ret (v0 : Bool) : res_R_Lies_0 (ret_R_Lies v0) = v0 := rfl
def os_R_Lies : RegT := ⟨[], [], false⟩
def hs_R_Lies : List Keep := []
@[reducible] noncomputable def env_R_Lies : Env := [(24, ⟨sig_R_In, F_R_In⟩)]
theorem ok_R_Lies : fnOk os_R_Lies sig_R_Lies Tryd.f26 = true := by kernel_rfl
theorem fn_R_Lies : P.funcs[26]? = some Tryd.f26 := by kernel_rfl
noncomputable def F_R_Lies : sig_R_Lies.Fn := fun x y => run T (env_R_Lies) os_R_Lies sig_R_Lies Tryd.f26 hs_R_Lies big x y
theorem S_R_Lies : Sound P 26 ⟨sig_R_Lies, F_R_Lies⟩ := sound_of (os := os_R_Lies) (hs := hs_R_Lies) (env_cons S_R_In (env_nil)) fn_R_Lies ok_R_Lies (fun x y out h => ⟨big, h⟩)
theorem e_R_Lies (a0 : YRect.den) (a1 : Int) (a2 : Int) : C_R_Lies F_R_Lies a0 a1 a2 =
  ((C_R_In F_R_In a0.1 0 (IntKind.i64.wrap (a1 - 1))).bind fun r1 =>
   (bcond ((res_R_In_0 r1) == true)
    ((C_R_In F_R_In a0.2.1 0 (IntKind.i64.wrap (a2 - 1))).bind fun r2 =>
     (bcond ((res_R_In_0 r2) == true)
      ((C_R_In F_R_In a0.2.2.1 1 (IntKind.i64.wrap (a1 - a0.1))).bind fun r3 =>
       (bcond ((res_R_In_0 r3) == true)
        ((C_R_In F_R_In a0.2.2.2 1 (IntKind.i64.wrap (a2 - a0.2.1))).bind fun r4 =>
         (some (ret_R_Lies (res_R_In_0 r4))))
        (some (ret_R_Lies false))))
      (some (ret_R_Lies false))))
    (some (ret_R_Lies false)))) := by kernel_rfl
def sig_R_Share : Sig := ⟨[.v true YRect, .v true YRect], [], [(false, [.fr .bool])]⟩
def C_R_Share (F : sig_R_Share.Fn) (a0 : YRect.den) (a1 : YRect.den) : Option sig_R_Share.Out := F (a0, a1, ()) ()
def ret_R_Share (v0 : Bool) : sig_R_Share.Out := (((v0, ()), ()), ())
def res_R_Share_0 (r : sig_R_Share.Out) : Bool := r.1.1.1
@[simp] theorem res_R_Share_0_ret (v0 : Bool) : res_R_Share_0 (ret_R_Share v0) = v0 := rfl
def os_R_Share : RegT := ⟨[(1, .st 0 (.st 2 (.st 5 (.st 7 (.alt 1 (.alt 3 (.st 4 (.st 10 (.st 6 (.st 8 (.st 9 (.st 11 (.nil))))))) (.alt 6 (.alt 3 (.st 4 (.st 10 (.st 8 (.st 9 (.st 11 (.nil)))))) (.st 8 (.st 9 (.st 3 (.st 4 (.st 10 (.st 11 (.nil)))))))) (.st 8 (.alt 3 (.st 4 (.st 10 (.st 6 (.st 9 (.st 11 (.nil)))))) (.st 6 (.st 9 (.st 3 (.st 4 (.st 10 (.st 11 (.nil))))))))))) (.alt 3 (.alt 1 (.st 4 (.st 10 (.st 6 (.st 8 (.st 9 (.st 11 (.nil))))))) (.alt 6 (.alt 1 (.st 4 (.st 10 (.st 8 (.st 9 (.st 11 (.nil)))))) (.st 8 (.st 9 (.st 1 (.st 4 (.st 10 (.st 11 (.nil)))))))) (.st 8 (.alt 1 (.st 4 (.st 10 (.st 6 (.st 9 (.st 11 (.nil)))))) (.st 6 (.st 9 (.st 1 (.st 4 (.st 10 (.st 11 (.nil))))))))))) (.alt 6 (.alt 1 (.alt 3 (.st 4 (.st 10 (.st 8 (.st 9 (.st 11 (.nil)))))) (.st 8 (.st 9 (.st 3 (.st 4 (.st 10 (.st 11 (.nil)))))))) (.alt 3 (.alt 1 (.st 4 (.st 10 (.st 8 (.st 9 (.st 11 (.nil)))))) (.st 8 (.st 9 (.st 1 (.st 4 (.st 10 (.st 11 (.nil)))))))) (.st 8 (.st 9 (.st 1 (.st 3 (.st 4 (.st 10 (.st 11 (.nil)))))))))) (.st 8 (.alt 1 (.alt 3 (.st 4 (.st 10 (.st 6 (.st 9 (.st 11 (.nil)))))) (.st 6 (.st 9 (.st 3 (.st 4 (.st 10 (.st 11 (.nil)))))))) (.alt 3 (.alt 1 (.st 4 (.st 10 (.st 6 (.st 9 (.st 11 (.nil)))))) (.st 6 (.st 9 (.st 1 (.st 4 (.st 10 (.st 11 (.nil)))))))) (.st 6 (.st 9 (.st 1 (.st 3 (.st 4 (.st 10 (.st 11 (.nil))))))))))))))))))], [], false⟩
def hs_R_Share : List Keep := []
@[reducible] noncomputable def env_R_Share : Env := []
noncomputable def J_R_Share_0 (n : Nat) (y2 : YRect.den) (y3 : YRect.den) (y5 : Int) (y6 : Int) : Option sig_R_Share.Out :=
  (bcond ((decide ((y5 : Int) < (if ((IntKind.i64.wrap (y3.1 + y3.2.2.1)) : Int) < (IntKind.i64.wrap (y2.1 + y2.2.2.1)) then (IntKind.i64.wrap (y3.1 + y3.2.2.1)) else (IntKind.i64.wrap (y2.1 + y2.2.2.1))))) == true)
   (some (ret_R_Share (decide ((y6 : Int) < (if ((IntKind.i64.wrap (y3.2.1 + y3.2.2.2)) : Int) < (IntKind.i64.wrap (y2.2.1 + y2.2.2.2)) then (IntKind.i64.wrap (y3.2.1 + y3.2.2.2)) else (IntKind.i64.wrap (y2.2.1 + y2.2.2.2)))))))
   (some (ret_R_Share false)))
theorem raw_R_Share (n : Nat) (a0 : YRect.den) (a1 : YRect.den) : C_R_Share (fun x y => run T (env_R_Share) os_R_Share sig_R_Share Tryd.f27 hs_R_Share n x y) a0 a1 =
  (agree
   (agree
    (J_R_Share_0 n a0 a1 (if (a1.1 : Int) > a0.1 then a1.1 else a0.1) (if (a1.2.1 : Int) > a0.2.1 then a1.2.1 else a0.2.1))
   (agree
    (agree
     (J_R_Share_0 n a0 a1 (if (a1.1 : Int) > a0.1 then a1.1 else a0.1) (if (a1.2.1 : Int) > a0.2.1 then a1.2.1 else a0.2.1))
     (J_R_Share_0 n a0 a1 (if (a1.1 : Int) > a0.1 then a1.1 else a0.1) (if (a1.2.1 : Int) > a0.2.1 then a1.2.1 else a0.2.1)))
    (agree
     (J_R_Share_0 n a0 a1 (if (a1.1 : Int) > a0.1 then a1.1 else a0.1) (if (a1.2.1 : Int) > a0.2.1 then a1.2.1 else a0.2.1))
     (J_R_Share_0 n a0 a1 (if (a1.1 : Int) > a0.1 then a1.1 else a0.1) (if (a1.2.1 : Int) > a0.2.1 then a1.2.1 else a0.2.1)))))
  (agree
   (agree
    (J_R_Share_0 n a0 a1 (if (a1.1 : Int) > a0.1 then a1.1 else a0.1) (if (a1.2.1 : Int) > a0.2.1 then a1.2.1 else a0.2.1))
   (agree
    (agree
     (J_R_Share_0 n a0 a1 (if (a1.1 : Int) > a0.1 then a1.1 else a0.1) (if (a1.2.1 : Int) > a0.2.1 then a1.2.1 else a0.2.1))
     (J_R_Share_0 n a0 a1 (if (a1.1 : Int) > a0.1 then a1.1 else a0.1) (if (a1.2.1 : Int) > a0.2.1 then a1.2.1 else a0.2.1)))
    (agree
     (J_R_Share_0 n a0 a1 (if (a1.1 : Int) > a0.1 then a1.1 else a0.1) (if (a1.2.1 : Int) > a0.2.1 then a1.2.1 else a0.2.1))
     (J_R_Share_0 n a0 a1 (if (a1.1 : Int) > a0.1 then a1.1 else a0.1) (if (a1.2.1 : Int) > a0.2.1 then a1.2.1 else a0.2.1)))))
  (agree
   (agree
    (agree
     (J_R_Share_0 n a0 a1 (if (a1.1 : Int) > a0.1 then a1.1 else a0.1) (if (a1.2.1 : Int) > a0.2.1 then a1.2.1 else a0.2.1))
     (J_R_Share_0 n a0 a1 (if (a1.1 : Int) > a0.1 then a1.1 else a0.1) (if (a1.2.1 : Int) > a0.2.1 then a1.2.1 else a0.2.1)))
   (agree
    (agree
     (J_R_Share_0 n a0 a1 (if (a1.1 : Int) > a0.1 then a1.1 else a0.1) (if (a1.2.1 : Int) > a0.2.1 then a1.2.1 else a0.2.1))
     (J_R_Share_0 n a0 a1 (if (a1.1 : Int) > a0.1 then a1.1 else a0.1) (if (a1.2.1 : Int) > a0.2.1 then a1.2.1 else a0.2.1)))
    (J_R_Share_0 n a0 a1 (if (a1.1 : Int) > a0.1 then a1.1 else a0.1) (if (a1.2.1 : Int) > a0.2.1 then a1.2.1 else a0.2.1))))
   (agree
    (agree
     (J_R_Share_0 n a0 a1 (if (a1.1 : Int) > a0.1 then a1.1 else a0.1) (if (a1.2.1 : Int) > a0.2.1 then a1.2.1 else a0.2.1))
     (J_R_Share_0 n a0 a1 (if (a1.1 : Int) > a0.1 then a1.1 else a0.1) (if (a1.2.1 : Int) > a0.2.1 then a1.2.1 else a0.2.1)))
   (agree
    (agree
     (J_R_Share_0 n a0 a1 (if (a1.1 : Int) > a0.1 then a1.1 else a0.1) (if (a1.2.1 : Int) > a0.2.1 then a1.2.1 else a0.2.1))
     (J_R_Share_0 n a0 a1 (if (a1.1 : Int) > a0.1 then a1.1 else a0.1) (if (a1.2.1 : Int) > a0.2.1 then a1.2.1 else a0.2.1)))
    (J_R_Share_0 n a0 a1 (if (a1.1 : Int) > a0.1 then a1.1 else a0.1) (if (a1.2.1 : Int) > a0.2.1 then a1.2.1 else a0.2.1))))))) := by kernel_rfl
theorem run_R_Share (n : Nat) (a0 : YRect.den) (a1 : YRect.den) : C_R_Share (fun x y => run T (env_R_Share) os_R_Share sig_R_Share Tryd.f27 hs_R_Share n x y) a0 a1 =
  (J_R_Share_0 n a0 a1 (if (a1.1 : Int) > a0.1 then a1.1 else a0.1) (if (a1.2.1 : Int) > a0.2.1 then a1.2.1 else a0.2.1)) := by rw [raw_R_Share]; simp only [agree_self]
theorem ok_R_Share : fnOk os_R_Share sig_R_Share Tryd.f27 = true := by kernel_rfl
theorem fn_R_Share : P.funcs[27]? = some Tryd.f27 := by kernel_rfl
noncomputable def F_R_Share : sig_R_Share.Fn := fun x y => run T (env_R_Share) os_R_Share sig_R_Share Tryd.f27 hs_R_Share big x y
theorem S_R_Share : Sound P 27 ⟨sig_R_Share, F_R_Share⟩ := sound_of (os := os_R_Share) (hs := hs_R_Share) (env_nil) fn_R_Share ok_R_Share (fun x y out h => ⟨big, h⟩)
theorem e_R_Share (a0 : YRect.den) (a1 : YRect.den) : C_R_Share F_R_Share a0 a1 =
  (J_R_Share_0 big a0 a1 (if (a1.1 : Int) > a0.1 then a1.1 else a0.1) (if (a1.2.1 : Int) > a0.2.1 then a1.2.1 else a0.2.1)) := run_R_Share big a0 a1
def sig_R_GridError : Sig := ⟨[.v true YGrid], [], [(false, [.fr (.int .i64)])]⟩
def C_R_GridError (F : sig_R_GridError.Fn) (a0 : YGrid.den) : Option sig_R_GridError.Out := F (a0, ()) ()
def ret_R_GridError (v0 : Int) : sig_R_GridError.Out := (((v0, ()), ()), ())
def res_R_GridError_0 (r : sig_R_GridError.Out) : Int := r.1.1.1
@[simp] theorem res_R_GridError_0_ret (v0 : Int) : res_R_GridError_0 (ret_R_GridError v0) = v0 := rfl
def os_R_GridError : RegT := ⟨[(14, .st 0 (.st 1 (.st 2 (.st 3 (.st 5 (.st 7 (.st 8 (.st 6 (.st 9 (.st 10 (.st 4 (.st 11 (.st 12 (.st 13 (.st 14 (.st 16 (.st 18 (.st 19 (.st 17 (.st 20 (.st 21 (.st 15 (.st 22 (.st 23 (.st 24 (.st 25 (.st 27 (.st 29 (.st 30 (.st 28 (.st 31 (.st 32 (.st 26 (.st 33 (.st 34 (.st 35 (.st 36 (.st 37 (.nil))))))))))))))))))))))))))))))))))))))), (19, .st 1 (.st 3 (.st 2 (.st 4 (.st 0 (.st 5 (.st 6 (.nil))))))))], [], false⟩
def hs_R_GridError : List Keep := [[(1, []), (29, []), (30, [])], [(1, []), (5, []), (29, []), (30, []), (91, []), (92, [])]]
@[reducible] noncomputable def env_R_GridError : Env := [(24, ⟨sig_R_In, F_R_In⟩), (25, ⟨sig_R_CellsError, F_R_CellsError⟩), (26, ⟨sig_R_Lies, F_R_Lies⟩), (27, ⟨sig_R_Share, F_R_Share⟩)]
noncomputable def L_R_GridError_0 (n m1 : Nat) (x1_0 : Int) (x1_1 : Int) (x1_2 : List YCell.den) (x1_3 : List YRect.den) (x29 : Int) (x30 : Int) : Option sig_R_GridError.Out :=
  loopAt T (env_R_GridError) os_R_GridError sig_R_GridError Tryd.f8 hs_R_GridError n [.sr, .sr, .sr, .sl, .sr, .bl] m1 (mk 104 [(1, .box [.val (.int .i64) x1_0, .val (.int .i64) x1_1, .val (.list YCell) x1_2, .val (.list YRect) x1_3]), (29, .cs false [.val (.int .i64) x29]), (30, .cs false [.val (.int .i64) x30])])
noncomputable def L_R_GridError_1 (n m1 m2 : Nat) (x1_0 : Int) (x1_1 : Int) (x1_2 : List YCell.den) (x1_3 : List YRect.den) (x5_0 : Int) (x5_1 : Int) (x5_2 : Int) (x5_3 : Int) (x29 : Int) (x30 : Int) (x91 : Int) (x92 : Int) : Option sig_R_GridError.Out :=
  loopAt T (env_R_GridError) os_R_GridError sig_R_GridError Tryd.f8 hs_R_GridError n [.sr, .sr, .sr, .sl, .sr, .bl, .lp m1, .sr, .sr, .sl, .bl, .sr, .sr, .sr, .sr, .sr, .sr, .bl] m2 (mk 104 [(1, .box [.val (.int .i64) x1_0, .val (.int .i64) x1_1, .val (.list YCell) x1_2, .val (.list YRect) x1_3]), (5, .box [.val (.int .i64) x5_0, .val (.int .i64) x5_1, .val (.int .i64) x5_2, .val (.int .i64) x5_3]), (29, .cs false [.val (.int .i64) x29]), (30, .cs false [.val (.int .i64) x30]), (91, .cs false [.val (.int .i64) x91]), (92, .cs false [.val (.int .i64) x92])])
theorem L_R_GridError_0_step (n m1 : Nat) (x1_0 : Int) (x1_1 : Int) (x1_2 : List YCell.den) (x1_3 : List YRect.den) (x29 : Int) (x30 : Int) : L_R_GridError_0 n (m1 + 1) x1_0 x1_1 x1_2 x1_3 x29 x30 =
  (bcond (decide ((x30 : Int) < x29))
   (if 0 ≤ (x30 : Int) ∧ (x30 : Int) < (List.length x1_3 : Int) then
    ((C_R_Lies F_R_Lies (at_ (e := YRect) x1_3 x30) x1_0 x1_1).bind fun r1 =>
     (bcond (!(res_R_Lies_0 r1))
      (some (ret_R_GridError 2))
      (bcond ((((at_ (e := YRect) x1_3 x30).2.2.1 : Int) == 1) == true)
       (bcond (((at_ (e := YRect) x1_3 x30).2.2.2 : Int) == 1)
        (some (ret_R_GridError 4))
        (bcond ((decide ((x30 : Int) > 0)) == true)
         (if 0 ≤ ((IntKind.i64.wrap (x30 - 1)) : Int) ∧ ((IntKind.i64.wrap (x30 - 1)) : Int) < (List.length x1_3 : Int) then
          (bcond ((decide (((at_ (e := YRect) x1_3 x30).1 : Int) < (at_ (e := YRect) x1_3 (IntKind.i64.wrap (x30 - 1))).1)) == false)
           (if 0 ≤ ((IntKind.i64.wrap (x30 - 1)) : Int) ∧ ((IntKind.i64.wrap (x30 - 1)) : Int) < (List.length x1_3 : Int) then
            (bcond ((((at_ (e := YRect) x1_3 x30).1 : Int) == (at_ (e := YRect) x1_3 (IntKind.i64.wrap (x30 - 1))).1) == true)
             (if 0 ≤ ((IntKind.i64.wrap (x30 - 1)) : Int) ∧ ((IntKind.i64.wrap (x30 - 1)) : Int) < (List.length x1_3 : Int) then
              (bcond (decide (((at_ (e := YRect) x1_3 x30).2.1 : Int) ≤ (at_ (e := YRect) x1_3 (IntKind.i64.wrap (x30 - 1))).2.1))
               (some (ret_R_GridError 5))
               (L_R_GridError_1 n m1 n x1_0 x1_1 x1_2 x1_3 (at_ (e := YRect) x1_3 x30).1 (at_ (e := YRect) x1_3 x30).2.1 (at_ (e := YRect) x1_3 x30).2.2.1 (at_ (e := YRect) x1_3 x30).2.2.2 x29 x30 x30 0))
             else none)
             (L_R_GridError_1 n m1 n x1_0 x1_1 x1_2 x1_3 (at_ (e := YRect) x1_3 x30).1 (at_ (e := YRect) x1_3 x30).2.1 (at_ (e := YRect) x1_3 x30).2.2.1 (at_ (e := YRect) x1_3 x30).2.2.2 x29 x30 x30 0))
           else none)
           (some (ret_R_GridError 5)))
         else none)
         (L_R_GridError_1 n m1 n x1_0 x1_1 x1_2 x1_3 (at_ (e := YRect) x1_3 x30).1 (at_ (e := YRect) x1_3 x30).2.1 (at_ (e := YRect) x1_3 x30).2.2.1 (at_ (e := YRect) x1_3 x30).2.2.2 x29 x30 x30 0)))
       (bcond ((decide ((x30 : Int) > 0)) == true)
        (if 0 ≤ ((IntKind.i64.wrap (x30 - 1)) : Int) ∧ ((IntKind.i64.wrap (x30 - 1)) : Int) < (List.length x1_3 : Int) then
         (bcond ((decide (((at_ (e := YRect) x1_3 x30).1 : Int) < (at_ (e := YRect) x1_3 (IntKind.i64.wrap (x30 - 1))).1)) == false)
          (if 0 ≤ ((IntKind.i64.wrap (x30 - 1)) : Int) ∧ ((IntKind.i64.wrap (x30 - 1)) : Int) < (List.length x1_3 : Int) then
           (bcond ((((at_ (e := YRect) x1_3 x30).1 : Int) == (at_ (e := YRect) x1_3 (IntKind.i64.wrap (x30 - 1))).1) == true)
            (if 0 ≤ ((IntKind.i64.wrap (x30 - 1)) : Int) ∧ ((IntKind.i64.wrap (x30 - 1)) : Int) < (List.length x1_3 : Int) then
             (bcond (decide (((at_ (e := YRect) x1_3 x30).2.1 : Int) ≤ (at_ (e := YRect) x1_3 (IntKind.i64.wrap (x30 - 1))).2.1))
              (some (ret_R_GridError 5))
              (L_R_GridError_1 n m1 n x1_0 x1_1 x1_2 x1_3 (at_ (e := YRect) x1_3 x30).1 (at_ (e := YRect) x1_3 x30).2.1 (at_ (e := YRect) x1_3 x30).2.2.1 (at_ (e := YRect) x1_3 x30).2.2.2 x29 x30 x30 0))
            else none)
            (L_R_GridError_1 n m1 n x1_0 x1_1 x1_2 x1_3 (at_ (e := YRect) x1_3 x30).1 (at_ (e := YRect) x1_3 x30).2.1 (at_ (e := YRect) x1_3 x30).2.2.1 (at_ (e := YRect) x1_3 x30).2.2.2 x29 x30 x30 0))
          else none)
          (some (ret_R_GridError 5)))
        else none)
        (L_R_GridError_1 n m1 n x1_0 x1_1 x1_2 x1_3 (at_ (e := YRect) x1_3 x30).1 (at_ (e := YRect) x1_3 x30).2.1 (at_ (e := YRect) x1_3 x30).2.2.1 (at_ (e := YRect) x1_3 x30).2.2.2 x29 x30 x30 0)))))
   else none)
   (some (ret_R_GridError 0))) := by kernel_rfl
theorem L_R_GridError_1_step (n m1 m2 : Nat) (x1_0 : Int) (x1_1 : Int) (x1_2 : List YCell.den) (x1_3 : List YRect.den) (x5_0 : Int) (x5_1 : Int) (x5_2 : Int) (x5_3 : Int) (x29 : Int) (x30 : Int) (x91 : Int) (x92 : Int) : L_R_GridError_1 n m1 (m2 + 1) x1_0 x1_1 x1_2 x1_3 x5_0 x5_1 x5_2 x5_3 x29 x30 x91 x92 =
  (bcond (decide ((x92 : Int) < x91))
   (if 0 ≤ (x92 : Int) ∧ (x92 : Int) < (List.length x1_3 : Int) then
    ((C_R_Share F_R_Share (x5_0, (x5_1, (x5_2, x5_3))) (at_ (e := YRect) x1_3 x92)).bind fun r1 =>
     (bcond (res_R_Share_0 r1)
      (some (ret_R_GridError 21))
      (L_R_GridError_1 n m1 m2 x1_0 x1_1 x1_2 x1_3 x5_0 x5_1 x5_2 x5_3 x29 x30 x91 (IntKind.i64.wrap (x92 + 1)))))
   else none)
   (L_R_GridError_0 n m1 x1_0 x1_1 x1_2 x1_3 x29 (IntKind.i64.wrap (x30 + 1)))) := by kernel_rfl
theorem ok_R_GridError : fnOk os_R_GridError sig_R_GridError Tryd.f8 = true := by kernel_rfl
theorem fn_R_GridError : P.funcs[8]? = some Tryd.f8 := by kernel_rfl
noncomputable def F_R_GridError : sig_R_GridError.Fn := fun x y => run T (env_R_GridError) os_R_GridError sig_R_GridError Tryd.f8 hs_R_GridError big x y
theorem S_R_GridError : Sound P 8 ⟨sig_R_GridError, F_R_GridError⟩ := sound_of (os := os_R_GridError) (hs := hs_R_GridError) (env_cons S_R_In (env_cons S_R_CellsError (env_cons S_R_Lies (env_cons S_R_Share (env_nil))))) fn_R_GridError ok_R_GridError (fun x y out h => ⟨big, h⟩)
theorem e_R_GridError (a0 : YGrid.den) : C_R_GridError F_R_GridError a0 =
  ((C_R_In F_R_In a0.1 0 2147483647).bind fun r1 =>
   (bcond ((!(res_R_In_0 r1)) == false)
    ((C_R_In F_R_In a0.2.1 0 2147483647).bind fun r2 =>
     (bcond (!(res_R_In_0 r2))
      (some (ret_R_GridError 2))
      ((C_R_CellsError F_R_CellsError a0.2.2.1 a0.1 a0.2.1 false).bind fun r3 =>
       (bcond (((res_R_CellsError_0 r3) : Int) != 0)
        (some (ret_R_GridError (res_R_CellsError_0 r3)))
        (L_R_GridError_0 big big a0.1 a0.2.1 a0.2.2.1 a0.2.2.2 (List.length a0.2.2.2 : Int) 0)))))
    (some (ret_R_GridError 2)))) := by kernel_rfl
end Go.Ev
