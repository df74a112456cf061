/- Functions, step by step. -/
import Derived.Test.YtpmeeopafdgbpaaDoorGAttr
namespace Go.Ev
set_option linter.unusedVariables false
set_option maxRecDepth 100000
open Go.Proofs
def sig_flow_Char : Sig := ⟨[.v false (.int .i64)], [], [(false, [.fr .bool])]⟩
def C_flow_Char (F : sig_flow_Char.Fn) (a0 : Int) : Option sig_flow_Char.Out := F (a0, ()) ()
def ret_flow_Char (v0 : Bool) : sig_flow_Char.Out := (((v0, ()), ()), ())
def res_flow_Char_0 (r : sig_flow_Char.Out) : Bool := r.1.1.1
@[simp] theorem res_flow_Char_0_ret (v0 : Bool) : res_flow_Char_0 (ret_flow_Char v0) = v0 := rfl
def os_flow_Char : RegT := ⟨[], [], false⟩
def hs_flow_Char : List Keep := []
@[reducible] noncomputable def env_flow_Char : Env := []
theorem ok_flow_Char : fnOk os_flow_Char sig_flow_Char Tryd.f39 = true := by kernel_rfl
theorem fn_flow_Char : P.funcs[39]? = some Tryd.f39 := by kernel_rfl
noncomputable def F_flow_Char : sig_flow_Char.Fn := fun x y => run T (env_flow_Char) os_flow_Char sig_flow_Char Tryd.f39 hs_flow_Char big x y
theorem S_flow_Char : Sound P 39 ⟨sig_flow_Char, F_flow_Char⟩ := sound_of (os := os_flow_Char) (hs := hs_flow_Char) (env_nil) fn_flow_Char ok_flow_Char (fun x y out h => ⟨big, h⟩)
theorem e_flow_Char (a0 : Int) : C_flow_Char F_flow_Char a0 =
  (bcond (((a0 : Int) == 9) == false)
   (bcond (((a0 : Int) == 10) == false)
    (bcond ((decide ((a0 : Int) ≥ 32)) == true)
     (bcond ((decide ((a0 : Int) < 127)) == false)
      (bcond ((decide ((a0 : Int) ≥ 160)) == true)
       (bcond ((decide ((a0 : Int) < 55296)) == false)
        (bcond ((decide ((a0 : Int) > 57343)) == true)
         (some (ret_flow_Char (decide ((a0 : Int) ≤ 1114111))))
         (some (ret_flow_Char false)))
        (some (ret_flow_Char true)))
       (bcond ((decide ((a0 : Int) > 57343)) == true)
        (some (ret_flow_Char (decide ((a0 : Int) ≤ 1114111))))
        (some (ret_flow_Char false))))
      (some (ret_flow_Char true)))
     (bcond ((decide ((a0 : Int) ≥ 160)) == true)
      (bcond ((decide ((a0 : Int) < 55296)) == false)
       (bcond ((decide ((a0 : Int) > 57343)) == true)
        (some (ret_flow_Char (decide ((a0 : Int) ≤ 1114111))))
        (some (ret_flow_Char false)))
       (some (ret_flow_Char true)))
      (bcond ((decide ((a0 : Int) > 57343)) == true)
       (some (ret_flow_Char (decide ((a0 : Int) ≤ 1114111))))
       (some (ret_flow_Char false)))))
    (some (ret_flow_Char true)))
   (some (ret_flow_Char true))) := by kernel_rfl
def sig_R_Char : Sig := ⟨[.v false (.int .i64)], [], [(false, [.fr .bool])]⟩
def C_R_Char (F : sig_R_Char.Fn) (a0 : Int) : Option sig_R_Char.Out := F (a0, ()) ()
def ret_R_Char (v0 : Bool) : sig_R_Char.Out := (((v0, ()), ()), ())
def res_R_Char_0 (r : sig_R_Char.Out) : Bool := r.1.1.1
@[simp] theorem res_R_Char_0_ret (v0 : Bool) : res_R_Char_0 (ret_R_Char v0) = v0 := rfl
def os_R_Char : RegT := ⟨[], [], false⟩
def hs_R_Char : List Keep := []
@[reducible] noncomputable def env_R_Char : Env := [(24, ⟨sig_R_In, F_R_In⟩)]
theorem ok_R_Char : fnOk os_R_Char sig_R_Char Tryd.f41 = true := by kernel_rfl
theorem fn_R_Char : P.funcs[41]? = some Tryd.f41 := by kernel_rfl
noncomputable def F_R_Char : sig_R_Char.Fn := fun x y => run T (env_R_Char) os_R_Char sig_R_Char Tryd.f41 hs_R_Char big x y
theorem S_R_Char : Sound P 41 ⟨sig_R_Char, F_R_Char⟩ := sound_of (os := os_R_Char) (hs := hs_R_Char) (env_cons S_R_In (env_nil)) fn_R_Char ok_R_Char (fun x y out h => ⟨big, h⟩)
theorem e_R_Char (a0 : Int) : C_R_Char F_R_Char a0 =
  (bcond (((a0 : Int) == 9) == false)
   (bcond (((a0 : Int) == 10) == false)
    ((C_R_In F_R_In a0 32 126).bind fun r1 =>
     (bcond ((res_R_In_0 r1) == false)
      ((C_R_In F_R_In a0 160 55295).bind fun r2 =>
       (bcond ((res_R_In_0 r2) == false)
        ((C_R_In F_R_In a0 57344 1114111).bind fun r3 =>
         (some (ret_R_Char (res_R_In_0 r3))))
        (some (ret_R_Char true))))
      (some (ret_R_Char true))))
    (some (ret_R_Char true)))
   (some (ret_R_Char true))) := by kernel_rfl
end Go.Ev
