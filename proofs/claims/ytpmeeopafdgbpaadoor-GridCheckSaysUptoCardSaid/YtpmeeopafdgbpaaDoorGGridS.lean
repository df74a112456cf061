/- Functions, step by step. -/
import Derived.Test.YtpmeeopafdgbpaaDoorGUtf
namespace Go.Ev
set_option linter.unusedVariables false
set_option maxRecDepth 100000
open Go.Proofs
def sig_R_SameCell : Sig := ⟨[.v true YCell, .v true YCell], [], [(false, [.fr .bool])]⟩
def C_R_SameCell (F : sig_R_SameCell.Fn) (a0 : YCell.den) (a1 : YCell.den) : Option sig_R_SameCell.Out := F (a0, a1, ()) ()
def ret_R_SameCell (v0 : Bool) : sig_R_SameCell.Out := (((v0, ()), ()), ())
def res_R_SameCell_0 (r : sig_R_SameCell.Out) : Bool := r.1.1.1
@[simp] theorem res_R_SameCell_0_ret (v0 : Bool) : res_R_SameCell_0 (ret_R_SameCell v0) = v0 := rfl
def os_R_SameCell : RegT := ⟨[], [], false⟩
def hs_R_SameCell : List Keep := []
@[reducible] noncomputable def env_R_SameCell : Env := [(49, ⟨sig_R_SameAttrs, F_R_SameAttrs⟩)]
theorem ok_R_SameCell : fnOk os_R_SameCell sig_R_SameCell Tryd.f18 = true := by kernel_rfl
theorem fn_R_SameCell : P.funcs[18]? = some Tryd.f18 := by kernel_rfl
noncomputable def F_R_SameCell : sig_R_SameCell.Fn := fun x y => run T (env_R_SameCell) os_R_SameCell sig_R_SameCell Tryd.f18 hs_R_SameCell big x y
theorem S_R_SameCell : Sound P 18 ⟨sig_R_SameCell, F_R_SameCell⟩ := sound_of (os := os_R_SameCell) (hs := hs_R_SameCell) (env_cons S_R_SameAttrs (env_nil)) fn_R_SameCell ok_R_SameCell (fun x y out h => ⟨big, h⟩)
theorem e_R_SameCell (a0 : YCell.den) (a1 : YCell.den) : C_R_SameCell F_R_SameCell a0 a1 =
  (bcond (((a0.1 : Int) == a1.1) == true)
   (bcond (((a0.2.1 : Int) == a1.2.1) == true)
    (bcond (((a0.2.2.1 : List UInt8) == a1.2.2.1) == true)
     (bcond (((a0.2.2.2.1 : Int) == a1.2.2.2.1) == true)
      ((C_R_SameAttrs F_R_SameAttrs a0.2.2.2.2 a1.2.2.2.2).bind fun r1 =>
       (some (ret_R_SameCell (res_R_SameAttrs_0 r1))))
      (some (ret_R_SameCell false)))
     (some (ret_R_SameCell false)))
    (some (ret_R_SameCell false)))
   (some (ret_R_SameCell false))) := by kernel_rfl
end Go.Ev
