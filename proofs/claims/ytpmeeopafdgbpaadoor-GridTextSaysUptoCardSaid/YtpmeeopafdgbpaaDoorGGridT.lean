/- Functions, step by step. -/
import Derived.Test.YtpmeeopafdgbpaaDoorGGridA
import Derived.Test.YtpmeeopafdgbpaaDoorGValid
namespace Go.Ev
set_option linter.unusedVariables false
set_option maxRecDepth 100000
open Go.Proofs
def sig_law_GridTextSays : Sig := ⟨[.v false .str], [], [(false, [.fr .bool])]⟩
def C_law_GridTextSays (F : sig_law_GridTextSays.Fn) (a0 : List UInt8) : Option sig_law_GridTextSays.Out := F (a0, ()) ()
def ret_law_GridTextSays (v0 : Bool) : sig_law_GridTextSays.Out := (((v0, ()), ()), ())
def os_law_GridTextSays : RegT := ⟨[], [], false⟩
def hs_law_GridTextSays : List Keep := []
@[reducible] noncomputable def env_law_GridTextSays : Env := [(6, ⟨sig_law_grids, F_law_grids⟩), (14, ⟨sig_grid_Text, F_grid_Text⟩), (15, ⟨sig_R_CellText, F_R_CellText⟩)]
theorem ok_law_GridTextSays : fnOk os_law_GridTextSays sig_law_GridTextSays Tryd.f4 = true := by kernel_rfl
theorem fn_law_GridTextSays : P.funcs[4]? = some Tryd.f4 := by kernel_rfl
noncomputable def F_law_GridTextSays : sig_law_GridTextSays.Fn := fun x y => run T (env_law_GridTextSays) os_law_GridTextSays sig_law_GridTextSays Tryd.f4 hs_law_GridTextSays big x y
theorem S_law_GridTextSays : Sound P 4 ⟨sig_law_GridTextSays, F_law_GridTextSays⟩ := sound_of (os := os_law_GridTextSays) (hs := hs_law_GridTextSays) (env_cons S_law_grids (env_cons S_grid_Text (env_cons S_R_CellText (env_nil)))) fn_law_GridTextSays ok_law_GridTextSays (fun x y out h => ⟨big, h⟩)
theorem e_law_GridTextSays (a0 : List UInt8) : C_law_GridTextSays F_law_GridTextSays a0 =
  ((C_law_grids F_law_grids ).bind fun r1 =>
   (bcond ((res_law_grids_0 r1) == true)
    ((C_grid_Text F_grid_Text a0).bind fun r2 =>
     ((C_R_CellText F_R_CellText a0).bind fun r3 =>
      (some (ret_law_GridTextSays (((res_grid_Text_0 r2) : Bool) == (res_R_CellText_0 r3))))))
    (some (ret_law_GridTextSays false)))) := by kernel_rfl
end Go.Ev
