
import Derived.Test.YtpmeeopafdgbpaaDoorPGrF
import Derived.Test.YtpmeeopafdgbpaaDoorGGridT
namespace Go.Ev.Doc
open Go.Ev Go.Ev.Utf
set_option linter.unusedVariables false
theorem law_GridText (t : List UInt8) (o0 : Ty.str.ok t) (hb : Ty.str.bulk t ≤ 1048576) : F_law_GridTextSays (t, ()) () = some (ret_law_GridTextSays true) := by
  show C_law_GridTextSays F_law_GridTextSays t = _
  have hl : t.length ≤ 1048576 := by
    have h2 : Ty.str.bulk t = t.length + 1 := rfl
    omega
  rw [e_law_GridTextSays, grids_eq, gtext_eq t hl, ctext_eq t hl]
  simp only [Option.bind_some, res_law_grids_0_ret, res_grid_Text_0_ret, res_R_CellText_0_ret, beq_self_eq_true, bT]
end Go.Ev.Doc
