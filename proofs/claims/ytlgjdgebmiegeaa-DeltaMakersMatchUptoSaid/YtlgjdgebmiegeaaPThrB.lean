
import Derived.Test.YtlgjdgebmiegeaaPDaxis
import Derived.Test.YtlgjdgebmiegeaaPAxU
import Derived.Test.YtlgjdgebmiegeaaPSpB
namespace Go.Ev.AxisP
open Go.Ev Go.Ev.Attr Go.Ev.Track Go.Ev.Delta
set_option linter.unusedVariables false
set_option linter.unusedSimpArgs false
def ax (d : Delta.Steps) : Ax := (pd [] d).map ph
def K (a : Ax) (x : Int) : Int := Axis.pl x 0 0 a
abbrev Set_ := List YSpan.den
section
variable (a : Ax) (hl : a.length ≤ 1048576) (he : Axis.E a = 0) (l : Set_) (hll : l.length ≤ 1048576) (hv : ∀ s ∈ l, 0 ≤ Span.lo s ∧ Span.lo s < Span.hi s ∧ Span.hi s ≤ 2147483647)
include hl he hll hv
end
end Go.Ev.AxisP
namespace Go.Ev.AxisP
open Go.Ev Go.Ev.Attr Go.Ev.Track Go.Ev.Delta
set_option linter.unusedVariables false
set_option linter.unusedSimpArgs false
theorem daxis_ok (d : Delta.Steps) (hd : Ds d) (he : err d = 0) : C_delta_Axis F_delta_Axis d = some (ret_delta_Axis (ax d) 0) := by
  rw [daxis_eq d hd, if_neg (show ¬ err d ≠ 0 by simp [he])]; rfl
theorem daxis_bad (d : Delta.Steps) (hd : Ds d) (he : err d ≠ 0) : C_delta_Axis F_delta_Axis d = some (ret_delta_Axis [] (err d)) := by
  rw [daxis_eq d hd, if_pos he]
section
variable (d : Delta.Steps) (hd : Ds d) (he : err d = 0)
include hd he
end
theorem ds0 (v : Int) : res_R_DeltaSize_0 (ret_R_DeltaSize v) = v := id rfl
section
variable (d : Delta.Steps) (hd : Ds d) (l : Set_) (hll : l.length ≤ 1048576) (heb : eb d ≤ 349525) (at_0 : Int) (right : Bool)
include hd hll heb
end
end Go.Ev.AxisP
