
import Derived.Test.YtlgjdgebmiegeaaPAxisC
import Derived.Test.YtlgjdgebmiegeaaGSpan
namespace Go.Ev.Axis
open Go.Ev
set_option linter.unusedVariables false
set_option linter.unusedSimpArgs false
def units : Steps → List Int
  | [] => []
  | s :: l => List.replicate (sn s).toNat (sk s) ++ units l
def rows : Int → List Int → List Int
  | _, [] => []
  | o, u :: us => if u = 0 then o :: rows (o + 1) us else if u = 1 then (-1) :: rows o us else rows (o + 1) us
theorem rows_len : ∀ (us : List Int) (o : Int), (rows o us).length ≤ us.length
  | [], o => by simp [rows]
  | u :: us, o => by
    have h1 := rows_len us (o + 1)
    have h2 := rows_len us o
    simp only [rows]
    split
    · simp; exact h1
    · split
      · simp; exact h2
      · simp; omega
end Go.Ev.Axis
