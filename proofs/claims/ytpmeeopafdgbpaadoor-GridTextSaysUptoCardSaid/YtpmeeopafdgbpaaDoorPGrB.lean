
import Derived.Test.YtpmeeopafdgbpaaDoorPGrA
namespace Go.Ev.Doc
open Go.Ev Go.Ev.Axis Go.Ev.Hul Go.Ev.Lex
set_option linter.unusedVariables false
set_option linter.unusedSimpArgs false
set_option maxRecDepth 100000
abbrev Cl := YCell.den
/-- The row, the column. -/
def c0 (c : Cl) : Int := c.1
def c1 (c : Cl) : Int := c.2.1
def posC (c : Cl) : Int × Int := (c0 c, c1 c)
/-- The same cell at another place. -/
def putP (r c : Int) (x : Cl) : Cl := (r, c, x.2.2)
/-- A cell behind changes of both axes. -/
def movC (rows cols : Axis.Steps) (c : Cl) : Option Cl := if mvG rows (c0 c) < 0 ∨ mvG cols (c1 c) < 0 then none else some (putP (mvG rows (c0 c)) (mvG cols (c1 c)) c)
def movedC (rows cols : Axis.Steps) (l : List Cl) : List Cl := l.filterMap (movC rows cols)
/-- Cells of a grid of a size. -/
structure CsOk (R C : Int) (l : List Cl) : Prop where
  in_ : ∀ c ∈ l, 0 ≤ (c0 c) ∧ (c0 c) < R ∧ 0 ≤ (c1 c) ∧ (c1 c) < C
  srt : Srt posC l
variable {rows cols : Axis.Steps} {R C R' C' : Int}
end Go.Ev.Doc
