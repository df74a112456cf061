
import Derived.Test.YtpmeeopafdgbpaaDoorPElem
import Derived.Test.YtpmeeopafdgbpaaDoorGGridS
namespace Go.Ev.Doc
open Go.Ev Go.Ev.Attr Go.Ev.Track Go.Ev.Delta
set_option linter.unusedVariables false
set_option linter.unusedSimpArgs false
theorem bT {A : Type} (x y : A) : bcond true x y = x := rfl
theorem bF {A : Type} (x y : A) : bcond false x y = y := rfl
abbrev Cells := List YCell.den
def ca (c : YCell.den) : Attrs := c.2.2.2.2
abbrev Grid := YGrid.den
def gc (g : Grid) : Cells := g.2.2.1
def gm (g : Grid) : List YRect.den := g.2.2.2
/-- A grid is short enough. -/
structure Gs (g : Grid) : Prop where
  c : (gc g).length ≤ 1048576
  m : (gm g).length ≤ 1048576
  a : ∀ c ∈ gc g, Sh (ca c)
  t : ∀ c ∈ gc g, (c.2.2.1 : List UInt8).length ≤ 1048576
abbrev Doc := List YNode.den
end Go.Ev.Doc
