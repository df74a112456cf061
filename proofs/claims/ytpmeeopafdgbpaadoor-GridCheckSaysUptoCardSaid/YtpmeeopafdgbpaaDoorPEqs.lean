
import Derived.Test.YtpmeeopafdgbpaaDoorPElem
import Derived.Test.YtpmeeopafdgbpaaDoorGGridS
namespace Go.Ev.Doc
open Go.Ev Go.Ev.Attr Go.Ev.Track Go.Ev.Delta
set_option linter.unusedVariables false
set_option linter.unusedSimpArgs false
theorem bT {A : Type} (x y : A) : bcond true x y = x := rfl
theorem bF {A : Type} (x y : A) : bcond false x y = y := rfl
/-- They are the same. -/
noncomputable def eqd {α : Type} (x y : α) : Bool := @decide (x = y) (Classical.propDecidable _)
theorem eqd_iff {α : Type} (x y : α) : eqd x y = true ↔ x = y := by unfold eqd; exact @decide_eq_true_iff _ (Classical.propDecidable _)
theorem eqd_self {α : Type} (x : α) : eqd x x = true := (eqd_iff x x).2 rfl
theorem eqd_of {α : Type} {x y : α} {b : Bool} (h : b = true ↔ x = y) : b = eqd x y := by rw [Bool.eq_iff_iff, eqd_iff, h]
theorem eqd_pair {α β : Type} (x y : α × β) : eqd x y = (eqd x.1 y.1 && eqd x.2 y.2) := by
  rw [Bool.eq_iff_iff, Bool.and_eq_true, eqd_iff, eqd_iff, eqd_iff]
  exact ⟨fun h => by rw [h]; exact ⟨rfl, rfl⟩, fun ⟨h1, h2⟩ => Prod.ext h1 h2⟩
theorem eqd_int (x y : Int) : (x == y) = eqd x y := eqd_of beq_iff_eq
theorem eqd_str (x y : List UInt8) : (x == y) = eqd x y := eqd_of beq_iff_eq
theorem eqA_eqd (a b : Attrs) : eqA a b = eqd a b := eqd_of (eqA_iff a b)
theorem b_eqt {A : Type} (q : Bool) (x y : A) : bcond (q == true) x y = bcond q x y := by cases q <;> rfl
abbrev Cells := List YCell.den
def ca (c : YCell.den) : Attrs := c.2.2.2.2
theorem rcell_eq (x y : YCell.den) (hx : (ca x).length ≤ 1048576) : C_R_SameCell F_R_SameCell x y = some (ret_R_SameCell (eqd x y)) := by
  have e1 : x.2.2.2.2 = ca x := rfl
  have e2 : y.2.2.2.2 = ca y := rfl
  rw [e_R_SameCell, eqd_pair x y, eqd_pair x.2 y.2, eqd_pair x.2.2 y.2.2, eqd_pair x.2.2.2 y.2.2.2]
  simp only [e1, e2, same35 _ _ hx, Option.bind_some, res_R_SameAttrs_0_ret, eqd_int, eqd_str, eqA_eqd, b_eqt]
  cases eqd x.1 y.1 <;> cases eqd x.2.1 y.2.1 <;> cases eqd x.2.2.1 y.2.2.1 <;> cases eqd x.2.2.2.1 y.2.2.2.1 <;> rfl
abbrev Grid := YGrid.den
def gc (g : Grid) : Cells := g.2.2.1
def gm (g : Grid) : List YRect.den := g.2.2.2
/-- A grid is short enough. -/
structure Gs (g : Grid) : Prop where
  c : (gc g).length ≤ 1048576
  m : (gm g).length ≤ 1048576
  a : ∀ c ∈ gc g, Sh (ca c)
  t : ∀ c ∈ gc g, (c.2.2.1 : List UInt8).length ≤ 1048576
abbrev Doc := List YNode.den
end Go.Ev.Doc
