
import Derived.Test.YteojfhgljknmiaaDoorPDocs
import Derived.Test.YteojfhgljknmiaaDoorGDocN
namespace Go.Ev.Doc
open Go.Ev Go.Ev.Attr Go.Ev.Track Go.Ev.Delta
set_option linter.unusedVariables false
set_option linter.unusedSimpArgs false
theorem ns_bulk (n : Node) (h : YNode.bulk n ≤ 1048576) : Ns n := by
  have e : YNode.bulk n = 1 + (1 + ((Ty.list YAttr).bulk (na n) + ((Ty.list YElem).bulk (nf n) + ((1 + (1 + ((Ty.list YCell).bulk (gc (ng n)) + (Ty.list YRect).bulk (gm (ng n))))) + (Ty.list YDrawOp).bulk (nd n))))) := rfl
  have h1 := bulk_len (e := YCell) (gc (ng n))
  have h2 := bulk_len (e := YRect) (gm (ng n))
  have h3 := bulk_len (e := YDrawOp) (nd n)
  have hc : ∀ c ∈ gc (ng n), Sh (ca c) ∧ (c.2.2.1 : List UInt8).length ≤ 1048576 := fun c hc => by
    have := bulk_mem (e := YCell) (gc (ng n)) c hc
    have e2 : YCell.bulk c = 1 + (1 + ((c.2.2.1 : List UInt8).length + 1 + (1 + (Ty.list YAttr).bulk (ca c)))) := rfl
    exact ⟨sh_of _ (by omega), by omega⟩
  exact ⟨sh_of _ (by omega), fs_bulk (by omega), ⟨by omega, by omega, fun c h => (hc c h).1, fun c h => (hc c h).2⟩, by omega⟩
end Go.Ev.Doc
