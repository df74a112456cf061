/- The kinds of plain values; tables that package variables hold. -/
import GoSem.Dispatch
import Derived.Laws.OwnMore
import Derived.Laws.Entries
import Derived.Below
import Derived.Laws.BytesArg
import Derived.Laws.RangeString
namespace Go.Ev
set_option linter.unusedVariables false
/-- The kinds of plain values. -/
inductive Ty where
  | int (k : IntKind)
  | bool
  | str
  | list (e : Ty)
  | pair (a b : Ty)
  deriving DecidableEq
@[reducible] def Ty.den : Ty → Type
  | .int _ => Int
  | .bool => Bool
  | .str => List UInt8
  | .list e => List e.den
  | .pair a b => a.den × b.den
def Ty.sz : Ty → Nat
  | .pair a b => a.sz + b.sz
  | _ => 1
def Ty.zero : (t : Ty) → t.den
  | .int _ => (0 : Int)
  | .bool => false
  | .str => ([] : List UInt8)
  | .list _ => []
  | .pair a b => (a.zero, b.zero)
/-- A package variable that is an array: its number, its type, its elements' type and kind, its elements. -/
structure VTab where
  g : Nat
  t : TypeId
  el : TypeId
  e : Ty
  xs : List e.den
def vtOf (g : Nat) : List VTab → Option VTab
  | [] => none
  | q :: l => if q.g = g then some q else vtOf g l
theorem vtOf_mem {g : Nat} {q : VTab} : ∀ {l : List VTab}, vtOf g l = some q → q ∈ l ∧ q.g = g
  | [], h => by cases h
  | r :: l, h => by
    simp only [vtOf] at h
    split at h
    · rename_i e; injection h with h; subst h; exact ⟨List.mem_cons_self .., e⟩
    · obtain ⟨h1, h2⟩ := vtOf_mem h; exact ⟨List.mem_cons_of_mem _ h1, h2⟩
end Go.Ev
