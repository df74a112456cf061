
import Derived.Test.YtpmeeopafdgbpaaDoorPElem
import Derived.Test.YtpmeeopafdgbpaaDoorGGridS
namespace Go.Ev.Doc
open Go.Ev Go.Ev.Attr Go.Ev.Track Go.Ev.Delta
set_option linter.unusedVariables false
set_option linter.unusedSimpArgs false
theorem bT {A : Type} (x y : A) : bcond true x y = x := rfl
theorem bF {A : Type} (x y : A) : bcond false x y = y := rfl
/-- They are the same. -/
noncomputable def eqd {α : Type} (x y : α) : Bool := @decide (x = y) (Classical.propDecidable _)
theorem eqd_iff {α : Type} (x y : α) : eqd x y = true ↔ x = y := by unfold eqd; exact @decide_eq_true_iff _ (Classical.propDecidable _)
theorem eqd_self {α : Type} (x : α) : eqd x x = true := (eqd_iff x x).2 rfl
theorem eqd_of {α : Type} {x y : α} {b : Bool} (h : b = true ↔ x = y) : b = eqd x y := by rw [Bool.eq_iff_iff, eqd_iff, h]
theorem eqd_pair {α β : Type} (x y : α × β) : eqd x y = (eqd x.1 y.1 && eqd x.2 y.2) := by
  rw [Bool.eq_iff_iff, Bool.and_eq_true, eqd_iff, eqd_iff, eqd_iff]
  exact ⟨fun h => by rw [h]; exact ⟨rfl, rfl⟩, fun ⟨h1, h2⟩ => Prod.ext h1 h2⟩
theorem eqd_int (x y : Int) : (x == y) = eqd x y := eqd_of beq_iff_eq
theorem eqd_str (x y : List UInt8) : (x == y) = eqd x y := eqd_of beq_iff_eq
theorem eqA_eqd (a b : Attrs) : eqA a b = eqd a b := eqd_of (eqA_iff a b)
/-- Two rows are compared, element by element. -/
theorem same_rows {e : Ty} {O : Type} (a b : List e.den) (hl : a.length ≤ 4611686018427387903) (L : Nat → Int → Option O) (f : Bool → O) (p : e.den → e.den → Bool) (hp : ∀ x ∈ a, ∀ y, p x y = eqd x y)
    (hs : a.length = b.length → ∀ m i (h : i < a.length) (h2 : i < b.length), L (m + 1) (i : Int) = bcond (p a[i] b[i]) (L m ((i + 1 : Nat) : Int)) (some (f false)))
    (hz : ∀ m, L (m + 1) (a.length : Int) = some (f true)) : bcond ((a.length : Int) != (b.length : Int)) (some (f false)) (L big 0) = some (f (eqd a b)) := by
  by_cases he : a.length = b.length
  · have z : ((a.length : Int) != (b.length : Int)) = false := by rw [he]; exact bne_self_eq_false _
    rw [z, bF]
    have key : ∀ (d i m : Nat), i + d = a.length → d < m → L m (i : Int) = some (f (eqd (a.drop i) (b.drop i))) := by
      intro d
      induction d with
      | zero =>
        intro i m hi hm
        obtain ⟨m, rfl⟩ : ∃ q, m = q + 1 := ⟨m - 1, by omega⟩
        obtain rfl : i = a.length := by omega
        rw [hz, List.drop_length, he, List.drop_length, eqd_self]
      | succ d ih =>
        intro i m hi hm
        obtain ⟨m, rfl⟩ : ∃ q, m = q + 1 := ⟨m - 1, by omega⟩
        have h1 : i < a.length := by omega
        have h2 : i < b.length := by omega
        rw [hs he m i h1 h2, ih (i + 1) m (by omega) (by omega), hp _ (List.getElem_mem h1), List.drop_eq_getElem_cons h1, List.drop_eq_getElem_cons h2]
        have : eqd (a[i] :: a.drop (i + 1)) (b[i] :: b.drop (i + 1)) = (eqd a[i] b[i] && eqd (a.drop (i + 1)) (b.drop (i + 1))) := by
          rw [Bool.eq_iff_iff, Bool.and_eq_true, eqd_iff, eqd_iff, eqd_iff, List.cons.injEq]
        rw [this]
        cases eqd a[i] b[i] <;> rfl
    exact key a.length 0 big (by omega) (big_ge (n := a.length + 1) (by omega))
  · have z : ((a.length : Int) != (b.length : Int)) = true := by rw [bne_iff_ne]; omega
    have : eqd a b = false := by
      cases h : eqd a b with
      | false => rfl
      | true => exact absurd (congrArg List.length ((eqd_iff a b).1 h)) he
    rw [z, bT, this]
theorem and_t (a : Bool) : (a && true) = a := by cases a <;> rfl
theorem b_not {A : Type} (q : Bool) (x y : A) : bcond (!q) x y = bcond q y x := by cases q <;> rfl
theorem b_eqt {A : Type} (q : Bool) (x y : A) : bcond (q == true) x y = bcond q x y := by cases q <;> rfl
theorem rrects_eq (a b : List YRect.den) (hl : a.length ≤ 1048576) : C_R_SameRects F_R_SameRects a b = some (ret_R_SameRects (eqd a b)) := by
  rw [e_R_SameRects]
  refine same_rows a b (by omega) (fun m i => L_R_SameRects_0 big m a b (a.length : Int) i) ret_R_SameRects eqd (fun x _ y => rfl) (fun he m i h h2 => ?_) (fun m => ?_)
  · simp only [L_R_SameRects_0_step, dlt h, bT, if_pos ((inb i a.length).2 h), if_pos ((inb i b.length).2 h2), at_get (e := YRect) a i h, at_get (e := YRect) b i h2, eqd_int, and_t, ← eqd_pair, wsucc h (show a.length ≤ _ by omega), b_not]
  · simp only [L_R_SameRects_0_step, dlt_self, bF]
abbrev Cells := List YCell.den
def ca (c : YCell.den) : Attrs := c.2.2.2.2
theorem rcell_eq (x y : YCell.den) (hx : (ca x).length ≤ 1048576) : C_R_SameCell F_R_SameCell x y = some (ret_R_SameCell (eqd x y)) := by
  have e1 : x.2.2.2.2 = ca x := rfl
  have e2 : y.2.2.2.2 = ca y := rfl
  rw [e_R_SameCell, eqd_pair x y, eqd_pair x.2 y.2, eqd_pair x.2.2 y.2.2, eqd_pair x.2.2.2 y.2.2.2]
  simp only [e1, e2, same35 _ _ hx, Option.bind_some, res_R_SameAttrs_0_ret, eqd_int, eqd_str, eqA_eqd, b_eqt]
  cases eqd x.1 y.1 <;> cases eqd x.2.1 y.2.1 <;> cases eqd x.2.2.1 y.2.2.1 <;> cases eqd x.2.2.2.1 y.2.2.2.1 <;> rfl
theorem rcells_eq (a b : Cells) (hl : a.length ≤ 1048576) (ha : ∀ c ∈ a, (ca c).length ≤ 1048576) : C_R_SameCells F_R_SameCells a b = some (ret_R_SameCells (eqd a b)) := by
  rw [e_R_SameCells]
  refine same_rows a b (by omega) (fun m i => L_R_SameCells_0 big m a b (a.length : Int) i) ret_R_SameCells eqd (fun x _ y => rfl) (fun he m i h h2 => ?_) (fun m => ?_)
  · simp only [L_R_SameCells_0_step, dlt h, bT, if_pos ((inb i a.length).2 h), if_pos ((inb i b.length).2 h2), at_get (e := YCell) a i h, at_get (e := YCell) b i h2, rcell_eq _ _ (ha _ (List.getElem_mem h)), Option.bind_some, res_R_SameCell_0_ret, wsucc h (show a.length ≤ _ by omega), b_not]
  · simp only [L_R_SameCells_0_step, dlt_self, bF]
abbrev Grid := YGrid.den
def gc (g : Grid) : Cells := g.2.2.1
def gm (g : Grid) : List YRect.den := g.2.2.2
/-- A grid is short enough. -/
structure Gs (g : Grid) : Prop where
  c : (gc g).length ≤ 1048576
  m : (gm g).length ≤ 1048576
  a : ∀ c ∈ gc g, Sh (ca c)
  t : ∀ c ∈ gc g, (c.2.2.1 : List UInt8).length ≤ 1048576
theorem rgrid_eq (x y : Grid) (hx : Gs x) : C_R_SameGrid F_R_SameGrid x y = some (ret_R_SameGrid (eqd x y)) := by
  have e1 : x.2.2.1 = gc x := rfl
  have e2 : y.2.2.1 = gc y := rfl
  have e3 : x.2.2.2 = gm x := rfl
  have e4 : y.2.2.2 = gm y := rfl
  rw [e_R_SameGrid, eqd_pair x y, eqd_pair x.2 y.2, eqd_pair x.2.2 y.2.2]
  simp only [e1, e2, e3, e4, rrects_eq _ _ hx.m, rcells_eq _ _ hx.c (fun c hc => (hx.a c hc).1), Option.bind_some, res_R_SameRects_0_ret, res_R_SameCells_0_ret, eqd_int, b_eqt]
  cases eqd x.1 y.1 <;> cases eqd x.2.1 y.2.1 <;> cases eqd (gc x) (gc y) <;> cases eqd (gm x) (gm y) <;> rfl
abbrev Doc := List YNode.den
end Go.Ev.Doc
