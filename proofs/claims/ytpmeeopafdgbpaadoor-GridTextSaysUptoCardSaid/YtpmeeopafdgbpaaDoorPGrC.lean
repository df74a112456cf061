
import Derived.Test.YtpmeeopafdgbpaaDoorPGrB
import Derived.Test.YtpmeeopafdgbpaaDoorEvSort
namespace Go.Ev.Doc
open Go.Ev Go.Ev.Axis Go.Ev.Hul Go.Ev.Lex
set_option linter.unusedVariables false
set_option linter.unusedSimpArgs false
set_option maxRecDepth 100000
/-- How two rectangles are compared. -/
def cfR (x y : Rc) : Int := if sgn (r0 x) (r0 y) ≠ 0 then sgn (r0 x) (r0 y) else sgn (r1 x) (r1 y)
theorem cfR_lt (x y : Rc) : cfR x y < 0 ↔ lt2 (posR x) (posR y) := by
  unfold cfR sgn lt2 posR
  simp only
  by_cases h1 : (r0 x) < (r0 y)
  · rw [if_pos h1, if_pos (by decide)]
    constructor
    · intro _; exact .inl h1
    · intro _; decide
  · rw [if_neg h1]
    by_cases h2 : (r0 x) > (r0 y)
    · rw [if_pos h2, if_pos (by decide)]
      constructor
      · intro h; exact absurd h (by decide)
      · intro h; omega
    · rw [if_neg h2, if_neg (by decide)]
      by_cases h3 : (r1 x) < (r1 y)
      · rw [if_pos h3]
        constructor
        · intro _; exact .inr ⟨by omega, h3⟩
        · intro _; decide
      · rw [if_neg h3]
        by_cases h4 : (r1 x) > (r1 y)
        · rw [if_pos h4]
          constructor
          · intro h; exact absurd h (by decide)
          · intro h; omega
        · rw [if_neg h4]
          constructor
          · intro h; exact absurd h (by decide)
          · intro h; omega
theorem ltOf_cfR (x y : Rc) : Go.Proofs.ltOf cfR x y = decide (lt2 (posR x) (posR y)) := by
  unfold Go.Proofs.ltOf
  by_cases h : lt2 (posR x) (posR y)
  · rw [decide_eq_true h, decide_eq_true ((cfR_lt x y).2 h)]
  · rw [decide_eq_false h, decide_eq_false fun h2 => h ((cfR_lt x y).1 h2)]
theorem swoR : Go.Sort.SWO (Go.Proofs.ltOf cfR) where
  irrefl x := by rw [ltOf_cfR]; exact decide_eq_false (lt2_irrefl _)
  trans x y z h1 h2 := by
    rw [ltOf_cfR] at *
    exact decide_eq_true (lt2_trans (of_decide_eq_true h1) (of_decide_eq_true h2))
  ntrans x y z h1 h2 := by
    rw [ltOf_cfR] at *
    have h1 := of_decide_eq_false h1
    have h2 := of_decide_eq_false h2
    refine decide_eq_false ?_
    unfold lt2 at *; omega
theorem tieR {R C : Int} {l : List Rc} (h : Apart R C l) : TieFree cfR l := fun x hx y hy h1 h2 => by
  rw [cfR_lt] at h1 h2
  refine apart_pos h hx hy ?_
  rcases lt2_tri (posR x) (posR y) with h3 | h3 | h3
  · exact absurd h3 h1
  · exact h3
  · exact absurd h3 h2
end Go.Ev.Doc
