
import Derived.Test.YtlgjdgebmiegeaaPPairB
import Derived.Test.YtlgjdgebmiegeaaPAxisC
namespace Go.Ev.AxisP
open Go.Ev Go.Ev.Attr Go.Ev.Track Go.Ev.Delta
set_option linter.unusedVariables false
set_option linter.unusedSimpArgs false
abbrev Ax := List YSpan.den
def ph (s : YStep.den) : YSpan.den := (sk s, sn s + ((se s).length : Int))
def X : YElem.den := mkE 120 0 []
def no (w : W) : Ax := w.1.map ph
structure Aw (w : W) (k : Nat) : Prop where
  lo : (out w).length ≤ k
  sn : ∀ s ∈ w.1, sk s = 0 → 0 ≤ sn s ∧ sn s ≤ k * 2147483648 ∧ sa s = [] ∧ se s = []
  a : (w.2.1.length : Int) ≤ k * 2147483648
  c : 0 ≤ w.2.2 ∧ w.2.2 ≤ k * 2147483648
theorem Aw.mono {w : W} {k k' : Nat} (h : Aw w k) (hk : k ≤ k') : Aw w k' := ⟨by have := h.lo; omega, fun s hs h0 => by have := h.sn s hs h0; exact ⟨this.1, by omega, this.2.2⟩, by have := h.a; omega, by have := h.c; omega⟩
theorem c16 (n k : Nat) (h : n + k ≤ 4000000) : (n + k) * 16 ≤ 140737488355328 := Nat.le_trans (Nat.mul_le_mul_right 16 h) (by decide)
theorem Aw.out {w : W} {k : Nat} (h : Aw w k) : ∀ s ∈ out w, sk s = 0 → 0 ≤ Delta.sn s ∧ Delta.sn s ≤ k * 2147483648 ∧ sa s = [] ∧ se s = [] := fun s hs h0 => by
  rcases fl_mem hs with q | q | q
  · exact h.sn s q h0
  · rw [q.1] at h0; cases h0
  · rw [q.1] at h0; cases h0
theorem eqA_nil : eqA [] [] = true := (eqA_iff _ _).2 rfl
theorem at_lastS (d : Ax) (s : YSpan.den) : at_ (e := YSpan) (d ++ [s]) ((d.length : Nat) : Int) = s := by
  unfold at_
  simp [List.getD_eq_getElem?_getD]
theorem afts_nn : ∀ {l : Delta.Steps}, (∀ s ∈ l, Delta.sErr s = 0) → 0 ≤ afts l
  | [], _ => by simp [afts]
  | s :: l, h => by
    have := afts_nn (l := l) (fun t ht => h t (by simp [ht]))
    have := (one_pos (p := none) (one_of (h s (by simp)) (fun q h => by cases h))).2
    simp only [afts]; omega
def pn (s : YStep.den) : Int := sn s + ((se s).length : Int)
/-- A valid delta of which only the numbers count is a valid change of an axis. -/
theorem err_ph : ∀ (l : Delta.Steps) (p : Option YStep.den) (b a : Int), dErr p b a l = 0 → 0 ≤ a → (∀ s ∈ l, sk s = 0 → sa s = []) → (∀ q, p = some q → sk q = 0 → sa q = []) → Axis.err (p.map sk) b a (l.map ph) = 0
  | [], p, b, a, h, _, _, _ => by
    simp only [dErr] at h
    simp only [List.map_nil, Axis.err]
    exact h
  | s :: l, p, b, a, h, h0, hl, hp => by
    have hall := dErr_zero (s :: l) p b a h
    have hnn := afts_nn (l := l) (fun t ht => hall.1 t (by simp [ht]))
    simp only [afts] at hall
    simp only [dErr] at h
    split at h
    · rename_i h1; exact absurd h h1
    rename_i h1
    have h1 : dOne p s = 0 := Decidable.not_not.1 h1
    have hz := dOne_zero h1
    have kz : (sk s = 0 ∨ sk s = 1 ∨ sk s = 2) ∧ 1 ≤ (pn s) ∧ (pn s) ≤ 2147483647 ∧ Axis.addB (sk s) (pn s) b = Delta.addB s b ∧ Axis.addA (sk s) (pn s) a = Delta.addA s a ∧ 0 ≤ Delta.addA s a := by
      have e2 : @Eq Int (pn s) (Delta.sn s + ((se s).length : Int)) := rfl
      have hA := hall.2.2
      rcases Delta.sErr_zero hz.1 with ⟨k1, k2, k3, k4, k5⟩ | ⟨k1, k2, k3, k4, k5⟩
      · have len1 : 1 ≤ (se s).length := by
          cases hq : se s with
          | nil => exact absurd hq k4
          | cons x y => simp
        have hs : Delta.addA s a = a + ((se s).length : Int) := by unfold Delta.addA ssz; rw [if_neg (by omega), if_pos k1]
        have hs0 : Delta.addA s 0 = ((se s).length : Int) := by unfold Delta.addA ssz; rw [if_neg (by omega), if_pos k1]; omega
        have hb : Delta.addB s b = b := by unfold Delta.addB; rw [if_pos k1]
        have a1 : Axis.addB (sk s) (pn s) b = b := by unfold Axis.addB; rw [if_pos k1]
        have a2 : Axis.addA (sk s) (pn s) a = a + (pn s) := by unfold Axis.addA; rw [if_neg (by omega)]
        rw [a1, a2, hs, hb]
        exact ⟨.inr (.inl k1), by omega, by omega, rfl, by omega, by omega⟩
      · have e3 : @Eq Int (pn s) (Delta.sn s) := by rw [e2, k2]; simp
        have n1 : ¬ sk s = 1 := by rcases k1 with k1 | ⟨k1, _⟩ <;> omega
        have hb : Delta.addB s b = b + Delta.sn s := by unfold Delta.addB; rw [if_neg n1]
        have a1 : Axis.addB (sk s) (pn s) b = b + (pn s) := by unfold Axis.addB; rw [if_neg n1]
        have hs : Delta.addA s a = if sk s = 2 then a else a + Delta.sn s := by unfold Delta.addA ssz; rw [if_neg n1]
        have a2 : Axis.addA (sk s) (pn s) a = if sk s = 2 then a else a + (pn s) := rfl
        rw [a1, a2, hs, hb, e3]
        refine ⟨by rcases k1 with k1 | ⟨k1, _⟩ <;> omega, by omega, by omega, rfl, rfl, by split <;> omega⟩
    have ih := err_ph l (some s) _ _ h kz.2.2.2.2.2 (fun t ht => hl t (by simp [ht])) (fun q hq => by injection hq with hq; rw [← hq]; exact hl s (by simp))
    have hs : Axis.sErr (p.map sk) (sk s) (pn s) = 0 := by
      unfold Axis.sErr
      rw [if_neg (by rcases kz.1 with q | q | q <;> omega), if_neg (by omega)]
      cases p with
      | none => rfl
      | some q =>
        show (if sk q = sk s ∨ sk q = 2 ∧ sk s = 1 then (5 : Int) else 0) = 0
        have ho := hz.2 q rfl
        rw [if_neg]
        rintro (e | ⟨e1, e2⟩)
        · unfold ord at ho
          rw [e] at ho
          by_cases k0 : sk s = 0
          · have hs0 := hl s (by simp) k0
            have hq0 := hp q rfl (by rw [e]; exact k0)
            rw [hs0, hq0, eqA_nil] at ho
            simp at ho
          · have : (sk s != 0) = true := by simpa using k0
            rw [this] at ho
            simp at ho
        · unfold ord at ho
          rw [e1, e2] at ho
          simp at ho
    show (if Axis.sErr (p.map sk) (Axis.sk (ph s)) (Axis.sn (ph s)) ≠ 0 then _ else Axis.err (some (Axis.sk (ph s))) (Axis.addB (Axis.sk (ph s)) (Axis.sn (ph s)) b) (Axis.addA (Axis.sk (ph s)) (Axis.sn (ph s)) a) (l.map ph)) = 0
    have e1 : Axis.sk (ph s) = sk s := rfl
    have e2 : Axis.sn (ph s) = (pn s) := rfl
    rw [e1, e2, if_neg (by rw [hs]; decide), kz.2.2.2.1, kz.2.2.2.2.1]
    exact ih
end Go.Ev.AxisP
