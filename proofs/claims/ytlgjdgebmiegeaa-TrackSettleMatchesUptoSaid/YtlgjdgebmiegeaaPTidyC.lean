
import Derived.Test.YtlgjdgebmiegeaaPTidyB
import Derived.Test.YtlgjdgebmiegeaaPSame
namespace Go.Ev.Delta
open Go.Ev Go.Ev.Attr Go.Ev.Track
set_option linter.unusedVariables false
set_option linter.unusedSimpArgs false
theorem tst {s : YStep.den} (h : tErr s = 0) (w : W) : stT s w = stU s w := by
  have ht := tErr_zero h
  exact stT_stU s w ht.k (.inr ht.n.1)
def nsum : Steps → Int
  | [] => 0
  | s :: l => sn s + nsum l
theorem nb_nsum : ∀ {l : Steps}, (∀ s ∈ l, tErr s = 0) → (nb l : Int) = nsum l
  | [], _ => rfl
  | s :: l, h => by
    have ih := nb_nsum (l := l) (fun t ht => h t (by simp [ht]))
    have hs := tErr_zero (h s (by simp))
    have hn := hs.n
    show (((if sk s = 1 then 0 else (sn s).toNat) + nb l : Nat) : Int) = sn s + nsum l
    split
    · rename_i k1; have := (hs.z k1).1; omega
    · omega
theorem nsum_pos : ∀ {l : Steps}, (∀ s ∈ l, tErr s = 0) → 0 ≤ nsum l := fun h => by rw [← nb_nsum h]; omega
theorem tdy_run : ∀ (l : Steps) (w : W), (∀ s ∈ l, tErr s = 0) → 0 ≤ w.2.2 → w.2.2 + nsum l ≤ 2147483647 → tdy l w = if err (out (runU l w)) = 0 then (out (runU l w), 0) else ([], 3)
  | [], w, h, h1, h2 => rfl
  | s :: l, w, h, h1, h2 => by
    have hz := h s (by simp)
    have ht := tErr_zero hz
    have hn := ht.n
    have hp := nsum_pos (l := l) (fun t ht => h t (by simp [ht]))
    simp only [nsum] at h2
    unfold tdy
    rw [if_neg (show ¬ tErr s ≠ 0 by simp [hz]), if_neg (by omega), tst hz]
    have hc : 0 ≤ (stU s w).2.2 ∧ (stU s w).2.2 ≤ w.2.2 + sn s := by
      rw [← tst hz]
      unfold stT
      split
      · show 0 ≤ w.2.2 ∧ w.2.2 ≤ _; omega
      · split
        · show 0 ≤ w.2.2 + sn s ∧ w.2.2 + sn s ≤ _; omega
        · split
          · omega
          · show (0 : Int) ≤ 0 ∧ (0 : Int) ≤ _; omega
    exact tdy_run l (stU s w) (fun t ht => h t (by simp [ht])) hc.1 (by omega)
theorem ti_run : ∀ (l : Steps) (w : W) (k : Nat), Ti w k → (∀ s ∈ l, tErr s = 0 ∧ Ss s) → w.2.1.length + eb l ≤ 1048576 → w.2.2 + nsum l ≤ 2147483647 → Ti (runU l w) (k + l.length)
  | [], w, k, h, hs, h1, h2 => h
  | s :: l, w, k, h, hs, h1, h2 => by
    obtain ⟨hz, hS⟩ := hs s (by simp)
    have ht := tErr_zero hz
    have hn := ht.n
    have hp := nsum_pos (l := l) (fun t ht => (hs t (by simp [ht])).1)
    simp only [nsum] at h2
    simp only [eb] at h1
    have hw := h.c
    have st := h.step (by omega) ht hS (fun _ => by omega)
    have hl := stT_a s w
    have hc : (stT s w).2.2 ≤ w.2.2 + sn s := by
      unfold stT
      split
      · show w.2.2 ≤ _; omega
      · split
        · show w.2.2 + sn s ≤ _; omega
        · split
          · omega
          · show (0 : Int) ≤ _; omega
    have := ti_run l (stT s w) (k + 1) st (fun t ht => hs t (by simp [ht])) (by omega) (by omega)
    rw [tst hz] at this
    show Ti (runU l (stU s w)) (k + (l.length + 1))
    rw [show k + (l.length + 1) = k + 1 + l.length by omega]
    exact this
section
variable (d : Steps) (hd : Ds d) (hk : d.length ≤ 349524) (he : eb d ≤ 1048576)
include hd hk he
end
end Go.Ev.Delta
