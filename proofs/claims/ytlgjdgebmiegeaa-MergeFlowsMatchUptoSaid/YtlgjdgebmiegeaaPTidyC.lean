
import Derived.Test.YtlgjdgebmiegeaaPTidyB
import Derived.Test.YtlgjdgebmiegeaaPSame
namespace Go.Ev.Delta
open Go.Ev Go.Ev.Attr Go.Ev.Track
set_option linter.unusedVariables false
set_option linter.unusedSimpArgs false
theorem cB_append : ∀ (x y : List U), cB (x ++ y) = cB x + cB y
  | [], y => by simp [cB]
  | .a e :: x, y => by simpa [cB] using cB_append x y
  | .c :: x, y => by have := cB_append x y; simp only [List.cons_append, cB]; omega
  | .k t :: x, y => by have := cB_append x y; simp only [List.cons_append, cB]; omega
theorem cA_append : ∀ (x y : List U), cA (x ++ y) = cA x + cA y
  | [], y => by simp [cA]
  | .a e :: x, y => by have := cA_append x y; simp only [List.cons_append, cA]; omega
  | .c :: x, y => by simpa [cA] using cA_append x y
  | .k t :: x, y => by have := cA_append x y; simp only [List.cons_append, cA]; omega
theorem cB_a : ∀ (x : Flow), cB (x.map U.a) = 0 ∧ cA (x.map U.a) = x.length
  | [] => ⟨rfl, rfl⟩
  | e :: x => by
    obtain ⟨h1, h2⟩ := cB_a x
    exact ⟨h1, by show cA (x.map U.a) + 1 = x.length + 1; rw [h2]⟩
theorem pErr_mem : ∀ {f : Flow}, pErr f = 0 → ∀ x ∈ f, eErr x = 0
  | [], _, x, hx => by simp at hx
  | y :: f, h, x, hx => by
    simp only [pErr] at h
    split at h
    · rename_i h1; exact absurd h h1
    · rename_i h1
      rcases List.mem_cons.1 hx with rfl | hx
      · exact Decidable.not_not.1 h1
      · exact pErr_mem h x hx
theorem tst {s : YStep.den} (h : tErr s = 0) (w : W) : stT s w = stU s w := by
  have ht := tErr_zero h
  exact stT_stU s w ht.k (.inr ht.n.1)
def nsum : Steps → Int
  | [] => 0
  | s :: l => sn s + nsum l
theorem nb_nsum : ∀ {l : Steps}, (∀ s ∈ l, tErr s = 0) → (nb l : Int) = nsum l
  | [], _ => rfl
  | s :: l, h => by
    have ih := nb_nsum (l := l) (fun t ht => h t (by simp [ht]))
    have hs := tErr_zero (h s (by simp))
    have hn := hs.n
    show (((if sk s = 1 then 0 else (sn s).toNat) + nb l : Nat) : Int) = sn s + nsum l
    split
    · rename_i k1; have := (hs.z k1).1; omega
    · omega
theorem nsum_pos : ∀ {l : Steps}, (∀ s ∈ l, tErr s = 0) → 0 ≤ nsum l := fun h => by rw [← nb_nsum h]; omega
theorem tdy_run : ∀ (l : Steps) (w : W), (∀ s ∈ l, tErr s = 0) → 0 ≤ w.2.2 → w.2.2 + nsum l ≤ 2147483647 → tdy l w = if err (out (runU l w)) = 0 then (out (runU l w), 0) else ([], 3)
  | [], w, h, h1, h2 => rfl
  | s :: l, w, h, h1, h2 => by
    have hz := h s (by simp)
    have ht := tErr_zero hz
    have hn := ht.n
    have hp := nsum_pos (l := l) (fun t ht => h t (by simp [ht]))
    simp only [nsum] at h2
    unfold tdy
    rw [if_neg (show ¬ tErr s ≠ 0 by simp [hz]), if_neg (by omega), tst hz]
    have hc : 0 ≤ (stU s w).2.2 ∧ (stU s w).2.2 ≤ w.2.2 + sn s := by
      rw [← tst hz]
      unfold stT
      split
      · show 0 ≤ w.2.2 ∧ w.2.2 ≤ _; omega
      · split
        · show 0 ≤ w.2.2 + sn s ∧ w.2.2 + sn s ≤ _; omega
        · split
          · omega
          · show (0 : Int) ≤ 0 ∧ (0 : Int) ≤ _; omega
    exact tdy_run l (stU s w) (fun t ht => h t (by simp [ht])) hc.1 (by omega)
section
variable (d : Steps) (hd : Ds d) (hk : d.length ≤ 349524) (he : eb d ≤ 1048576)
include hd hk he
end
end Go.Ev.Delta
