
import Derived.Test.YtlgjdgebmiegeaaPTidyB
import Derived.Test.YtlgjdgebmiegeaaPSame
namespace Go.Ev.Delta
open Go.Ev Go.Ev.Attr Go.Ev.Track
set_option linter.unusedVariables false
set_option linter.unusedSimpArgs false
theorem cB_append : ∀ (x y : List U), cB (x ++ y) = cB x + cB y
  | [], y => by simp [cB]
  | .a e :: x, y => by simpa [cB] using cB_append x y
  | .c :: x, y => by have := cB_append x y; simp only [List.cons_append, cB]; omega
  | .k t :: x, y => by have := cB_append x y; simp only [List.cons_append, cB]; omega
theorem cA_append : ∀ (x y : List U), cA (x ++ y) = cA x + cA y
  | [], y => by simp [cA]
  | .a e :: x, y => by have := cA_append x y; simp only [List.cons_append, cA]; omega
  | .c :: x, y => by simpa [cA] using cA_append x y
  | .k t :: x, y => by have := cA_append x y; simp only [List.cons_append, cA]; omega
theorem cB_a : ∀ (x : Flow), cB (x.map U.a) = 0 ∧ cA (x.map U.a) = x.length
  | [] => ⟨rfl, rfl⟩
  | e :: x => by
    obtain ⟨h1, h2⟩ := cB_a x
    exact ⟨h1, by show cA (x.map U.a) + 1 = x.length + 1; rw [h2]⟩
theorem cB_uni (n : Nat) (c : Bool) (t : Attrs) : cB (List.replicate n (uni c t)) = n ∧ cA (List.replicate n (uni c t)) = if c = true then 0 else n := by
  induction n with
  | zero => cases c <;> exact ⟨rfl, rfl⟩
  | succ n ih =>
    rw [List.replicate_succ]
    cases c
    · exact ⟨by show cB _ + 1 = _; rw [ih.1], by show cA _ + 1 = _; rw [ih.2]; rfl⟩
    · exact ⟨by show cB _ + 1 = _; rw [ih.1], by show cA (List.replicate n (uni true t)) = _; rw [ih.2]; rfl⟩
theorem cB_ex : ∀ (l : Steps), cB (ex l) = nb l ∧ cA (ex l) ≤ nb l + eb l
  | [] => ⟨rfl, Nat.le_refl _⟩
  | s :: l => by
    obtain ⟨h1, h2⟩ := cB_ex l
    have hS : cB (exS s) = (if sk s = 1 then 0 else (sn s).toNat) ∧ cA (exS s) ≤ (if sk s = 1 then 0 else (sn s).toNat) + (se s).length := by
      unfold exS
      split
      · obtain ⟨q1, q2⟩ := cB_a (se s); exact ⟨q1, by omega⟩
      · obtain ⟨q1, q2⟩ := cB_uni (sn s).toNat (sk s == 2) (sa s)
        exact ⟨q1, by rw [q2]; split <;> omega⟩
    show cB (exS s ++ ex l) = (if sk s = 1 then 0 else (sn s).toNat) + nb l ∧ cA (exS s ++ ex l) ≤ (if sk s = 1 then 0 else (sn s).toNat) + nb l + ((se s).length + eb l)
    rw [cB_append, cA_append]
    omega
theorem pErr_mem : ∀ {f : Flow}, pErr f = 0 → ∀ x ∈ f, eErr x = 0
  | [], _, x, hx => by simp at hx
  | y :: f, h, x, hx => by
    simp only [pErr] at h
    split at h
    · rename_i h1; exact absurd h h1
    · rename_i h1
      rcases List.mem_cons.1 hx with rfl | hx
      · exact Decidable.not_not.1 h1
      · exact pErr_mem h x hx
theorem ok_exS {s : YStep.den} (h1 : sk s = 1 → pErr (se s) = 0) (h2 : Attr.err true (sa s) = 0) : ∀ u ∈ exS s, okU u := by
  intro u hu
  unfold exS at hu
  split at hu
  · rename_i k1
    obtain ⟨x, hx, rfl⟩ := List.mem_map.1 hu
    exact pErr_mem (h1 k1) x hx
  · rw [List.eq_of_mem_replicate hu]
    unfold uni
    split
    · exact trivial
    · exact h2
theorem ok_ex : ∀ {l : Steps}, (∀ s ∈ l, (sk s = 1 → pErr (se s) = 0) ∧ Attr.err true (sa s) = 0) → ∀ u ∈ ex l, okU u
  | [], _, u, hu => by simp [ex] at hu
  | s :: l, h, u, hu => by
    rcases List.mem_append.1 (show u ∈ exS s ++ ex l from hu) with hu | hu
    · exact ok_exS (h s (by simp)).1 (h s (by simp)).2 u hu
    · exact ok_ex (fun t ht => h t (by simp [ht])) u hu
section
variable (d : Steps) (hd : Ds d) (hk : d.length ≤ 349524) (he : eb d ≤ 1048576)
include hd hk he
end
end Go.Ev.Delta
