
import Derived.Test.YtlgjdgebmiegeaaPDifD
import Derived.Test.YtlgjdgebmiegeaaGDiffL
namespace Go.Ev.Diff
open Go.Ev Go.Ev.Attr Go.Ev.Track Go.Ev.Delta
set_option linter.unusedVariables false
set_option linter.unusedSimpArgs false
theorem fs_lts (s : Str) (h : s.length ≤ 10) : Fs (lts s) := fs_of (by simp [lts]; omega) (fun x hx => by
  obtain ⟨c, _, rfl⟩ := List.mem_map.1 hx
  exact sh_nil)
theorem ea_lts (s : Str) : ∀ x ∈ lts s, ea x = [] := fun x hx => by
  obtain ⟨c, _, rfl⟩ := List.mem_map.1 hx
  rfl
theorem chg_nil : chg [] [] = [] := by
  have f : Full [] := ⟨trivial, fun x h => by simp at h, fun x h => by simp at h⟩
  rw [chg_btw f f]; rfl
section
variable {a b : Flow} (va : Vf a) (vb : Vf b) (ha : a.length ≤ 2000) (hb : b.length ≤ 2000) (hab : ∀ x ∈ a, ∀ y ∈ b, 2 * (ea x).length + 2 * (ea y).length ≤ 1048576)
include va vb ha hb hab
/-- What Flows writes is a valid delta, and small. -/
theorem fu_out : Delta.err (out (runP (fu a b) w0)) = 0 ∧ befs (out (runP (fu a b) w0)) = a.length ∧ afts (out (runP (fu a b) w0)) = b.length ∧ Ds (out (runP (fu a b) w0)) ∧ (out (runP (fu a b) w0)).length ≤ 13000 := by
  have hab' : ∀ x ∈ a, ∀ y ∈ b, (ea x).length + (ea y).length ≤ 1048576 := fun x hx y hy => by have := hab x hx y hy; omega
  obtain ⟨c1, c2⟩ := fu_AB a b
  have hl := fu_len a b
  obtain ⟨v1, v2, v3⟩ := valid_out (fu a b) (fu_ok va vb) (by omega) (by omega)
  obtain ⟨s1, s2⟩ := SI.run (fu a b) w0 0 ⟨by simp [w0], fun s h => by simp [w0] at h, fun s h => by simp [w0] at h⟩ (fu_sh va vb hab') (by show 0 + _ ≤ _; omega)
  obtain ⟨s3, s4⟩ := s1.outs s2
  exact ⟨v1, by rw [v2, c1], by rw [v3, c2], ds_of (by omega) s4, by omega⟩
theorem eb_small : eb (out (runP (fu a b) w0)) ≤ 2000 := by
  obtain ⟨v1, v2, v3, v4, v5⟩ := fu_out va vb ha hb hab
  have hv := (dErr_zero _ none 0 0 v1).1
  have : ∀ (l : Delta.Steps), (∀ s ∈ l, sErr s = 0) → (eb l : Int) ≤ afts l := by
    intro l
    induction l with
    | nil => intro _; simp [eb, afts]
    | cons s l ih =>
      intro h
      have q := ih (fun t ht => h t (by simp [ht]))
      have hz := h s (by simp)
      simp only [eb, afts]
      have : ((se s).length : Int) ≤ addA s 0 := by
        unfold addA ssz
        rcases sErr_zero hz with ⟨h1, _, _, h4, _⟩ | ⟨h1, h2, h3, _⟩
        · simp [h1]
        · have k1 : ¬ sk s = 1 := by rcases h1 with q | q <;> omega
          rw [h2, if_neg k1]
          split <;> simp <;> omega
      omega
  have := this _ hv
  omega
end
section
variable (a b : Flow) (sa : Fs a) (sb : Fs b) (hab : ∀ x ∈ a, ∀ y ∈ b, 2 * (ea x).length + 2 * (ea y).length ≤ 1048576)
include sa sb hab
end
end Go.Ev.Diff
