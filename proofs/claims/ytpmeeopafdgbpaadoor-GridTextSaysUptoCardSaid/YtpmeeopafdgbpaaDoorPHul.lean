
import Derived.Test.YtpmeeopafdgbpaaDoorPAxU
import Derived.Test.YtpmeeopafdgbpaaDoorPEqs
namespace Go.Ev.Hul
open Go.Ev Go.Ev.Axis Go.Ev.Doc
set_option linter.unusedVariables false
set_option linter.unusedSimpArgs false
set_option maxRecDepth 100000
theorem good_cons {s : YSpan.den} {l : Axis.Steps} (h : Axis.Good (s :: l)) : ((Axis.sk s) = 0 ∨ (Axis.sk s) = 1 ∨ (Axis.sk s) = 2) ∧ 1 ≤ (Axis.sn s) ∧ (Axis.sn s) ≤ 2147483647 ∧ Axis.Good l := ⟨h.1.1, h.1.2.1, h.1.2.2, h.2⟩
theorem pl_ge (p : Int) : ∀ (l : Axis.Steps), Axis.Good l → ∀ (f t : Int), f ≤ p → 0 ≤ t → 0 ≤ Axis.pl p f t l → t ≤ Axis.pl p f t l
  | [], _, f, t, _, _, h => by have : Axis.pl p f t [] = -1 := rfl; omega
  | s :: l, g, f, t, hf, ht, h => by
    obtain ⟨k, n1, n2, g'⟩ := good_cons g
    unfold Axis.pl at h ⊢
    by_cases k1 : Axis.sk s = 1
    · rw [if_pos k1] at h ⊢
      have := pl_ge p l g' f (t + Axis.sn s) hf (by omega) h; omega
    · rw [if_neg k1] at h ⊢
      by_cases k0 : Axis.sk s = 0
      · rw [if_pos k0] at h ⊢
        by_cases hp : p < f + Axis.sn s
        · rw [if_pos hp] at h ⊢; omega
        · rw [if_neg hp] at h ⊢
          have := pl_ge p l g' (f + Axis.sn s) (t + Axis.sn s) (by omega) (by omega) h; omega
      · rw [if_neg k0] at h ⊢
        by_cases hp : p < f + Axis.sn s
        · rw [if_pos hp] at h ⊢; omega
        · rw [if_neg hp] at h ⊢
          exact pl_ge p l g' (f + Axis.sn s) t (by omega) ht h
theorem pl_mono (p q : Int) (hpq : p < q) : ∀ (l : Axis.Steps), Axis.Good l → ∀ (f t : Int), f ≤ p → 0 ≤ t → 0 ≤ Axis.pl p f t l → 0 ≤ Axis.pl q f t l → Axis.pl p f t l < Axis.pl q f t l
  | [], _, f, t, _, _, h, _ => by have : Axis.pl p f t [] = -1 := rfl; omega
  | s :: l, g, f, t, hf, ht, h, h2 => by
    obtain ⟨k, n1, n2, g'⟩ := good_cons g
    unfold Axis.pl at h h2 ⊢
    by_cases k1 : Axis.sk s = 1
    · rw [if_pos k1] at h h2 ⊢
      rw [if_pos k1]
      exact pl_mono p q hpq l g' f (t + Axis.sn s) hf (by omega) h h2
    · rw [if_neg k1] at h h2 ⊢
      rw [if_neg k1]
      by_cases k0 : Axis.sk s = 0
      · rw [if_pos k0] at h h2 ⊢
        rw [if_pos k0]
        by_cases hp : p < f + Axis.sn s
        · rw [if_pos hp]
          by_cases hq : q < f + Axis.sn s
          · rw [if_pos hq]; omega
          · rw [if_neg hq] at h2 ⊢
            have := pl_ge q l g' (f + Axis.sn s) (t + Axis.sn s) (by omega) (by omega) h2; omega
        · rw [if_neg hp] at h ⊢
          have hq : ¬ q < f + Axis.sn s := by omega
          rw [if_neg hq] at h2 ⊢
          exact pl_mono p q hpq l g' (f + Axis.sn s) (t + Axis.sn s) (by omega) (by omega) h h2
      · rw [if_neg k0] at h h2 ⊢
        rw [if_neg k0]
        by_cases hp : p < f + Axis.sn s
        · rw [if_pos hp] at h; omega
        · have hq : ¬ q < f + Axis.sn s := by omega
          rw [if_neg hp] at h ⊢
          rw [if_neg hq] at h2 ⊢
          exact pl_mono p q hpq l g' (f + Axis.sn s) t (by omega) ht h h2
theorem fst_spec (K : Int → Int) : ∀ (n : Nat) (s : Int), (∀ v, Axis.fstK K n s = some v → ∃ x, s ≤ x ∧ x < s + n ∧ v = K x ∧ 0 ≤ K x) ∧ (Axis.fstK K n s = none → ∀ x, s ≤ x → x < s + n → ¬ 0 ≤ K x)
  | 0, s => ⟨fun v h => by simp [Axis.fstK] at h, fun _ x h1 h2 => by omega⟩
  | n + 1, s => by
    obtain ⟨i1, i2⟩ := fst_spec K n (s + 1)
    unfold Axis.fstK
    by_cases h : 0 ≤ K s
    · rw [if_pos h]
      exact ⟨fun v e => by injection e with e; exact ⟨s, by omega, by omega, e.symm, h⟩, fun e => by cases e⟩
    · rw [if_neg h]
      refine ⟨fun v e => ?_, fun e x h1 h2 => ?_⟩
      · obtain ⟨x, q1, q2, q3⟩ := i1 v e
        exact ⟨x, by omega, by omega, q3⟩
      · by_cases hx : x = s
        · rw [hx]; exact h
        · exact i2 e x (by omega) (by omega)
theorem lst_spec (K : Int → Int) : ∀ (n : Nat) (s : Int), (∀ v, Axis.lstK K n s = some v → ∃ x, s ≤ x ∧ x < s + n ∧ v = K x ∧ 0 ≤ K x ∧ ∀ y, s ≤ y → y < s + n → 0 ≤ K y → y ≤ x) ∧ (Axis.lstK K n s = none → ∀ x, s ≤ x → x < s + n → ¬ 0 ≤ K x)
  | 0, s => ⟨fun v h => by simp [Axis.lstK] at h, fun _ x h1 h2 => by omega⟩
  | n + 1, s => by
    obtain ⟨i1, i2⟩ := lst_spec K n s
    unfold Axis.lstK
    by_cases h : 0 ≤ K (s + n)
    · rw [if_pos h]
      exact ⟨fun v e => by injection e with e; exact ⟨s + n, by omega, by omega, e.symm, h, fun y _ hy _ => by omega⟩, fun e => by cases e⟩
    · rw [if_neg h]
      refine ⟨fun v e => ?_, fun e x h1 h2 => ?_⟩
      · obtain ⟨x, q1, q2, q3, q4, q5⟩ := i1 v e
        refine ⟨x, q1, by omega, q3, q4, fun y y1 y2 y3 => ?_⟩
        by_cases hy : y = s + n
        · rw [hy] at y3; exact absurd y3 h
        · exact q5 y y1 (by omega) y3
      · by_cases hx : x = s + n
        · rw [hx]; exact h
        · exact i2 e x h1 (by omega)
def K (a : Axis.Steps) (x : Int) : Int := Axis.pl x 0 0 a
theorem hull_spec (a : Axis.Steps) (g : Axis.Good a) (p q : Int) (hp : 0 ≤ p) (hq : p ≤ q) : (Axis.hull a p q = (0, 0)) ∨ (∃ x0 x1, p ≤ x0 ∧ x0 ≤ x1 ∧ x1 < q ∧ 0 ≤ K a x0 ∧ 0 ≤ K a x1 ∧ (Axis.hull a p q).1 = K a x0 ∧ (Axis.hull a p q).2 = K a x1 + 1 ∧ K a x0 ≤ K a x1) := by
  have e : Axis.hull a p q = ((Axis.fstK (K a) (q - p).toNat p).getD 0, ((Axis.lstK (K a) (q - p).toNat p).map (· + 1)).getD 0) := by
    show Axis.asc (K a) (q - p).toNat p 0 0 = _
    rw [Axis.asc_eq]; rfl
  obtain ⟨f1, f2⟩ := fst_spec (K a) (q - p).toNat p
  obtain ⟨l1, l2⟩ := lst_spec (K a) (q - p).toNat p
  rw [e]
  cases hf : Axis.fstK (K a) (q - p).toNat p with
  | none =>
    cases hl : Axis.lstK (K a) (q - p).toNat p with
    | none => exact .inl rfl
    | some v =>
      obtain ⟨x, q1, q2, q3, q4, _⟩ := l1 v hl
      exact absurd q4 (f2 hf x q1 q2)
  | some u =>
    obtain ⟨x, q1, q2, q3, q4⟩ := f1 u hf
    cases hl : Axis.lstK (K a) (q - p).toNat p with
    | none => exact absurd q4 (l2 hl x q1 q2)
    | some v =>
      obtain ⟨y, r1, r2, r3, r4, r5⟩ := l1 v hl
      have hxy := r5 x q1 q2 q4
      refine .inr ⟨x, y, q1, hxy, by omega, q4, r4, q3, ?_, ?_⟩
      · show v + 1 = _; rw [r3]
      · by_cases e : x = y
        · rw [e]; exact Int.le_refl _
        · exact Int.le_of_lt (pl_mono x y (by omega) a g 0 0 (by omega) (Int.le_refl _) q4 r4)
theorem hull_eq (a : Axis.Steps) (hl : a.length ≤ 1048576) (he : Axis.E a = 0) (p q : Int) (hp : 0 ≤ p) (hq : p ≤ q) (hq2 : q ≤ 2147483647) : C_axis_Hull F_axis_Hull a p q = some (ret_axis_Hull (Axis.hull a p q).1 (Axis.hull a p q).2) := by
  obtain ⟨g, hb, ha⟩ := Axis.E_good he
  have := Axis.hull_loop a hl g p q hp (by omega) (by omega) hq2 big a.length 0 big 0 0 0 0 (by omega) (big_ge (n := a.length + 1) (by omega)) (by omega) (by omega) (by omega) (by simpa using hb) (by simpa using ha)
  rw [show ((0 : Nat) : Int) = 0 from rfl, show max p 0 = p by omega, List.drop_zero] at this
  rw [e_axis_Hull, this]; rfl
theorem lens_eq (a : Axis.Steps) (hl : a.length ≤ 1048576) (he : Axis.E a = 0) : C_axis_Lengths F_axis_Lengths a = some (ret_axis_Lengths (Axis.sumB a) (Axis.sumA a) 0) := by
  rw [e_axis_Lengths, Axis.check_eq a hl, he]
  simp only [Option.bind_some, res_axis_Check_0_ret, bne_self_eq_false, bF, Axis.lengths_eq a hl he, res_axis_lengths_0_ret, res_axis_lengths_1_ret]
/-- A row that stays lies within the new ones. -/
theorem pl_lt (p : Int) : ∀ (l : Axis.Steps), Axis.Good l → ∀ (f t : Int), f ≤ p → 0 ≤ t → 0 ≤ Axis.pl p f t l → Axis.pl p f t l < t + Axis.sumA l
  | [], _, f, t, _, _, h => by have : Axis.pl p f t [] = -1 := rfl; omega
  | s :: l, g, f, t, hf, ht, h => by
    obtain ⟨k, n1, n2, g'⟩ := good_cons g
    have hp := Axis.sum_pos g'
    have e : Axis.sumA (s :: l) = (if Axis.sk s = 2 then 0 else Axis.sn s) + Axis.sumA l := rfl
    unfold Axis.pl at h ⊢
    rw [e]
    by_cases k1 : Axis.sk s = 1
    · rw [if_pos k1] at h ⊢
      have := pl_lt p l g' f (t + Axis.sn s) hf (by omega) h
      rw [show (if Axis.sk s = 2 then (0 : Int) else Axis.sn s) = Axis.sn s from if_neg (by omega)]; omega
    · rw [if_neg k1] at h ⊢
      by_cases k0 : Axis.sk s = 0
      · rw [if_pos k0] at h ⊢
        rw [show (if Axis.sk s = 2 then (0 : Int) else Axis.sn s) = Axis.sn s from if_neg (by omega)]
        by_cases hp : p < f + Axis.sn s
        · rw [if_pos hp] at h ⊢; omega
        · rw [if_neg hp] at h ⊢
          have := pl_lt p l g' (f + Axis.sn s) (t + Axis.sn s) (by omega) (by omega) h; omega
      · rw [if_neg k0] at h ⊢
        by_cases hp : p < f + Axis.sn s
        · rw [if_pos hp] at h ⊢; omega
        · rw [if_neg hp] at h ⊢
          have := pl_lt p l g' (f + Axis.sn s) t (by omega) ht h
          rw [show (if Axis.sk s = 2 then (0 : Int) else Axis.sn s) = 0 from if_pos (by omega)]; omega
end Go.Ev.Hul
