/- Errors and lengths of changes of an axis, and keeping: the law. -/
import Derived.Test.YtphlkpahfcainaaPAxisD
import Derived.Test.YtphlkpahfcainaaGAxisChk
namespace Go.Ev.Axis
open Go.Ev
set_option linter.unusedVariables false
set_option linter.unusedSimpArgs false

/-! ### The writer -/
theorem flush_eq (o : Steps) (a c : Int) (ho : o.length ≤ 4194304) : C117 F117 o a c = some (ret117 (o ++ (if 0 < a then [mkS 1 a] else []) ++ (if 0 < c then [mkS 2 c] else [])) 0 0) := by
  have e1 : ((1, a) : YSpan.den) = mkS 1 a := rfl
  have e2 : ((2, c) : YSpan.den) = mkS 2 c := rfl
  have b1 : (o.length + [mkS 1 a].length) * 16 ≤ 140737488355328 := Nat.le_trans (Nat.mul_le_mul_right 16 (Nat.add_le_add_right ho 1)) (by decide)
  have b2 : (o.length + [mkS 2 c].length) * 16 ≤ 140737488355328 := Nat.le_trans (Nat.mul_le_mul_right 16 (Nat.add_le_add_right ho 1)) (by decide)
  have b3 : ((o ++ [mkS 1 a]).length + [mkS 2 c].length) * 16 ≤ 140737488355328 := by
    rw [List.length_append]
    exact Nat.le_trans (Nat.mul_le_mul_right 16 (Nat.add_le_add_right (Nat.add_le_add_right ho 1) 1)) (by decide)
  rw [e117]
  simp only [bcond_if, e1, e2, b1, b2, b3, if_true]
  by_cases h1 : 0 < a
  · have h1' : a > 0 := h1
    by_cases h2 : 0 < c
    · have h2' : c > 0 := h2
      simp [h1', h2']
    · have h2' : ¬ c > 0 := h2
      simp [h1', h2']
  · have h1' : ¬ a > 0 := h1
    by_cases h2 : 0 < c
    · have h2' : c > 0 := h2
      simp [h1', h2']
    · have h2' : ¬ c > 0 := h2
      simp [h1', h2']
theorem err1 (n : Int) (h1 : 1 ≤ n) (h2 : n ≤ 2147483647) : E [mkS 0 n] = 0 := by
  unfold E
  have : sErr none 0 n = 0 := by unfold sErr; rw [if_neg (by omega), if_neg (by omega)]
  have b : addB 0 n 0 = n := by simp [addB]
  have a : addA 0 n 0 = n := by simp [addA]
  simp only [err, sk_mk, sn_mk, this, ne_eq, not_true, if_false, b, a]
  rw [if_neg (by omega)]
theorem keep_eq (n : Int) : C60 F60 n = some (if n < 0 ∨ 2147483647 < n then ret60 [] 2 else ret60 (if n = 0 then [] else [mkS 0 n]) 0) := by
  rw [e60]
  simp only [bcond_if]
  by_cases h1 : n < 0
  · simp [h1]
  · by_cases h2 : 2147483647 < n
    · have h2' : n > 2147483647 := h2
      simp [h1, h2']
    · have h2' : ¬ n > 2147483647 := h2
      have hput : C98 F98 0 n [] 0 0 = some (ret98 (if n = 0 then [] else [mkS 0 n]) 0 0) := by
        have e2 : ((0, n) : YSpan.den) = mkS 0 n := rfl
        have fl := flush_eq [] 0 0 (by simp)
        simp only [show ¬ (0 : Int) < 0 from by omega, if_false, List.append_nil] at fl
        rw [e98, fl]
        simp only [Option.bind_some, res117_0_ret, res117_1_ret, res117_2_ret, bcond_if, e2]
        by_cases h3 : n = 0
        · simp [h3]
        · have c1 : decide (IntKind.i64.wrap (((([] : Steps).length : Nat) : Int) - 1) ≥ 0) = false := rfl
          have c2 : ((0 : Int) == 1) = false := rfl
          have c3 : ((0 : Int) == 2) = false := rfl
          have b : (([] : Steps).length + [mkS 0 n].length) * 16 ≤ 140737488355328 := by simp
          have hw : IntKind.i64.wrap (-1) = -1 := rfl
          simp only [c1, c2, c3, b, if_true]
          simp [h3, hw]
      have hdone : C99 F99 (if n = 0 then [] else [mkS 0 n]) 0 0 = some (ret99 (if n = 0 then [] else [mkS 0 n]) 0 none 0 0) := by
        have hlen : (if n = 0 then ([] : Steps) else [mkS 0 n]).length ≤ 1 := by split <;> simp
        have fl := flush_eq (if n = 0 then [] else [mkS 0 n]) 0 0 (by omega)
        simp only [show ¬ (0 : Int) < 0 from by omega, if_false, List.append_nil] at fl
        have hE : E (if n = 0 then [] else [mkS 0 n]) = 0 := by
          split
          · rfl
          · exact err1 n (by omega) (by omega)
        rw [e99, fl]
        simp only [Option.bind_some, res117_0_ret, res117_1_ret, res117_2_ret, bcond_if, check_eq _ (show (if n = 0 then ([] : Steps) else [mkS 0 n]).length ≤ 1048576 by omega), res61_0_ret, hE]
        rfl
      rw [hput]
      simp only [Option.bind_some, res98_0_ret, res98_1_ret, res98_2_ret, hdone, res99_0_ret, res99_1_ret]
      simp [h1, h2, h2']
theorem lens_eq (l : Steps) (hl : l.length ≤ 1048576) : C59 F59 l = some (if E l ≠ 0 then ret59 0 0 (E l) else ret59 (sumB l) (sumA l) 0) := by
  rw [e59, check_eq l hl]
  simp only [Option.bind_some, res61_0_ret, bcond_if]
  by_cases h : E l = 0
  · rw [lengths_eq l hl h]
    simp [h]
  · simp [h]
theorem down_loop' (l : Steps) (hl : l.length ≤ 1048576) (g : Good l) (n : Nat) : ∀ (d i m : Nat), i + d = l.length → d < m → sumB (l.drop i) ≤ 2147483647 → sumA (l.drop i) ≤ 2147483647 →
    L11_0 F27 F59 F29 F60 F61 n m l (sumB (l.drop i)) (sumA (l.drop i)) (l.length : Int) i = some (ret11 true) := by
  intro d
  induction d with
  | zero =>
    intro i m hi hm hB hA
    cases m with
    | zero => omega
    | succ m =>
    have : i = l.length := by omega
    subst this
    have c1 : decide ((l.length : Int) < (l.length : Int)) = false := decide_eq_false (by omega)
    rw [L11_0_step, List.drop_length]
    simp [bcond_if, c1, sumB, sumA]
  | succ d ih =>
    intro i m hi hm hB hA
    cases m with
    | zero => omega
    | succ m =>
    have hil : i < l.length := by omega
    have c1 : decide ((i : Int) < (l.length : Int)) = true := decide_eq_true (by omega)
    have w1 : IntKind.i64.wrap ((i : Int) + 1) = ((i + 1 : Nat) : Int) := wnat (by omega) (by omega)
    have ek : (at_ (e := YSpan) l (i : Int)).1 = kind l i := rfl
    have en : (at_ (e := YSpan) l (i : Int)).2 = num l i := rfl
    obtain ⟨k1, n1, n2⟩ := good_at g hil
    have hp := sum_pos (good_drop g (i + 1))
    rw [drop_cons l hil] at hB hA ⊢
    simp only [sumB, sumA, sk_mk, sn_mk] at hB hA ⊢
    rw [L11_0_step]
    simp only [bcond_if, inb, hil, c1, if_true, w1, ek, en]
    generalize num l i = N at *
    have ih := ih (i + 1) m (by omega) (by omega)
    rcases k1 with hk | hk | hk <;> rw [hk] at hB hA ⊢
    · simp only [show ¬ (0 : Int) = 1 from by omega, show ¬ (0 : Int) = 2 from by omega, if_false] at hB hA ⊢
      have q1 : IntKind.i64.wrap (N + sumB (l.drop (i + 1)) - N) = sumB (l.drop (i + 1)) := by rw [w64 (by omega) (by omega)]; omega
      have q2 : IntKind.i64.wrap (N + sumA (l.drop (i + 1)) - N) = sumA (l.drop (i + 1)) := by rw [w64 (by omega) (by omega)]; omega
      simp only [q1, q2]
      simpa using ih (by omega) (by omega)
    · simp only [show ¬ (1 : Int) = 2 from by omega, if_true, if_false] at hB hA ⊢
      have q2 : IntKind.i64.wrap (N + sumA (l.drop (i + 1)) - N) = sumA (l.drop (i + 1)) := by rw [w64 (by omega) (by omega)]; omega
      simp only [q2, Int.zero_add]
      simpa using ih (by omega) (by omega)
    · simp only [show ¬ (2 : Int) = 1 from by omega, if_true, if_false] at hB hA ⊢
      have q1 : IntKind.i64.wrap (N + sumB (l.drop (i + 1)) - N) = sumB (l.drop (i + 1)) := by rw [w64 (by omega) (by omega)]; omega
      simp only [q1, Int.zero_add]
      simpa using ih (by omega) (by omega)

theorem lawCheck (a : Steps) (n : Int) (hl : a.length ≤ 1048576) : C11 F11 a n = some (ret11 true) := by
  obtain ⟨m, hm⟩ := big_succ (n := 1048577) (by omega)
  have hlen : (if n = 0 then ([] : Steps) else [mkS 0 n]).length ≤ 1 := by split <;> simp
  have fin : (if (E a != 0) = true then if ((0 : Int) == 0) = true then some (ret11 ((0 : Int) == 0)) else some (ret11 false) else L11_0 F27 F59 F29 F60 F61 big big a (sumB a) (sumA a) (a.length : Int) 0) = some (ret11 true) := by
    by_cases h : E a = 0
    · obtain ⟨g, hb, ha⟩ := E_good h
      have := down_loop' a hl g big a.length 0 big (by omega) (by omega) (by simpa using hb) (by simpa using ha)
      simpa [h] using this
    · simp [h]
  rw [e11, axes_eq, lens_eq a hl, axerr_eq a hl, keep_eq n, check_eq a hl]
  simp only [Option.bind_some, res27_0_ret, res29_0_ret, res61_0_ret, bcond_if, Bool.not_true, Bool.false_eq_true, if_false, bne_self_eq_false, beq_self_eq_true, if_true]
  have hk : ¬ (n < 0 ∨ 2147483647 < n) → C59 F59 (if n = 0 then [] else [mkS 0 n]) = some (ret59 n n 0) := by
    intro h
    rw [lens_eq _ (by omega)]
    by_cases h0 : n = 0
    · subst h0; rfl
    · simp only [h0, if_false, err1 n (by omega) (by omega), ne_eq, not_true, sumB, sumA, sk_mk, sn_mk]
      simp
  by_cases hE : E a = 0
  · simp only [hE, ne_eq, not_true, if_false, res59_0_ret, res59_1_ret, res59_2_ret, bne_self_eq_false, Bool.false_eq_true] at fin ⊢
    by_cases h1 : n < 0
    · simpa [h1] using fin
    · by_cases h2 : 2147483647 < n
      · have h2' : n > 2147483647 := h2
        simpa [h1, h2, h2'] using fin
      · have h2' : ¬ n > 2147483647 := h2
        have h3 : ¬ (n < 0 ∨ 2147483647 < n) := by omega
        simp only [h3, if_false, res60_0_ret, res60_1_ret, hk h3, Option.bind_some, res59_0_ret, res59_1_ret, res59_2_ret]
        simpa [h1, h2, h2'] using fin
  · simp only [hE, ne_eq, not_false_eq_true, if_true, res59_0_ret, res59_1_ret, res59_2_ret, bne_self_eq_false, Bool.false_eq_true, if_false]
    have hE' : (E a != 0) = true := by simpa using hE
    by_cases h1 : n < 0
    · simp [h1, hE']
    · by_cases h2 : 2147483647 < n
      · have h2' : n > 2147483647 := h2
        simp [h1, h2, h2', hE']
      · have h2' : ¬ n > 2147483647 := h2
        have h3 : ¬ (n < 0 ∨ 2147483647 < n) := by omega
        simp only [h3, if_false, res60_0_ret, res60_1_ret, hk h3, Option.bind_some, res59_0_ret, res59_1_ret, res59_2_ret]
        simp [h1, h2, h2', hE']
theorem holdsCheck (a : Steps) (n : Int) (o0 : (Ty.list YSpan).ok a) (o1 : (Ty.int .i64).ok n) (hb : (Ty.list YSpan).bulk a + (Ty.int .i64).bulk n ≤ 1048576) : C11 F11 a n = some (ret11 true) := by
  have h1 := bulk_len a
  exact lawCheck a n (by omega)
end Go.Ev.Axis
