/- Changes of an axis: the plain side, second part: lengths, places, rows. -/
import Derived.Test.YtphlkpahfcainaaPAxis
namespace Go.Ev.Axis
open Go.Ev
set_option linter.unusedVariables false
set_option linter.unusedSimpArgs false

theorem drop_at {e : Ty} (xs : List e.den) {i : Nat} (h : i < xs.length) : xs.drop i = at_ xs (i : Int) :: xs.drop (i + 1) := by
  rw [List.drop_eq_getElem_cons h]
  congr 1
  unfold at_
  simp [List.getD_eq_getElem?_getD, h]

def sumB : Steps → Int
  | [] => 0
  | s :: l => (if sk s = 1 then 0 else sn s) + sumB l
def sumA : Steps → Int
  | [] => 0
  | s :: l => (if sk s = 2 then 0 else sn s) + sumA l
def sumN : Steps → Int
  | [] => 0
  | s :: l => sn s + sumN l
/-- Every step is of a kind, and of a number. -/
def Good : Steps → Prop
  | [] => True
  | s :: l => ((sk s = 0 ∨ sk s = 1 ∨ sk s = 2) ∧ 1 ≤ sn s ∧ sn s ≤ 2147483647) ∧ Good l

theorem err_good : ∀ (l : Steps) (p : Option Int) (b a : Int), err p b a l = 0 → Good l ∧ b + sumB l ≤ 2147483647 ∧ a + sumA l ≤ 2147483647
  | [], p, b, a, h => by
    simp only [err] at h
    split at h
    · cases h
    · exact ⟨trivial, by simp only [sumB]; omega, by simp only [sumA]; omega⟩
  | s :: l, p, b, a, h => by
    simp only [err] at h
    split at h
    · rename_i h1; exact absurd h h1
    · rename_i h1
      have h1 : sErr p (sk s) (sn s) = 0 := Decidable.not_not.1 h1
      obtain ⟨k1, n1, n2, _⟩ := sErr_zero h1
      obtain ⟨g, hb, ha⟩ := err_good l _ _ _ h
      refine ⟨⟨⟨k1, n1, n2⟩, g⟩, ?_, ?_⟩
      · simp only [sumB, addB] at *; split at hb <;> split <;> omega
      · simp only [sumA, addA] at *; split at ha <;> split <;> omega
theorem E_good {l : Steps} (h : E l = 0) : Good l ∧ sumB l ≤ 2147483647 ∧ sumA l ≤ 2147483647 := by
  have := err_good l none 0 0 h
  simpa using this

theorem sum_pos : ∀ {l : Steps}, Good l → 0 ≤ sumB l ∧ 0 ≤ sumA l ∧ sumB l ≤ sumN l ∧ sumA l ≤ sumN l ∧ sumN l ≤ sumB l + sumA l
  | [], _ => by simp [sumB, sumA, sumN]
  | s :: l, ⟨⟨k, n1, n2⟩, g⟩ => by
    have := sum_pos g
    simp only [sumB, sumA, sumN]
    split <;> split <;> omega
theorem good_at {l : Steps} (g : Good l) {i : Nat} (h : i < l.length) : (kind l i = 0 ∨ kind l i = 1 ∨ kind l i = 2) ∧ 1 ≤ num l i ∧ num l i ≤ 2147483647 := by
  have hd : ∀ (l : Steps), Good l → ∀ i, Good (l.drop i) := by
    intro l
    induction l with
    | nil => intro _ i; simp [Good]
    | cons s l ih =>
      intro g i
      cases i with
      | zero => exact g
      | succ i => exact ih g.2 i
  have := hd l g i
  rw [drop_cons l h] at this
  exact this.1
theorem good_drop : ∀ {l : Steps}, Good l → ∀ i, Good (l.drop i)
  | [], g, i => by simp [Good]
  | s :: l, g, 0 => g
  | s :: l, g, i + 1 => good_drop g.2 i

theorem lengths_loop (l : Steps) (hl : l.length ≤ 1048576) (g : Good l) (n : Nat) : ∀ (d i m : Nat) (b a : Int), i + d = l.length → d < m → 0 ≤ b → 0 ≤ a → b + sumB (l.drop i) ≤ 2147483647 → a + sumA (l.drop i) ≤ 2147483647 →
    L82_0 n m b a l (l.length : Int) i = some (ret82 (b + sumB (l.drop i)) (a + sumA (l.drop i))) := by
  intro d
  induction d with
  | zero =>
    intro i m b a hi hm hb ha hB hA
    cases m with
    | zero => omega
    | succ m =>
    have : i = l.length := by omega
    subst this
    have c1 : decide ((l.length : Int) < (l.length : Int)) = false := decide_eq_false (by omega)
    rw [L82_0_step, List.drop_length]
    simp [bcond_if, c1, sumB, sumA]
  | succ d ih =>
    intro i m b a hi hm hb ha hB hA
    cases m with
    | zero => omega
    | succ m =>
    have hil : i < l.length := by omega
    have c1 : decide ((i : Int) < (l.length : Int)) = true := decide_eq_true (by omega)
    have w1 : IntKind.i64.wrap ((i : Int) + 1) = ((i + 1 : Nat) : Int) := wnat (by omega) (by omega)
    have ek : (at_ (e := YSpan) l (i : Int)).1 = kind l i := rfl
    have en : (at_ (e := YSpan) l (i : Int)).2 = num l i := rfl
    obtain ⟨k1, n1, n2⟩ := good_at g hil
    have hp := sum_pos (good_drop g (i + 1))
    rw [drop_cons l hil] at hB hA ⊢
    simp only [sumB, sumA, sk_mk, sn_mk] at hB hA ⊢
    rw [L82_0_step]
    simp only [bcond_if, inb, hil, c1, if_true, w1, ek, en]
    rcases k1 with hk | hk | hk <;> rw [hk] at hB hA ⊢
    · rw [w64 (by simp at hB; omega) (by simp at hB; omega), w64 (by simp at hA; omega) (by simp at hA; omega)]
      have := ih (i + 1) m (b + num l i) (a + num l i) (by omega) (by omega) (by omega) (by omega) (by simp at hB; omega) (by simp at hA; omega)
      simpa [Int.add_assoc] using this
    · rw [w64 (x := a + num l i) (by simp at hA; omega) (by simp at hA; omega)]
      have := ih (i + 1) m b (a + num l i) (by omega) (by omega) (by omega) (by omega) (by simp at hB; omega) (by simp at hA; omega)
      simpa [Int.add_assoc] using this
    · rw [w64 (x := b + num l i) (by simp at hB; omega) (by simp at hB; omega)]
      have := ih (i + 1) m (b + num l i) a (by omega) (by omega) (by omega) (by omega) (by simp at hB; omega) (by simp at hA; omega)
      simpa [Int.add_assoc] using this
theorem lengths_eq (l : Steps) (hl : l.length ≤ 1048576) (h : E l = 0) : C82 F82 l = some (ret82 (sumB l) (sumA l)) := by
  obtain ⟨m, hm⟩ := big_succ (n := 1048577) (by omega)
  obtain ⟨g, hb, ha⟩ := E_good h
  rw [e82]
  have := lengths_loop l hl g big l.length 0 big 0 0 (by omega) (by omega) (by omega) (by omega) (by simpa using hb) (by simpa using ha)
  simpa using this

/-- Where old row `p` is after a change; `f` old rows and `t` new ones are behind. -/
def pl (p : Int) : Int → Int → Steps → Int
  | _, _, [] => -1
  | f, t, s :: l => if sk s = 1 then pl p f (t + sn s) l else if sk s = 0 then (if p < f + sn s then t + p - f else pl p (f + sn s) (t + sn s) l) else if p < f + sn s then -1 else pl p (f + sn s) t l

theorem place_loop (l : Steps) (hl : l.length ≤ 1048576) (g : Good l) (p : Int) (hp0 : 0 ≤ p) (hp1 : p ≤ 2147483647) (n : Nat) : ∀ (d i m : Nat) (f t : Int), i + d = l.length → d < m → 0 ≤ f → 0 ≤ t → f + sumB (l.drop i) ≤ 2147483647 → t + sumA (l.drop i) ≤ 2147483647 →
    L83_0 n m p f t l (l.length : Int) i = some (ret83 (pl p f t (l.drop i))) := by
  intro d
  induction d with
  | zero =>
    intro i m b a hi hm hb ha hB hA
    cases m with
    | zero => omega
    | succ m =>
    have : i = l.length := by omega
    subst this
    have c1 : decide ((l.length : Int) < (l.length : Int)) = false := decide_eq_false (by omega)
    rw [L83_0_step, List.drop_length]
    simp [bcond_if, c1, pl]
  | succ d ih =>
    intro i m f t hi hm hb ha hB hA
    cases m with
    | zero => omega
    | succ m =>
    have hil : i < l.length := by omega
    have c1 : decide ((i : Int) < (l.length : Int)) = true := decide_eq_true (by omega)
    have w1 : IntKind.i64.wrap ((i : Int) + 1) = ((i + 1 : Nat) : Int) := wnat (by omega) (by omega)
    have ek : (at_ (e := YSpan) l (i : Int)).1 = kind l i := rfl
    have en : (at_ (e := YSpan) l (i : Int)).2 = num l i := rfl
    obtain ⟨k1, n1, n2⟩ := good_at g hil
    have hp := sum_pos (good_drop g (i + 1))
    rw [drop_cons l hil] at hB hA ⊢
    simp only [sumB, sumA, sk_mk, sn_mk] at hB hA
    simp only [pl, sk_mk, sn_mk]
    rw [L83_0_step]
    simp only [bcond_if, inb, hil, c1, if_true, w1, ek, en]
    rcases k1 with hk | hk | hk <;> rw [hk] at hB hA ⊢
    · rw [w64 (x := f + num l i) (by simp at hB; omega) (by simp at hB; omega), w64 (x := t + num l i) (by simp at hA; omega) (by simp at hA; omega), w64 (x := t + p) (by simp at hA; omega) (by simp at hA; omega), w64 (x := t + p - f) (by simp at hA hB; omega) (by simp at hA; omega)]
      have := ih (i + 1) m (f + num l i) (t + num l i) (by omega) (by omega) (by omega) (by omega) (by simp at hB; omega) (by simp at hA; omega)
      by_cases hlt : p < f + num l i
      · simp [hlt]
      · simpa [hlt] using this
    · rw [w64 (x := t + num l i) (by simp at hA; omega) (by simp at hA; omega)]
      have := ih (i + 1) m f (t + num l i) (by omega) (by omega) (by omega) (by omega) (by simp at hB; omega) (by simp at hA; omega)
      simpa using this
    · rw [w64 (x := f + num l i) (by simp at hB; omega) (by simp at hB; omega)]
      have := ih (i + 1) m (f + num l i) t (by omega) (by omega) (by omega) (by omega) (by simp at hB; omega) (by simp at hA; omega)
      by_cases hlt : p < f + num l i
      · simp [hlt]
      · simpa [hlt] using this
theorem place_eq (l : Steps) (hl : l.length ≤ 1048576) (h : E l = 0) (p : Int) (hp0 : 0 ≤ p) (hp1 : p ≤ 2147483647) : C83 F83 l p = some (ret83 (pl p 0 0 l)) := by
  obtain ⟨m, hm⟩ := big_succ (n := 1048577) (by omega)
  obtain ⟨g, hb, ha⟩ := E_good h
  rw [e83]
  have := place_loop l hl g p hp0 hp1 big l.length 0 big 0 0 (by omega) (by omega) (by omega) (by omega) (by simpa using hb) (by simpa using ha)
  simpa using this

theorem size_loop (l : Steps) (hl : l.length ≤ 1048576) (g : Good l) (n : Nat) : ∀ (d i m : Nat) (b : Int), i + d = l.length → d < m → 0 ≤ b → b + sumN (l.drop i) ≤ 4294967296 →
    L84_0 n m l b (l.length : Int) i = some (ret84 (b + sumN (l.drop i))) := by
  intro d
  induction d with
  | zero =>
    intro i m b hi hm hb hB
    cases m with
    | zero => omega
    | succ m =>
    have : i = l.length := by omega
    subst this
    have c1 : decide ((l.length : Int) < (l.length : Int)) = false := decide_eq_false (by omega)
    rw [L84_0_step, List.drop_length]
    simp [bcond_if, c1, sumN]
  | succ d ih =>
    intro i m b hi hm hb hB
    cases m with
    | zero => omega
    | succ m =>
    have hil : i < l.length := by omega
    have c1 : decide ((i : Int) < (l.length : Int)) = true := decide_eq_true (by omega)
    have w1 : IntKind.i64.wrap ((i : Int) + 1) = ((i + 1 : Nat) : Int) := wnat (by omega) (by omega)
    have en : (at_ (e := YSpan) l (i : Int)).2 = num l i := rfl
    obtain ⟨k1, n1, n2⟩ := good_at g hil
    have hp := sum_pos (good_drop g (i + 1))
    rw [drop_cons l hil] at hB ⊢
    simp only [sumN, sn_mk] at hB ⊢
    rw [L84_0_step]
    simp only [bcond_if, inb, hil, c1, if_true, w1, en]
    rw [w64 (x := b + num l i) (by omega) (by omega), ih (i + 1) m _ (by omega) (by omega) (by omega) (by omega)]
    simp [Int.add_assoc]
theorem size_eq (l : Steps) (hl : l.length ≤ 1048576) (h : E l = 0) : C84 F84 l = some (ret84 (sumN l)) := by
  obtain ⟨m, hm⟩ := big_succ (n := 1048577) (by omega)
  obtain ⟨g, hb, ha⟩ := E_good h
  have := sum_pos g
  rw [e84]
  have := size_loop l hl g big l.length 0 big 0 (by omega) (by omega) (by omega) (by rw [List.drop_zero]; omega)
  simpa using this
theorem few_eq (l : Steps) (hl : l.length ≤ 1048576) (h : E l = 0) : C30 F30 l = some (ret30 (decide (sumN l ≤ 300))) := by
  rw [e30, size_eq l hl h]
  rfl
end Go.Ev.Axis
