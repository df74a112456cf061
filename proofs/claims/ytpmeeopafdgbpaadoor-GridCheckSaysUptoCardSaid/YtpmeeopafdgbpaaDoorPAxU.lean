
import Derived.Test.YtpmeeopafdgbpaaDoorPAxisC
import Derived.Test.YtpmeeopafdgbpaaDoorGSpan
namespace Go.Ev.Axis
open Go.Ev
set_option linter.unusedVariables false
set_option linter.unusedSimpArgs false
def rows : Int → List Int → List Int
  | _, [] => []
  | o, u :: us => if u = 0 then o :: rows (o + 1) us else if u = 1 then (-1) :: rows o us else rows (o + 1) us
def ahead : Int → List Int → List Int
  | _, [] => []
  | o, u :: us => if u = 0 then o :: ahead (o + 1) us else if u = 1 then o :: ahead o us else ahead (o + 1) us
theorem rows_len : ∀ (us : List Int) (o : Int), (rows o us).length ≤ us.length
  | [], o => by simp [rows]
  | u :: us, o => by
    have h1 := rows_len us (o + 1)
    have h2 := rows_len us o
    simp only [rows]
    split
    · simp; exact h1
    · split
      · simp; exact h2
      · simp; omega
def asc (K : Int → Int) : Nat → Int → Int → Int → Int × Int
  | 0, _, f, l => (f, l)
  | n + 1, s, f, l => if 0 ≤ K s then asc K n (s + 1) (if l = 0 then K s else f) (K s + 1) else asc K n (s + 1) f l
def fstK (K : Int → Int) : Nat → Int → Option Int
  | 0, _ => none
  | n + 1, s => if 0 ≤ K s then some (K s) else fstK K n (s + 1)
def lstK (K : Int → Int) : Nat → Int → Option Int
  | 0, _ => none
  | n + 1, s => if 0 ≤ K (s + n) then some (K (s + n)) else lstK K n s
theorem lstK_first (K : Int → Int) : ∀ (n : Nat) (s : Int), lstK K (n + 1) s = (lstK K n (s + 1)).or (if 0 ≤ K s then some (K s) else none)
  | 0, s => by simp [lstK]
  | n + 1, s => by
    have ih := lstK_first K n s
    rw [lstK]
    simp only [lstK]
    rw [show s + 1 + (n : Int) = s + ((n + 1 : Nat) : Int) from by omega]
    split
    · simp
    · simpa [lstK] using ih
theorem asc_eq (K : Int → Int) : ∀ (n : Nat) (s f l : Int), asc K n s f l = (if l = 0 then (fstK K n s).getD f else f, ((lstK K n s).map (· + 1)).getD l)
  | 0, s, f, l => by simp [asc, fstK, lstK]
  | n + 1, s, f, l => by
    rw [lstK_first]
    simp only [asc, fstK]
    split
    · rename_i h
      rw [asc_eq K n]
      have : ¬ K s + 1 = 0 := by omega
      simp only [this, if_false]
      cases lstK K n (s + 1) <;> simp
    · rename_i h
      rw [asc_eq K n]
      simp
theorem asc_add (K : Int → Int) : ∀ (a b : Nat) (s f l : Int), asc K (a + b) s f l = asc K b (s + a) (asc K a s f l).1 (asc K a s f l).2
  | 0, b, s, f, l => by simp [asc]
  | a + 1, b, s, f, l => by
    rw [show a + 1 + b = (a + b) + 1 from by omega]
    simp only [asc]
    split <;> rw [asc_add K a b, show s + 1 + (a : Int) = s + ((a + 1 : Nat) : Int) from by omega]
theorem asc_congr (K J : Int → Int) : ∀ (n : Nat) (s f l : Int), (∀ x, s ≤ x → x < s + n → K x = J x) → asc K n s f l = asc J n s f l
  | 0, s, f, l, h => rfl
  | n + 1, s, f, l, h => by
    simp only [asc]
    rw [h s (by omega) (by omega)]
    split <;> exact asc_congr K J n (s + 1) _ _ (fun x a b => h x (by omega) (by omega))
theorem asc_none (K : Int → Int) : ∀ (n : Nat) (s f l : Int), (∀ x, s ≤ x → x < s + n → K x = -1) → asc K n s f l = (f, l)
  | 0, s, f, l, h => rfl
  | n + 1, s, f, l, h => by
    simp only [asc]
    rw [h s (by omega) (by omega), if_neg (by omega)]
    exact asc_none K n (s + 1) _ _ (fun x a b => h x (by omega) (by omega))
theorem asc_keep (K : Int → Int) (c : Int) : ∀ (n : Nat) (s f l : Int), 0 ≤ s + c → 0 ≤ l → (∀ x, s ≤ x → x < s + n → K x = x + c) → asc K n s f l = if n = 0 then (f, l) else (if l = 0 then s + c else f, s + n + c)
  | 0, s, f, l, h0, hl, h => by simp [asc]
  | n + 1, s, f, l, h0, hl, h => by
    simp only [asc]
    rw [h s (by omega) (by omega), if_pos (by omega), asc_keep K c n (s + 1) _ _ (by omega) (by omega) (fun x a b => h x (by omega) (by omega))]
    by_cases hn : n = 0
    · subst hn; simp; omega
    · simp only [hn, if_false, show ¬ n + 1 = 0 from by omega]
      rw [if_neg (by omega)]
      congr 1
      omega
theorem asc_chunk (K J : Int → Int) (p q old N : Int) (hN : 0 ≤ N) (h : ∀ x, old + N ≤ x → K x = J x) (f l : Int) :
    asc K (q - max p old).toNat (max p old) f l = asc J (q - max p (old + N)).toNat (max p (old + N)) (asc K (min q (old + N) - max p old).toNat (max p old) f l).1 (asc K (min q (old + N) - max p old).toNat (max p old) f l).2 := by
  by_cases c : max p old < min q (old + N)
  · have e : (q - max p old).toNat = (min q (old + N) - max p old).toNat + (q - max p (old + N)).toNat := by omega
    rw [e, asc_add]
    by_cases b : (q - max p (old + N)).toNat = 0
    · rw [b]; rfl
    · have e2 : max p old + ((min q (old + N) - max p old).toNat : Int) = max p (old + N) := by omega
      rw [e2]
      exact asc_congr K J _ _ _ _ (fun x h1 _ => h x (by omega))
  · have e : (min q (old + N) - max p old).toNat = 0 := by omega
    rw [e]
    simp only [asc]
    by_cases b : q ≤ max p old
    · rw [show (q - max p old).toNat = 0 by omega, show (q - max p (old + N)).toNat = 0 by omega]; rfl
    · have e2 : max p old = max p (old + N) := by omega
      rw [← e2]
      exact asc_congr K J _ _ _ _ (fun x h1 _ => h x (by omega))
theorem hull_loop (l : Steps) (hl : l.length ≤ 1048576) (g : Good l) (p q : Int) (hp0 : 0 ≤ p) (hp1 : p ≤ 2147483647) (hq0 : 0 ≤ q) (hq1 : q ≤ 2147483647) (n : Nat) : ∀ (d i m : Nat) (a b f t : Int), i + d = l.length → d < m → 0 ≤ f → 0 ≤ t → 0 ≤ b → f + sumB (l.drop i) ≤ 2147483647 → t + sumA (l.drop i) ≤ 2147483647 →
    L_axis_Hull_0 n m p q a b f t l (l.length : Int) i = some (ret_axis_Hull (asc (fun x => pl x f t (l.drop i)) (q - max p f).toNat (max p f) a b).1 (asc (fun x => pl x f t (l.drop i)) (q - max p f).toNat (max p f) a b).2) := by
  intro d
  induction d with
  | zero =>
    intro i m a b f t hi hm hf ht hb0 hB hA
    cases m with
    | zero => omega
    | succ m =>
    have : i = l.length := by omega
    subst this
    have c1 : decide ((l.length : Int) < (l.length : Int)) = false := decide_eq_false (by omega)
    rw [L_axis_Hull_0_step, List.drop_length, asc_none (fun x => pl x f t []) _ _ a b (fun x _ _ => rfl)]
    simp [bcond_if, c1]
  | succ d ih =>
    intro i m a b f t hi hm hf ht hb0 hB hA
    cases m with
    | zero => omega
    | succ m =>
    have hil : i < l.length := by omega
    have c1 : decide ((i : Int) < (l.length : Int)) = true := decide_eq_true (by omega)
    have w1 : IntKind.i64.wrap ((i : Int) + 1) = ((i + 1 : Nat) : Int) := wnat (by omega) (by omega)
    have ek : (at_ (e := YSpan) l (i : Int)).1 = kind l i := rfl
    have en : (at_ (e := YSpan) l (i : Int)).2 = num l i := rfl
    obtain ⟨k1, n1, n2⟩ := good_at g hil
    have hp := sum_pos (good_drop g (i + 1))
    rw [drop_cons l hil] at hB hA ⊢
    simp only [sumB, sumA, sk_mk, sn_mk] at hB hA
    rw [L_axis_Hull_0_step]
    simp only [J_axis_Hull_0, bcond_if, inb, hil, c1, if_true, w1, ek, en]
    generalize num l i = N at *
    have wN : IntKind.i64.wrap (f + N) = f + N := w64 (by omega) (by omega)
    have wM : IntKind.i64.wrap (t + N) = t + N := w64 (by omega) (by omega)
    rcases k1 with hk | hk | hk <;> rw [hk] at hB hA ⊢
    · simp only [show ¬ (0 : Int) = 1 from by omega, if_false, show ¬ (0 : Int) = 2 from by omega] at hB hA
      have hK : ∀ x, pl x f t (mkS 0 N :: l.drop (i + 1)) = if x < f + N then t + x - f else pl x (f + N) (t + N) (l.drop (i + 1)) := fun x => by simp only [pl, sk_mk, sn_mk]; rfl
      have em : (if f > p then f else p) = max p f := by split <;> omega
      have en2 : (if f + N < q then f + N else q) = min q (f + N) := by split <;> omega
      have wx : IntKind.i64.wrap (t + max p f) = t + max p f := w64 (by omega) (by omega)
      have wy : IntKind.i64.wrap (t + max p f - f) = t + max p f - f := w64 (by omega) (by omega)
      have wz : IntKind.i64.wrap (t + min q (f + N)) = t + min q (f + N) := w64 (by omega) (by omega)
      have wv : IntKind.i64.wrap (t + min q (f + N) - f) = t + min q (f + N) - f := w64 (by omega) (by omega)
      rw [asc_chunk _ (fun x => pl x (f + N) (t + N) (l.drop (i + 1))) p q f N (by omega) (fun x hx => by simp only [hK]; rw [if_neg (by omega)]) a b]
      rw [asc_keep _ (t - f) _ _ _ _ (by omega) hb0 (fun x h1 h2 => by simp only [hK]; rw [if_pos (by omega)]; omega)]
      simp only [wN, wM, em, en2, wx, wy, wz, wv]
      have go := fun a b (h : 0 ≤ b) => ih (i + 1) m a b (f + N) (t + N) (by omega) (by omega) (by omega) (by omega) h (by omega) (by omega)
      by_cases hlt : max p f < min q (f + N)
      · rw [if_neg (show ¬ (min q (f + N) - max p f).toNat = 0 by omega)]
        have e3 : max p f + ((min q (f + N) - max p f).toNat : Int) + (t - f) = t + min q (f + N) - f := by omega
        have e4 : max p f + (t - f) = t + max p f - f := by omega
        rw [e3, e4]
        by_cases hb : b = 0
        · simpa [hlt, hb] using go (t + max p f - f) (t + min q (f + N) - f) (by omega)
        · simpa [hlt, hb] using go a (t + min q (f + N) - f) (by omega)
      · rw [if_pos (show (min q (f + N) - max p f).toNat = 0 by omega)]
        simpa [hlt] using go a b hb0
    · simp only [if_true, show ¬ (1 : Int) = 2 from by omega, if_false] at hB hA
      have hK : (fun x => pl x f t (mkS 1 N :: l.drop (i + 1))) = fun x => pl x f (t + N) (l.drop (i + 1)) := by funext x; simp only [pl, sk_mk, sn_mk, if_true]
      rw [hK]
      have := ih (i + 1) m a b f (t + N) (by omega) (by omega) (by omega) (by omega) hb0 (by omega) (by omega)
      simp only [wM]
      simpa using this
    · simp only [show ¬ (2 : Int) = 1 from by omega, if_false, if_true] at hB hA
      have hK : ∀ x, pl x f t (mkS 2 N :: l.drop (i + 1)) = if x < f + N then -1 else pl x (f + N) t (l.drop (i + 1)) := fun x => by simp only [pl, sk_mk, sn_mk]; rfl
      rw [asc_chunk _ (fun x => pl x (f + N) t (l.drop (i + 1))) p q f N (by omega) (fun x hx => by simp only [hK]; rw [if_neg (by omega)]) a b]
      rw [asc_none _ _ _ a b (fun x h1 h2 => by simp only [hK]; rw [if_pos (by omega)])]
      have := ih (i + 1) m a b (f + N) t (by omega) (by omega) (by omega) (by omega) hb0 (by omega) (by omega)
      simp only [wN]
      simpa using this
/-- The range of what is left of a range. -/
def hull (l : Steps) (p q : Int) : Int × Int := asc (fun x => pl x 0 0 l) (q - p).toNat p 0 0
end Go.Ev.Axis
