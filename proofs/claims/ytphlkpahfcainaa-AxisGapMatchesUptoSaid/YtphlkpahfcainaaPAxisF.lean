/- Where gaps and ranges are after a change of an axis: the law. -/
import Derived.Test.YtphlkpahfcainaaPAxisE
namespace Go.Ev.Axis
open Go.Ev
set_option linter.unusedVariables false
set_option linter.unusedSimpArgs false

theorem asc_chunk (K J : Int → Int) (p q old N : Int) (hN : 0 ≤ N) (h : ∀ x, old + N ≤ x → K x = J x) (f l : Int) :
    asc K (q - max p old).toNat (max p old) f l = asc J (q - max p (old + N)).toNat (max p (old + N)) (asc K (min q (old + N) - max p old).toNat (max p old) f l).1 (asc K (min q (old + N) - max p old).toNat (max p old) f l).2 := by
  by_cases c : max p old < min q (old + N)
  · have e : (q - max p old).toNat = (min q (old + N) - max p old).toNat + (q - max p (old + N)).toNat := by omega
    rw [e, asc_add]
    by_cases b : (q - max p (old + N)).toNat = 0
    · rw [b]; rfl
    · have e2 : max p old + ((min q (old + N) - max p old).toNat : Int) = max p (old + N) := by omega
      rw [e2]
      exact asc_congr K J _ _ _ _ (fun x h1 _ => h x (by omega))
  · have e : (min q (old + N) - max p old).toNat = 0 := by omega
    rw [e]
    simp only [asc]
    by_cases b : q ≤ max p old
    · rw [show (q - max p old).toNat = 0 by omega, show (q - max p (old + N)).toNat = 0 by omega]; rfl
    · have e2 : max p old = max p (old + N) := by omega
      rw [← e2]
      exact asc_congr K J _ _ _ _ (fun x h1 _ => h x (by omega))

theorem hull_loop (l : Steps) (hl : l.length ≤ 1048576) (g : Good l) (p q : Int) (hp0 : 0 ≤ p) (hp1 : p ≤ 2147483647) (hq0 : 0 ≤ q) (hq1 : q ≤ 2147483647) (n : Nat) : ∀ (d i m : Nat) (a b f t : Int), i + d = l.length → d < m → 0 ≤ f → 0 ≤ t → 0 ≤ b → f + sumB (l.drop i) ≤ 2147483647 → t + sumA (l.drop i) ≤ 2147483647 →
    L100_0 n m p q a b f t l (l.length : Int) i = some (ret100 (asc (fun x => pl x f t (l.drop i)) (q - max p f).toNat (max p f) a b).1 (asc (fun x => pl x f t (l.drop i)) (q - max p f).toNat (max p f) a b).2) := by
  intro d
  induction d with
  | zero =>
    intro i m a b f t hi hm hf ht hb0 hB hA
    cases m with
    | zero => omega
    | succ m =>
    have : i = l.length := by omega
    subst this
    have c1 : decide ((l.length : Int) < (l.length : Int)) = false := decide_eq_false (by omega)
    rw [L100_0_step, List.drop_length, asc_none (fun x => pl x f t []) _ _ a b (fun x _ _ => rfl)]
    simp [bcond_if, c1]
  | succ d ih =>
    intro i m a b f t hi hm hf ht hb0 hB hA
    cases m with
    | zero => omega
    | succ m =>
    have hil : i < l.length := by omega
    have c1 : decide ((i : Int) < (l.length : Int)) = true := decide_eq_true (by omega)
    have w1 : IntKind.i64.wrap ((i : Int) + 1) = ((i + 1 : Nat) : Int) := wnat (by omega) (by omega)
    have ek : (at_ (e := YSpan) l (i : Int)).1 = kind l i := rfl
    have en : (at_ (e := YSpan) l (i : Int)).2 = num l i := rfl
    obtain ⟨k1, n1, n2⟩ := good_at g hil
    have hp := sum_pos (good_drop g (i + 1))
    rw [drop_cons l hil] at hB hA ⊢
    simp only [sumB, sumA, sk_mk, sn_mk] at hB hA
    rw [L100_0_step]
    simp only [bcond_if, inb, hil, c1, if_true, w1, ek, en]
    generalize num l i = N at *
    have wN : IntKind.i64.wrap (f + N) = f + N := w64 (by omega) (by omega)
    have wM : IntKind.i64.wrap (t + N) = t + N := w64 (by omega) (by omega)
    rcases k1 with hk | hk | hk <;> rw [hk] at hB hA ⊢
    · simp only [show ¬ (0 : Int) = 1 from by omega, if_false, show ¬ (0 : Int) = 2 from by omega] at hB hA
      have hK : ∀ x, pl x f t (mkS 0 N :: l.drop (i + 1)) = if x < f + N then t + x - f else pl x (f + N) (t + N) (l.drop (i + 1)) := fun x => by simp only [pl, sk_mk, sn_mk]; rfl
      have em : (if f > p then f else p) = max p f := by split <;> omega
      have en2 : (if f + N < q then f + N else q) = min q (f + N) := by split <;> omega
      have wx : IntKind.i64.wrap (t + max p f) = t + max p f := w64 (by omega) (by omega)
      have wy : IntKind.i64.wrap (t + max p f - f) = t + max p f - f := w64 (by omega) (by omega)
      have wz : IntKind.i64.wrap (t + min q (f + N)) = t + min q (f + N) := w64 (by omega) (by omega)
      have wv : IntKind.i64.wrap (t + min q (f + N) - f) = t + min q (f + N) - f := w64 (by omega) (by omega)
      rw [asc_chunk _ (fun x => pl x (f + N) (t + N) (l.drop (i + 1))) p q f N (by omega) (fun x hx => by simp only [hK]; rw [if_neg (by omega)]) a b]
      rw [asc_keep _ (t - f) _ _ _ _ (by omega) hb0 (fun x h1 h2 => by simp only [hK]; rw [if_pos (by omega)]; omega)]
      simp only [wN, wM, em, en2, wx, wy, wz, wv]
      have go := fun a b (h : 0 ≤ b) => ih (i + 1) m a b (f + N) (t + N) (by omega) (by omega) (by omega) (by omega) h (by omega) (by omega)
      by_cases hlt : max p f < min q (f + N)
      · rw [if_neg (show ¬ (min q (f + N) - max p f).toNat = 0 by omega)]
        have e3 : max p f + ((min q (f + N) - max p f).toNat : Int) + (t - f) = t + min q (f + N) - f := by omega
        have e4 : max p f + (t - f) = t + max p f - f := by omega
        rw [e3, e4]
        by_cases hb : b = 0
        · simpa [hlt, hb] using go (t + max p f - f) (t + min q (f + N) - f) (by omega)
        · simpa [hlt, hb] using go a (t + min q (f + N) - f) (by omega)
      · rw [if_pos (show (min q (f + N) - max p f).toNat = 0 by omega)]
        simpa [hlt] using go a b hb0
    · simp only [if_true, show ¬ (1 : Int) = 2 from by omega, if_false] at hB hA
      have hK : (fun x => pl x f t (mkS 1 N :: l.drop (i + 1))) = fun x => pl x f (t + N) (l.drop (i + 1)) := by funext x; simp only [pl, sk_mk, sn_mk, if_true]
      rw [hK]
      have := ih (i + 1) m a b f (t + N) (by omega) (by omega) (by omega) (by omega) hb0 (by omega) (by omega)
      simp only [wM]
      simpa using this
    · simp only [show ¬ (2 : Int) = 1 from by omega, if_false, if_true] at hB hA
      have hK : ∀ x, pl x f t (mkS 2 N :: l.drop (i + 1)) = if x < f + N then -1 else pl x (f + N) t (l.drop (i + 1)) := fun x => by simp only [pl, sk_mk, sn_mk]; rfl
      rw [asc_chunk _ (fun x => pl x (f + N) t (l.drop (i + 1))) p q f N (by omega) (fun x hx => by simp only [hK]; rw [if_neg (by omega)]) a b]
      rw [asc_none _ _ _ a b (fun x h1 h2 => by simp only [hK]; rw [if_pos (by omega)])]
      have := ih (i + 1) m a b (f + N) t (by omega) (by omega) (by omega) (by omega) hb0 (by omega) (by omega)
      simp only [wN]
      simpa using this
/-- The range of what is left of a range. -/
def hull (l : Steps) (p q : Int) : Int × Int := asc (fun x => pl x 0 0 l) (q - p).toNat p 0 0
theorem rest_eq (l : Steps) (hl : l.length ≤ 1048576) (p q : Int) : C63 F63 l p q = some (if E l ≠ 0 then ret63 0 0 (E l) else if p < 0 ∨ q < p ∨ sumB l < q then ret63 0 0 2 else ret63 (hull l p q).1 (hull l p q).2 0) := by
  obtain ⟨m, hm⟩ := big_succ (n := 1048577) (by omega)
  rw [e63, check_eq l hl]
  simp only [Option.bind_some, res61_0_ret, bcond_if]
  by_cases h : E l = 0
  · obtain ⟨g, hb, ha⟩ := E_good h
    rw [h, lengths_eq l hl h]
    simp only [Option.bind_some, res82_0_ret]
    by_cases h1 : p < 0
    · simp [h1]
    · by_cases h3 : q < p
      · simp [h1, h3]
      · by_cases h2 : sumB l < q
        · have h2' : q > sumB l := h2
          simp [h1, h2', h3]
        · have h2' : ¬ q > sumB l := h2
          have := hull_loop l hl g p q (by omega) (by omega) (by omega) (by omega) big l.length 0 big 0 0 0 0 (by omega) (by omega) (by omega) (by omega) (by omega) (by simpa using hb) (by simpa using ha)
          rw [show ((0 : Nat) : Int) = 0 from rfl, show max p 0 = p by omega, List.drop_zero] at this
          rw [e100, this]
          simp [h1, h2, h2', h3, hull]
  · simp [h]

theorem find_le : ∀ (rs : List Int) (p t : Int), -1 ≤ t → find p t rs ≤ t + rs.length ∧ -1 ≤ find p t rs
  | [], p, t, h => by simp only [find, List.length_nil]; omega
  | r :: rs, p, t, h => by
    have := find_le rs p (t + 1) (by omega)
    simp only [find, List.length_cons]
    split <;> omega
theorem down_loop (us : List Int) (hl : us.length ≤ 1048576) (p : Int) (hp0 : 0 ≤ p) (hp1 : p ≤ 1048576) (n : Nat) : ∀ (d m : Nat) (low high : Int), d < m → d ≤ 1048576 → L65_0 F33 n m us p low high (p + d - 1) = some (ret65 (desc (fun x => find x 0 (rows 0 us)) d p low high).1 (desc (fun x => find x 0 (rows 0 us)) d p low high).2) := by
  intro d
  have hr := rows_len us 0
  induction d with
  | zero =>
    intro m low high hm hd
    cases m with
    | zero => omega
    | succ m =>
    have c1 : decide (p + ((0 : Nat) : Int) - 1 ≥ p) = false := decide_eq_false (by omega)
    rw [L65_0_step]
    simp only [bcond_if, c1, Bool.false_eq_true, if_false]
    rfl
  | succ d ih =>
    intro m low high hm hd
    cases m with
    | zero => omega
    | succ m =>
    have c1 : decide (p + ((d + 1 : Nat) : Int) - 1 ≥ p) = true := decide_eq_true (by omega)
    have e : p + ((d + 1 : Nat) : Int) - 1 = p + d := by omega
    have w1 : IntKind.i64.wrap (p + d - 1) = p + d - 1 := w64 (by omega) (by omega)
    have fb := find_le (rows 0 us) (p + d) 0 (by omega)
    have w2 : IntKind.i64.wrap (find (p + d) 0 (rows 0 us) + 1) = find (p + d) 0 (rows 0 us) + 1 := w64 (by omega) (by omega)
    rw [L65_0_step, c1, e, where_eq us hl]
    simp only [bcond_if, if_true, Option.bind_some, res33_0_ret, w1, w2, desc]
    by_cases h0 : 0 ≤ find (p + d) 0 (rows 0 us)
    · have h0' : find (p + d) 0 (rows 0 us) ≥ 0 := h0
      by_cases h1 : high = 0
      · simp [h0, h0', h1, ih m _ _ (by omega) (by omega)]
      · simp [h0, h0', h1, ih m _ _ (by omega) (by omega)]
    · have h0' : ¬ find (p + d) 0 (rows 0 us) ≥ 0 := h0
      simp [h0, h0', ih m _ _ (by omega) (by omega)]
theorem restof_eq (us : List Int) (hl : us.length ≤ 1048576) (p q : Int) (hp0 : 0 ≤ p) (hq : p ≤ q) (hq1 : q ≤ 1048576) : C65 F65 us p q = some (ret65 (desc (fun x => find x 0 (rows 0 us)) (q - p).toNat p 0 0).1 (desc (fun x => find x 0 (rows 0 us)) (q - p).toNat p 0 0).2) := by
  obtain ⟨m, hm⟩ := big_succ (n := 1048577) (by omega)
  rw [e65, w64 (by omega) (by omega)]
  have := down_loop us hl p hp0 (by omega) big (q - p).toNat big 0 0 (by omega) (by omega)
  rw [show p + ((q - p).toNat : Int) - 1 = q - 1 from by omega] at this
  exact this

theorem gap_count (us : List Int) (hl : us.length ≤ 1048576) (p q : Int) (r : Bool) (x9 x10 x11 x12 x13 : Int) (n : Nat) : ∀ (d i m : Nat) (c : Int), i + d = us.length → d < m → 0 ≤ c → c ≤ i →
    L12_0 F27 F62 F63 F29 F30 F31 F32 F64 F65 n m p q r x9 x10 x11 x12 x13 us c (us.length : Int) i = L12_0 F27 F62 F63 F29 F30 F31 F32 F64 F65 n (m - d) p q r x9 x10 x11 x12 x13 us (c + (((us.drop i).filter fun u => u != 1).length : Int)) (us.length : Int) (us.length : Int) := by
  intro d
  induction d with
  | zero =>
    intro i m c hi hm h0 h1
    have : i = us.length := by omega
    subst this
    simp
  | succ d ih =>
    intro i m c hi hm h0 h1
    cases m with
    | zero => omega
    | succ m =>
    have hil : i < us.length := by omega
    have c1 : decide ((i : Int) < (us.length : Int)) = true := decide_eq_true (by omega)
    have w1 : IntKind.i64.wrap ((i : Int) + 1) = ((i + 1 : Nat) : Int) := wnat (by omega) (by omega)
    have w2 : IntKind.i64.wrap (c + 1) = c + 1 := w64 (by omega) (by omega)
    obtain ⟨u, hu'⟩ : ∃ x : Int, at_ (e := .int .i64) us (i : Int) = x := ⟨_, rfl⟩
    rw [L12_0_step, drop_int us hil, ← at_int, hu']
    simp only [bcond_if, inb, hil, c1, if_true, w1, w2, List.filter_cons]
    rw [show m + 1 - (d + 1) = m - d from by omega]
    by_cases hu : u = 1
    · subst hu
      rw [if_neg (by simp), if_neg (by simp), ih (i + 1) m c (by omega) (by omega) (by omega) (by omega)]
    · rw [if_pos (by simpa using hu), if_pos (by simpa using hu), ih (i + 1) m (c + 1) (by omega) (by omega) (by omega) (by omega)]
      congr 1
      simp; omega

theorem lawGap (a : Steps) (p q : Int) (r : Bool) (hl : a.length ≤ 1048576) : C12 F12 a p q r = some (ret12 true) := by
  obtain ⟨m, hm⟩ := big_succ (n := 1048577) (by omega)
  rw [e12, axes_eq, gap_eq a hl, rest_eq a hl, axerr_eq a hl]
  simp only [Option.bind_some, res27_0_ret, res29_0_ret, bcond_if, Bool.not_true, Bool.false_eq_true, if_false]
  by_cases h : E a = 0
  · obtain ⟨g, hb, ha⟩ := E_good h
    have sp := sum_pos g
    rw [few_eq a hl h]
    simp only [h, ne_eq, not_true, if_false, Option.bind_some, res30_0_ret, bne_self_eq_false, Bool.false_eq_true]
    by_cases hf : sumN a ≤ 300
    · have hu := units_len g
      rw [units_eq a hl h (by omega)]
      simp only [hf, decide_true, Bool.not_true, Bool.false_eq_true, if_false, Option.bind_some, res31_0_ret]
      have cu := count_units g
      have cnt := fun x9 x10 x11 x12 x13 => gap_count (units a) (by omega) p q r x9 x10 x11 x12 x13 big (units a).length 0 big 0 (by omega) (by omega) (by omega) (by omega)
      rw [show ((0 : Nat) : Int) = 0 from rfl, List.drop_zero, cu] at cnt
      rw [cnt]
      obtain ⟨m2, hm2⟩ : ∃ m2, big - (units a).length = m2 + 1 := ⟨big - (units a).length - 1, by omega⟩
      have c1 : decide (((units a).length : Int) < ((units a).length : Int)) = false := decide_eq_false (by omega)
      rw [hm2, L12_0_step]
      simp only [bcond_if, c1, Bool.false_eq_true, if_false, in_eq, Option.bind_some, res32_0_ret, Int.zero_add]
      by_cases h1 : p < 0 ∨ sumB a < p
      · have e1 : (decide (0 ≤ p) && decide (p ≤ sumB a)) = false := by
          rcases h1 with h1 | h1
          · rw [decide_eq_false (by omega)]; rfl
          · rw [decide_eq_false (p := p ≤ sumB a) (by omega)]; simp
        have h2 : p < 0 ∨ q < p ∨ sumB a < q := by omega
        rw [e1]
        simp [h1, h2]
      · have e1 : (decide (0 ≤ p) && decide (p ≤ sumB a)) = true := by rw [decide_eq_true (by omega), decide_eq_true (by omega)]; rfl
        have eg := gp_gq p r a g 0 0 (by omega)
        rw [e1, gapat_eq (units a) (by omega), ← eg]
        simp only [h1, if_false, res62_0_ret, res62_1_ret, Option.bind_some, res64_0_ret, Int.zero_add, Bool.not_true, Bool.false_eq_true, bne_self_eq_false, beq_self_eq_true, if_true]
        by_cases h2 : q < p ∨ sumB a < q
        · have e2 : (decide (p ≤ q) && decide (q ≤ sumB a)) = false := by
            rcases h2 with h2 | h2
            · rw [decide_eq_false (by omega)]; rfl
            · rw [decide_eq_false (p := q ≤ sumB a) (by omega)]; simp
          have h3 : p < 0 ∨ q < p ∨ sumB a < q := .inr h2
          rw [e2]
          simp [h3]
        · have e2 : (decide (p ≤ q) && decide (q ≤ sumB a)) = true := by rw [decide_eq_true (by omega), decide_eq_true (by omega)]; rfl
          have h3 : ¬ (p < 0 ∨ q < p ∨ sumB a < q) := by omega
          have eh : hull a p q = desc (fun x => find x 0 (rows 0 (units a))) (q - p).toNat p 0 0 := by
            unfold hull
            rw [← asc_desc]
            exact asc_congr _ _ _ _ _ _ (fun x h4 _ => (pl_find a g x 0 0 (by omega) (by omega)).symm)
          rw [e2, restof_eq (units a) (by omega) p q (by omega) (by omega) (by omega), ← eh]
          simp [h3]
    · simp only [hf, decide_false, Bool.not_false, if_true]
      by_cases h1 : p < 0 ∨ sumB a < p <;> by_cases h2 : p < 0 ∨ q < p ∨ sumB a < q <;> simp [h1, h2]
  · simp [h]

theorem holdsGap (a : Steps) (p q : Int) (r : Bool) (o0 : (Ty.list YSpan).ok a) (o1 : (Ty.int .i64).ok p) (o2 : (Ty.int .i64).ok q) (o3 : Ty.bool.ok r) (hb : (Ty.list YSpan).bulk a + (Ty.int .i64).bulk p + (Ty.int .i64).bulk q + Ty.bool.bulk r ≤ 1048576) : C12 F12 a p q r = some (ret12 true) := by
  have h1 := bulk_len a
  exact lawGap a p q r (by omega)
end Go.Ev.Axis
