/- Where gaps and ranges are after a change of an axis: the plain side. -/
import Derived.Test.YtphlkpahfcainaaPAxisD
import Derived.Test.YtphlkpahfcainaaGAxisGap
namespace Go.Ev.Axis
open Go.Ev
set_option linter.unusedVariables false
set_option linter.unusedSimpArgs false

/-! ### Gaps -/

def gp (q : Int) (r : Bool) : Int → Int → Steps → Int
  | _, t, [] => t
  | f, t, s :: l => if sk s = 1 then gp q r f (if f < q ∨ f = q ∧ r = true then t + sn s else t) l else if sk s = 0 then gp q r (f + sn s) (t + min (sn s) (max 0 (q - f))) l else gp q r (f + sn s) t l

theorem gap_loop (l : Steps) (hl : l.length ≤ 1048576) (g : Good l) (q : Int) (r : Bool) (hp0 : 0 ≤ q) (hp1 : q ≤ 2147483647) (n : Nat) : ∀ (d i m : Nat) (f t : Int), i + d = l.length → d < m → 0 ≤ f → 0 ≤ t → f + sumB (l.drop i) ≤ 2147483647 → t + sumA (l.drop i) ≤ 2147483647 →
    L62_0 F61 F82 n m q r f t l (l.length : Int) i = some (ret62 (gp q r f t (l.drop i)) 0) := by
  intro d
  induction d with
  | zero =>
    intro i m b a hi hm hb ha hB hA
    cases m with
    | zero => omega
    | succ m =>
    have : i = l.length := by omega
    subst this
    have c1 : decide ((l.length : Int) < (l.length : Int)) = false := decide_eq_false (by omega)
    rw [L62_0_step, List.drop_length]
    simp [bcond_if, c1, gp]
  | succ d ih =>
    intro i m f t hi hm hb ha hB hA
    cases m with
    | zero => omega
    | succ m =>
    have hil : i < l.length := by omega
    have c1 : decide ((i : Int) < (l.length : Int)) = true := decide_eq_true (by omega)
    have w1 : IntKind.i64.wrap ((i : Int) + 1) = ((i + 1 : Nat) : Int) := wnat (by omega) (by omega)
    have ek : (at_ (e := YSpan) l (i : Int)).1 = kind l i := rfl
    have en : (at_ (e := YSpan) l (i : Int)).2 = num l i := rfl
    obtain ⟨k1, n1, n2⟩ := good_at g hil
    have hp := sum_pos (good_drop g (i + 1))
    rw [drop_cons l hil] at hB hA ⊢
    simp only [sumB, sumA, sk_mk, sn_mk] at hB hA
    simp only [gp, sk_mk, sn_mk]
    rw [L62_0_step]
    simp only [bcond_if, inb, hil, c1, if_true, w1, ek, en]
    have w0 : IntKind.i64.wrap (q - f) = q - f := by
      rcases k1 with hk | hk | hk <;> rw [hk] at hB hA <;> simp at hB hA <;> exact w64 (by omega) (by omega)
    rw [w0]
    generalize num l i = N at *
    rcases k1 with hk | hk | hk <;> rw [hk] at hB hA ⊢
    · simp only [show ¬ (0 : Int) = 1 from by omega, if_false, show ¬ (0 : Int) = 2 from by omega] at hB hA
      have e : (if (if q - f > 0 then q - f else 0) < N then (if q - f > 0 then q - f else 0) else N) = min N (max 0 (q - f)) := by
        split <;> split <;> omega
      have wN : IntKind.i64.wrap (f + N) = f + N := w64 (by omega) (by omega)
      have wM : IntKind.i64.wrap (t + min N (max 0 (q - f))) = t + min N (max 0 (q - f)) := w64 (by omega) (by omega)
      have := ih (i + 1) m (f + N) (t + min N (max 0 (q - f))) (by omega) (by omega) (by omega) (by omega) (by omega) (by omega)
      simp only [e, wN, wM]
      simpa using this
    · simp only [if_true, show ¬ (1 : Int) = 2 from by omega, if_false] at hB hA
      have wM : IntKind.i64.wrap (t + N) = t + N := w64 (by omega) (by omega)
      have h1 := ih (i + 1) m f (t + N) (by omega) (by omega) (by omega) (by omega) (by omega) (by omega)
      have h2 := ih (i + 1) m f t (by omega) (by omega) (by omega) (by omega) (by omega) (by omega)
      simp only [wM]
      by_cases hlt : f < q
      · simpa [hlt] using h1
      · by_cases he : f = q
        · cases r with
          | true => simpa [hlt, he] using (he ▸ h1)
          | false => simpa [hlt, he] using (he ▸ h2)
        · simpa [hlt, he] using h2
    · simp only [show ¬ (2 : Int) = 1 from by omega, if_false, if_true] at hB hA
      have wN : IntKind.i64.wrap (f + N) = f + N := w64 (by omega) (by omega)
      have := ih (i + 1) m (f + N) t (by omega) (by omega) (by omega) (by omega) (by omega) (by omega)
      simp only [wN]
      simpa using this
theorem gap_eq (l : Steps) (hl : l.length ≤ 1048576) (q : Int) (r : Bool) : C62 F62 l q r = some (if E l ≠ 0 then ret62 0 (E l) else if q < 0 ∨ sumB l < q then ret62 0 2 else ret62 (gp q r 0 0 l) 0) := by
  obtain ⟨m, hm⟩ := big_succ (n := 1048577) (by omega)
  rw [e62, check_eq l hl]
  simp only [Option.bind_some, res61_0_ret, bcond_if]
  by_cases h : E l = 0
  · obtain ⟨g, hb, ha⟩ := E_good h
    rw [h, lengths_eq l hl h]
    simp only [Option.bind_some, res82_0_ret]
    by_cases h1 : q < 0
    · simp [h1]
    · by_cases h2 : sumB l < q
      · have h2' : q > sumB l := h2
        simp [h1, h2']
      · have h2' : ¬ q > sumB l := h2
        have := gap_loop l hl g q r (by omega) (by omega) big l.length 0 big 0 0 (by omega) (by omega) (by omega) (by omega) (by simpa using hb) (by simpa using ha)
        rw [show ((0 : Nat) : Int) = 0 from rfl] at this
        rw [this]
        simp [h1, h2, h2']
  · simp [h]

/-- How many of the rows lie ahead of the gap. -/
def gq (q : Int) (r : Bool) : List Int → List Int → Int
  | x :: xs, a :: bs => (if (0 ≤ x ∧ x < q) ∨ (x < 0 ∧ (a < q ∨ (a = q ∧ r = true))) then 1 else 0) + gq q r xs bs
  | _, _ => 0
theorem ra_len : ∀ (us : List Int) (o : Int), (rows o us).length = (ahead o us).length
  | [], o => rfl
  | u :: us, o => by
    have h1 := ra_len us (o + 1)
    have h2 := ra_len us o
    simp only [rows, ahead]
    split
    · simp [h1]
    · split
      · simp [h2]
      · exact h1
theorem gq_bound (q : Int) (r : Bool) : ∀ xs bs, 0 ≤ gq q r xs bs ∧ gq q r xs bs ≤ xs.length
  | [], bs => by simp [gq]
  | x :: xs, [] => by simp only [gq, List.length_cons]; omega
  | x :: xs, a :: bs => by
    have := gq_bound q r xs bs
    simp only [gq, List.length_cons]
    split <;> omega

theorem gapat_loop (xs bs : List Int) (hl : xs.length ≤ 1048576) (he : xs.length = bs.length) (q : Int) (r : Bool) (n : Nat) : ∀ (d i m : Nat) (c : Int), i + d = xs.length → d < m → 0 ≤ c → c ≤ i → L64_0 F85 n m q r xs bs c (xs.length : Int) i = some (ret64 (c + gq q r (xs.drop i) (bs.drop i))) := by
  intro d
  induction d with
  | zero =>
    intro i m c hi hm h0 h1
    cases m with
    | zero => omega
    | succ m =>
    have : i = xs.length := by omega
    subst this
    have c1 : decide ((xs.length : Int) < (xs.length : Int)) = false := decide_eq_false (by omega)
    rw [L64_0_step, List.drop_length]
    simp [bcond_if, c1, gq]
  | succ d ih =>
    intro i m c hi hm h0 h1
    cases m with
    | zero => omega
    | succ m =>
    have hil : i < xs.length := by omega
    have hia : i < bs.length := by omega
    have c1 : decide ((i : Int) < (xs.length : Int)) = true := decide_eq_true (by omega)
    have w1 : IntKind.i64.wrap ((i : Int) + 1) = ((i + 1 : Nat) : Int) := wnat (by omega) (by omega)
    have w2 : IntKind.i64.wrap (c + 1) = c + 1 := w64 (by omega) (by omega)
    obtain ⟨x, hx⟩ : ∃ x : Int, at_ (e := .int .i64) xs (i : Int) = x := ⟨_, rfl⟩
    obtain ⟨a, ha⟩ : ∃ x : Int, at_ (e := .int .i64) bs (i : Int) = x := ⟨_, rfl⟩
    have ih1 := ih (i + 1) m (c + 1) (by omega) (by omega) (by omega) (by omega)
    have ih2 := ih (i + 1) m c (by omega) (by omega) (by omega) (by omega)
    rw [L64_0_step, drop_int xs hil, drop_int bs hia, ← at_int, ← at_int, hx, ha]
    simp only [bcond_if, inb, hil, hia, c1, if_true, w1, w2, gq, ih1, ih2]
    by_cases p1 : 0 ≤ x
    · have p1' : x ≥ 0 := p1
      have p2 : ¬ x < 0 := by omega
      by_cases p3 : x < q
      · simp [p1', p3, p2, p1, Int.add_assoc]
      · simp [p1', p3, p2, p1]
    · have p1' : ¬ x ≥ 0 := p1
      have p2 : x < 0 := by omega
      by_cases p3 : a < q
      · simp [p1', p3, p2, p1, Int.add_assoc]
      · by_cases p4 : a = q
        · cases r <;> simp [p1', p3, p2, p1, p4, Int.add_assoc]
        · simp [p1', p3, p2, p1, p4]
theorem gapat_eq (us : List Int) (hl : us.length ≤ 1048576) (q : Int) (r : Bool) : C64 F64 us q r = some (ret64 (gq q r (rows 0 us) (ahead 0 us))) := by
  obtain ⟨m, hm⟩ := big_succ (n := 1048577) (by omega)
  have hr := rows_len us 0
  rw [e64, olds_eq us hl]
  simp only [Option.bind_some, res85_0_ret, res85_1_ret]
  have := gapat_loop (rows 0 us) (ahead 0 us) (by omega) (ra_len us 0) q r big (rows 0 us).length 0 big 0 (by omega) (by omega) (by omega) (by omega)
  simpa using this

theorem gq_keep (q : Int) (r : Bool) : ∀ (N : Nat) (us : List Int) (o : Int), 0 ≤ o → gq q r (rows o (List.replicate N 0 ++ us)) (ahead o (List.replicate N 0 ++ us)) = min (N : Int) (max 0 (q - o)) + gq q r (rows (o + N) us) (ahead (o + N) us)
  | 0, us, o, h0 => by simp; omega
  | N + 1, us, o, h0 => by
    simp only [List.replicate_succ, List.cons_append, rows, ahead, if_true, gq]
    rw [gq_keep q r N us (o + 1) (by omega), show o + 1 + (N : Int) = o + ((N + 1 : Nat) : Int) from by omega]
    by_cases h : o < q
    · rw [if_pos (.inl ⟨h0, h⟩)]; omega
    · rw [if_neg (by omega)]; omega
theorem gq_add (q : Int) (r : Bool) : ∀ (N : Nat) (us : List Int) (o : Int), gq q r (rows o (List.replicate N 1 ++ us)) (ahead o (List.replicate N 1 ++ us)) = (if o < q ∨ o = q ∧ r = true then (N : Int) else 0) + gq q r (rows o us) (ahead o us)
  | 0, us, o => by simp
  | N + 1, us, o => by
    have e : ¬ (1 : Int) = 0 := by omega
    simp only [List.replicate_succ, List.cons_append, rows, ahead, e, if_true, if_false, gq]
    rw [gq_add q r N us o]
    by_cases h : o < q ∨ o = q ∧ r = true
    · rw [if_pos (.inr ⟨by omega, h⟩), if_pos h, if_pos h]; omega
    · rw [if_neg (by rintro (⟨a, _⟩ | ⟨_, b⟩); omega; exact h b), if_neg h, if_neg h]; omega
theorem ahead_cut : ∀ (N : Nat) (us : List Int) (o : Int), ahead o (List.replicate N 2 ++ us) = ahead (o + N) us
  | 0, us, o => by simp
  | N + 1, us, o => by
    have e : ¬ (2 : Int) = 0 := by omega
    have e1 : ¬ (2 : Int) = 1 := by omega
    simp only [List.replicate_succ, List.cons_append, ahead, e, e1, if_false]
    rw [ahead_cut N us (o + 1), show o + 1 + (N : Int) = o + ((N + 1 : Nat) : Int) from by omega]
theorem gp_gq (q : Int) (r : Bool) : ∀ (l : Steps), Good l → ∀ (f t : Int), 0 ≤ f → t + gq q r (rows f (units l)) (ahead f (units l)) = gp q r f t l
  | [], _, f, t, _ => by simp [units, rows, ahead, gq, gp]
  | s :: l, ⟨⟨k, n1, n2⟩, g⟩, f, t, h0 => by
    have e : (((sn s).toNat : Nat) : Int) = sn s := by omega
    simp only [units, gp]
    rcases k with hk | hk | hk <;> rw [hk]
    · rw [gq_keep q r _ _ _ h0, e, ← Int.add_assoc, gp_gq q r l g _ _ (by omega)]
      simp
    · rw [gq_add, e, ← Int.add_assoc, gp_gq q r l g _ _ h0]
      simp only [if_true]
      congr 1
      split <;> omega
    · rw [rows_cut, ahead_cut, e, gp_gq q r l g _ _ (by omega)]
      simp

/-! ### Ranges -/

def asc (K : Int → Int) : Nat → Int → Int → Int → Int × Int
  | 0, _, f, l => (f, l)
  | n + 1, s, f, l => if 0 ≤ K s then asc K n (s + 1) (if l = 0 then K s else f) (K s + 1) else asc K n (s + 1) f l
def desc (K : Int → Int) : Nat → Int → Int → Int → Int × Int
  | 0, _, low, high => (low, high)
  | n + 1, s, low, high => if 0 ≤ K (s + n) then desc K n s (K (s + n)) (if high = 0 then K (s + n) + 1 else high) else desc K n s low high
def fstK (K : Int → Int) : Nat → Int → Option Int
  | 0, _ => none
  | n + 1, s => if 0 ≤ K s then some (K s) else fstK K n (s + 1)
def lstK (K : Int → Int) : Nat → Int → Option Int
  | 0, _ => none
  | n + 1, s => if 0 ≤ K (s + n) then some (K (s + n)) else lstK K n s
theorem fstK_last (K : Int → Int) : ∀ (n : Nat) (s : Int), fstK K (n + 1) s = (fstK K n s).or (if 0 ≤ K (s + n) then some (K (s + n)) else none)
  | 0, s => by simp [fstK]
  | n + 1, s => by
    have ih := fstK_last K n (s + 1)
    rw [fstK]
    split
    · rename_i h; simp [fstK, h]
    · rename_i h
      rw [ih, show s + 1 + (n : Int) = s + ((n + 1 : Nat) : Int) from by omega]
      simp only [fstK, h, if_false]
theorem lstK_first (K : Int → Int) : ∀ (n : Nat) (s : Int), lstK K (n + 1) s = (lstK K n (s + 1)).or (if 0 ≤ K s then some (K s) else none)
  | 0, s => by simp [lstK]
  | n + 1, s => by
    have ih := lstK_first K n s
    rw [lstK]
    simp only [lstK]
    rw [show s + 1 + (n : Int) = s + ((n + 1 : Nat) : Int) from by omega]
    split
    · simp
    · simpa [lstK] using ih
theorem lstK_pos (K : Int → Int) : ∀ (n : Nat) (s : Int) x, lstK K n s = some x → 0 ≤ x
  | 0, s, x, h => by cases h
  | n + 1, s, x, h => by
    simp only [lstK] at h
    split at h
    · rename_i h1; injection h with h; omega
    · exact lstK_pos K n s x h
theorem asc_eq (K : Int → Int) : ∀ (n : Nat) (s f l : Int), asc K n s f l = (if l = 0 then (fstK K n s).getD f else f, ((lstK K n s).map (· + 1)).getD l)
  | 0, s, f, l => by simp [asc, fstK, lstK]
  | n + 1, s, f, l => by
    rw [lstK_first]
    simp only [asc, fstK]
    split
    · rename_i h
      rw [asc_eq K n]
      have : ¬ K s + 1 = 0 := by omega
      simp only [this, if_false]
      cases lstK K n (s + 1) <;> simp
    · rename_i h
      rw [asc_eq K n]
      simp
theorem desc_eq (K : Int → Int) : ∀ (n : Nat) (s low high : Int), desc K n s low high = ((fstK K n s).getD low, if high = 0 then ((lstK K n s).map (· + 1)).getD high else high)
  | 0, s, f, l => by simp [desc, fstK, lstK]
  | n + 1, s, low, high => by
    rw [fstK_last]
    simp only [desc, lstK]
    split
    · rename_i h
      rw [desc_eq K n]
      by_cases h0 : high = 0
      · have : ¬ K (s + n) + 1 = 0 := by omega
        simp only [h0, if_true, this, if_false]
        cases fstK K n s <;> simp
      · simp only [h0, if_false]
        cases fstK K n s <;> simp
    · rename_i h
      rw [desc_eq K n]
      simp
theorem asc_desc (K : Int → Int) (n : Nat) (s : Int) : asc K n s 0 0 = desc K n s 0 0 := by
  rw [asc_eq, desc_eq]; simp

theorem asc_add (K : Int → Int) : ∀ (a b : Nat) (s f l : Int), asc K (a + b) s f l = asc K b (s + a) (asc K a s f l).1 (asc K a s f l).2
  | 0, b, s, f, l => by simp [asc]
  | a + 1, b, s, f, l => by
    rw [show a + 1 + b = (a + b) + 1 from by omega]
    simp only [asc]
    split <;> rw [asc_add K a b, show s + 1 + (a : Int) = s + ((a + 1 : Nat) : Int) from by omega]
theorem asc_congr (K J : Int → Int) : ∀ (n : Nat) (s f l : Int), (∀ x, s ≤ x → x < s + n → K x = J x) → asc K n s f l = asc J n s f l
  | 0, s, f, l, h => rfl
  | n + 1, s, f, l, h => by
    simp only [asc]
    rw [h s (by omega) (by omega)]
    split <;> exact asc_congr K J n (s + 1) _ _ (fun x a b => h x (by omega) (by omega))
theorem asc_none (K : Int → Int) : ∀ (n : Nat) (s f l : Int), (∀ x, s ≤ x → x < s + n → K x = -1) → asc K n s f l = (f, l)
  | 0, s, f, l, h => rfl
  | n + 1, s, f, l, h => by
    simp only [asc]
    rw [h s (by omega) (by omega), if_neg (by omega)]
    exact asc_none K n (s + 1) _ _ (fun x a b => h x (by omega) (by omega))
theorem asc_keep (K : Int → Int) (c : Int) : ∀ (n : Nat) (s f l : Int), 0 ≤ s + c → 0 ≤ l → (∀ x, s ≤ x → x < s + n → K x = x + c) → asc K n s f l = if n = 0 then (f, l) else (if l = 0 then s + c else f, s + n + c)
  | 0, s, f, l, h0, hl, h => by simp [asc]
  | n + 1, s, f, l, h0, hl, h => by
    simp only [asc]
    rw [h s (by omega) (by omega), if_pos (by omega), asc_keep K c n (s + 1) _ _ (by omega) (by omega) (fun x a b => h x (by omega) (by omega))]
    by_cases hn : n = 0
    · subst hn; simp; omega
    · simp only [hn, if_false, show ¬ n + 1 = 0 from by omega]
      rw [if_neg (by omega)]
      congr 1
      omega
end Go.Ev.Axis
