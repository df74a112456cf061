
import Derived.Test.YtpmeeopafdgbpaaDoorPAxisC
import Derived.Test.YtpmeeopafdgbpaaDoorGSpan
namespace Go.Ev.Axis
open Go.Ev
set_option linter.unusedVariables false
set_option linter.unusedSimpArgs false
def units : Steps → List Int
  | [] => []
  | s :: l => List.replicate (sn s).toNat (sk s) ++ units l
def rows : Int → List Int → List Int
  | _, [] => []
  | o, u :: us => if u = 0 then o :: rows (o + 1) us else if u = 1 then (-1) :: rows o us else rows (o + 1) us
def ahead : Int → List Int → List Int
  | _, [] => []
  | o, u :: us => if u = 0 then o :: ahead (o + 1) us else if u = 1 then o :: ahead o us else ahead (o + 1) us
def find (p : Int) : Int → List Int → Int
  | _, [] => -1
  | t, r :: rs => if r = p then t else find p (t + 1) rs
theorem unitx_len : ∀ {l : Steps}, Good l → ((units l).length : Int) = sumN l
  | [], _ => rfl
  | s :: l, ⟨⟨_, n1, _⟩, g⟩ => by
    have := unitx_len g
    simp only [units, List.length_append, List.length_replicate, sumN]
    omega
theorem unitx_in (l : Steps) (n m1 i : Nat) (k N : Int) (hi : i < l.length) (hk : kind l i = k) (hN : 0 ≤ N ∧ N ≤ 4294967296) : ∀ (d j m : Nat) (out : List Int), (j : Int) + d = N → d < m → out.length + d ≤ 1048576 → i < 1048576 →
    L_R_Units_1 n m1 m l out i (l.length : Int) i N j = L_R_Units_0 n m1 l (out ++ List.replicate d k) (l.length : Int) ((i + 1 : Nat) : Int) := by
  intro d
  induction d with
  | zero =>
    intro j m out hj hm hl hi2
    cases m with
    | zero => omega
    | succ m =>
    have c1 : decide ((j : Int) < N) = false := decide_eq_false (by omega)
    rw [L_R_Units_1_step]
    simp only [bcond_if, c1, Bool.false_eq_true, if_false, List.replicate_zero, List.append_nil]
    rw [wnat (x := (i : Int) + 1) (n := i + 1) (by omega) (by omega)]
  | succ d ih =>
    intro j m out hj hm hl hi2
    cases m with
    | zero => omega
    | succ m =>
    have c1 : decide ((j : Int) < N) = true := decide_eq_true (by omega)
    have ek : (at_ (e := YSpan) l (i : Int)).1 = kind l i := rfl
    rw [L_R_Units_1_step]
    simp only [bcond_if, inb, hi, c1, if_true, ek, hk]
    rw [if_pos (by simp; omega), wnat (x := (j : Int) + 1) (n := j + 1) (by omega) (by omega), ih (j + 1) m (out ++ [k]) (by omega) (by omega) (by simp; omega) hi2]
    rw [List.append_assoc]
    rfl
theorem unitx_loop (l : Steps) (hl : l.length ≤ 1048576) (g : Good l) (n : Nat) (hn : 1048577 < n) : ∀ (d i m : Nat) (out : List Int), i + d = l.length → d < m → (out.length : Int) + sumN (l.drop i) ≤ 1048576 →
    L_R_Units_0 n m l out (l.length : Int) i = some (ret_R_Units (out ++ units (l.drop i))) := by
  intro d
  induction d with
  | zero =>
    intro i m out hi hm hb
    cases m with
    | zero => omega
    | succ m =>
    have : i = l.length := by omega
    subst this
    have c1 : decide ((l.length : Int) < (l.length : Int)) = false := decide_eq_false (by omega)
    rw [L_R_Units_0_step, List.drop_length]
    simp [bcond_if, c1, units]
  | succ d ih =>
    intro i m out hi hm hb
    cases m with
    | zero => omega
    | succ m =>
    have hil : i < l.length := by omega
    have c1 : decide ((i : Int) < (l.length : Int)) = true := decide_eq_true (by omega)
    have en : (at_ (e := YSpan) l (i : Int)).2 = num l i := rfl
    obtain ⟨k1, n1, n2⟩ := good_at g hil
    have hp := sum_pos (good_drop g (i + 1))
    rw [drop_cons l hil] at hb ⊢
    simp only [sumN, sn_mk, units, sk_mk] at hb ⊢
    rw [L_R_Units_0_step]
    simp only [bcond_if, inb, hil, c1, if_true, en]
    have := unitx_in l n m i (kind l i) (num l i) hil rfl (by omega) (num l i).toNat 0 n out (by omega) (by omega) (by omega) (by omega)
    rw [show ((0 : Nat) : Int) = 0 from rfl] at this
    rw [this, ih (i + 1) m _ (by omega) (by omega) (by simp; omega), List.append_assoc]
theorem unitx_eq (l : Steps) (hl : l.length ≤ 1048576) (h : E l = 0) (hs : sumN l ≤ 1048576) : C_R_Units F_R_Units l = some (ret_R_Units (units l)) := by
  obtain ⟨m, hm⟩ := big_succ (n := 1048577) (by omega)
  obtain ⟨g, hb, ha⟩ := E_good h
  rw [e_R_Units]
  have := unitx_loop l hl g big (by omega) l.length 0 big [] (by omega) (by omega) (by simpa using hs)
  simpa using this
theorem olds_loop (us : List Int) (hl : us.length ≤ 1048576) (n : Nat) : ∀ (d i m : Nat) (r a : List Int) (o : Int), i + d = us.length → d < m → r.length ≤ i → a.length ≤ i → 0 ≤ o → o ≤ i →
    L_R_Olds_0 n m us r a o (us.length : Int) i = some (ret_R_Olds (r ++ rows o (us.drop i)) (a ++ ahead o (us.drop i))) := by
  intro d
  induction d with
  | zero =>
    intro i m r a o hi hm hr ha ho1 ho2
    cases m with
    | zero => omega
    | succ m =>
    have : i = us.length := by omega
    subst this
    have c1 : decide ((us.length : Int) < (us.length : Int)) = false := decide_eq_false (by omega)
    rw [L_R_Olds_0_step, List.drop_length]
    simp [bcond_if, c1, rows, ahead]
  | succ d ih =>
    intro i m r a o hi hm hr ha ho1 ho2
    cases m with
    | zero => omega
    | succ m =>
    have hil : i < us.length := by omega
    have c1 : decide ((i : Int) < (us.length : Int)) = true := decide_eq_true (by omega)
    have w1 : IntKind.i64.wrap ((i : Int) + 1) = ((i + 1 : Nat) : Int) := wnat (by omega) (by omega)
    have w2 : IntKind.i64.wrap (o + 1) = o + 1 := w64 (by omega) (by omega)
    rw [L_R_Olds_0_step, drop_int us hil]
    simp only [bcond_if, inb, hil, c1, if_true, w1, w2, at_int, rows, ahead]
    generalize us.getD i 0 = u
    by_cases h0 : u = 0
    · subst h0
      simp only [beq_self_eq_true, if_true]
      rw [if_pos (by simp; omega), if_pos (by simp; omega), ih (i + 1) m _ _ _ (by omega) (by omega) (by simp; omega) (by simp; omega) (by omega) (by omega)]
      simp
    · by_cases h1 : u = 1
      · subst h1
        have e0 : ((1 : Int) == 0) = false := rfl
        simp only [e0, beq_self_eq_true, if_true, Bool.false_eq_true, if_false]
        rw [if_pos (by simp; omega), if_pos (by simp; omega), ih (i + 1) m _ _ _ (by omega) (by omega) (by simp; omega) (by simp; omega) (by omega) (by omega)]
        simp
      · have := ih (i + 1) m r a (o + 1) (by omega) (by omega) (by omega) (by omega) (by omega) (by omega)
        simpa [h0, h1] using this
theorem olds_eq (us : List Int) (hl : us.length ≤ 1048576) : C_R_Olds F_R_Olds us = some (ret_R_Olds (rows 0 us) (ahead 0 us)) := by
  obtain ⟨m, hm⟩ := big_succ (n := 1048577) (by omega)
  rw [e_R_Olds]
  have := olds_loop us hl big us.length 0 big [] [] 0 (by omega) (by omega) (by simp) (by simp) (by omega) (by omega)
  simpa using this
theorem rows_len : ∀ (us : List Int) (o : Int), (rows o us).length ≤ us.length
  | [], o => by simp [rows]
  | u :: us, o => by
    have h1 := rows_len us (o + 1)
    have h2 := rows_len us o
    simp only [rows]
    split
    · simp; exact h1
    · split
      · simp; exact h2
      · simp; omega
theorem where_loop (rs : List Int) (hl : rs.length ≤ 1048576) (p : Int) (n : Nat) : ∀ (d i m : Nat), i + d = rs.length → d < m → L_R_Where_0 n m p rs (rs.length : Int) i = some (ret_R_Where (find p i (rs.drop i))) := by
  intro d
  induction d with
  | zero =>
    intro i m hi hm
    cases m with
    | zero => omega
    | succ m =>
    have : i = rs.length := by omega
    subst this
    have c1 : decide ((rs.length : Int) < (rs.length : Int)) = false := decide_eq_false (by omega)
    rw [L_R_Where_0_step, List.drop_length]
    simp [bcond_if, c1, find]
  | succ d ih =>
    intro i m hi hm
    cases m with
    | zero => omega
    | succ m =>
    have hil : i < rs.length := by omega
    have c1 : decide ((i : Int) < (rs.length : Int)) = true := decide_eq_true (by omega)
    have w1 : IntKind.i64.wrap ((i : Int) + 1) = ((i + 1 : Nat) : Int) := wnat (by omega) (by omega)
    rw [L_R_Where_0_step, drop_int rs hil]
    simp only [bcond_if, inb, hil, c1, if_true, w1, at_int, find, ih (i + 1) m (by omega) (by omega)]
    by_cases h0 : rs.getD i 0 = p
    · rw [if_pos (by simpa using h0), if_pos h0]
    · rw [if_neg (by simpa using h0), if_neg h0]
      rfl
theorem where_eq (us : List Int) (hl : us.length ≤ 1048576) (p : Int) : C_R_Where F_R_Where us p = some (ret_R_Where (find p 0 (rows 0 us))) := by
  obtain ⟨m, hm⟩ := big_succ (n := 1048577) (by omega)
  have hr := rows_len us 0
  rw [e_R_Where, olds_eq us hl]
  simp only [Option.bind_some, res_R_Olds_0_ret]
  have := where_loop (rows 0 us) (by omega) p big (rows 0 us).length 0 big (by omega) (by omega)
  simpa using this
/-- Rows behind what is asked for are not it. -/
theorem find_none : ∀ (us : List Int) (p o t : Int), 0 ≤ p → p < o → find p t (rows o us) = -1
  | [], p, o, t, _, _ => rfl
  | u :: us, p, o, t, h0, h1 => by
    simp only [rows]
    split
    · rw [find, if_neg (by omega)]; exact find_none us p (o + 1) (t + 1) h0 (by omega)
    · split
      · rw [find, if_neg (by omega)]; exact find_none us p o (t + 1) h0 h1
      · exact find_none us p (o + 1) t h0 (by omega)
theorem find_keep : ∀ (N : Nat) (us : List Int) (p o t : Int), 0 ≤ p → o ≤ p → find p t (rows o (List.replicate N 0 ++ us)) = if p < o + N then t + p - o else find p (t + N) (rows (o + N) us)
  | 0, us, p, o, t, h0, h1 => by simp; omega
  | N + 1, us, p, o, t, h0, h1 => by
    simp only [List.replicate_succ, List.cons_append, rows, if_true, find]
    by_cases h : o = p
    · rw [if_pos h, if_pos (by omega)]; omega
    · rw [if_neg h, find_keep N us p (o + 1) (t + 1) h0 (by omega)]
      by_cases h2 : p < o + 1 + N
      · rw [if_pos h2, if_pos (by omega)]; omega
      · rw [if_neg h2, if_neg (by omega), show t + 1 + (N : Int) = t + ((N + 1 : Nat) : Int) from by omega, show o + 1 + (N : Int) = o + ((N + 1 : Nat) : Int) from by omega]
theorem find_add : ∀ (N : Nat) (us : List Int) (p o t : Int), 0 ≤ p → find p t (rows o (List.replicate N 1 ++ us)) = find p (t + N) (rows o us)
  | 0, us, p, o, t, h0 => by simp
  | N + 1, us, p, o, t, h0 => by
    have e : ¬ (1 : Int) = 0 := by omega
    simp only [List.replicate_succ, List.cons_append, rows, e, if_true, if_false, find]
    rw [if_neg (by omega), find_add N us p o (t + 1) h0, show t + 1 + (N : Int) = t + ((N + 1 : Nat) : Int) from by omega]
theorem rows_cut : ∀ (N : Nat) (us : List Int) (o : Int), rows o (List.replicate N 2 ++ us) = rows (o + N) us
  | 0, us, o => by simp
  | N + 1, us, o => by
    have e : ¬ (2 : Int) = 0 := by omega
    have e1 : ¬ (2 : Int) = 1 := by omega
    simp only [List.replicate_succ, List.cons_append, rows, e, e1, if_false]
    rw [rows_cut N us (o + 1), show o + 1 + (N : Int) = o + ((N + 1 : Nat) : Int) from by omega]
theorem pl_find : ∀ (l : Steps), Good l → ∀ (p f t : Int), 0 ≤ p → f ≤ p → find p t (rows f (units l)) = pl p f t l
  | [], _, p, f, t, _, _ => rfl
  | s :: l, ⟨⟨k, n1, n2⟩, g⟩, p, f, t, h0, h1 => by
    have e : (((sn s).toNat : Nat) : Int) = sn s := by omega
    simp only [units, pl]
    rcases k with hk | hk | hk <;> rw [hk]
    · rw [find_keep _ _ _ _ _ h0 h1, e]
      simp only [show ¬ (0 : Int) = 1 from by omega, if_false, if_true]
      split
      · rfl
      · exact pl_find l g p _ _ h0 (by omega)
    · rw [find_add _ _ _ _ _ h0, e]
      simp only [if_true]
      exact pl_find l g p _ _ h0 h1
    · rw [rows_cut, e]
      simp only [show ¬ (2 : Int) = 1 from by omega, show ¬ (2 : Int) = 0 from by omega, if_false]
      split
      · exact find_none _ _ _ _ h0 (by omega)
      · exact pl_find l g p _ _ h0 (by omega)
def asc (K : Int → Int) : Nat → Int → Int → Int → Int × Int
  | 0, _, f, l => (f, l)
  | n + 1, s, f, l => if 0 ≤ K s then asc K n (s + 1) (if l = 0 then K s else f) (K s + 1) else asc K n (s + 1) f l
def desc (K : Int → Int) : Nat → Int → Int → Int → Int × Int
  | 0, _, low, high => (low, high)
  | n + 1, s, low, high => if 0 ≤ K (s + n) then desc K n s (K (s + n)) (if high = 0 then K (s + n) + 1 else high) else desc K n s low high
def fstK (K : Int → Int) : Nat → Int → Option Int
  | 0, _ => none
  | n + 1, s => if 0 ≤ K s then some (K s) else fstK K n (s + 1)
def lstK (K : Int → Int) : Nat → Int → Option Int
  | 0, _ => none
  | n + 1, s => if 0 ≤ K (s + n) then some (K (s + n)) else lstK K n s
theorem fstK_last (K : Int → Int) : ∀ (n : Nat) (s : Int), fstK K (n + 1) s = (fstK K n s).or (if 0 ≤ K (s + n) then some (K (s + n)) else none)
  | 0, s => by simp [fstK]
  | n + 1, s => by
    have ih := fstK_last K n (s + 1)
    rw [fstK]
    split
    · rename_i h; simp [fstK, h]
    · rename_i h
      rw [ih, show s + 1 + (n : Int) = s + ((n + 1 : Nat) : Int) from by omega]
      simp only [fstK, h, if_false]
theorem lstK_first (K : Int → Int) : ∀ (n : Nat) (s : Int), lstK K (n + 1) s = (lstK K n (s + 1)).or (if 0 ≤ K s then some (K s) else none)
  | 0, s => by simp [lstK]
  | n + 1, s => by
    have ih := lstK_first K n s
    rw [lstK]
    simp only [lstK]
    rw [show s + 1 + (n : Int) = s + ((n + 1 : Nat) : Int) from by omega]
    split
    · simp
    · simpa [lstK] using ih
theorem asc_eq (K : Int → Int) : ∀ (n : Nat) (s f l : Int), asc K n s f l = (if l = 0 then (fstK K n s).getD f else f, ((lstK K n s).map (· + 1)).getD l)
  | 0, s, f, l => by simp [asc, fstK, lstK]
  | n + 1, s, f, l => by
    rw [lstK_first]
    simp only [asc, fstK]
    split
    · rename_i h
      rw [asc_eq K n]
      have : ¬ K s + 1 = 0 := by omega
      simp only [this, if_false]
      cases lstK K n (s + 1) <;> simp
    · rename_i h
      rw [asc_eq K n]
      simp
theorem desc_eq (K : Int → Int) : ∀ (n : Nat) (s low high : Int), desc K n s low high = ((fstK K n s).getD low, if high = 0 then ((lstK K n s).map (· + 1)).getD high else high)
  | 0, s, f, l => by simp [desc, fstK, lstK]
  | n + 1, s, low, high => by
    rw [fstK_last]
    simp only [desc, lstK]
    split
    · rename_i h
      rw [desc_eq K n]
      by_cases h0 : high = 0
      · have : ¬ K (s + n) + 1 = 0 := by omega
        simp only [h0, if_true, this, if_false]
        cases fstK K n s <;> simp
      · simp only [h0, if_false]
        cases fstK K n s <;> simp
    · rename_i h
      rw [desc_eq K n]
      simp
theorem asc_desc (K : Int → Int) (n : Nat) (s : Int) : asc K n s 0 0 = desc K n s 0 0 := by
  rw [asc_eq, desc_eq]; simp
theorem asc_add (K : Int → Int) : ∀ (a b : Nat) (s f l : Int), asc K (a + b) s f l = asc K b (s + a) (asc K a s f l).1 (asc K a s f l).2
  | 0, b, s, f, l => by simp [asc]
  | a + 1, b, s, f, l => by
    rw [show a + 1 + b = (a + b) + 1 from by omega]
    simp only [asc]
    split <;> rw [asc_add K a b, show s + 1 + (a : Int) = s + ((a + 1 : Nat) : Int) from by omega]
theorem asc_congr (K J : Int → Int) : ∀ (n : Nat) (s f l : Int), (∀ x, s ≤ x → x < s + n → K x = J x) → asc K n s f l = asc J n s f l
  | 0, s, f, l, h => rfl
  | n + 1, s, f, l, h => by
    simp only [asc]
    rw [h s (by omega) (by omega)]
    split <;> exact asc_congr K J n (s + 1) _ _ (fun x a b => h x (by omega) (by omega))
theorem asc_none (K : Int → Int) : ∀ (n : Nat) (s f l : Int), (∀ x, s ≤ x → x < s + n → K x = -1) → asc K n s f l = (f, l)
  | 0, s, f, l, h => rfl
  | n + 1, s, f, l, h => by
    simp only [asc]
    rw [h s (by omega) (by omega), if_neg (by omega)]
    exact asc_none K n (s + 1) _ _ (fun x a b => h x (by omega) (by omega))
theorem asc_keep (K : Int → Int) (c : Int) : ∀ (n : Nat) (s f l : Int), 0 ≤ s + c → 0 ≤ l → (∀ x, s ≤ x → x < s + n → K x = x + c) → asc K n s f l = if n = 0 then (f, l) else (if l = 0 then s + c else f, s + n + c)
  | 0, s, f, l, h0, hl, h => by simp [asc]
  | n + 1, s, f, l, h0, hl, h => by
    simp only [asc]
    rw [h s (by omega) (by omega), if_pos (by omega), asc_keep K c n (s + 1) _ _ (by omega) (by omega) (fun x a b => h x (by omega) (by omega))]
    by_cases hn : n = 0
    · subst hn; simp; omega
    · simp only [hn, if_false, show ¬ n + 1 = 0 from by omega]
      rw [if_neg (by omega)]
      congr 1
      omega
theorem asc_chunk (K J : Int → Int) (p q old N : Int) (hN : 0 ≤ N) (h : ∀ x, old + N ≤ x → K x = J x) (f l : Int) :
    asc K (q - max p old).toNat (max p old) f l = asc J (q - max p (old + N)).toNat (max p (old + N)) (asc K (min q (old + N) - max p old).toNat (max p old) f l).1 (asc K (min q (old + N) - max p old).toNat (max p old) f l).2 := by
  by_cases c : max p old < min q (old + N)
  · have e : (q - max p old).toNat = (min q (old + N) - max p old).toNat + (q - max p (old + N)).toNat := by omega
    rw [e, asc_add]
    by_cases b : (q - max p (old + N)).toNat = 0
    · rw [b]; rfl
    · have e2 : max p old + ((min q (old + N) - max p old).toNat : Int) = max p (old + N) := by omega
      rw [e2]
      exact asc_congr K J _ _ _ _ (fun x h1 _ => h x (by omega))
  · have e : (min q (old + N) - max p old).toNat = 0 := by omega
    rw [e]
    simp only [asc]
    by_cases b : q ≤ max p old
    · rw [show (q - max p old).toNat = 0 by omega, show (q - max p (old + N)).toNat = 0 by omega]; rfl
    · have e2 : max p old = max p (old + N) := by omega
      rw [← e2]
      exact asc_congr K J _ _ _ _ (fun x h1 _ => h x (by omega))
theorem hull_loop (l : Steps) (hl : l.length ≤ 1048576) (g : Good l) (p q : Int) (hp0 : 0 ≤ p) (hp1 : p ≤ 2147483647) (hq0 : 0 ≤ q) (hq1 : q ≤ 2147483647) (n : Nat) : ∀ (d i m : Nat) (a b f t : Int), i + d = l.length → d < m → 0 ≤ f → 0 ≤ t → 0 ≤ b → f + sumB (l.drop i) ≤ 2147483647 → t + sumA (l.drop i) ≤ 2147483647 →
    L_axis_Hull_0 n m p q a b f t l (l.length : Int) i = some (ret_axis_Hull (asc (fun x => pl x f t (l.drop i)) (q - max p f).toNat (max p f) a b).1 (asc (fun x => pl x f t (l.drop i)) (q - max p f).toNat (max p f) a b).2) := by
  intro d
  induction d with
  | zero =>
    intro i m a b f t hi hm hf ht hb0 hB hA
    cases m with
    | zero => omega
    | succ m =>
    have : i = l.length := by omega
    subst this
    have c1 : decide ((l.length : Int) < (l.length : Int)) = false := decide_eq_false (by omega)
    rw [L_axis_Hull_0_step, List.drop_length, asc_none (fun x => pl x f t []) _ _ a b (fun x _ _ => rfl)]
    simp [bcond_if, c1]
  | succ d ih =>
    intro i m a b f t hi hm hf ht hb0 hB hA
    cases m with
    | zero => omega
    | succ m =>
    have hil : i < l.length := by omega
    have c1 : decide ((i : Int) < (l.length : Int)) = true := decide_eq_true (by omega)
    have w1 : IntKind.i64.wrap ((i : Int) + 1) = ((i + 1 : Nat) : Int) := wnat (by omega) (by omega)
    have ek : (at_ (e := YSpan) l (i : Int)).1 = kind l i := rfl
    have en : (at_ (e := YSpan) l (i : Int)).2 = num l i := rfl
    obtain ⟨k1, n1, n2⟩ := good_at g hil
    have hp := sum_pos (good_drop g (i + 1))
    rw [drop_cons l hil] at hB hA ⊢
    simp only [sumB, sumA, sk_mk, sn_mk] at hB hA
    rw [L_axis_Hull_0_step]
    simp only [J_axis_Hull_0, bcond_if, inb, hil, c1, if_true, w1, ek, en]
    generalize num l i = N at *
    have wN : IntKind.i64.wrap (f + N) = f + N := w64 (by omega) (by omega)
    have wM : IntKind.i64.wrap (t + N) = t + N := w64 (by omega) (by omega)
    rcases k1 with hk | hk | hk <;> rw [hk] at hB hA ⊢
    · simp only [show ¬ (0 : Int) = 1 from by omega, if_false, show ¬ (0 : Int) = 2 from by omega] at hB hA
      have hK : ∀ x, pl x f t (mkS 0 N :: l.drop (i + 1)) = if x < f + N then t + x - f else pl x (f + N) (t + N) (l.drop (i + 1)) := fun x => by simp only [pl, sk_mk, sn_mk]; rfl
      have em : (if f > p then f else p) = max p f := by split <;> omega
      have en2 : (if f + N < q then f + N else q) = min q (f + N) := by split <;> omega
      have wx : IntKind.i64.wrap (t + max p f) = t + max p f := w64 (by omega) (by omega)
      have wy : IntKind.i64.wrap (t + max p f - f) = t + max p f - f := w64 (by omega) (by omega)
      have wz : IntKind.i64.wrap (t + min q (f + N)) = t + min q (f + N) := w64 (by omega) (by omega)
      have wv : IntKind.i64.wrap (t + min q (f + N) - f) = t + min q (f + N) - f := w64 (by omega) (by omega)
      rw [asc_chunk _ (fun x => pl x (f + N) (t + N) (l.drop (i + 1))) p q f N (by omega) (fun x hx => by simp only [hK]; rw [if_neg (by omega)]) a b]
      rw [asc_keep _ (t - f) _ _ _ _ (by omega) hb0 (fun x h1 h2 => by simp only [hK]; rw [if_pos (by omega)]; omega)]
      simp only [wN, wM, em, en2, wx, wy, wz, wv]
      have go := fun a b (h : 0 ≤ b) => ih (i + 1) m a b (f + N) (t + N) (by omega) (by omega) (by omega) (by omega) h (by omega) (by omega)
      by_cases hlt : max p f < min q (f + N)
      · rw [if_neg (show ¬ (min q (f + N) - max p f).toNat = 0 by omega)]
        have e3 : max p f + ((min q (f + N) - max p f).toNat : Int) + (t - f) = t + min q (f + N) - f := by omega
        have e4 : max p f + (t - f) = t + max p f - f := by omega
        rw [e3, e4]
        by_cases hb : b = 0
        · simpa [hlt, hb] using go (t + max p f - f) (t + min q (f + N) - f) (by omega)
        · simpa [hlt, hb] using go a (t + min q (f + N) - f) (by omega)
      · rw [if_pos (show (min q (f + N) - max p f).toNat = 0 by omega)]
        simpa [hlt] using go a b hb0
    · simp only [if_true, show ¬ (1 : Int) = 2 from by omega, if_false] at hB hA
      have hK : (fun x => pl x f t (mkS 1 N :: l.drop (i + 1))) = fun x => pl x f (t + N) (l.drop (i + 1)) := by funext x; simp only [pl, sk_mk, sn_mk, if_true]
      rw [hK]
      have := ih (i + 1) m a b f (t + N) (by omega) (by omega) (by omega) (by omega) hb0 (by omega) (by omega)
      simp only [wM]
      simpa using this
    · simp only [show ¬ (2 : Int) = 1 from by omega, if_false, if_true] at hB hA
      have hK : ∀ x, pl x f t (mkS 2 N :: l.drop (i + 1)) = if x < f + N then -1 else pl x (f + N) t (l.drop (i + 1)) := fun x => by simp only [pl, sk_mk, sn_mk]; rfl
      rw [asc_chunk _ (fun x => pl x (f + N) t (l.drop (i + 1))) p q f N (by omega) (fun x hx => by simp only [hK]; rw [if_neg (by omega)]) a b]
      rw [asc_none _ _ _ a b (fun x h1 h2 => by simp only [hK]; rw [if_pos (by omega)])]
      have := ih (i + 1) m a b (f + N) t (by omega) (by omega) (by omega) (by omega) hb0 (by omega) (by omega)
      simp only [wN]
      simpa using this
/-- The range of what is left of a range. -/
def hull (l : Steps) (p q : Int) : Int × Int := asc (fun x => pl x 0 0 l) (q - p).toNat p 0 0
theorem find_le : ∀ (rs : List Int) (p t : Int), -1 ≤ t → find p t rs ≤ t + rs.length ∧ -1 ≤ find p t rs
  | [], p, t, h => by simp only [find, List.length_nil]; omega
  | r :: rs, p, t, h => by
    have := find_le rs p (t + 1) (by omega)
    simp only [find, List.length_cons]
    split <;> omega
theorem down_loop (us : List Int) (hl : us.length ≤ 1048576) (p : Int) (hp0 : 0 ≤ p) (hp1 : p ≤ 1048576) (n : Nat) : ∀ (d m : Nat) (low high : Int), d < m → d ≤ 1048576 → L_R_RestOf_0 n m us p low high (p + d - 1) = some (ret_R_RestOf (desc (fun x => find x 0 (rows 0 us)) d p low high).1 (desc (fun x => find x 0 (rows 0 us)) d p low high).2) := by
  intro d
  have hr := rows_len us 0
  induction d with
  | zero =>
    intro m low high hm hd
    cases m with
    | zero => omega
    | succ m =>
    have c1 : decide (p + ((0 : Nat) : Int) - 1 ≥ p) = false := decide_eq_false (by omega)
    rw [L_R_RestOf_0_step]
    simp only [bcond_if, c1, Bool.false_eq_true, if_false]
    rfl
  | succ d ih =>
    intro m low high hm hd
    cases m with
    | zero => omega
    | succ m =>
    have c1 : decide (p + ((d + 1 : Nat) : Int) - 1 ≥ p) = true := decide_eq_true (by omega)
    have e : p + ((d + 1 : Nat) : Int) - 1 = p + d := by omega
    have w1 : IntKind.i64.wrap (p + d - 1) = p + d - 1 := w64 (by omega) (by omega)
    have fb := find_le (rows 0 us) (p + d) 0 (by omega)
    have w2 : IntKind.i64.wrap (find (p + d) 0 (rows 0 us) + 1) = find (p + d) 0 (rows 0 us) + 1 := w64 (by omega) (by omega)
    rw [L_R_RestOf_0_step, c1, e, where_eq us hl]
    simp only [bcond_if, if_true, Option.bind_some, res_R_Where_0_ret, w1, w2, desc]
    by_cases h0 : 0 ≤ find (p + d) 0 (rows 0 us)
    · have h0' : find (p + d) 0 (rows 0 us) ≥ 0 := h0
      by_cases h1 : high = 0
      · simp [h0, h0', h1, ih m _ _ (by omega) (by omega)]
      · simp [h0, h0', h1, ih m _ _ (by omega) (by omega)]
    · have h0' : ¬ find (p + d) 0 (rows 0 us) ≥ 0 := h0
      simp [h0, h0', ih m _ _ (by omega) (by omega)]
theorem restof_eq (us : List Int) (hl : us.length ≤ 1048576) (p q : Int) (hp0 : 0 ≤ p) (hq : p ≤ q) (hq1 : q ≤ 1048576) : C_R_RestOf F_R_RestOf us p q = some (ret_R_RestOf (desc (fun x => find x 0 (rows 0 us)) (q - p).toNat p 0 0).1 (desc (fun x => find x 0 (rows 0 us)) (q - p).toNat p 0 0).2) := by
  obtain ⟨m, hm⟩ := big_succ (n := 1048577) (by omega)
  rw [e_R_RestOf, w64 (by omega) (by omega)]
  have := down_loop us hl p hp0 (by omega) big (q - p).toNat big 0 0 (by omega) (by omega)
  rw [show p + ((q - p).toNat : Int) - 1 = q - 1 from by omega] at this
  exact this
end Go.Ev.Axis
