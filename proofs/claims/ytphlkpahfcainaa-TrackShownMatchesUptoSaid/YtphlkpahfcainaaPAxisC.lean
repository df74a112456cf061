/- Changes of an axis: the plain side, third part: units, rows, and where a row is. -/
import Derived.Test.YtphlkpahfcainaaPAxisB
namespace Go.Ev.Axis
open Go.Ev
set_option linter.unusedVariables false
set_option linter.unusedSimpArgs false

def units : Steps → List Int
  | [] => []
  | s :: l => List.replicate (sn s).toNat (sk s) ++ units l
def rows : Int → List Int → List Int
  | _, [] => []
  | o, u :: us => if u = 0 then o :: rows (o + 1) us else if u = 1 then (-1) :: rows o us else rows (o + 1) us
def ahead : Int → List Int → List Int
  | _, [] => []
  | o, u :: us => if u = 0 then o :: ahead (o + 1) us else if u = 1 then o :: ahead o us else ahead (o + 1) us
def find (p : Int) : Int → List Int → Int
  | _, [] => -1
  | t, r :: rs => if r = p then t else find p (t + 1) rs
theorem units_len : ∀ {l : Steps}, Good l → ((units l).length : Int) = sumN l
  | [], _ => rfl
  | s :: l, ⟨⟨_, n1, _⟩, g⟩ => by
    have := units_len g
    simp only [units, List.length_append, List.length_replicate, sumN]
    omega

theorem units_in (l : Steps) (n m1 i : Nat) (k N : Int) (hi : i < l.length) (hk : kind l i = k) (hN : 0 ≤ N ∧ N ≤ 4294967296) : ∀ (d j m : Nat) (out : List Int), (j : Int) + d = N → d < m → out.length + d ≤ 1048576 → i < 1048576 →
    L31_1 n m1 m l out i (l.length : Int) i N j = L31_0 n m1 l (out ++ List.replicate d k) (l.length : Int) ((i + 1 : Nat) : Int) := by
  intro d
  induction d with
  | zero =>
    intro j m out hj hm hl hi2
    cases m with
    | zero => omega
    | succ m =>
    have c1 : decide ((j : Int) < N) = false := decide_eq_false (by omega)
    rw [L31_1_step]
    simp only [bcond_if, c1, Bool.false_eq_true, if_false, List.replicate_zero, List.append_nil]
    rw [wnat (x := (i : Int) + 1) (n := i + 1) (by omega) (by omega)]
  | succ d ih =>
    intro j m out hj hm hl hi2
    cases m with
    | zero => omega
    | succ m =>
    have c1 : decide ((j : Int) < N) = true := decide_eq_true (by omega)
    have ek : (at_ (e := YSpan) l (i : Int)).1 = kind l i := rfl
    rw [L31_1_step]
    simp only [bcond_if, inb, hi, c1, if_true, ek, hk]
    rw [if_pos (by simp; omega), wnat (x := (j : Int) + 1) (n := j + 1) (by omega) (by omega), ih (j + 1) m (out ++ [k]) (by omega) (by omega) (by simp; omega) hi2]
    rw [List.append_assoc]
    rfl
theorem units_loop (l : Steps) (hl : l.length ≤ 1048576) (g : Good l) (n : Nat) (hn : 1048577 < n) : ∀ (d i m : Nat) (out : List Int), i + d = l.length → d < m → (out.length : Int) + sumN (l.drop i) ≤ 1048576 →
    L31_0 n m l out (l.length : Int) i = some (ret31 (out ++ units (l.drop i))) := by
  intro d
  induction d with
  | zero =>
    intro i m out hi hm hb
    cases m with
    | zero => omega
    | succ m =>
    have : i = l.length := by omega
    subst this
    have c1 : decide ((l.length : Int) < (l.length : Int)) = false := decide_eq_false (by omega)
    rw [L31_0_step, List.drop_length]
    simp [bcond_if, c1, units]
  | succ d ih =>
    intro i m out hi hm hb
    cases m with
    | zero => omega
    | succ m =>
    have hil : i < l.length := by omega
    have c1 : decide ((i : Int) < (l.length : Int)) = true := decide_eq_true (by omega)
    have en : (at_ (e := YSpan) l (i : Int)).2 = num l i := rfl
    obtain ⟨k1, n1, n2⟩ := good_at g hil
    have hp := sum_pos (good_drop g (i + 1))
    rw [drop_cons l hil] at hb ⊢
    simp only [sumN, sn_mk, units, sk_mk] at hb ⊢
    rw [L31_0_step]
    simp only [bcond_if, inb, hil, c1, if_true, en]
    have := units_in l n m i (kind l i) (num l i) hil rfl (by omega) (num l i).toNat 0 n out (by omega) (by omega) (by omega) (by omega)
    rw [show ((0 : Nat) : Int) = 0 from rfl] at this
    rw [this, ih (i + 1) m _ (by omega) (by omega) (by simp; omega), List.append_assoc]
theorem units_eq (l : Steps) (hl : l.length ≤ 1048576) (h : E l = 0) (hs : sumN l ≤ 1048576) : C31 F31 l = some (ret31 (units l)) := by
  obtain ⟨m, hm⟩ := big_succ (n := 1048577) (by omega)
  obtain ⟨g, hb, ha⟩ := E_good h
  rw [e31]
  have := units_loop l hl g big (by omega) l.length 0 big [] (by omega) (by omega) (by simpa using hs)
  simpa using this

theorem at_int (l : List Int) (i : Nat) : at_ (e := .int .i64) l (i : Int) = l.getD i 0 := rfl
theorem drop_int (l : List Int) {i : Nat} (h : i < l.length) : l.drop i = l.getD i 0 :: l.drop (i + 1) := by
  rw [List.drop_eq_getElem_cons h]
  simp [List.getD_eq_getElem?_getD, h]

theorem olds_loop (us : List Int) (hl : us.length ≤ 1048576) (n : Nat) : ∀ (d i m : Nat) (r a : List Int) (o : Int), i + d = us.length → d < m → r.length ≤ i → a.length ≤ i → 0 ≤ o → o ≤ i →
    L85_0 n m us r a o (us.length : Int) i = some (ret85 (r ++ rows o (us.drop i)) (a ++ ahead o (us.drop i))) := by
  intro d
  induction d with
  | zero =>
    intro i m r a o hi hm hr ha ho1 ho2
    cases m with
    | zero => omega
    | succ m =>
    have : i = us.length := by omega
    subst this
    have c1 : decide ((us.length : Int) < (us.length : Int)) = false := decide_eq_false (by omega)
    rw [L85_0_step, List.drop_length]
    simp [bcond_if, c1, rows, ahead]
  | succ d ih =>
    intro i m r a o hi hm hr ha ho1 ho2
    cases m with
    | zero => omega
    | succ m =>
    have hil : i < us.length := by omega
    have c1 : decide ((i : Int) < (us.length : Int)) = true := decide_eq_true (by omega)
    have w1 : IntKind.i64.wrap ((i : Int) + 1) = ((i + 1 : Nat) : Int) := wnat (by omega) (by omega)
    have w2 : IntKind.i64.wrap (o + 1) = o + 1 := w64 (by omega) (by omega)
    rw [L85_0_step, drop_int us hil]
    simp only [bcond_if, inb, hil, c1, if_true, w1, w2, at_int, rows, ahead]
    generalize us.getD i 0 = u
    by_cases h0 : u = 0
    · subst h0
      simp only [beq_self_eq_true, if_true]
      rw [if_pos (by simp; omega), if_pos (by simp; omega), ih (i + 1) m _ _ _ (by omega) (by omega) (by simp; omega) (by simp; omega) (by omega) (by omega)]
      simp
    · by_cases h1 : u = 1
      · subst h1
        have e0 : ((1 : Int) == 0) = false := rfl
        simp only [e0, beq_self_eq_true, if_true, Bool.false_eq_true, if_false]
        rw [if_pos (by simp; omega), if_pos (by simp; omega), ih (i + 1) m _ _ _ (by omega) (by omega) (by simp; omega) (by simp; omega) (by omega) (by omega)]
        simp
      · have := ih (i + 1) m r a (o + 1) (by omega) (by omega) (by omega) (by omega) (by omega) (by omega)
        simpa [h0, h1] using this
theorem olds_eq (us : List Int) (hl : us.length ≤ 1048576) : C85 F85 us = some (ret85 (rows 0 us) (ahead 0 us)) := by
  obtain ⟨m, hm⟩ := big_succ (n := 1048577) (by omega)
  rw [e85]
  have := olds_loop us hl big us.length 0 big [] [] 0 (by omega) (by omega) (by simp) (by simp) (by omega) (by omega)
  simpa using this

theorem rows_len : ∀ (us : List Int) (o : Int), (rows o us).length ≤ us.length
  | [], o => by simp [rows]
  | u :: us, o => by
    have h1 := rows_len us (o + 1)
    have h2 := rows_len us o
    simp only [rows]
    split
    · simp; exact h1
    · split
      · simp; exact h2
      · simp; omega
theorem where_loop (rs : List Int) (hl : rs.length ≤ 1048576) (p : Int) (n : Nat) : ∀ (d i m : Nat), i + d = rs.length → d < m → L33_0 F85 n m p rs (rs.length : Int) i = some (ret33 (find p i (rs.drop i))) := by
  intro d
  induction d with
  | zero =>
    intro i m hi hm
    cases m with
    | zero => omega
    | succ m =>
    have : i = rs.length := by omega
    subst this
    have c1 : decide ((rs.length : Int) < (rs.length : Int)) = false := decide_eq_false (by omega)
    rw [L33_0_step, List.drop_length]
    simp [bcond_if, c1, find]
  | succ d ih =>
    intro i m hi hm
    cases m with
    | zero => omega
    | succ m =>
    have hil : i < rs.length := by omega
    have c1 : decide ((i : Int) < (rs.length : Int)) = true := decide_eq_true (by omega)
    have w1 : IntKind.i64.wrap ((i : Int) + 1) = ((i + 1 : Nat) : Int) := wnat (by omega) (by omega)
    rw [L33_0_step, drop_int rs hil]
    simp only [bcond_if, inb, hil, c1, if_true, w1, at_int, find, ih (i + 1) m (by omega) (by omega)]
    by_cases h0 : rs.getD i 0 = p
    · rw [if_pos (by simpa using h0), if_pos h0]
    · rw [if_neg (by simpa using h0), if_neg h0]
      rfl
theorem where_eq (us : List Int) (hl : us.length ≤ 1048576) (p : Int) : C33 F33 us p = some (ret33 (find p 0 (rows 0 us))) := by
  obtain ⟨m, hm⟩ := big_succ (n := 1048577) (by omega)
  have hr := rows_len us 0
  rw [e33, olds_eq us hl]
  simp only [Option.bind_some, res85_0_ret]
  have := where_loop (rows 0 us) (by omega) p big (rows 0 us).length 0 big (by omega) (by omega)
  simpa using this

/-- Rows behind what is asked for are not it. -/
theorem find_none : ∀ (us : List Int) (p o t : Int), 0 ≤ p → p < o → find p t (rows o us) = -1
  | [], p, o, t, _, _ => rfl
  | u :: us, p, o, t, h0, h1 => by
    simp only [rows]
    split
    · rw [find, if_neg (by omega)]; exact find_none us p (o + 1) (t + 1) h0 (by omega)
    · split
      · rw [find, if_neg (by omega)]; exact find_none us p o (t + 1) h0 h1
      · exact find_none us p (o + 1) t h0 (by omega)
theorem find_keep : ∀ (N : Nat) (us : List Int) (p o t : Int), 0 ≤ p → o ≤ p → find p t (rows o (List.replicate N 0 ++ us)) = if p < o + N then t + p - o else find p (t + N) (rows (o + N) us)
  | 0, us, p, o, t, h0, h1 => by simp; omega
  | N + 1, us, p, o, t, h0, h1 => by
    simp only [List.replicate_succ, List.cons_append, rows, if_true, find]
    by_cases h : o = p
    · rw [if_pos h, if_pos (by omega)]; omega
    · rw [if_neg h, find_keep N us p (o + 1) (t + 1) h0 (by omega)]
      by_cases h2 : p < o + 1 + N
      · rw [if_pos h2, if_pos (by omega)]; omega
      · rw [if_neg h2, if_neg (by omega), show t + 1 + (N : Int) = t + ((N + 1 : Nat) : Int) from by omega, show o + 1 + (N : Int) = o + ((N + 1 : Nat) : Int) from by omega]
theorem find_add : ∀ (N : Nat) (us : List Int) (p o t : Int), 0 ≤ p → find p t (rows o (List.replicate N 1 ++ us)) = find p (t + N) (rows o us)
  | 0, us, p, o, t, h0 => by simp
  | N + 1, us, p, o, t, h0 => by
    have e : ¬ (1 : Int) = 0 := by omega
    simp only [List.replicate_succ, List.cons_append, rows, e, if_true, if_false, find]
    rw [if_neg (by omega), find_add N us p o (t + 1) h0, show t + 1 + (N : Int) = t + ((N + 1 : Nat) : Int) from by omega]
theorem rows_cut : ∀ (N : Nat) (us : List Int) (o : Int), rows o (List.replicate N 2 ++ us) = rows (o + N) us
  | 0, us, o => by simp
  | N + 1, us, o => by
    have e : ¬ (2 : Int) = 0 := by omega
    have e1 : ¬ (2 : Int) = 1 := by omega
    simp only [List.replicate_succ, List.cons_append, rows, e, e1, if_false]
    rw [rows_cut N us (o + 1), show o + 1 + (N : Int) = o + ((N + 1 : Nat) : Int) from by omega]
theorem pl_find : ∀ (l : Steps), Good l → ∀ (p f t : Int), 0 ≤ p → f ≤ p → find p t (rows f (units l)) = pl p f t l
  | [], _, p, f, t, _, _ => rfl
  | s :: l, ⟨⟨k, n1, n2⟩, g⟩, p, f, t, h0, h1 => by
    have e : (((sn s).toNat : Nat) : Int) = sn s := by omega
    simp only [units, pl]
    rcases k with hk | hk | hk <;> rw [hk]
    · rw [find_keep _ _ _ _ _ h0 h1, e]
      simp only [show ¬ (0 : Int) = 1 from by omega, if_false, if_true]
      split
      · rfl
      · exact pl_find l g p _ _ h0 (by omega)
    · rw [find_add _ _ _ _ _ h0, e]
      simp only [if_true]
      exact pl_find l g p _ _ h0 h1
    · rw [rows_cut, e]
      simp only [show ¬ (2 : Int) = 1 from by omega, show ¬ (2 : Int) = 0 from by omega, if_false]
      split
      · exact find_none _ _ _ _ h0 (by omega)
      · exact pl_find l g p _ _ h0 (by omega)
end Go.Ev.Axis
