
import Derived.Test.YtpmeeopafdgbpaaDoorPWord
import Derived.Test.YtpmeeopafdgbpaaDoorPFlow
namespace Go.Ev.Utf
open Go.Ev
set_option linter.unusedVariables false
set_option linter.unusedSimpArgs false
set_option maxRecDepth 100000
/-- Each code point is read well. -/
def vd : Nat → List UInt8 → Bool
  | 0, _ => true
  | k + 1, t => if t = [] then true else if mdec t = (65533, 1) then false else vd k (t.drop (mdec t).2)
theorem mdec_pos (t : List UInt8) (h : 1 ≤ t.length) : 1 ≤ (mdec t).2 ∧ (mdec t).2 ≤ t.length := by
  obtain ⟨_, h2⟩ := dec_mdec t h
  have := (dec_eq t h).2
  omega
theorem vd_fuel : ∀ (k j : Nat) (t : List UInt8), t.length < k → t.length < j → vd k t = vd j t
  | 0, _, t, h, _ => by omega
  | _, 0, t, _, h => by omega
  | k + 1, j + 1, t, h1, h2 => by
    rw [vd, vd]
    by_cases h : t = []
    · rw [if_pos h, if_pos h]
    · rw [if_neg h, if_neg h]
      have hl : 1 ≤ t.length := by
        cases t with
        | nil => exact absurd rfl h
        | cons x t => simp
      have := mdec_pos t hl
      rw [vd_fuel k j (t.drop (mdec t).2) (by rw [List.length_drop]; omega) (by rw [List.length_drop]; omega)]
def V (t : List UInt8) : Bool := vd (t.length + 1) t
theorem V_step (t : List UInt8) (h : 1 ≤ t.length) : V t = if mdec t = (65533, 1) then false else V (t.drop (mdec t).2) := by
  have hne : ¬ t = [] := by rintro rfl; simp at h
  have hp := mdec_pos t h
  unfold V
  rw [vd, if_neg hne, vd_fuel t.length ((t.drop (mdec t).2).length + 1) _ (by rw [List.length_drop]; omega) (by omega)]
theorem V_asc1 (t : List UInt8) (h : 1 ≤ t.length) (h0 : bn t 0 < 128) : V t = V (t.drop 1) := by
  have hm : mdec t = (bn t 0, 1) := by unfold mdec; rw [if_pos h0]
  rw [V_step t h, hm, if_neg (by intro e; injection e with e1 _; omega)]
theorem bn_drop (t : List UInt8) (i k : Nat) : bn (t.drop i) k = bn t (i + k) := by
  unfold bn
  rw [List.getD_eq_getElem?_getD, List.getD_eq_getElem?_getD, List.getElem?_drop]
theorem V_asc : ∀ (k : Nat) (t : List UInt8), k ≤ t.length → (∀ i, i < k → bn t i < 128) → V t = V (t.drop k)
  | 0, t, _, _ => by rw [List.drop_zero]
  | k + 1, t, h, ha => by
    rw [V_asc1 t (by omega) (ha 0 (by omega)), V_asc k (t.drop 1) (by rw [List.length_drop]; omega) (fun i hi => by rw [bn_drop]; exact ha (1 + i) (by omega)), List.drop_drop, Nat.add_comm]
theorem V_8 (t : List UInt8) (h : 8 ≤ t.length) (ha : asc8 t) : V t = V (t.drop 8) := V_asc 8 t h ha
theorem drop_take (t : List UInt8) (k : Nat) : List.drop k (List.take (Int.toNat (t.length : Int)) t) = t.drop k := by
  rw [Int.toNat_natCast, List.take_length]
theorem t1 : Int.toNat 1 = 1 := rfl
theorem t2 : Int.toNat 2 = 2 := rfl
theorem t3 : Int.toNat 3 = 3 := rfl
theorem t4 : Int.toNat 4 = 4 := rfl
theorem t8 : Int.toNat 8 = 8 := rfl
theorem t16 : Int.toNat 16 = 16 := rfl
theorem t24 : Int.toNat 24 = 24 := rfl
theorem t32 : Int.toNat 32 = 32 := rfl
theorem mask_eq : (9259542123273814144 : Int) = (mask : Int) := rfl
theorem mask_lt : mask < 2 ^ 64 := by decide
theorem beq0 (n : Nat) : (((n : Nat) : Int) == 0) = decide (n = 0) := by
  by_cases h : n = 0
  · rw [h]; rfl
  · rw [decide_eq_false h]; exact beq_eq_false_iff_ne.2 (by omega)
/-- A step behind the words. -/
theorem L1_eq (n m1 k : Nat) (ih : ∀ t : List UInt8, t.length ≤ k → L_unicode_utf8_ValidString_0 n m1 t = some (ret_unicode_utf8_ValidString (V t))) : ∀ (j : Nat) (m2 : Nat) (t : List UInt8), t.length ≤ j → t.length ≤ k → j < m2 →
    L_unicode_utf8_ValidString_1 n m1 m2 t = some (ret_unicode_utf8_ValidString (V t)) := by
  intro j
  induction j with
  | zero =>
    intro m2 t h1 h2 h3
    obtain ⟨m2, rfl⟩ : ∃ q, m2 = q + 1 := ⟨m2 - 1, by omega⟩
    have d : decide ((t.length : Int) > 32) = false := decide_eq_false (by omega)
    rw [L_unicode_utf8_ValidString_1_step, d]
    exact ih t h2
  | succ j ihj =>
    intro m2 t h1 h2 h3
    obtain ⟨m2, rfl⟩ : ∃ q, m2 = q + 1 := ⟨m2 - 1, by omega⟩
    by_cases hl : 32 < t.length
    · have d : decide ((t.length : Int) > 32) = true := decide_eq_true (by omega)
      have w0 := word_eq t (by omega)
      have w1 := word_eq (t.drop 8) (by rw [List.length_drop]; omega)
      have w2 := word_eq (t.drop 16) (by rw [List.length_drop]; omega)
      have w3 := word_eq (t.drop 24) (by rw [List.length_drop]; omega)
      have q : ∀ i : Int, 0 ≤ i → i ≤ 32 → 0 ≤ (t.length : Int) ∧ (t.length : Int) ≤ (t.length : Int) ∧ 0 ≤ i ∧ i ≤ (t.length : Int) := fun i h1 h2 => by omega
      have l0 := wd_lt t
      have l1 := wd_lt (t.drop 8)
      have l2 := wd_lt (t.drop 16)
      have l3 := wd_lt (t.drop 24)
      have m01 := Nat.or_lt_two_pow l0 l1
      have m23 := Nat.or_lt_two_pow l2 l3
      rw [L_unicode_utf8_ValidString_1_step, d, if_pos (q 8 (by decide) (by decide)), if_pos (q 16 (by decide) (by decide)), if_pos (q 24 (by decide) (by decide)), t8, t16, t24, t32, drop_take, drop_take, drop_take, drop_take, w0, w1, w2, w3]
      simp only [Option.bind_some, res_unicode_utf8_word_string_0_ret, mask_eq]
      rw [or64 _ _ l0 l1, or64 _ _ l2 l3, or64 _ _ m01 m23, and64 _ _ (Nat.or_lt_two_pow m01 m23) mask_lt, beq0, if_pos (q 32 (by decide) (by decide))]
      by_cases hz : ((wd t ||| wd (t.drop 8)) ||| (wd (t.drop 16) ||| wd (t.drop 24))) &&& mask = 0
      · rw [decide_eq_true hz]
        have hor : ∀ a b : Nat, (a ||| b) &&& mask = 0 → a &&& mask = 0 ∧ b &&& mask = 0 := fun a b h => by
          rw [Nat.and_or_distrib_right] at h
          exact Nat.or_eq_zero_iff.1 h
        obtain ⟨z1, z2⟩ := hor _ _ hz
        obtain ⟨y0, y1⟩ := hor _ _ z1
        obtain ⟨y2, y3⟩ := hor _ _ z2
        have hv : V t = V (t.drop 32) := by
          rw [V_8 t (by omega) (wd_asc _ y0), V_8 (t.drop 8) (by rw [List.length_drop]; omega) (wd_asc _ y1), List.drop_drop, V_8 (t.drop 16) (by rw [List.length_drop]; omega) (wd_asc _ y2), List.drop_drop, V_8 (t.drop 24) (by rw [List.length_drop]; omega) (wd_asc _ y3), List.drop_drop]
        rw [hv]
        exact ihj m2 (t.drop 32) (by rw [List.length_drop]; omega) (by rw [List.length_drop]; omega) (by omega)
      · rw [decide_eq_false hz]
        exact ih t h2
    · have d : decide ((t.length : Int) > 32) = false := decide_eq_false (by omega)
      rw [L_unicode_utf8_ValidString_1_step, d]
      exact ih t h2
def clsX (b : Nat) : Bool := decide (b < 128) || decide (x0 b < 240) || (e8 b == 65533 && sz b == 1)
theorem clsX_all : (List.range 256).all clsX = true := by kernel_rfl
def clsZ (b : Nat) : Bool := decide (b < 128) || decide (240 ≤ x0 b) || (sz b == 2 || sz b == 3 || sz b == 4)
theorem clsZ_all : (List.range 256).all clsZ = true := by kernel_rfl
/-- A step where the first byte is a letter of ASCII. -/
theorem V0_asc (n m : Nat) (t : List UInt8) (h : 1 ≤ t.length) (h0 : bn t 0 < 128) (hn : t.length < n) (ih : ∀ u : List UInt8, u.length ≤ t.length - 1 → L_unicode_utf8_ValidString_0 n m u = some (ret_unicode_utf8_ValidString (V u))) :
    L_unicode_utf8_ValidString_0 n (m + 1) t = some (ret_unicode_utf8_ValidString (V t)) := by
  have d0 : decide ((t.length : Int) > 0) = true := decide_eq_true (by omega)
  have p0 : (0 : Int) ≤ 0 ∧ (0 : Int) < (t.length : Int) := by omega
  have d1 : decide (((List.getD t (Int.toNat 0) 0).toNat : Int) < 128) = true := decide_eq_true (by
    have : (List.getD t (Int.toNat 0) 0).toNat = bn t 0 := rfl
    omega)
  have p1 : 0 ≤ (t.length : Int) ∧ (t.length : Int) ≤ (t.length : Int) ∧ 0 ≤ (1 : Int) ∧ (1 : Int) ≤ (t.length : Int) := by omega
  rw [L_unicode_utf8_ValidString_0_step, d0, d1, if_pos p0, if_pos p1]
  simp only [t1, t8, t16, drop_take]
  rw [V_asc1 t h h0]
  have hu : (t.drop 1).length = t.length - 1 := List.length_drop
  generalize t.drop 1 = u at hu ⊢
  have ihu := ih u (by omega)
  show bcond (decide ((u.length : Int) > 8) == true) _ _ = _
  by_cases c1 : 8 < u.length
  · have p2 : 0 ≤ (u.length : Int) ∧ (u.length : Int) ≤ (u.length : Int) ∧ 0 ≤ (8 : Int) ∧ (8 : Int) ≤ (u.length : Int) := by omega
    rw [decide_eq_true (show (u.length : Int) > 8 by omega), word_eq u (by omega), if_pos p2]
    simp only [Option.bind_some, res_unicode_utf8_word_string_0_ret, mask_eq]
    rw [and64 _ _ (wd_lt u) mask_lt, beq0]
    have hv : (u.drop 8).length = u.length - 8 := List.length_drop
    by_cases z1 : wd u &&& mask = 0
    · rw [decide_eq_true z1, V_8 u (by omega) (wd_asc u z1)]
      have ihv := ih (u.drop 8) (by omega)
      generalize u.drop 8 = v at hv ihv ⊢
      show bcond (decide ((v.length : Int) > 16) == true) _ _ = _
      by_cases c2 : 16 < v.length
      · have p3 : 0 ≤ (v.length : Int) ∧ (v.length : Int) ≤ (v.length : Int) ∧ 0 ≤ (8 : Int) ∧ (8 : Int) ≤ (v.length : Int) := by omega
        have p4 : 0 ≤ (v.length : Int) ∧ (v.length : Int) ≤ (v.length : Int) ∧ 0 ≤ (16 : Int) ∧ (16 : Int) ≤ (v.length : Int) := by omega
        have l0 := wd_lt v
        have l1 := wd_lt (v.drop 8)
        rw [decide_eq_true (show (v.length : Int) > 16 by omega), if_pos p3, if_pos p4, word_eq v (by omega), word_eq (v.drop 8) (by rw [List.length_drop]; omega)]
        simp only [Option.bind_some, res_unicode_utf8_word_string_0_ret]
        rw [or64 _ _ l0 l1, and64 _ _ (Nat.or_lt_two_pow l0 l1) mask_lt, beq0]
        by_cases z2 : (wd v ||| wd (v.drop 8)) &&& mask = 0
        · rw [decide_eq_true z2]
          have hz := z2
          rw [Nat.and_or_distrib_right] at hz
          obtain ⟨y0, y1⟩ := Nat.or_eq_zero_iff.1 hz
          have hvv : V v = V (v.drop 16) := by
            rw [V_8 v (by omega) (wd_asc _ y0), V_8 (v.drop 8) (by rw [List.length_drop]; omega) (wd_asc _ y1), List.drop_drop]
          rw [hvv]
          exact L1_eq n m (t.length - 1) ih (v.drop 16).length n (v.drop 16) (Nat.le_refl _) (by rw [List.length_drop]; omega) (by rw [List.length_drop]; omega)
        · rw [decide_eq_false z2]
          exact ihv
      · rw [decide_eq_false (show ¬ (v.length : Int) > 16 by omega)]
        exact ihv
    · rw [decide_eq_false z1]
      exact ihu
  · rw [decide_eq_false (show ¬ (u.length : Int) > 8 by omega)]
    exact ihu
end Go.Ev.Utf
namespace Go.Ev.Utf
open Go.Ev Go.Ev.Track
set_option linter.unusedVariables false
set_option linter.unusedSimpArgs false
set_option maxRecDepth 100000
/-- A step where the first byte is no letter of ASCII. -/
theorem V0_tab (n m : Nat) (t : List UInt8) (h : 1 ≤ t.length) (h0 : ¬ bn t 0 < 128) (ih : ∀ u : List UInt8, u.length ≤ t.length - 1 → L_unicode_utf8_ValidString_0 n m u = some (ret_unicode_utf8_ValidString (V u))) :
    L_unicode_utf8_ValidString_0 n (m + 1) t = some (ret_unicode_utf8_ValidString (V t)) := by
  have f0 : at_ (e := .int .u8) vtabF ((List.getD t (Int.toNat 0) 0).toNat : Int) = x0 (bn t 0) := rfl
  have f1 : ((List.getD t (Int.toNat 1) 0).toNat : Int) = (bn t 1 : Int) := rfl
  have f2 : ((List.getD t (Int.toNat 2) 0).toNat : Int) = (bn t 2 : Int) := rfl
  have f3 : ((List.getD t (Int.toNat 3) 0).toNat : Int) = (bn t 3 : Int) := rfl
  have fs : IntKind.i64.wrap (andI .u8 (x0 (bn t 0)) 7) = sz (bn t 0) := rfl
  have fl : (at_ (e := .pair (.int .u8) (.int .u8)) vtabA (shrI .u8 (x0 (bn t 0)) 4)).1 = lo (bn t 0) := rfl
  have fh : (at_ (e := .pair (.int .u8) (.int .u8)) vtabA (shrI .u8 (x0 (bn t 0)) 4)).2 = hi (bn t 0) := rfl
  have d0 : decide ((t.length : Int) > 0) = true := decide_eq_true (by omega)
  have p0 : (0 : Int) ≤ 0 ∧ (0 : Int) < (t.length : Int) := by omega
  have d1 : decide (((List.getD t (Int.toNat 0) 0).toNat : Int) < 128) = false := decide_eq_false (by
    have : (List.getD t (Int.toNat 0) 0).toNat = bn t 0 := rfl
    omega)
  have hlt : (List.getD t (Int.toNat 0) 0).toNat < 256 := UInt8.toNat_lt _
  have lF : ((List.length vtabF : Nat) : Int) = 256 := by rw [lenF]; rfl
  have lA : ((List.length vtabA : Nat) : Int) = 16 := by rw [lenA]; rfl
  have pF : (0 : Int) ≤ ((List.getD t (Int.toNat 0) 0).toNat : Int) ∧ ((List.getD t (Int.toNat 0) 0).toNat : Int) < (List.length vtabF : Int) := by omega
  have cX : clsX (bn t 0) = true := all256 clsX_all (t.getD 0 0)
  have cZ : clsZ (bn t 0) = true := all256 clsZ_all (t.getD 0 0)
  have cS : (List.range 256).all (fun b => decide (0 ≤ shrI .u8 (x0 b) 4) && decide (shrI .u8 (x0 b) 4 < 16)) = true := by kernel_rfl
  have cS1 : (decide (0 ≤ shrI .u8 (x0 (bn t 0)) 4) && decide (shrI .u8 (x0 (bn t 0)) 4 < 16)) = true := all256 cS (t.getD 0 0)
  simp only [Bool.and_eq_true, decide_eq_true_eq] at cS1
  have pA : 0 ≤ shrI .u8 (x0 (bn t 0)) 4 ∧ shrI .u8 (x0 (bn t 0)) 4 < (List.length vtabA : Int) := by rw [lA]; exact cS1
  have hV : V t = if gdec t = (65533, 1) then false else V (t.drop (gdec t).2) := by rw [gdec_mdec t h]; exact V_step t h
  rw [L_unicode_utf8_ValidString_0_step, d0, d1, if_pos p0, if_pos pF]
  simp only [f0, fs, fl, fh, f1, f2, f3, t2, t3, t4, drop_take]
  rw [if_pos pA, hV]
  have bad : gdec t = (65533, 1) → some (ret_unicode_utf8_ValidString false) = some (ret_unicode_utf8_ValidString (if gdec t = (65533, 1) then false else V (t.drop (gdec t).2))) := fun e => by rw [if_pos e]
  have good : ∀ c k : Nat, gdec t = (c, k) → 2 ≤ k → k ≤ t.length → L_unicode_utf8_ValidString_0 n m (t.drop k) = some (ret_unicode_utf8_ValidString (if gdec t = (65533, 1) then false else V (t.drop (gdec t).2))) := fun c k e h1 h2 => by
    rw [e, if_neg (by intro e; injection e with _ e2; omega)]
    exact ih _ (by rw [List.length_drop]; omega)
  show bcond (sz (bn t 0) == 2) _ _ = _
  by_cases h2 : 240 ≤ x0 (bn t 0)
  · have hs : e8 (bn t 0) = 65533 ∧ sz (bn t 0) = 1 := by
      unfold clsX at cX
      rw [decide_eq_false h0, decide_eq_false (by omega)] at cX
      simpa using cX
    rw [hs.2]
    refine bad ?_
    unfold gdec
    rw [if_neg h0, if_pos h2, hs.1]; rfl
  have hsz : sz (bn t 0) = 2 ∨ sz (bn t 0) = 3 ∨ sz (bn t 0) = 4 := by
    unfold clsZ at cZ
    rw [decide_eq_false h0, decide_eq_false h2] at cZ
    simp only [Bool.false_or, Bool.or_eq_true, beq_iff_eq] at cZ
    omega
  have hg : gdec t = if (t.length : Int) < sz (bn t 0) then (65533, 1)
      else if (bn t 1 : Int) < lo (bn t 0) ∨ hi (bn t 0) < (bn t 1 : Int) then (65533, 1)
      else if sz (bn t 0) ≤ 2 then ((bn t 0 % 32) * 64 + bn t 1 % 64, 2)
      else if bn t 2 < 128 ∨ 191 < bn t 2 then (65533, 1)
      else if sz (bn t 0) ≤ 3 then ((bn t 0 % 16) * 4096 + (bn t 1 % 64) * 64 + bn t 2 % 64, 3)
      else if bn t 3 < 128 ∨ 191 < bn t 3 then (65533, 1)
      else ((bn t 0 % 8) * 262144 + (bn t 1 % 64) * 4096 + (bn t 2 % 64) * 64 + bn t 3 % 64, 4) := by
    unfold gdec; rw [if_neg h0, if_neg h2]
  have pk : ∀ i : Int, 0 ≤ i → i < (t.length : Int) → (0 : Int) ≤ i ∧ i < (t.length : Int) := fun i a b => ⟨a, b⟩
  have pd : ∀ i : Int, 0 ≤ i → i ≤ (t.length : Int) → 0 ≤ (t.length : Int) ∧ (t.length : Int) ≤ (t.length : Int) ∧ 0 ≤ i ∧ i ≤ (t.length : Int) := fun i a b => by omega
  rcases hsz with s | s | s
  · rw [s] at hg ⊢
    show bcond (decide ((t.length : Int) < 2) == false) _ _ = _
    by_cases a1 : (t.length : Int) < 2
    · rw [decide_eq_true a1]; exact bad (by rw [hg, if_pos a1])
    rw [decide_eq_false a1, if_pos (pk 1 (by decide) (by omega)), if_pos (pk 1 (by decide) (by omega)), if_pos (pd 2 (by decide) (by omega))]
    show bcond (decide ((bn t 1 : Int) < lo (bn t 0)) == false) _ _ = _
    by_cases a2 : (bn t 1 : Int) < lo (bn t 0)
    · rw [decide_eq_true a2]; exact bad (by rw [hg, if_neg a1, if_pos (.inl a2)])
    rw [decide_eq_false a2]
    show bcond (decide (hi (bn t 0) < (bn t 1 : Int))) _ _ = _
    by_cases a3 : hi (bn t 0) < (bn t 1 : Int)
    · rw [decide_eq_true a3]; exact bad (by rw [hg, if_neg a1, if_pos (.inr a3)])
    rw [decide_eq_false a3]
    exact good _ 2 (by rw [hg, if_neg a1, if_neg (fun z => z.elim a2 a3), if_pos (by decide)]) (by decide) (by omega)
  · rw [s] at hg ⊢
    show bcond (decide ((t.length : Int) < 3) == false) _ _ = _
    by_cases a1 : (t.length : Int) < 3
    · rw [decide_eq_true a1]; exact bad (by rw [hg, if_pos a1])
    rw [decide_eq_false a1, if_pos (pk 1 (by decide) (by omega)), if_pos (pk 1 (by decide) (by omega)), if_pos (pk 2 (by decide) (by omega)), if_pos (pk 2 (by decide) (by omega)), if_pos (pd 3 (by decide) (by omega))]
    show bcond (decide ((bn t 1 : Int) < lo (bn t 0)) == false) _ _ = _
    by_cases a2 : (bn t 1 : Int) < lo (bn t 0)
    · rw [decide_eq_true a2]; exact bad (by rw [hg, if_neg a1, if_pos (.inl a2)])
    rw [decide_eq_false a2]
    show bcond (decide (hi (bn t 0) < (bn t 1 : Int)) == false) _ _ = _
    by_cases a3 : hi (bn t 0) < (bn t 1 : Int)
    · rw [decide_eq_true a3]; exact bad (by rw [hg, if_neg a1, if_pos (.inr a3)])
    rw [decide_eq_false a3]
    have hh : ¬ ((bn t 1 : Int) < lo (bn t 0) ∨ hi (bn t 0) < (bn t 1 : Int)) := fun z => z.elim a2 a3
    show bcond (decide ((bn t 2 : Int) < 128) == false) _ _ = _
    by_cases a4 : (bn t 2 : Int) < 128
    · rw [decide_eq_true a4]; exact bad (by rw [hg, if_neg a1, if_neg hh, if_neg (by decide), if_pos (.inl (by omega))])
    rw [decide_eq_false a4]
    show bcond (decide ((191 : Int) < (bn t 2 : Int))) _ _ = _
    by_cases a5 : (191 : Int) < (bn t 2 : Int)
    · rw [decide_eq_true a5]; exact bad (by rw [hg, if_neg a1, if_neg hh, if_neg (by decide), if_pos (.inr (by omega))])
    rw [decide_eq_false a5]
    exact good _ 3 (by rw [hg, if_neg a1, if_neg hh, if_neg (by decide), if_neg (show ¬ (bn t 2 < 128 ∨ 191 < bn t 2) by omega), if_pos (by decide)]) (by decide) (by omega)
  · rw [s] at hg ⊢
    show bcond (decide ((t.length : Int) < 4) == false) _ _ = _
    by_cases a1 : (t.length : Int) < 4
    · rw [decide_eq_true a1]; exact bad (by rw [hg, if_pos a1])
    rw [decide_eq_false a1, if_pos (pk 1 (by decide) (by omega)), if_pos (pk 1 (by decide) (by omega)), if_pos (pk 2 (by decide) (by omega)), if_pos (pk 2 (by decide) (by omega)), if_pos (pk 3 (by decide) (by omega)), if_pos (pk 3 (by decide) (by omega)), if_pos (pd 4 (by decide) (by omega))]
    show bcond (decide ((bn t 1 : Int) < lo (bn t 0)) == false) _ _ = _
    by_cases a2 : (bn t 1 : Int) < lo (bn t 0)
    · rw [decide_eq_true a2]; exact bad (by rw [hg, if_neg a1, if_pos (.inl a2)])
    rw [decide_eq_false a2]
    show bcond (decide (hi (bn t 0) < (bn t 1 : Int)) == false) _ _ = _
    by_cases a3 : hi (bn t 0) < (bn t 1 : Int)
    · rw [decide_eq_true a3]; exact bad (by rw [hg, if_neg a1, if_pos (.inr a3)])
    rw [decide_eq_false a3]
    have hh : ¬ ((bn t 1 : Int) < lo (bn t 0) ∨ hi (bn t 0) < (bn t 1 : Int)) := fun z => z.elim a2 a3
    show bcond (decide ((bn t 2 : Int) < 128) == false) _ _ = _
    by_cases a4 : (bn t 2 : Int) < 128
    · rw [decide_eq_true a4]; exact bad (by rw [hg, if_neg a1, if_neg hh, if_neg (by decide), if_pos (.inl (by omega))])
    rw [decide_eq_false a4]
    show bcond (decide ((191 : Int) < (bn t 2 : Int)) == false) _ _ = _
    by_cases a5 : (191 : Int) < (bn t 2 : Int)
    · rw [decide_eq_true a5]; exact bad (by rw [hg, if_neg a1, if_neg hh, if_neg (by decide), if_pos (.inr (by omega))])
    rw [decide_eq_false a5]
    have h22 : ¬ (bn t 2 < 128 ∨ 191 < bn t 2) := by omega
    show bcond (decide ((bn t 3 : Int) < 128) == false) _ _ = _
    by_cases a6 : (bn t 3 : Int) < 128
    · rw [decide_eq_true a6]; exact bad (by rw [hg, if_neg a1, if_neg hh, if_neg (by decide), if_neg h22, if_neg (by decide), if_pos (.inl (by omega))])
    rw [decide_eq_false a6]
    show bcond (decide ((191 : Int) < (bn t 3 : Int))) _ _ = _
    by_cases a7 : (191 : Int) < (bn t 3 : Int)
    · rw [decide_eq_true a7]; exact bad (by rw [hg, if_neg a1, if_neg hh, if_neg (by decide), if_neg h22, if_neg (by decide), if_pos (.inr (by omega))])
    rw [decide_eq_false a7]
    exact good _ 4 (by rw [hg, if_neg a1, if_neg hh, if_neg (by decide), if_neg h22, if_neg (by decide), if_neg (show ¬ (bn t 3 < 128 ∨ 191 < bn t 3) by omega)]) (by decide) (by omega)
theorem V0_eq (n : Nat) : ∀ (k m : Nat) (t : List UInt8), t.length ≤ k → k < m → t.length < n → L_unicode_utf8_ValidString_0 n m t = some (ret_unicode_utf8_ValidString (V t)) := by
  intro k
  induction k with
  | zero =>
    intro m t h1 h2 h3
    obtain ⟨m, rfl⟩ : ∃ q, m = q + 1 := ⟨m - 1, by omega⟩
    obtain rfl : t = [] := List.eq_nil_of_length_eq_zero (by omega)
    rw [L_unicode_utf8_ValidString_0_step]; rfl
  | succ k ih =>
    intro m t h1 h2 h3
    obtain ⟨m, rfl⟩ : ∃ q, m = q + 1 := ⟨m - 1, by omega⟩
    by_cases hl : t.length = 0
    · obtain rfl : t = [] := List.eq_nil_of_length_eq_zero hl
      rw [L_unicode_utf8_ValidString_0_step]; rfl
    have ih' : ∀ u : List UInt8, u.length ≤ t.length - 1 → L_unicode_utf8_ValidString_0 n m u = some (ret_unicode_utf8_ValidString (V u)) := fun u hu => ih m u (by omega) (by omega) (by omega)
    by_cases h0 : bn t 0 < 128
    · exact V0_asc n m t (by omega) h0 h3 ih'
    · exact V0_tab n m t (by omega) h0 ih'
theorem valid_eq (t : List UInt8) (h : t.length ≤ 1048576) : C_unicode_utf8_ValidString F_unicode_utf8_ValidString t = some (ret_unicode_utf8_ValidString (V t)) := by
  rw [e_unicode_utf8_ValidString]
  have := big_ge (n := t.length + 1) (by omega)
  exact V0_eq big t.length big t (Nat.le_refl _) (by omega) (by omega)
end Go.Ev.Utf
