
import Derived.Test.YtpmeeopafdgbpaaDoorPValidB
import Derived.Test.YtpmeeopafdgbpaaDoorGGridK
namespace Go.Ev.Utf
open Go.Ev Go.Ev.Track
set_option linter.unusedVariables false
set_option linter.unusedSimpArgs false
set_option maxRecDepth 100000
theorem mdec_lt (t : List UInt8) : (mdec t).1 < 2097152 := by
  have := bn_lt t 0
  unfold mdec
  split
  · omega
  · split
    · split <;> simp only <;> omega
    · split
      · split <;> simp only <;> omega
      · split
        · split <;> simp only <;> omega
        · simp only; omega
/-- A code point that a cell may have. -/
def okc (t : List UInt8) : Bool := !(((mdec t).1 : Int) == 10) && chr ((mdec t).1 : Int)
def rd : Nat → List UInt8 → Bool
  | 0, _ => true
  | k + 1, t => if t = [] then true else if okc t = true then rd k (t.drop (mdec t).2) else false
def xd : Nat → List UInt8 → Bool
  | 0, _ => true
  | k + 1, t => if t = [] then true else if mdec t = (65533, 1) then false else if okc t = true then xd k (t.drop (mdec t).2) else false
theorem xd_eq : ∀ (k : Nat) (t : List UInt8), xd k t = (vd k t && rd k t)
  | 0, t => rfl
  | k + 1, t => by
    rw [xd, vd, rd, xd_eq k]
    by_cases h : t = []
    · rw [if_pos h, if_pos h, if_pos h]; rfl
    · rw [if_neg h, if_neg h, if_neg h]
      by_cases h2 : mdec t = (65533, 1)
      · rw [if_pos h2, if_pos h2]; rfl
      · rw [if_neg h2, if_neg h2]
        cases okc t
        · simp
        · simp
theorem bTT {A : Type} (x y : A) : bcond true x y = x := rfl
theorem ne_len {t : List UInt8} (h : ¬ t = []) : 1 ≤ t.length := by
  cases t with
  | nil => exact absurd rfl h
  | cons x t => simp
theorem gtext_loop (n : Nat) : ∀ (k m : Nat) (t : List UInt8), t.length ≤ k → k < m → L_grid_Text_0 n m t = some (ret_grid_Text (xd (k + 1) t)) := by
  intro k
  induction k with
  | zero =>
    intro m t h1 h2
    obtain ⟨m, rfl⟩ : ∃ q, m = q + 1 := ⟨m - 1, by omega⟩
    obtain rfl : t = [] := List.eq_nil_of_length_eq_zero (by omega)
    rw [L_grid_Text_0_step]; rfl
  | succ k ih =>
    intro m t h1 h2
    obtain ⟨m, rfl⟩ : ∃ q, m = q + 1 := ⟨m - 1, by omega⟩
    by_cases hn : t = []
    · subst hn; rw [L_grid_Text_0_step]; rfl
    have hl := ne_len hn
    obtain ⟨d1, d2, d3⟩ := dec_eq t hl
    obtain ⟨q1, q2⟩ := dec_mdec t hl
    have hw : IntKind.i64.wrap ((mdec t).1 : Int) = ((mdec t).1 : Int) := by have := mdec_lt t; exact w64 (by omega) (by omega)
    have hb : (!(t == [])) = true := by
      cases t with
      | nil => exact absurd rfl hn
      | cons x t => rfl
    have p : 0 ≤ (t.length : Int) ∧ (t.length : Int) ≤ (t.length : Int) ∧ 0 ≤ ((mdec t).2 : Int) ∧ ((mdec t).2 : Int) ≤ (t.length : Int) := by omega
    have ihx := ih m (t.drop (mdec t).2) (by rw [List.length_drop]; omega) (by omega)
    rw [L_grid_Text_0_step, hb, bTT, d1, q1, q2, xd, if_neg hn]
    simp only [Option.bind_some, Go.Ev.Utf.rd0, Go.Ev.Utf.rd1, hw, char_eq, res_flow_Char_0_ret, if_pos p, Int.toNat_natCast, drop_take, List.take_length, ihx]
    have hc : (mdec t = (65533, 1)) ↔ ((((mdec t).1 : Int) == 65533) && (((mdec t).2 : Int) == 1)) = true := by
      rw [Bool.and_eq_true, beq_iff_eq, beq_iff_eq]
      constructor
      · intro e; rw [e]; exact ⟨rfl, rfl⟩
      · rintro ⟨e1, e2⟩; exact Prod.ext (by show (mdec t).1 = 65533; omega) (by show (mdec t).2 = 1; omega)
    simp only [hc]
    unfold okc
    generalize xd (k + 1) (t.drop (mdec t).2) = R
    generalize (((mdec t).1 : Int) == 65533) = b1
    generalize (((mdec t).2 : Int) == 1) = b2
    generalize (((mdec t).1 : Int) == 10) = b3
    generalize chr ((mdec t).1 : Int) = b4
    cases b1 <;> cases b2 <;> cases b3 <;> cases b4 <;> rfl
/-- A text of a cell. -/
def tx (t : List UInt8) : Bool := xd (t.length + 1) t
theorem gtext_eq (t : List UInt8) (h : t.length ≤ 1048576) : C_grid_Text F_grid_Text t = some (ret_grid_Text (tx t)) := by
  rw [e_grid_Text]
  have := big_ge (n := t.length + 1) (by omega)
  exact gtext_loop big t.length big t (Nat.le_refl _) (by omega)
theorem range_text (s : List UInt8) (n : Nat) : ∀ (k m i : Nat), s.length - i ≤ k → i ≤ s.length → k < m → L_R_CellText_0 n m s i = some (ret_R_CellText (rd (k + 1) (s.drop i))) := by
  intro k
  induction k with
  | zero =>
    intro m i h1 h2 h3
    obtain ⟨m, rfl⟩ : ∃ q, m = q + 1 := ⟨m - 1, by omega⟩
    obtain rfl : i = s.length := by omega
    rw [L_R_CellText_0_step, dlt_self, List.drop_length]; rfl
  | succ k ih =>
    intro m i h1 h2 h3
    obtain ⟨m, rfl⟩ : ∃ q, m = q + 1 := ⟨m - 1, by omega⟩
    by_cases he : i = s.length
    · subst he; rw [L_R_CellText_0_step, dlt_self, List.drop_length]; rfl
    have hil : i < s.length := by omega
    have hl : (s.drop i).length = s.length - i := List.length_drop
    have hn : ¬ s.drop i = [] := by intro e; rw [e] at hl; simp at hl; omega
    have hp := mdec_pos (s.drop i) (by omega)
    have hw : IntKind.i64.wrap ((mdec (s.drop i)).1 : Int) = ((mdec (s.drop i)).1 : Int) := by have := mdec_lt (s.drop i); exact w64 (by omega) (by omega)
    have ihx := ih m (i + (mdec (s.drop i)).2) (by omega) (by omega) (by omega)
    have hr : rd (k + 1 + 1) (s.drop i) = if okc (s.drop i) = true then rd (k + 1) (s.drop (i + (mdec (s.drop i)).2)) else false := by rw [rd, if_neg hn, List.drop_drop]
    rw [L_R_CellText_0_step, dlt hil, bTT, udec_mdec, hw, ihx, hr]
    simp only [rchar_eq, Option.bind_some, res_R_Char_0_ret]
    unfold okc
    generalize rd (k + 1) (s.drop (i + (mdec (s.drop i)).2)) = R
    generalize (((mdec (s.drop i)).1 : Int) == 10) = b3
    generalize chr ((mdec (s.drop i)).1 : Int) = b4
    cases b3 <;> cases b4 <;> rfl
theorem ctext_eq (t : List UInt8) (h : t.length ≤ 1048576) : C_R_CellText F_R_CellText t = some (ret_R_CellText (tx t)) := by
  have := big_ge (n := t.length + 1) (by omega)
  have hr := range_text t big t.length big 0 (by omega) (by omega) (by omega)
  rw [List.drop_zero] at hr
  rw [e_R_CellText, valid_eq t h]
  simp only [Option.bind_some, res_unicode_utf8_ValidString_0_ret]
  rw [hr]
  unfold tx
  rw [xd_eq]
  unfold V
  cases vd (t.length + 1) t <;> rfl
end Go.Ev.Utf
