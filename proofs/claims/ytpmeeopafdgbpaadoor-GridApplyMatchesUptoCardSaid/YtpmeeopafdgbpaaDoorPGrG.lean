
import Derived.Test.YtpmeeopafdgbpaaDoorPAxU
import Derived.Test.YtpmeeopafdgbpaaDoorPEqs
import Derived.Test.YtpmeeopafdgbpaaDoorPGrd
import Derived.Test.YtpmeeopafdgbpaaDoorPLex
import Derived.Test.YtpmeeopafdgbpaaDoorEvSort
import Derived.Test.YtpmeeopafdgbpaaDoorGGridA
import Derived.Test.YtpmeeopafdgbpaaDoorGGridE
namespace Go.Ev.Hul
open Go.Ev Go.Ev.Axis Go.Ev.Doc
set_option linter.unusedVariables false
set_option linter.unusedSimpArgs false
set_option maxRecDepth 100000
theorem good_cons {s : YSpan.den} {l : Axis.Steps} (h : Axis.Good (s :: l)) : ((Axis.sk s) = 0 ∨ (Axis.sk s) = 1 ∨ (Axis.sk s) = 2) ∧ 1 ≤ (Axis.sn s) ∧ (Axis.sn s) ≤ 2147483647 ∧ Axis.Good l := ⟨h.1.1, h.1.2.1, h.1.2.2, h.2⟩
theorem pl_ge (p : Int) : ∀ (l : Axis.Steps), Axis.Good l → ∀ (f t : Int), f ≤ p → 0 ≤ t → 0 ≤ Axis.pl p f t l → t ≤ Axis.pl p f t l
  | [], _, f, t, _, _, h => by have : Axis.pl p f t [] = -1 := rfl; omega
  | s :: l, g, f, t, hf, ht, h => by
    obtain ⟨k, n1, n2, g'⟩ := good_cons g
    unfold Axis.pl at h ⊢
    by_cases k1 : Axis.sk s = 1
    · rw [if_pos k1] at h ⊢
      have := pl_ge p l g' f (t + Axis.sn s) hf (by omega) h; omega
    · rw [if_neg k1] at h ⊢
      by_cases k0 : Axis.sk s = 0
      · rw [if_pos k0] at h ⊢
        by_cases hp : p < f + Axis.sn s
        · rw [if_pos hp] at h ⊢; omega
        · rw [if_neg hp] at h ⊢
          have := pl_ge p l g' (f + Axis.sn s) (t + Axis.sn s) (by omega) (by omega) h; omega
      · rw [if_neg k0] at h ⊢
        by_cases hp : p < f + Axis.sn s
        · rw [if_pos hp] at h ⊢; omega
        · rw [if_neg hp] at h ⊢
          exact pl_ge p l g' (f + Axis.sn s) t (by omega) ht h
theorem pl_mono (p q : Int) (hpq : p < q) : ∀ (l : Axis.Steps), Axis.Good l → ∀ (f t : Int), f ≤ p → 0 ≤ t → 0 ≤ Axis.pl p f t l → 0 ≤ Axis.pl q f t l → Axis.pl p f t l < Axis.pl q f t l
  | [], _, f, t, _, _, h, _ => by have : Axis.pl p f t [] = -1 := rfl; omega
  | s :: l, g, f, t, hf, ht, h, h2 => by
    obtain ⟨k, n1, n2, g'⟩ := good_cons g
    unfold Axis.pl at h h2 ⊢
    by_cases k1 : Axis.sk s = 1
    · rw [if_pos k1] at h h2 ⊢
      rw [if_pos k1]
      exact pl_mono p q hpq l g' f (t + Axis.sn s) hf (by omega) h h2
    · rw [if_neg k1] at h h2 ⊢
      rw [if_neg k1]
      by_cases k0 : Axis.sk s = 0
      · rw [if_pos k0] at h h2 ⊢
        rw [if_pos k0]
        by_cases hp : p < f + Axis.sn s
        · rw [if_pos hp]
          by_cases hq : q < f + Axis.sn s
          · rw [if_pos hq]; omega
          · rw [if_neg hq] at h2 ⊢
            have := pl_ge q l g' (f + Axis.sn s) (t + Axis.sn s) (by omega) (by omega) h2; omega
        · rw [if_neg hp] at h ⊢
          have hq : ¬ q < f + Axis.sn s := by omega
          rw [if_neg hq] at h2 ⊢
          exact pl_mono p q hpq l g' (f + Axis.sn s) (t + Axis.sn s) (by omega) (by omega) h h2
      · rw [if_neg k0] at h h2 ⊢
        rw [if_neg k0]
        by_cases hp : p < f + Axis.sn s
        · rw [if_pos hp] at h; omega
        · have hq : ¬ q < f + Axis.sn s := by omega
          rw [if_neg hp] at h ⊢
          rw [if_neg hq] at h2 ⊢
          exact pl_mono p q hpq l g' (f + Axis.sn s) t (by omega) ht h h2
theorem fst_spec (K : Int → Int) : ∀ (n : Nat) (s : Int), (∀ v, Axis.fstK K n s = some v → ∃ x, s ≤ x ∧ x < s + n ∧ v = K x ∧ 0 ≤ K x) ∧ (Axis.fstK K n s = none → ∀ x, s ≤ x → x < s + n → ¬ 0 ≤ K x)
  | 0, s => ⟨fun v h => by simp [Axis.fstK] at h, fun _ x h1 h2 => by omega⟩
  | n + 1, s => by
    obtain ⟨i1, i2⟩ := fst_spec K n (s + 1)
    unfold Axis.fstK
    by_cases h : 0 ≤ K s
    · rw [if_pos h]
      exact ⟨fun v e => by injection e with e; exact ⟨s, by omega, by omega, e.symm, h⟩, fun e => by cases e⟩
    · rw [if_neg h]
      refine ⟨fun v e => ?_, fun e x h1 h2 => ?_⟩
      · obtain ⟨x, q1, q2, q3⟩ := i1 v e
        exact ⟨x, by omega, by omega, q3⟩
      · by_cases hx : x = s
        · rw [hx]; exact h
        · exact i2 e x (by omega) (by omega)
theorem lst_spec (K : Int → Int) : ∀ (n : Nat) (s : Int), (∀ v, Axis.lstK K n s = some v → ∃ x, s ≤ x ∧ x < s + n ∧ v = K x ∧ 0 ≤ K x ∧ ∀ y, s ≤ y → y < s + n → 0 ≤ K y → y ≤ x) ∧ (Axis.lstK K n s = none → ∀ x, s ≤ x → x < s + n → ¬ 0 ≤ K x)
  | 0, s => ⟨fun v h => by simp [Axis.lstK] at h, fun _ x h1 h2 => by omega⟩
  | n + 1, s => by
    obtain ⟨i1, i2⟩ := lst_spec K n s
    unfold Axis.lstK
    by_cases h : 0 ≤ K (s + n)
    · rw [if_pos h]
      exact ⟨fun v e => by injection e with e; exact ⟨s + n, by omega, by omega, e.symm, h, fun y _ hy _ => by omega⟩, fun e => by cases e⟩
    · rw [if_neg h]
      refine ⟨fun v e => ?_, fun e x h1 h2 => ?_⟩
      · obtain ⟨x, q1, q2, q3, q4, q5⟩ := i1 v e
        refine ⟨x, q1, by omega, q3, q4, fun y y1 y2 y3 => ?_⟩
        by_cases hy : y = s + n
        · rw [hy] at y3; exact absurd y3 h
        · exact q5 y y1 (by omega) y3
      · by_cases hx : x = s + n
        · rw [hx]; exact h
        · exact i2 e x h1 (by omega)
def K (a : Axis.Steps) (x : Int) : Int := Axis.pl x 0 0 a
theorem hull_spec (a : Axis.Steps) (g : Axis.Good a) (p q : Int) (hp : 0 ≤ p) (hq : p ≤ q) : (Axis.hull a p q = (0, 0)) ∨ (∃ x0 x1, p ≤ x0 ∧ x0 ≤ x1 ∧ x1 < q ∧ 0 ≤ K a x0 ∧ 0 ≤ K a x1 ∧ (Axis.hull a p q).1 = K a x0 ∧ (Axis.hull a p q).2 = K a x1 + 1 ∧ K a x0 ≤ K a x1) := by
  have e : Axis.hull a p q = ((Axis.fstK (K a) (q - p).toNat p).getD 0, ((Axis.lstK (K a) (q - p).toNat p).map (· + 1)).getD 0) := by
    show Axis.asc (K a) (q - p).toNat p 0 0 = _
    rw [Axis.asc_eq]; rfl
  obtain ⟨f1, f2⟩ := fst_spec (K a) (q - p).toNat p
  obtain ⟨l1, l2⟩ := lst_spec (K a) (q - p).toNat p
  rw [e]
  cases hf : Axis.fstK (K a) (q - p).toNat p with
  | none =>
    cases hl : Axis.lstK (K a) (q - p).toNat p with
    | none => exact .inl rfl
    | some v =>
      obtain ⟨x, q1, q2, q3, q4, _⟩ := l1 v hl
      exact absurd q4 (f2 hf x q1 q2)
  | some u =>
    obtain ⟨x, q1, q2, q3, q4⟩ := f1 u hf
    cases hl : Axis.lstK (K a) (q - p).toNat p with
    | none => exact absurd q4 (l2 hl x q1 q2)
    | some v =>
      obtain ⟨y, r1, r2, r3, r4, r5⟩ := l1 v hl
      have hxy := r5 x q1 q2 q4
      refine .inr ⟨x, y, q1, hxy, by omega, q4, r4, q3, ?_, ?_⟩
      · show v + 1 = _; rw [r3]
      · by_cases e : x = y
        · rw [e]; exact Int.le_refl _
        · exact Int.le_of_lt (pl_mono x y (by omega) a g 0 0 (by omega) (Int.le_refl _) q4 r4)
theorem hull_eq (a : Axis.Steps) (hl : a.length ≤ 1048576) (he : Axis.E a = 0) (p q : Int) (hp : 0 ≤ p) (hq : p ≤ q) (hq2 : q ≤ 2147483647) : C_axis_Hull F_axis_Hull a p q = some (ret_axis_Hull (Axis.hull a p q).1 (Axis.hull a p q).2) := by
  obtain ⟨g, hb, ha⟩ := Axis.E_good he
  have := Axis.hull_loop a hl g p q hp (by omega) (by omega) hq2 big a.length 0 big 0 0 0 0 (by omega) (big_ge (n := a.length + 1) (by omega)) (by omega) (by omega) (by omega) (by simpa using hb) (by simpa using ha)
  rw [show ((0 : Nat) : Int) = 0 from rfl, show max p 0 = p by omega, List.drop_zero] at this
  rw [e_axis_Hull, this]; rfl
theorem lens_eq (a : Axis.Steps) (hl : a.length ≤ 1048576) (he : Axis.E a = 0) : C_axis_Lengths F_axis_Lengths a = some (ret_axis_Lengths (Axis.sumB a) (Axis.sumA a) 0) := by
  rw [e_axis_Lengths, Axis.check_eq a hl, he]
  simp only [Option.bind_some, res_axis_Check_0_ret, bne_self_eq_false, bF, Axis.lengths_eq a hl he, res_axis_lengths_0_ret, res_axis_lengths_1_ret]
/-- A row that stays lies within the new ones. -/
theorem pl_lt (p : Int) : ∀ (l : Axis.Steps), Axis.Good l → ∀ (f t : Int), f ≤ p → 0 ≤ t → 0 ≤ Axis.pl p f t l → Axis.pl p f t l < t + Axis.sumA l
  | [], _, f, t, _, _, h => by have : Axis.pl p f t [] = -1 := rfl; omega
  | s :: l, g, f, t, hf, ht, h => by
    obtain ⟨k, n1, n2, g'⟩ := good_cons g
    have hp := Axis.sum_pos g'
    have e : Axis.sumA (s :: l) = (if Axis.sk s = 2 then 0 else Axis.sn s) + Axis.sumA l := rfl
    unfold Axis.pl at h ⊢
    rw [e]
    by_cases k1 : Axis.sk s = 1
    · rw [if_pos k1] at h ⊢
      have := pl_lt p l g' f (t + Axis.sn s) hf (by omega) h
      rw [show (if Axis.sk s = 2 then (0 : Int) else Axis.sn s) = Axis.sn s from if_neg (by omega)]; omega
    · rw [if_neg k1] at h ⊢
      by_cases k0 : Axis.sk s = 0
      · rw [if_pos k0] at h ⊢
        rw [show (if Axis.sk s = 2 then (0 : Int) else Axis.sn s) = Axis.sn s from if_neg (by omega)]
        by_cases hp : p < f + Axis.sn s
        · rw [if_pos hp] at h ⊢; omega
        · rw [if_neg hp] at h ⊢
          have := pl_lt p l g' (f + Axis.sn s) (t + Axis.sn s) (by omega) (by omega) h; omega
      · rw [if_neg k0] at h ⊢
        by_cases hp : p < f + Axis.sn s
        · rw [if_pos hp] at h ⊢; omega
        · rw [if_neg hp] at h ⊢
          have := pl_lt p l g' (f + Axis.sn s) t (by omega) ht h
          rw [show (if Axis.sk s = 2 then (0 : Int) else Axis.sn s) = 0 from if_pos (by omega)]; omega
end Go.Ev.Hul
namespace Go.Ev.Doc
open Go.Ev Go.Ev.Axis Go.Ev.Hul Go.Ev.Lex
set_option linter.unusedVariables false
set_option linter.unusedSimpArgs false
set_option maxRecDepth 100000
/-- The size behind a change that can be missing; does it fit? -/
def szG (n : Int) (a : Axis.Steps) : Int × Bool := if a = [] then (n, true) else (sumA a, decide (sumB a = n))
/-- A row behind a change that can be missing (-1: it is gone). -/
def mvG (a : Axis.Steps) (p : Int) : Int := if a = [] then p else Axis.pl p 0 0 a
/-- A range behind a change that can be missing. -/
def hlG (a : Axis.Steps) (p q : Int) : Int × Int := if a = [] then (p, q) else Axis.hull a p q
/-- A change that is missing, or is valid, leads from a size to another one. -/
structure AxOk (a : Axis.Steps) (n m : Int) : Prop where
  ok : (a = [] ∧ m = n) ∨ (a ≠ [] ∧ Axis.E a = 0 ∧ sumB a = n ∧ sumA a = m)
  n0 : 0 ≤ n
  n1 : n ≤ 2147483647
theorem AxOk.m {a : Axis.Steps} {n m : Int} (h : AxOk a n m) : 0 ≤ m ∧ m ≤ 2147483647 := by
  rcases h.ok with ⟨h1, h2⟩ | ⟨h1, h2, h3, h4⟩
  · rw [h2]; exact ⟨h.n0, h.n1⟩
  · obtain ⟨g, _, hA⟩ := Axis.E_good h2
    have := Axis.sum_pos g
    rw [← h4]; exact ⟨this.2.1, hA⟩
theorem mv_lt {a : Axis.Steps} {n m : Int} (h : AxOk a n m) {p : Int} (p0 : 0 ≤ p) (p1 : p < n) (hm : 0 ≤ mvG a p) : mvG a p < m := by
  unfold mvG at *
  rcases h.ok with ⟨h1, h2⟩ | ⟨h1, h2, h3, h4⟩
  · rw [if_pos h1]; omega
  · rw [if_neg h1] at hm ⊢
    have := pl_lt p a (Axis.E_good h2).1 0 0 p0 (Int.le_refl _) hm
    omega
theorem mv_mono {a : Axis.Steps} {n m : Int} (h : AxOk a n m) {p q : Int} (p0 : 0 ≤ p) (hpq : p < q) (h1 : 0 ≤ mvG a p) (h2 : 0 ≤ mvG a q) : mvG a p < mvG a q := by
  unfold mvG at *
  rcases h.ok with ⟨e1, e2⟩ | ⟨e1, e2, e3, e4⟩
  · rw [if_pos e1, if_pos e1]; omega
  · rw [if_neg e1] at h1 h2 ⊢
    rw [if_neg e1]
    exact pl_mono p q hpq a (Axis.E_good e2).1 0 0 p0 (Int.le_refl _) h1 h2
theorem hl_spec {a : Axis.Steps} {n m : Int} (h : AxOk a n m) {p q : Int} (p0 : 0 ≤ p) (hpq : p < q) : hlG a p q = (0, 0) ∨ ∃ x0 x1, p ≤ x0 ∧ x0 ≤ x1 ∧ x1 < q ∧ 0 ≤ mvG a x0 ∧ 0 ≤ mvG a x1 ∧ (hlG a p q).1 = mvG a x0 ∧ (hlG a p q).2 = mvG a x1 + 1 ∧ mvG a x0 ≤ mvG a x1 := by
  unfold hlG mvG
  rcases h.ok with ⟨e1, e2⟩ | ⟨e1, e2, e3, e4⟩
  · simp only [if_pos e1]
    exact .inr ⟨p, q - 1, by omega, by omega, by omega, by omega, by omega, rfl, by omega, by omega⟩
  · simp only [if_neg e1]
    exact hull_spec a (Axis.E_good e2).1 p q p0 (by omega)
/-- A range stays in the new size. -/
theorem hl_in {a : Axis.Steps} {n m : Int} (h : AxOk a n m) {p q : Int} (p0 : 0 ≤ p) (hpq : p < q) (hq : q ≤ n) : 0 ≤ (hlG a p q).1 ∧ (hlG a p q).1 ≤ (hlG a p q).2 ∧ (hlG a p q).2 ≤ m := by
  rcases hl_spec h p0 hpq with e | ⟨x0, x1, h1, h2, h3, h4, h5, h6, h7, h8⟩
  · rw [e]; have := h.m; exact ⟨Int.le_refl _, Int.le_refl _, this.1⟩
  · have := mv_lt h (p := x1) (by omega) (by omega) h5
    omega
/-- Ranges apart stay apart. -/
theorem hl_apart {a : Axis.Steps} {n m : Int} (h : AxOk a n m) {p q p' q' : Int} (p0 : 0 ≤ p) (h1 : p < q) (h2 : q ≤ p') (h3 : p' < q') (f1 : (hlG a p q).1 < (hlG a p q).2) (f2 : (hlG a p' q').1 < (hlG a p' q').2) : (hlG a p q).2 ≤ (hlG a p' q').1 := by
  rcases hl_spec h p0 h1 with e | ⟨x0, x1, a1, a2, a3, a4, a5, a6, a7, a8⟩
  · rw [e] at f1; exact absurd f1 (by decide)
  rcases hl_spec h (p := p') (q := q') (by omega) h3 with e | ⟨y0, y1, b1, b2, b3, b4, b5, b6, b7, b8⟩
  · rw [e] at f2; exact absurd f2 (by decide)
  have := mv_mono h (p := x1) (q := y0) (by omega) (by omega) a5 b4
  omega
/-- The parts of a rectangle. -/
def r0 (r : Rc) : Int := r.1
def r1 (r : Rc) : Int := r.2.1
def r2 (r : Rc) : Int := r.2.2.1
def r3 (r : Rc) : Int := r.2.2.2
def mkR (a b c d : Int) : Rc := (a, b, c, d)
@[simp] theorem r0_mk (a b c d : Int) : r0 (mkR a b c d) = a := rfl
@[simp] theorem r1_mk (a b c d : Int) : r1 (mkR a b c d) = b := rfl
@[simp] theorem r2_mk (a b c d : Int) : r2 (mkR a b c d) = c := rfl
@[simp] theorem r3_mk (a b c d : Int) : r3 (mkR a b c d) = d := rfl
theorem rect_ext {a b : Rc} (h0 : r0 a = r0 b) (h1 : r1 a = r1 b) (h2 : r2 a = r2 b) (h3 : r3 a = r3 b) : a = b := Prod.ext h0 (Prod.ext h1 (Prod.ext h2 h3))
theorem liesI (r : Rc) (rows cols : Int) : lies r rows cols = true ↔ 0 ≤ r0 r ∧ 0 ≤ r1 r ∧ 1 ≤ r2 r ∧ 1 ≤ r3 r ∧ r0 r < rows ∧ r1 r < cols ∧ r2 r ≤ rows - r0 r ∧ r3 r ≤ cols - r1 r := lies_iff r rows cols
/-- A rectangle behind changes of both axes. -/
def thrG (rows cols : Axis.Steps) (r : Rc) : Rc :=
  mkR ((hlG rows (r0 r) (r0 r + r2 r)).1) ((hlG cols (r1 r) (r1 r + r3 r)).1) ((hlG rows (r0 r) (r0 r + r2 r)).2 - (hlG rows (r0 r) (r0 r + r2 r)).1) ((hlG cols (r1 r) (r1 r + r3 r)).2 - (hlG cols (r1 r) (r1 r + r3 r)).1)
/-- It is still there. -/
def okR (r : Rc) : Bool := decide ((r2 r) > 0) && (decide ((r3 r) > 0) && decide ((r2 r) + (r3 r) > 2))
theorem okR_iff (r : Rc) : okR r = true ↔ (r2 r) > 0 ∧ (r3 r) > 0 ∧ (r2 r) + (r3 r) > 2 := by
  unfold okR; simp only [Bool.and_eq_true, decide_eq_true_eq]
theorem mts_iff (a b : Rc) : mts a b = true ↔ (r0 a) < (r0 b) + (r2 b) ∧ (r0 b) < (r0 a) + (r2 a) ∧ (r1 a) < (r1 b) + (r3 b) ∧ (r1 b) < (r1 a) + (r3 a) := by
  unfold mts; simp only [Bool.and_eq_true, decide_eq_true_eq]; exact Iff.rfl
variable {rows cols : Axis.Steps} {R C R' C' : Int}
theorem thr_in (hr : AxOk rows R R') (hc : AxOk cols C C') {r : Rc} (h : lies r R C = true) : 0 ≤ (r0 (thrG rows cols r)) ∧ 0 ≤ (r1 (thrG rows cols r)) ∧ 0 ≤ (r2 (thrG rows cols r)) ∧ 0 ≤ (r3 (thrG rows cols r)) ∧
    (r0 (thrG rows cols r)) + (r2 (thrG rows cols r)) ≤ R' ∧ (r1 (thrG rows cols r)) + (r3 (thrG rows cols r)) ≤ C' := by
  obtain ⟨h1, h2, h3, h4, h5, h6, h7, h8⟩ := (liesI r R C).1 h
  have a1 := hl_in hr (p := (r0 r)) (q := (r0 r) + (r2 r)) h1 (by omega) (by omega)
  have a2 := hl_in hc (p := (r1 r)) (q := (r1 r) + (r3 r)) h2 (by omega) (by omega)
  unfold thrG
  simp only [r0_mk, r1_mk, r2_mk, r3_mk]
  omega
theorem thr_lies (hr : AxOk rows R R') (hc : AxOk cols C C') {r : Rc} (h : lies r R C = true) (ho : okR (thrG rows cols r) = true) : lies (thrG rows cols r) R' C' = true := by
  obtain ⟨a1, a2, a3, a4, a5, a6⟩ := thr_in hr hc h
  rw [okR_iff] at ho
  rw [liesI]
  omega
theorem thr_mts (hr : AxOk rows R R') (hc : AxOk cols C C') {a b : Rc} (ha : lies a R C = true) (hb : lies b R C = true) (hm : mts a b = false) (oa : okR (thrG rows cols a) = true) (ob : okR (thrG rows cols b) = true) : mts (thrG rows cols a) (thrG rows cols b) = false := by
  obtain ⟨h1, h2, h3, h4, h5, h6, h7, h8⟩ := (liesI a R C).1 ha
  obtain ⟨g1, g2, g3, g4, g5, g6, g7, g8⟩ := (liesI b R C).1 hb
  rw [okR_iff] at oa ob
  have key : ¬ (mts (thrG rows cols a) (thrG rows cols b) = true) := by
    have hn : ¬ (mts a b = true) := by rw [hm]; decide
    rw [mts_iff] at hn ⊢
    intro hk
    have fa1 : (hlG rows (r0 a) ((r0 a) + (r2 a))).1 < (hlG rows (r0 a) ((r0 a) + (r2 a))).2 := by have := oa.1; unfold thrG at this; simp only [r2_mk, r3_mk] at this; omega
    have fa2 : (hlG cols (r1 a) ((r1 a) + (r3 a))).1 < (hlG cols (r1 a) ((r1 a) + (r3 a))).2 := by have := oa.2.1; unfold thrG at this; simp only [r2_mk, r3_mk] at this; omega
    have fb1 : (hlG rows (r0 b) ((r0 b) + (r2 b))).1 < (hlG rows (r0 b) ((r0 b) + (r2 b))).2 := by have := ob.1; unfold thrG at this; simp only [r2_mk, r3_mk] at this; omega
    have fb2 : (hlG cols (r1 b) ((r1 b) + (r3 b))).1 < (hlG cols (r1 b) ((r1 b) + (r3 b))).2 := by have := ob.2.1; unfold thrG at this; simp only [r2_mk, r3_mk] at this; omega
    unfold thrG at hk
    simp only [r0_mk, r1_mk, r2_mk, r3_mk] at hk
    apply hn
    refine ⟨?_, ?_, ?_, ?_⟩
    · apply Int.lt_of_not_ge
      intro hz
      have := hl_apart hr (p := (r0 b)) (q := (r0 b) + (r2 b)) (p' := (r0 a)) (q' := (r0 a) + (r2 a)) g1 (by omega) hz (by omega) fb1 fa1
      omega
    · apply Int.lt_of_not_ge
      intro hz
      have := hl_apart hr (p := (r0 a)) (q := (r0 a) + (r2 a)) (p' := (r0 b)) (q' := (r0 b) + (r2 b)) h1 (by omega) hz (by omega) fa1 fb1
      omega
    · apply Int.lt_of_not_ge
      intro hz
      have := hl_apart hc (p := (r1 b)) (q := (r1 b) + (r3 b)) (p' := (r1 a)) (q' := (r1 a) + (r3 a)) g2 (by omega) hz (by omega) fb2 fa2
      omega
    · apply Int.lt_of_not_ge
      intro hz
      have := hl_apart hc (p := (r1 a)) (q := (r1 a) + (r3 a)) (p' := (r1 b)) (q' := (r1 b) + (r3 b)) h2 (by omega) hz (by omega) fa2 fb2
      omega
  exact Bool.eq_false_iff.2 key
/-- Those that stay, behind changes of both axes. -/
def stayR (rows cols : Axis.Steps) (split : List Rc) (l : List Rc) : List Rc := (l.map (thrG rows cols)).filter fun q => okR q && !(split.contains q)
/-- New ones drive those away that they meet. -/
def joinR (l : List Rc) (ms : List Rc) : List Rc := ms.foldl (fun l r => l.filter (fun q => !(mts q r)) ++ [r]) l
/-- No two meet, all lie within. -/
structure Apart (R C : Int) (l : List Rc) : Prop where
  in_ : ∀ r ∈ l, lies r R C = true
  ap : l.Pairwise fun a b => mts a b = false
theorem stay_apart (hr : AxOk rows R R') (hc : AxOk cols C C') (split : List Rc) {l : List Rc} (h : Apart R C l) : Apart R' C' (stayR rows cols split l) := by
  unfold stayR
  refine ⟨fun r hr' => ?_, ?_⟩
  · rw [List.mem_filter, List.mem_map] at hr'
    obtain ⟨⟨q, hq, rfl⟩, ho⟩ := hr'
    exact thr_lies hr hc (h.in_ q hq) (by cases hx : okR (thrG rows cols q) <;> simp_all)
  · rw [List.filter_map, List.pairwise_map]
    have : (l.filter ((fun q => okR q && !(split.contains q)) ∘ thrG rows cols)).Pairwise fun a b => mts a b = false := h.ap.sublist List.filter_sublist
    refine List.Pairwise.imp_of_mem (R := fun a b => mts a b = false) (fun {a b} ha hb hab => ?_) this
    rw [List.mem_filter] at ha hb
    refine thr_mts hr hc (h.in_ a ha.1) (h.in_ b hb.1) hab ?_ ?_
    · have := ha.2; simp only [Function.comp, Bool.and_eq_true] at this; exact this.1
    · have := hb.2; simp only [Function.comp, Bool.and_eq_true] at this; exact this.1
theorem join_apart {R C : Int} : ∀ {ms l : List Rc}, Apart R C l → (∀ r ∈ ms, lies r R C = true) → Apart R C (joinR l ms)
  | [], l, h, _ => h
  | r :: ms, l, h, hm => by
    refine join_apart (ms := ms) ⟨fun q hq => ?_, ?_⟩ fun q hq => hm q (List.mem_cons_of_mem _ hq)
    · rcases List.mem_append.1 hq with hq | hq
      · exact h.in_ q (List.mem_filter.1 hq).1
      · rw [List.mem_singleton.1 hq]; exact hm r List.mem_cons_self
    · refine List.pairwise_append.2 ⟨h.ap.sublist List.filter_sublist, List.pairwise_singleton _ _, fun a ha b hb => ?_⟩
      rw [List.mem_singleton.1 hb]
      have := (List.mem_filter.1 ha).2
      simpa using this
theorem mts_self {R C : Int} {r : Rc} (h : lies r R C = true) : mts r r = true := by
  obtain ⟨h1, h2, h3, h4, h5, h6, h7, h8⟩ := (liesI r R C).1 h
  rw [mts_iff]; omega
/-- Where a rectangle begins. -/
def posR (r : Rc) : Int × Int := (r0 r, r1 r)
theorem mts_pos {R C : Int} {a b : Rc} (ha : lies a R C = true) (hb : lies b R C = true) (e : posR a = posR b) : mts a b = true := by
  obtain ⟨h1, h2, h3, h4, h5, h6, h7, h8⟩ := (liesI a R C).1 ha
  obtain ⟨g1, g2, g3, g4, g5, g6, g7, g8⟩ := (liesI b R C).1 hb
  have e1 : (r0 a) = (r0 b) := congrArg (fun p : Int × Int => p.1) e
  have e2 : (r1 a) = (r1 b) := congrArg (fun p : Int × Int => p.2) e
  rw [mts_iff]; omega
theorem apart_pos {R C : Int} {l : List Rc} (h : Apart R C l) {a b : Rc} (ha : a ∈ l) (hb : b ∈ l) (e : posR a = posR b) : a = b := by
  have key : ∀ {l : List Rc}, (∀ r ∈ l, lies r R C = true) → l.Pairwise (fun a b => mts a b = false) → a ∈ l → b ∈ l → a = b := by
    intro l
    induction l with
    | nil => intro _ _ ha; cases ha
    | cons z l ih =>
      intro hi hp ha hb
      have hp := List.pairwise_cons.1 hp
      rcases List.mem_cons.1 ha with ha | ha
      · rcases List.mem_cons.1 hb with hb | hb
        · rw [ha, hb]
        · have := hp.1 b hb
          rw [← ha, mts_pos (hi a (by rw [ha]; exact List.mem_cons_self)) (hi b (List.mem_cons_of_mem _ hb)) e] at this; cases this
      · rcases List.mem_cons.1 hb with hb | hb
        · have := hp.1 a ha
          rw [← hb, mts_pos (hi b (by rw [hb]; exact List.mem_cons_self)) (hi a (List.mem_cons_of_mem _ ha)) e.symm] at this; cases this
        · exact ih (fun r hr => hi r (List.mem_cons_of_mem _ hr)) hp.2 ha hb
  exact key h.in_ h.ap ha hb
end Go.Ev.Doc
namespace Go.Ev.Doc
open Go.Ev Go.Ev.Axis Go.Ev.Hul Go.Ev.Lex
set_option linter.unusedVariables false
set_option linter.unusedSimpArgs false
set_option maxRecDepth 100000
theorem rows_ge : ∀ (us : List Int) (o : Int), ∀ x ∈ Axis.rows o us, x = -1 ∨ o ≤ x
  | [], o, x, h => by cases h
  | u :: us, o, x, h => by
    unfold Axis.rows at h
    by_cases u0 : u = 0
    · rw [if_pos u0] at h
      rcases List.mem_cons.1 h with rfl | h
      · exact .inr (Int.le_refl _)
      · rcases rows_ge us (o + 1) x h with h | h
        · exact .inl h
        · exact .inr (by omega)
    · rw [if_neg u0] at h
      by_cases u1 : u = 1
      · rw [if_pos u1] at h
        rcases List.mem_cons.1 h with h | h
        · exact .inl h
        · exact rows_ge us o x h
      · rw [if_neg u1] at h
        rcases rows_ge us (o + 1) x h with h | h
        · exact .inl h
        · exact .inr (by omega)
/-- Old rows come in order. -/
def Inc (l : List Int) : Prop := l.Pairwise fun a b => 0 ≤ b → a < b
theorem rows_inc : ∀ (us : List Int) (o : Int), 0 ≤ o → Inc (Axis.rows o us)
  | [], o, _ => List.Pairwise.nil
  | u :: us, o, h => by
    unfold Axis.rows
    by_cases u0 : u = 0
    · rw [if_pos u0]
      refine List.pairwise_cons.2 ⟨fun x hx h0 => ?_, rows_inc us (o + 1) (by omega)⟩
      rcases rows_ge us (o + 1) x hx with e | e <;> omega
    · rw [if_neg u0]
      by_cases u1 : u = 1
      · rw [if_pos u1]
        exact List.pairwise_cons.2 ⟨fun x hx h0 => by omega, rows_inc us o h⟩
      · rw [if_neg u1]
        exact rows_inc us (o + 1) (by omega)
theorem find_at {p : Int} (hp : 0 ≤ p) : ∀ {rs : List Int} (t : Int) (i : Nat), Inc rs → rs[i]? = some p → Axis.find p t rs = t + i
  | [], t, i, _, h => by simp at h
  | r :: rs, t, 0, _, h => by
    have : r = p := by simpa using h
    unfold Axis.find
    rw [if_pos this]; simp
  | r :: rs, t, i + 1, hi, h => by
    have hi := List.pairwise_cons.1 hi
    have h : rs[i]? = some p := by simpa using h
    have hm := List.mem_of_getElem? h
    have := hi.1 p hm hp
    unfold Axis.find
    rw [if_neg (by omega), find_at hp (t + 1) i hi.2 h]
    omega
theorem find_get {p : Int} : ∀ {rs : List Int} (t : Int), 0 ≤ t → 0 ≤ Axis.find p t rs → ∃ i : Nat, rs[i]? = some p ∧ Axis.find p t rs = t + i
  | [], t, ht, h => by have : Axis.find p t [] = -1 := rfl; omega
  | r :: rs, t, ht, h => by
    unfold Axis.find at h ⊢
    by_cases e : r = p
    · rw [if_pos e]; exact ⟨0, by simp [e], by simp⟩
    · rw [if_neg e] at h ⊢
      obtain ⟨i, h1, h2⟩ := find_get (t + 1) (by omega) h
      exact ⟨i + 1, by simpa using h1, by omega⟩
theorem rows_rep (o : Int) (us : List Int) : ∀ N : Nat, ∀ o : Int, (Axis.rows o (List.replicate N 0 ++ us)).length = N + (Axis.rows (o + N) us).length ∧ (Axis.rows o (List.replicate N 1 ++ us)).length = N + (Axis.rows o us).length ∧ (Axis.rows o (List.replicate N 2 ++ us)).length = (Axis.rows (o + N) us).length
  | 0, o => by simp
  | N + 1, o => by
    obtain ⟨h1, _, h3⟩ := rows_rep o us N (o + 1)
    obtain ⟨_, h2, _⟩ := rows_rep o us N o
    rw [List.replicate_succ, List.replicate_succ, List.replicate_succ]
    simp only [List.cons_append, Axis.rows]
    refine ⟨?_, ?_, ?_⟩
    · simp only [if_true, List.length_cons, h1]
      rw [show o + 1 + (N : Int) = o + ((N + 1 : Nat) : Int) by omega]; omega
    · rw [if_neg (by decide)]; simp only [if_true, List.length_cons, h2]; omega
    · rw [if_neg (by decide), if_neg (by decide), h3]
      rw [show o + 1 + (N : Int) = o + ((N + 1 : Nat) : Int) by omega]
theorem rows_length : ∀ {l : Axis.Steps}, Axis.Good l → ∀ o : Int, ((Axis.rows o (Axis.units l)).length : Int) = sumA l
  | [], _, o => rfl
  | s :: l, g, o => by
    obtain ⟨k, n1, n2, g'⟩ := Hul.good_cons g
    have hu : Axis.units (s :: l) = List.replicate (sn s).toNat (sk s) ++ Axis.units l := rfl
    have hs : sumA (s :: l) = (if sk s = 2 then 0 else sn s) + sumA l := rfl
    obtain ⟨r1, r2, r3⟩ := rows_rep o (Axis.units l) (sn s).toNat o
    rw [hu, hs]
    rcases k with k | k | k <;> rw [k]
    · rw [r1, if_neg (by decide)]; have := rows_length g' (o + ((sn s).toNat : Int)); omega
    · rw [r2, if_neg (by decide)]; have := rows_length g' o; omega
    · rw [r3, if_pos rfl]; have := rows_length g' (o + ((sn s).toNat : Int)); omega
/-- The units of a change that can be missing; the old rows of the new ones. -/
def unitsG (a : Axis.Steps) (n : Int) : List Int := if a = [] then List.replicate n.toNat 0 else Axis.units a
def oldG (a : Axis.Steps) (n : Int) : List Int := Axis.rows 0 (unitsG a n)
theorem old_inc (a : Axis.Steps) (n : Int) : Inc (oldG a n) := rows_inc _ 0 (Int.le_refl _)
theorem old_len {a : Axis.Steps} {n m : Int} (h : AxOk a n m) : ((oldG a n).length : Int) = m := by
  unfold oldG unitsG
  rcases h.ok with ⟨e1, e2⟩ | ⟨e1, e2, e3, e4⟩
  · rw [if_pos e1]
    obtain ⟨r1, _, _⟩ := rows_rep 0 [] n.toNat 0
    rw [List.append_nil] at r1
    rw [r1]
    have := h.n0
    have e : (Axis.rows (0 + (n.toNat : Int)) []).length = 0 := rfl
    rw [e]; omega
  · rw [if_neg e1, rows_length (Axis.E_good e2).1, e4]
theorem old_find {a : Axis.Steps} {n m : Int} (h : AxOk a n m) {p : Int} (p0 : 0 ≤ p) (p1 : p < n) : Axis.find p 0 (oldG a n) = mvG a p := by
  unfold oldG unitsG mvG
  rcases h.ok with ⟨e1, e2⟩ | ⟨e1, e2, e3, e4⟩
  · rw [if_pos e1, if_pos e1]
    have := Axis.find_keep n.toNat [] p 0 0 p0 p0
    rw [List.append_nil] at this
    rw [this, if_pos (by omega)]; omega
  · rw [if_neg e1, if_neg e1]
    exact Axis.pl_find a (Axis.E_good e2).1 p 0 0 p0 p0
/-- Where an old row is now. -/
theorem old_mv {a : Axis.Steps} {n m : Int} (h : AxOk a n m) {p : Int} (p0 : 0 ≤ p) (p1 : p < n) {i : Nat} (hi : (oldG a n)[i]? = some p) : mvG a p = i := by
  rw [← old_find h p0 p1, find_at p0 0 i (old_inc a n) hi]; omega
theorem mv_old {a : Axis.Steps} {n m : Int} (h : AxOk a n m) {p : Int} (p0 : 0 ≤ p) (p1 : p < n) (hm : 0 ≤ mvG a p) : ∃ i : Nat, (oldG a n)[i]? = some p ∧ mvG a p = i := by
  rw [← old_find h p0 p1] at hm ⊢
  obtain ⟨i, h1, h2⟩ := find_get 0 (Int.le_refl _) hm
  exact ⟨i, h1, by omega⟩
/-- Ranges behind a change, out of its old rows. -/
theorem rest_hl {a : Axis.Steps} {n m : Int} (h : AxOk a n m) {p q : Int} (p0 : 0 ≤ p) (hpq : p < q) (hq : q ≤ n) : Axis.desc (fun x => Axis.find x 0 (oldG a n)) (q - p).toNat p 0 0 = hlG a p q := by
  rw [← Axis.asc_desc, Axis.asc_congr (fun x => Axis.find x 0 (oldG a n)) (fun x => mvG a x) _ _ _ _ fun x h1 h2 => old_find h (by omega) (by omega)]
  unfold hlG
  by_cases e : a = []
  · rw [if_pos e, Axis.asc_keep _ 0 _ _ _ _ (by omega) (Int.le_refl _) fun x h1 h2 => by unfold mvG; rw [if_pos e]; omega]
    rw [if_neg (by omega), if_pos rfl]
    congr 1 <;> omega
  · rw [if_neg e]
    unfold Axis.hull
    exact Axis.asc_congr _ _ _ _ _ _ fun x h1 h2 => by unfold mvG; rw [if_neg e]
abbrev Cl := YCell.den
/-- The row, the column. -/
def c0 (c : Cl) : Int := c.1
def c1 (c : Cl) : Int := c.2.1
def posC (c : Cl) : Int × Int := (c0 c, c1 c)
/-- The same cell at another place. -/
def putP (r c : Int) (x : Cl) : Cl := (r, c, x.2.2)
def blank (r c : Int) : Cl := (r, c, [], 0, [])
theorem emc_blank (r c : Int) : emc (blank r c) = true := rfl
theorem emc_putP (r c : Int) (x : Cl) : emc (putP r c x) = emc x := rfl
/-- A cell behind changes of both axes. -/
def movC (rows cols : Axis.Steps) (c : Cl) : Option Cl := if mvG rows (c0 c) < 0 ∨ mvG cols (c1 c) < 0 then none else some (putP (mvG rows (c0 c)) (mvG cols (c1 c)) c)
def movedC (rows cols : Axis.Steps) (l : List Cl) : List Cl := l.filterMap (movC rows cols)
/-- Cells of a grid of a size. -/
structure CsOk (R C : Int) (l : List Cl) : Prop where
  in_ : ∀ c ∈ l, 0 ≤ (c0 c) ∧ (c0 c) < R ∧ 0 ≤ (c1 c) ∧ (c1 c) < C
  srt : Srt posC l
variable {rows cols : Axis.Steps} {R C R' C' : Int}
theorem mem_moved {l : List Cl} (x : Cl) : x ∈ movedC rows cols l ↔ ∃ z ∈ l, 0 ≤ mvG rows (c0 z) ∧ 0 ≤ mvG cols (c1 z) ∧ x = putP (mvG rows (c0 z)) (mvG cols (c1 z)) z := by
  unfold movedC
  rw [List.mem_filterMap]
  constructor
  · rintro ⟨z, hz, h⟩
    unfold movC at h
    split at h
    · cases h
    · rename_i hn
      injection h with h
      exact ⟨z, hz, by omega, by omega, h.symm⟩
  · rintro ⟨z, hz, h1, h2, rfl⟩
    refine ⟨z, hz, ?_⟩
    unfold movC
    rw [if_neg (by omega)]
theorem moved_ok (hr : AxOk rows R R') (hc : AxOk cols C C') {l : List Cl} (h : CsOk R C l) : CsOk R' C' (movedC rows cols l) := by
  refine ⟨fun x hx => ?_, ?_⟩
  · obtain ⟨z, hz, h1, h2, rfl⟩ := (mem_moved x).1 hx
    obtain ⟨a1, a2, a3, a4⟩ := h.in_ z hz
    have b1 := mv_lt hr a1 a2 h1
    have b2 := mv_lt hc a3 a4 h2
    exact ⟨h1, b1, h2, b2⟩
  · unfold movedC Srt
    rw [List.pairwise_filterMap]
    refine List.Pairwise.imp_of_mem (R := fun a b => lt2 (posC a) (posC b)) (fun {a b} ha hb hab x hx y hy => ?_) h.srt
    obtain ⟨a1, a2, a3, a4⟩ := h.in_ a ha
    obtain ⟨b1, b2, b3, b4⟩ := h.in_ b hb
    unfold movC at hx hy
    split at hx
    · cases hx
    split at hy
    · cases hy
    rename_i n1 n2
    injection hx with hx
    injection hy with hy
    subst hx hy
    show lt2 (mvG rows (c0 a), mvG cols (c1 a)) (mvG rows (c0 b), mvG cols (c1 b))
    have hab : lt2 ((c0 a), (c1 a)) ((c0 b), (c1 b)) := hab
    rcases hab with h1 | ⟨h1, h2⟩
    · exact .inl (mv_mono hr a1 h1 (by omega) (by omega))
    · refine .inr ⟨?_, mv_mono hc a3 h2 (by omega) (by omega)⟩
      show mvG rows (c0 a) = mvG rows (c0 b)
      rw [show (c0 a) = (c0 b) from h1]
/-- The cell of a list at a place. -/
def cellAt (l : List Cl) (r c : Int) : Cl := match l.find? fun z => decide (posC z = (r, c)) with
  | some z => z
  | none => blank r c
theorem cellAt_some {l : List Cl} (h : Srt posC l) {z : Cl} (hz : z ∈ l) : cellAt l (c0 z) (c1 z) = z := by
  unfold cellAt
  cases hf : l.find? fun y => decide (posC y = ((c0 z), (c1 z))) with
  | none =>
    have := List.find?_eq_none.1 hf z hz
    simp [posC] at this
  | some y =>
    have h1 := List.find?_some hf
    exact srt_one h (List.mem_of_find?_eq_some hf) hz (of_decide_eq_true h1)
theorem cellAt_cases (l : List Cl) (r c : Int) : (∃ z ∈ l, posC z = (r, c) ∧ cellAt l r c = z) ∨ ((∀ z ∈ l, posC z ≠ (r, c)) ∧ cellAt l r c = blank r c) := by
  unfold cellAt
  cases hf : l.find? fun y => decide (posC y = (r, c)) with
  | none => exact .inr ⟨fun z hz => by simpa using List.find?_eq_none.1 hf z hz, rfl⟩
  | some y =>
    have h1 := List.find?_some hf
    exact .inl ⟨y, List.mem_of_find?_eq_some hf, of_decide_eq_true h1, rfl⟩
/-- What a place holds behind an edit: an old cell, or a new one. -/
def oldC (l : List Cl) (oR oC : List Int) (r c : Nat) : Cl := if 0 ≤ oR.getD r 0 ∧ 0 ≤ oC.getD c 0 then putP r c (cellAt l (oR.getD r 0) (oC.getD c 0)) else blank r c
def newC (ns : List Cl) (r c : Int) (x : Cl) : Cl := ns.foldl (fun x y => if posC y = (r, c) then y else x) x
theorem newC_none {r c : Int} : ∀ {ns : List Cl} (x : Cl), (∀ y ∈ ns, posC y ≠ (r, c)) → newC ns r c x = x
  | [], x, _ => rfl
  | y :: ns, x, h => by
    unfold newC
    rw [List.foldl_cons, if_neg (h y List.mem_cons_self)]
    exact newC_none x fun z hz => h z (List.mem_cons_of_mem _ hz)
theorem newC_some {r c : Int} : ∀ {ns : List Cl} (x : Cl), Srt posC ns → ∀ y ∈ ns, posC y = (r, c) → newC ns r c x = y
  | [], x, _, y, hy, _ => by cases hy
  | z :: ns, x, hs, y, hy, e => by
    have hs' := List.pairwise_cons.1 hs
    unfold newC
    rw [List.foldl_cons]
    rcases List.mem_cons.1 hy with hy | hy
    · rw [← hy, if_pos e]
      refine newC_none y fun w hw ew => ?_
      have := hs'.1 w hw
      rw [← hy, e, ew] at this
      exact lt2_irrefl _ this
    · exact newC_some _ hs'.2 y hy e
/-- The cells that the document tells. -/
def docC (l ns : List Cl) (oR oC : List Int) : List Cl := scan oR.length oC.length fun r c => if emc (newC ns r c (oldC l oR oC r c)) = true then [] else [newC ns r c (oldC l oR oC r c)]
theorem oldC_pos (l : List Cl) (oR oC : List Int) (r c : Nat) : posC (oldC l oR oC r c) = ((r : Int), (c : Int)) := by
  unfold oldC
  split <;> rfl
theorem newC_pos (ns : List Cl) (r c : Int) : ∀ (x : Cl), posC x = (r, c) → posC (newC ns r c x) = (r, c) := by
  induction ns with
  | nil => intro x h; exact h
  | cons y ns ih =>
    intro x h
    unfold newC
    rw [List.foldl_cons]
    split
    · rename_i e; exact ih y e
    · exact ih x h
theorem docC_eq (hr : AxOk rows R R') (hc : AxOk cols C C') {l ns : List Cl} (hl : CsOk R C l) (hn : CsOk R' C' ns) (he : ∀ z ∈ l, emc z = false) : docC l ns (oldG rows R) (oldG cols C) = putL posC emc (movedC rows cols l) ns := by
  have hm := moved_ok hr hc hl
  have lR := old_len hr
  have lC := old_len hc
  refine srt_ext (srt_scan (fun r c x hx => ?_) fun r c => ?_) (srt_put hm.srt hn.srt) fun x => ?_
  · split at hx
    · cases hx
    · rw [List.mem_singleton.1 hx]
      exact newC_pos _ _ _ _ (oldC_pos _ _ _ _ _)
  · split <;> simp
  · unfold docC
    rw [mem_scan, mem_put hm.srt hn.srt]
    constructor
    · rintro ⟨r, c, h1, h2, hx⟩
      split at hx
      · cases hx
      rename_i hnz
      have hx := List.mem_singleton.1 hx
      have hnz : emc x = false := by rw [hx]; simpa using hnz
      by_cases hy : ∃ y ∈ ns, posC y = ((r : Int), (c : Int))
      · obtain ⟨y, hy1, hy2⟩ := hy
        rw [newC_some _ hn.srt y hy1 hy2] at hx
        subst hx
        exact .inl ⟨hy1, hnz⟩
      · have hy : ∀ y ∈ ns, posC y ≠ ((r : Int), (c : Int)) := fun y hy1 hy2 => hy ⟨y, hy1, hy2⟩
        rw [newC_none _ hy] at hx
        unfold oldC at hx
        split at hx
        · rename_i ho
          have gR : (oldG rows R)[r]? = some ((oldG rows R).getD r 0) := by rw [List.getD_eq_getElem?_getD, List.getElem?_eq_getElem h1]; rfl
          have gC : (oldG cols C)[c]? = some ((oldG cols C).getD c 0) := by rw [List.getD_eq_getElem?_getD, List.getElem?_eq_getElem h2]; rfl
          generalize (oldG rows R).getD r 0 = p at gR ho hx
          generalize (oldG cols C).getD c 0 = q at gC ho hx
          rcases cellAt_cases l p q with ⟨z, hz, hzp, hzc⟩ | ⟨_, hb⟩
          · have e1 : (c0 z) = p := congrArg (fun p : Int × Int => p.1) hzp
            have e2 : (c1 z) = q := congrArg (fun p : Int × Int => p.2) hzp
            obtain ⟨a1, a2, a3, a4⟩ := hl.in_ z hz
            have m1 := old_mv hr (p := p) (by omega) (by omega) gR
            have m2 := old_mv hc (p := q) (by omega) (by omega) gC
            refine .inr ⟨(mem_moved x).2 ⟨z, hz, by rw [e1, m1]; omega, by rw [e2, m2]; omega, ?_⟩, fun y hy1 => ?_⟩
            · rw [hx, hzc, e1, e2, m1, m2]
            · rw [hx]; exact hy y hy1
          · rw [hx, hb, emc_putP, emc_blank] at hnz; cases hnz
        · rw [hx, emc_blank] at hnz; cases hnz
    · rintro (⟨h1, h2⟩ | ⟨h1, h2⟩)
      · obtain ⟨a1, a2, a3, a4⟩ := hn.in_ x h1
        have ep : posC x = (((c0 x).toNat : Int), ((c1 x).toNat : Int)) := by
          show ((c0 x), (c1 x)) = _
          rw [Int.toNat_of_nonneg a1, Int.toNat_of_nonneg a3]
        refine ⟨(c0 x).toNat, (c1 x).toNat, by omega, by omega, ?_⟩
        rw [newC_some _ hn.srt x h1 ep, h2]
        exact List.mem_singleton.2 rfl
      · obtain ⟨z, hz, z1, z2, rfl⟩ := (mem_moved _).1 h1
        obtain ⟨a1, a2, a3, a4⟩ := hl.in_ z hz
        obtain ⟨i, i1, i2⟩ := mv_old hr a1 a2 z1
        obtain ⟨j, j1, j2⟩ := mv_old hc a3 a4 z2
        have hi := (List.getElem?_eq_some_iff.1 i1).1
        have hj := (List.getElem?_eq_some_iff.1 j1).1
        refine ⟨i, j, hi, hj, ?_⟩
        have hy : ∀ y ∈ ns, posC y ≠ ((i : Int), (j : Int)) := fun y hy1 hy2 => h2 y hy1 (by rw [hy2]; show _ = (mvG rows (c0 z), mvG cols (c1 z)); rw [i2, j2])
        have gR : (oldG rows R).getD i 0 = (c0 z) := by rw [List.getD_eq_getElem?_getD, i1]; rfl
        have gC : (oldG cols C).getD j 0 = (c1 z) := by rw [List.getD_eq_getElem?_getD, j1]; rfl
        have ho : oldC l (oldG rows R) (oldG cols C) i j = putP (mvG rows (c0 z)) (mvG cols (c1 z)) z := by
          unfold oldC
          rw [gR, gC, if_pos ⟨a1, a3⟩, cellAt_some hl.srt hz, i2, j2]
        rw [newC_none _ hy, ho, emc_putP, he z hz]
        exact List.mem_singleton.2 rfl
end Go.Ev.Doc
namespace Go.Ev.Doc
open Go.Ev Go.Ev.Axis Go.Ev.Hul Go.Ev.Lex
set_option linter.unusedVariables false
set_option linter.unusedSimpArgs false
set_option maxRecDepth 100000
/-- How two rectangles are compared. -/
def cfR (x y : Rc) : Int := if sgn (r0 x) (r0 y) ≠ 0 then sgn (r0 x) (r0 y) else sgn (r1 x) (r1 y)
theorem cfR_lt (x y : Rc) : cfR x y < 0 ↔ lt2 (posR x) (posR y) := by
  unfold cfR sgn lt2 posR
  simp only
  by_cases h1 : (r0 x) < (r0 y)
  · rw [if_pos h1, if_pos (by decide)]
    constructor
    · intro _; exact .inl h1
    · intro _; decide
  · rw [if_neg h1]
    by_cases h2 : (r0 x) > (r0 y)
    · rw [if_pos h2, if_pos (by decide)]
      constructor
      · intro h; exact absurd h (by decide)
      · intro h; omega
    · rw [if_neg h2, if_neg (by decide)]
      by_cases h3 : (r1 x) < (r1 y)
      · rw [if_pos h3]
        constructor
        · intro _; exact .inr ⟨by omega, h3⟩
        · intro _; decide
      · rw [if_neg h3]
        by_cases h4 : (r1 x) > (r1 y)
        · rw [if_pos h4]
          constructor
          · intro h; exact absurd h (by decide)
          · intro h; omega
        · rw [if_neg h4]
          constructor
          · intro h; exact absurd h (by decide)
          · intro h; omega
theorem ltOf_cfR (x y : Rc) : Go.Proofs.ltOf cfR x y = decide (lt2 (posR x) (posR y)) := by
  unfold Go.Proofs.ltOf
  by_cases h : lt2 (posR x) (posR y)
  · rw [decide_eq_true h, decide_eq_true ((cfR_lt x y).2 h)]
  · rw [decide_eq_false h, decide_eq_false fun h2 => h ((cfR_lt x y).1 h2)]
theorem swoR : Go.Sort.SWO (Go.Proofs.ltOf cfR) where
  irrefl x := by rw [ltOf_cfR]; exact decide_eq_false (lt2_irrefl _)
  trans x y z h1 h2 := by
    rw [ltOf_cfR] at *
    exact decide_eq_true (lt2_trans (of_decide_eq_true h1) (of_decide_eq_true h2))
  ntrans x y z h1 h2 := by
    rw [ltOf_cfR] at *
    have h1 := of_decide_eq_false h1
    have h2 := of_decide_eq_false h2
    refine decide_eq_false ?_
    unfold lt2 at *; omega
theorem tieR {R C : Int} {l : List Rc} (h : Apart R C l) : TieFree cfR l := fun x hx y hy h1 h2 => by
  rw [cfR_lt] at h1 h2
  refine apart_pos h hx hy ?_
  rcases lt2_tri (posR x) (posR y) with h3 | h3 | h3
  · exact absurd h3 h1
  · exact h3
  · exact absurd h3 h2
/-- The rectangles that the document tells, place by place. -/
def docM (l : List Rc) (R C : Nat) : List Rc := scan R C fun r c => l.filter fun q => decide (posR q = ((r : Int), (c : Int)))
theorem apart_nodup {R C : Int} {l : List Rc} (h : Apart R C l) : l.Nodup := by
  refine List.Pairwise.imp_of_mem (R := fun a b => mts a b = false) (S := fun a b => a ≠ b) (fun {a b} ha hb hab e => ?_) h.ap
  subst e
  rw [mts_self (h.in_ a ha)] at hab; cases hab
theorem filter_one {R C : Int} {l : List Rc} (h : Apart R C l) (p : Int × Int) : (l.filter fun q => decide (posR q = p)).length ≤ 1 := by
  have hn : (l.filter fun q => decide (posR q = p)).Nodup := (apart_nodup h).sublist List.filter_sublist
  have hm : ∀ x ∈ l.filter (fun q => decide (posR q = p)), x ∈ l ∧ posR x = p := fun x hx => by
    have := List.mem_filter.1 hx
    exact ⟨this.1, of_decide_eq_true this.2⟩
  match l.filter (fun q => decide (posR q = p)), hn, hm with
  | [], _, _ => exact Nat.zero_le _
  | [x], _, _ => exact Nat.le_refl _
  | x :: y :: m, hn, hm =>
    have hx := hm x List.mem_cons_self
    have hy := hm y (List.mem_cons_of_mem _ List.mem_cons_self)
    have := apart_pos h hx.1 hy.1 (hx.2.trans hy.2.symm)
    subst this
    exact absurd List.mem_cons_self (List.nodup_cons.1 hn).1
theorem docM_eq {R C : Nat} {l : List Rc} (h : Apart R C l) : docM l R C = sorted cfR l := by
  have hs : Srt posR (docM l R C) := srt_scan (fun r c x hx => of_decide_eq_true (List.mem_filter.1 hx).2) fun r c => filter_one h _
  refine sorted_eq swoR (tieR h) ?_ (hs.imp fun {a b} hab => ?_)
  · refine (List.perm_ext_iff_of_nodup (srt_nodup hs) (apart_nodup h)).2 fun x => ?_
    unfold docM
    rw [mem_scan]
    constructor
    · rintro ⟨r, c, _, _, hx⟩; exact (List.mem_filter.1 hx).1
    · intro hx
      obtain ⟨h1, h2, h3, h4, h5, h6, h7, h8⟩ := (liesI x R C).1 (h.in_ x hx)
      refine ⟨(r0 x).toNat, (r1 x).toNat, by omega, by omega, List.mem_filter.2 ⟨hx, decide_eq_true ?_⟩⟩
      show ((r0 x), (r1 x)) = _
      rw [Int.toNat_of_nonneg h1, Int.toNat_of_nonneg h2]
  · rw [cfR_lt]
    exact lt2_asymm hab
/-- A rectangle behind changes, as the document tells it. -/
def mrR (rows cols : Axis.Steps) (r : Rc) : Rc := if (hlG rows (r0 r) ((r0 r) + (r2 r))).1 < (hlG rows (r0 r) ((r0 r) + (r2 r))).2 ∧ (hlG cols (r1 r) ((r1 r) + (r3 r))).1 < (hlG cols (r1 r) ((r1 r) + (r3 r))).2 ∧
    (hlG rows (r0 r) ((r0 r) + (r2 r))).2 - (hlG rows (r0 r) ((r0 r) + (r2 r))).1 + (hlG cols (r1 r) ((r1 r) + (r3 r))).2 - (hlG cols (r1 r) ((r1 r) + (r3 r))).1 > 2 then thrG rows cols r else mkR 0 0 0 0
theorem all_contains (q : Rc) : ∀ split : List Rc, (split.all fun s => !(s == q)) = !(split.contains q)
  | [] => rfl
  | s :: m => by
    have := all_contains q m
    rw [List.all_cons, List.contains_cons, Bool.not_or, this, Bool.beq_comm (a := s)]
theorem mr_stay (rows cols : Axis.Steps) (split : List Rc) (l : List Rc) : (l.map (mrR rows cols)).filter (fun q => decide ((r2 q) > 0) && split.all fun s => !(s == q)) = stayR rows cols split l := by
  unfold stayR
  induction l with
  | nil => rfl
  | cons r l ih =>
    rw [List.map_cons, List.map_cons, List.filter_cons, List.filter_cons, ih]
    by_cases hk : okR (thrG rows cols r) = true
    · have h := (okR_iff _).1 hk
      have e : mrR rows cols r = thrG rows cols r := by
        unfold mrR
        rw [if_pos]
        unfold thrG at h
        simp only [r2_mk, r3_mk] at h
        omega
      rw [e, hk, decide_eq_true h.1, all_contains]
    · have hk : okR (thrG rows cols r) = false := Bool.eq_false_iff.2 hk
      have e : mrR rows cols r = mkR 0 0 0 0 := by
        unfold mrR
        rw [if_neg]
        intro h
        have : okR (thrG rows cols r) = true := by
          rw [okR_iff]; unfold thrG; simp only [r2_mk, r3_mk]; omega
        rw [hk] at this; cases this
      rw [e, hk]
      rfl
end Go.Ev.Doc
namespace Go.Ev.Doc
open Go.Ev Go.Ev.Attr Go.Ev.Track Go.Ev.Delta Go.Ev.Axis Go.Ev.Hul Go.Ev.Lex
set_option linter.unusedVariables false
set_option linter.unusedSimpArgs false
set_option maxRecDepth 100000
abbrev Edit := YGridEdit.den
def er (e : Edit) : Axis.Steps := e.1
def el (e : Edit) : Axis.Steps := e.2.1
def ec (e : Edit) : List Cl := e.2.2.1
def es (e : Edit) : List Rc := e.2.2.2.1
def em (e : Edit) : List Rc := e.2.2.2.2
def gR (g : Grid) : Int := g.1
def gC (g : Grid) : Int := g.2.1
/-- An edit is short enough. -/
structure Es (e : Edit) : Prop where
  r : (er e).length ≤ 1048576
  l : (el e).length ≤ 1048576
  c : (ec e).length ≤ 1048576
  a : ∀ c ∈ ec e, Sh (ca c) ∧ (c.2.2.1 : List UInt8).length ≤ 1048576
  s : (es e).length ≤ 1048576
  m : (em e).length ≤ 1048576
/-- The first that is wrong. -/
def orE (a b : Int) : Int := if a = 0 then b else a
theorem orE0 {a b : Int} : orE a b = 0 ↔ a = 0 ∧ b = 0 := by
  unfold orE
  split
  · rename_i h; exact ⟨fun h2 => ⟨h, h2⟩, fun h2 => h2.2⟩
  · rename_i h; exact ⟨fun h2 => absurd h2 h, fun h2 => absurd h2.1 h⟩
theorem orE_ne {a : Int} (b : Int) (h : a ≠ 0) : orE a b = a := if_neg h
theorem orE_eq {a : Int} (b : Int) (h : a = 0) : orE a b = b := if_pos h
def u1 (r : Rc) : Bool := (r.2.2.1 : Int) == 1
def u2 (r : Rc) : Bool := (r.2.2.2 : Int) == 1
/-- What is wrong with rectangles of an edit. -/
def rsE (k : Bool) : List Rc → Int
  | [] => 0
  | r :: l => bcond (lies r 2147483647 2147483647) (bcond (k && (u1 r && u2 r)) 4 (rsE k l)) 2
theorem most_ok : (0 : Int) ≤ 2147483647 ∧ (2147483647 : Int) ≤ 2147483648 := by decide
theorem chk2 (n m1 : Nat) (x7 : Int) (k : Bool) (hk : ((x7 : Int) == 1) = k) (A B : List Rc) (x36 : Int) (l : List Rc) (hl : l.length ≤ 1048576) (c : Int) (hc : L_grid_CheckEdit_1 n m1 A B (IntKind.i64.wrap (x36 + 1)) = some (ret_grid_CheckEdit c)) :
    ∀ (d i m : Nat), i + d = l.length → d < m → L_grid_CheckEdit_2 n m1 m x7 A B x36 l (l.length : Int) (i : Int) = some (ret_grid_CheckEdit (orE (rsE k (l.drop i)) c)) := by
  intro d
  induction d with
  | zero =>
    intro i m hi hm
    obtain ⟨m, rfl⟩ : ∃ q, m = q + 1 := ⟨m - 1, by omega⟩
    obtain rfl : i = l.length := by omega
    rw [L_grid_CheckEdit_2_step, dlt_self, List.drop_length]
    exact hc
  | succ d ih =>
    intro i m hi hm
    obtain ⟨m, rfl⟩ : ∃ q, m = q + 1 := ⟨m - 1, by omega⟩
    have h : i < l.length := by omega
    have i1 := ih (i + 1) m (by omega) (by omega)
    rw [L_grid_CheckEdit_2_step, dlt h, bT, if_pos ((inb i l.length).2 h), at_get (e := YRect) l i h, inside_eq l[i] _ _ most_ok most_ok, wsucc h (by omega), List.drop_eq_getElem_cons h, rsE, hk]
    simp only [Option.bind_some, res_grid_inside_0_ret]
    rw [i1, show ((l[i].2.2.1 : Int) == 1) = u1 l[i] from rfl, show ((l[i].2.2.2 : Int) == 1) = u2 l[i] from rfl]
    cases lies l[i] 2147483647 2147483647
    · rfl
    · cases k <;> cases u1 l[i] <;> cases u2 l[i] <;> rfl
/-- What is wrong with an edit by itself. -/
def editE (e : Edit) : Int := orE (Axis.E (er e)) (orE (Axis.E (el e)) (orE (cellsE (ec e) 2147483647 2147483647 true) (orE (rsE false (es e)) (rsE true (em e)))))
theorem bne_E {x : Int} : (x != 0) = !(decide (x = 0)) := by
  by_cases h : x = 0
  · rw [h]; rfl
  · rw [decide_eq_false h]; simpa using h
theorem editchk_eq (e : Edit) (he : Es e) : C_grid_CheckEdit F_grid_CheckEdit e = some (ret_grid_CheckEdit (editE e)) := by
  obtain ⟨m, hm⟩ := big_succ (n := 4) (by omega)
  have b5 : big = m + 1 + 1 + 1 + 1 + 1 := by omega
  have w1 : IntKind.i64.wrap ((0 : Int) + 1) = 1 := rfl
  have w2 : IntKind.i64.wrap ((1 : Int) + 1) = 2 := rfl
  have q0 : decide ((0 : Int) < 2) = true := rfl
  have q1 : decide ((1 : Int) < 2) = true := rfl
  have q2 : decide ((2 : Int) < 2) = false := rfl
  have p0 : 0 ≤ (0 : Int) ∧ (0 : Int) < 2 := by decide
  have p1 : 0 ≤ (1 : Int) ∧ (1 : Int) < 2 := by decide
  -- rectangles
  have r2 : ∀ n k, L_grid_CheckEdit_1 n (k + 1) (es e) (em e) 2 = some (ret_grid_CheckEdit 0) := fun n k => by
    rw [L_grid_CheckEdit_1_step, q2, bF]
  have r1 : ∀ k, L_grid_CheckEdit_1 big (k + 1 + 1) (es e) (em e) 1 = some (ret_grid_CheckEdit (rsE true (em e))) := fun k => by
    have e1 : at_ (e := (.list YRect)) [es e, em e] 1 = em e := rfl
    rw [L_grid_CheckEdit_1_step, q1, bT, if_pos p1, e1]
    have := chk2 big (k + 1) 1 true rfl (es e) (em e) 1 (em e) he.m 0 (by rw [w2]; exact r2 big k) (em e).length 0 big (by omega) (big_ge (n := (em e).length + 1) (by have := he.m; omega))
    rw [List.drop_zero] at this
    rw [show ((0 : Nat) : Int) = 0 from rfl] at this
    rw [this]
    unfold orE
    split
    · rename_i h; rw [h]
    · rfl
  have r0 : L_grid_CheckEdit_1 big big (es e) (em e) 0 = some (ret_grid_CheckEdit (orE (rsE false (es e)) (rsE true (em e)))) := by
    have e0 : at_ (e := (.list YRect)) [es e, em e] 0 = es e := rfl
    have hb : big = (m + 1 + 1) + 1 + 1 + 1 := by omega
    have := chk2 big ((m + 1 + 1) + 1 + 1) 0 false rfl (es e) (em e) 0 (es e) he.s _ (by rw [w1]; exact r1 (m + 1 + 1)) (es e).length 0 big (by omega) (big_ge (n := (es e).length + 1) (by have := he.s; omega))
    rw [List.drop_zero] at this
    rw [show ((0 : Nat) : Int) = 0 from rfl] at this
    have key : L_grid_CheckEdit_1 big ((m + 1 + 1) + 1 + 1 + 1) (es e) (em e) 0 = some (ret_grid_CheckEdit (orE (rsE false (es e)) (rsE true (em e)))) := by
      rw [L_grid_CheckEdit_1_step, q0, bT, if_pos p0, e0]
      exact this
    rw [← hb] at key
    exact key
  -- cells
  have c0 : ∀ k, L_grid_CheckEdit_0 big (k + 1) (er e) (el e) (ec e) (es e) (em e) (er e) (el e) 2 = some (ret_grid_CheckEdit (orE (cellsE (ec e) 2147483647 2147483647 true) (orE (rsE false (es e)) (rsE true (em e))))) := fun k => by
    rw [L_grid_CheckEdit_0_step, q2, bF, (gcells_eq (ec e) he.c he.a 2147483647 2147483647 most_ok most_ok true).1]
    simp only [Option.bind_some, res_grid_cells_0_ret]
    rw [r0, bne_E]
    unfold orE
    by_cases h : cellsE (ec e) 2147483647 2147483647 true = 0
    · rw [if_pos h, decide_eq_true h]; rfl
    · rw [if_neg h, decide_eq_false h]; rfl
  -- axes
  have a1 : ∀ k, L_grid_CheckEdit_0 big (k + 1 + 1) (er e) (el e) (ec e) (es e) (em e) (er e) (el e) 1 = some (ret_grid_CheckEdit (orE (Axis.E (el e)) (orE (cellsE (ec e) 2147483647 2147483647 true) (orE (rsE false (es e)) (rsE true (em e)))))) := fun k => by
    have e1 : at_ (e := (.list YSpan)) [er e, el e] 1 = el e := rfl
    rw [L_grid_CheckEdit_0_step, q1, bT, if_pos p1, e1, Axis.check_eq (el e) he.l, w2, c0 k]
    simp only [Option.bind_some, res_axis_Check_0_ret]
    rw [bne_E]
    by_cases h : Axis.E (el e) = 0
    · rw [orE_eq _ h, decide_eq_true h]; rfl
    · rw [orE_ne _ h, decide_eq_false h]; rfl
  have a0 : L_grid_CheckEdit_0 big (m + 1 + 1 + 1 + 1 + 1) (er e) (el e) (ec e) (es e) (em e) (er e) (el e) 0 = some (ret_grid_CheckEdit (editE e)) := by
    have e1 : at_ (e := (.list YSpan)) [er e, el e] 0 = er e := rfl
    rw [L_grid_CheckEdit_0_step, q0, bT, if_pos p0, e1, Axis.check_eq (er e) he.r, w1, a1 (m + 1 + 1)]
    simp only [Option.bind_some, res_axis_Check_0_ret]
    rw [bne_E]
    unfold editE
    by_cases h : Axis.E (er e) = 0
    · rw [orE_eq _ h, decide_eq_true h]; rfl
    · rw [orE_ne _ h, decide_eq_false h]; rfl
  rw [← b5] at a0
  rw [e_grid_CheckEdit]
  exact a0
theorem gsize_eq (n : Int) (a : Axis.Steps) (hl : a.length ≤ 1048576) (h : Axis.E a = 0) : C_grid_size F_grid_size n a = some (ret_grid_size (szG n a).1 (szG n a).2) := by
  rw [e_grid_size]
  unfold szG
  by_cases h0 : a = []
  · subst h0; rfl
  · have : ((a.length : Int) == 0) = false := by
      cases a with
      | nil => exact absurd rfl h0
      | cons x l => simp; omega
    rw [if_neg h0, this, bF, lens_eq a hl h]
    simp only [Option.bind_some, res_axis_Lengths_0_ret, res_axis_Lengths_1_ret]
    rfl
theorem sz_ok {n : Int} {a : Axis.Steps} (h : Axis.E a = 0) (hs : (szG n a).2 = true) (n0 : 0 ≤ n) (n1 : n ≤ 2147483647) : AxOk a n (szG n a).1 := by
  refine ⟨?_, n0, n1⟩
  unfold szG at hs ⊢
  by_cases h0 : a = []
  · rw [if_pos h0]; exact .inl ⟨h0, rfl⟩
  · rw [if_neg h0] at hs ⊢
    exact .inr ⟨h0, h, of_decide_eq_true hs, rfl⟩
def fcE (R C : Int) : List Cl → Int
  | [] => 0
  | c :: l => bcond (decide (c0 c ≥ R)) 2 (bcond (decide (c1 c ≥ C)) 2 (fcE R C l))
def frE (R C : Int) : List Rc → Int
  | [] => 0
  | r :: l => bcond (lies r R C) (frE R C l) 2
def newR (g : Grid) (e : Edit) : Int := (szG (gR g) (er e)).1
def newC' (g : Grid) (e : Edit) : Int := (szG (gC g) (el e)).1
def fitE (g : Grid) (e : Edit) : Int :=
  bcond (szG (gR g) (er e)).2 (bcond (szG (gC g) (el e)).2 (orE (fcE (newR g e) (newC' g e) (ec e)) (orE (frE (newR g e) (newC' g e) (es e)) (frE (newR g e) (newC' g e) (em e)))) 14) 14
/-- What is wrong with an edit of a grid. -/
def allE (g : Grid) (e : Edit) : Int := orE (gridE g) (orE (editE e) (fitE g e))
theorem gridE_ok {g : Grid} (h : gridE g = 0) : (0 ≤ gR g ∧ gR g ≤ 2147483647) ∧ (0 ≤ gC g ∧ gC g ≤ 2147483647) ∧ cellsE (gc g) (gR g) (gC g) false = 0 ∧ mergesE (gR g) (gC g) (gm g) (gm g).length 0 = 0 := by
  unfold gridE at h
  have e1 : (g.1 : Int) = gR g := rfl
  have e2 : (g.2.1 : Int) = gC g := rfl
  rw [e1, e2] at h
  by_cases a1 : gR g < 0
  · rw [decide_eq_true a1] at h; cases h
  by_cases a2 : gR g > 2147483647
  · rw [decide_eq_false a1, decide_eq_true a2] at h; cases h
  by_cases a3 : gC g < 0
  · rw [decide_eq_false a1, decide_eq_false a2, decide_eq_true a3] at h; cases h
  by_cases a4 : gC g > 2147483647
  · rw [decide_eq_false a1, decide_eq_false a2, decide_eq_false a3, decide_eq_true a4] at h; cases h
  rw [decide_eq_false a1, decide_eq_false a2, decide_eq_false a3, decide_eq_false a4, bF, bF, bF, bF, bne_E] at h
  by_cases a5 : cellsE (gc g) (gR g) (gC g) false = 0
  · rw [decide_eq_true a5] at h
    exact ⟨⟨by omega, by omega⟩, ⟨by omega, by omega⟩, a5, h⟩
  · rw [decide_eq_false a5] at h; exact absurd h a5
variable {R C : Int}
theorem fit2 (n m1 : Nat) (hR : 0 ≤ R ∧ R ≤ 2147483648) (hC : 0 ≤ C ∧ C ≤ 2147483648) (A B : List Rc) (x74 : Int) (l : List Rc) (hl : l.length ≤ 1048576) (c : Int) (hc : L_grid_fits_1 n m1 R C A B (IntKind.i64.wrap (x74 + 1)) = some (if c = 0 then ret_grid_fits R C 0 else ret_grid_fits 0 0 c)) :
    ∀ (d i m : Nat), i + d = l.length → d < m → L_grid_fits_2 n m1 m R C A B x74 l (l.length : Int) (i : Int) = some (if orE (frE R C (l.drop i)) c = 0 then ret_grid_fits R C 0 else ret_grid_fits 0 0 (orE (frE R C (l.drop i)) c)) := by
  intro d
  induction d with
  | zero =>
    intro i m hi hm
    obtain ⟨m, rfl⟩ : ∃ q, m = q + 1 := ⟨m - 1, by omega⟩
    obtain rfl : i = l.length := by omega
    rw [L_grid_fits_2_step, dlt_self, List.drop_length]
    exact hc
  | succ d ih =>
    intro i m hi hm
    obtain ⟨m, rfl⟩ : ∃ q, m = q + 1 := ⟨m - 1, by omega⟩
    have h : i < l.length := by omega
    have i1 := ih (i + 1) m (by omega) (by omega)
    rw [L_grid_fits_2_step, dlt h, bT, if_pos ((inb i l.length).2 h), at_get (e := YRect) l i h, inside_eq l[i] _ _ hR hC, wsucc h (by omega), List.drop_eq_getElem_cons h, frE]
    simp only [Option.bind_some, res_grid_inside_0_ret]
    rw [i1]
    cases lies l[i] R C <;> rfl
theorem fit1 (hR : 0 ≤ R ∧ R ≤ 2147483648) (hC : 0 ≤ C ∧ C ≤ 2147483648) (A B : List Rc) (hA : A.length ≤ 1048576) (hB : B.length ≤ 1048576) : L_grid_fits_1 big big R C A B 0 = some (if orE (frE R C A) (frE R C B) = 0 then ret_grid_fits R C 0 else ret_grid_fits 0 0 (orE (frE R C A) (frE R C B))) := by
  obtain ⟨m, hm⟩ := big_succ (n := 4) (by omega)
  have w1 : IntKind.i64.wrap ((0 : Int) + 1) = 1 := rfl
  have w2 : IntKind.i64.wrap ((1 : Int) + 1) = 2 := rfl
  have q0 : decide ((0 : Int) < 2) = true := rfl
  have q1 : decide ((1 : Int) < 2) = true := rfl
  have q2 : decide ((2 : Int) < 2) = false := rfl
  have p0 : 0 ≤ (0 : Int) ∧ (0 : Int) < 2 := by decide
  have p1 : 0 ≤ (1 : Int) ∧ (1 : Int) < 2 := by decide
  have r2 : ∀ k, L_grid_fits_1 big (k + 1) R C A B 2 = some (if (0 : Int) = 0 then ret_grid_fits R C 0 else ret_grid_fits 0 0 0) := fun k => by
    rw [L_grid_fits_1_step, q2, bF, if_pos rfl]
  have r1 : ∀ k, L_grid_fits_1 big (k + 1 + 1) R C A B 1 = some (if frE R C B = 0 then ret_grid_fits R C 0 else ret_grid_fits 0 0 (frE R C B)) := fun k => by
    have e1 : at_ (e := (.list YRect)) [A, B] 1 = B := rfl
    rw [L_grid_fits_1_step, q1, bT, if_pos p1, e1]
    have := fit2 big (k + 1) hR hC A B 1 B hB 0 (by rw [w2]; exact r2 k) B.length 0 big (by omega) (big_ge (n := B.length + 1) (by omega))
    rw [List.drop_zero] at this
    rw [show ((0 : Nat) : Int) = 0 from rfl] at this
    have z : orE (frE R C B) 0 = frE R C B := by
      unfold orE; split
      · rename_i h; exact h.symm
      · rfl
    rw [z] at this
    exact this
  have hb : big = (m + 1 + 1) + 1 + 1 + 1 := by omega
  have := fit2 big ((m + 1 + 1) + 1 + 1) hR hC A B 0 A hA _ (by rw [w1]; exact r1 (m + 1 + 1)) A.length 0 big (by omega) (big_ge (n := A.length + 1) (by omega))
  rw [List.drop_zero] at this
  rw [show ((0 : Nat) : Int) = 0 from rfl] at this
  have key : L_grid_fits_1 big ((m + 1 + 1) + 1 + 1 + 1) R C A B 0 = some (if orE (frE R C A) (frE R C B) = 0 then ret_grid_fits R C 0 else ret_grid_fits 0 0 (orE (frE R C A) (frE R C B))) := by
    have e0 : at_ (e := (.list YRect)) [A, B] 0 = A := rfl
    rw [L_grid_fits_1_step, q0, bT, if_pos p0, e0]
    exact this
  rw [← hb] at key
  exact key
theorem fit0 (hR : 0 ≤ R ∧ R ≤ 2147483648) (hC : 0 ≤ C ∧ C ≤ 2147483648) (a b : Axis.Steps) (cs l : List Cl) (A B : List Rc) (hA : A.length ≤ 1048576) (hB : B.length ≤ 1048576) (hl : l.length ≤ 1048576) : ∀ (d i m : Nat), i + d = l.length → d < m →
    L_grid_fits_0 big m a b cs A B R C l (l.length : Int) (i : Int) = some (if orE (fcE R C (l.drop i)) (orE (frE R C A) (frE R C B)) = 0 then ret_grid_fits R C 0 else ret_grid_fits 0 0 (orE (fcE R C (l.drop i)) (orE (frE R C A) (frE R C B)))) := by
  intro d
  induction d with
  | zero =>
    intro i m hi hm
    obtain ⟨m, rfl⟩ : ∃ q, m = q + 1 := ⟨m - 1, by omega⟩
    obtain rfl : i = l.length := by omega
    rw [L_grid_fits_0_step, dlt_self, List.drop_length]
    exact fit1 hR hC A B hA hB
  | succ d ih =>
    intro i m hi hm
    obtain ⟨m, rfl⟩ : ∃ q, m = q + 1 := ⟨m - 1, by omega⟩
    have h : i < l.length := by omega
    have i1 := ih (i + 1) m (by omega) (by omega)
    rw [L_grid_fits_0_step, dlt h, bT, if_pos ((inb i l.length).2 h), at_get (e := YCell) l i h, wsucc h (by omega), List.drop_eq_getElem_cons h, fcE, i1, show (l[i].1 : Int) = c0 l[i] from rfl, show (l[i].2.1 : Int) = c1 l[i] from rfl]
    cases decide (c0 l[i] ≥ R) <;> cases decide (c1 l[i] ≥ C) <;> rfl
theorem fits_eq (g : Grid) (e : Edit) (hg : Gs g) (he : Es e) : C_grid_fits F_grid_fits g e = some (if allE g e = 0 then ret_grid_fits (newR g e) (newC' g e) 0 else ret_grid_fits 0 0 (allE g e)) := by
  rw [e_grid_fits, (gridchk_eq g hg).1]
  simp only [Option.bind_some, res_grid_Check_0_ret]
  rw [bne_E]
  unfold allE
  by_cases h1 : gridE g = 0
  · rw [decide_eq_true h1, orE_eq _ h1, Bool.not_true, bF, editchk_eq e he]
    simp only [Option.bind_some, res_grid_CheckEdit_0_ret]
    rw [bne_E]
    by_cases h2 : editE e = 0
    · rw [decide_eq_true h2, orE_eq _ h2, Bool.not_true, bF]
      have h3 := h2
      unfold editE at h3
      rw [orE0, orE0] at h3
      obtain ⟨⟨g0, g1⟩, ⟨g2, g3⟩, _⟩ := gridE_ok h1
      have s1 := gsize_eq (gR g) (er e) he.r h3.1
      have s2 := gsize_eq (gC g) (el e) he.l h3.2.1
      have s1' : C_grid_size F_grid_size g.1 e.1 = _ := s1
      have s2' : C_grid_size F_grid_size g.2.1 e.2.1 = _ := s2
      rw [s1', s2']
      simp only [Option.bind_some, res_grid_size_1_ret, res_grid_size_0_ret]
      unfold fitE
      cases k1 : (szG (gR g) (er e)).2
      · rfl
      · cases k2 : (szG (gC g) (el e)).2
        · rfl
        · have x1 := (sz_ok h3.1 k1 g0 g1).m
          have x2 := (sz_ok h3.2.1 k2 g2 g3).m
          have := fit0 (R := newR g e) (C := newC' g e) (by unfold newR; omega) (by unfold newC'; omega) (er e) (el e) (ec e) (ec e) (es e) (em e) he.s he.m he.c (ec e).length 0 big (by omega) (big_ge (n := (ec e).length + 1) (by have := he.c; omega))
          rw [List.drop_zero] at this
          exact this
    · rw [decide_eq_false h2, orE_ne _ h2, if_neg h2]; rfl
  · rw [decide_eq_false h1, orE_ne _ h1, if_neg h1]; rfl
end Go.Ev.Doc
namespace Go.Ev.Doc
open Go.Ev Go.Ev.Attr Go.Ev.Track Go.Ev.Delta Go.Ev.Axis Go.Ev.Hul Go.Ev.Lex
set_option linter.unusedVariables false
set_option linter.unusedSimpArgs false
set_option maxRecDepth 100000
theorem ordI (x y : Cl) : ord x y ≥ 0 ↔ c0 y < c0 x ∨ (c0 y = c0 x ∧ c1 y ≤ c1 x) := ord_ge x y
theorem ord_lt (x y : Cl) : decide (ord x y < 0) = decide (lt2 (posC x) (posC y)) := by
  have h := ordI x y
  by_cases h1 : ord x y < 0
  · rw [decide_eq_true h1]
    have : ¬ (ord x y ≥ 0) := by omega
    rw [h] at this
    refine (decide_eq_true ?_).symm
    unfold lt2 posC; simp only; omega
  · rw [decide_eq_false h1]
    have : ord x y ≥ 0 := by omega
    rw [h] at this
    refine (decide_eq_false ?_).symm
    unfold lt2 posC; simp only; omega
theorem sgn0 (a b : Int) : sgn a b = 0 ↔ a = b := by
  unfold sgn
  by_cases h : a < b
  · rw [if_pos h]; constructor
    · intro h2; exact absurd h2 (by decide)
    · intro h2; omega
  · rw [if_neg h]
    by_cases h2 : a > b
    · rw [if_pos h2]; constructor
      · intro h3; exact absurd h3 (by decide)
      · intro h3; omega
    · rw [if_neg h2]; constructor
      · intro _; omega
      · intro _; rfl
theorem ord_0 (x y : Cl) : (ord x y == 0) = decide (posC x = posC y) := by
  have e : ord x y = if sgn (c0 x) (c0 y) ≠ 0 then sgn (c0 x) (c0 y) else sgn (c1 x) (c1 y) := rfl
  have k : ord x y = 0 ↔ posC x = posC y := by
    rw [e]
    unfold posC
    rw [Prod.mk.injEq]
    by_cases h : sgn (c0 x) (c0 y) = 0
    · rw [if_neg (fun z => z h), sgn0]
      rw [sgn0] at h
      exact ⟨fun h2 => ⟨h, h2⟩, fun h2 => h2.2⟩
    · rw [if_pos h]
      exact ⟨fun h2 => absurd h2 h, fun h2 => absurd ((sgn0 _ _).2 h2.1) h⟩
  by_cases h : ord x y = 0
  · rw [h, decide_eq_true (k.1 h)]; rfl
  · rw [decide_eq_false fun z => h (k.2 z)]; simpa using h
variable {R C : Int}
theorem cE_at {l : List Cl} {non : Bool} : ∀ (d i : Nat), i + d = l.length → cE l R C non d i = 0 → ∀ j, i ≤ j → (hj : j < l.length) → cellE R C non (decide (0 < j)) (prv1 l j) l[j] = 0
  | 0, i, hi, _, j, h1, h2 => by omega
  | d + 1, i, hi, h, j, h1, h2 => by
    unfold cE at h
    rw [at_get (e := YCell) l i (by omega), bne_E] at h
    by_cases hz : cellE R C non (decide (0 < i)) (prv1 l i) (l[i]'(by omega)) = 0
    · rw [decide_eq_true hz] at h
      by_cases hij : i = j
      · subst hij; exact hz
      · exact cE_at d (i + 1) (by omega) h j (by omega) h2
    · rw [decide_eq_false hz] at h; exact absurd h hz
theorem cellE_ok {non b : Bool} {q c : Cl} (h : cellE R C non b q c = 0) : (0 ≤ c0 c ∧ c0 c < R ∧ 0 ≤ c1 c ∧ c1 c < C) ∧ (non = false → emc c = false) ∧ (b = true → lt2 (posC q) (posC c)) := by
  unfold cellE at h
  rw [show (c.1 : Int) = c0 c from rfl, show (c.2.1 : Int) = c1 c from rfl] at h
  by_cases a1 : c0 c < 0
  · rw [decide_eq_true a1] at h; cases h
  by_cases a2 : c0 c ≥ R
  · rw [decide_eq_false a1, decide_eq_true a2] at h; cases h
  by_cases a3 : c1 c < 0
  · rw [decide_eq_false a1, decide_eq_false a2, decide_eq_true a3] at h; cases h
  by_cases a4 : c1 c ≥ C
  · rw [decide_eq_false a1, decide_eq_false a2, decide_eq_false a3, decide_eq_true a4] at h; cases h
  rw [decide_eq_false a1, decide_eq_false a2, decide_eq_false a3, decide_eq_false a4, bF, bF, bF, bF] at h
  refine ⟨by omega, ?_⟩
  cases b1 : decide ((c.2.2.2.1 : Int) < 0) <;> rw [b1] at h
  rotate_left
  · cases h
  cases b2 : decide ((c.2.2.2.1 : Int) > 1073741824) <;> rw [b2] at h
  rotate_left
  · cases h
  cases b3 : Utf.tx c.2.2.1 <;> rw [b3] at h
  · cases h
  rw [bF, bF, bT, bne_E] at h
  by_cases b4 : Attr.err false (ca c) = 0
  rotate_left
  · rw [decide_eq_false b4] at h; exact absurd h b4
  rw [decide_eq_true b4, Bool.not_true, bF] at h
  refine ⟨fun hn => ?_, fun hb => ?_⟩
  · subst hn
    cases he : emc c
    · rfl
    · rw [he] at h; cases h
  · subst hb
    cases he : (!non && emc c) <;> rw [he] at h
    rotate_left
    · cases h
    rw [bF, bT] at h
    by_cases ho : ord q c ≥ 0
    · rw [decide_eq_true ho] at h; cases h
    · have : ord q c < 0 := by omega
      have e := ord_lt q c
      rw [decide_eq_true this] at e
      exact of_decide_eq_true e.symm
/-- One behind another is enough. -/
theorem srt_adj {l : List Cl} (h : ∀ j, 0 < j → (hj : j < l.length) → lt2 (posC (l[j - 1]'(by omega))) (posC l[j])) : Lex.Srt posC l := by
  unfold Lex.Srt
  rw [List.pairwise_iff_getElem]
  intro i j hi hj hij
  induction j with
  | zero => omega
  | succ j ih =>
    have h1 := h (j + 1) (by omega) hj
    by_cases e : i = j
    · subst e; exact h1
    · exact lt2_trans (ih (by omega) (by omega)) h1
theorem cells_ok {l : List Cl} {non : Bool} (h : cellsE l R C non = 0) : CsOk R C l ∧ (non = false → ∀ z ∈ l, emc z = false) := by
  have key := cE_at l.length 0 (by omega) h
  refine ⟨⟨fun c hc => ?_, srt_adj fun j h1 h2 => ?_⟩, fun hn c hc => ?_⟩
  · obtain ⟨j, hj, rfl⟩ := List.mem_iff_getElem.1 hc
    exact (cellE_ok (key j (Nat.zero_le _) hj)).1
  · have := (cellE_ok (key j (Nat.zero_le _) h2)).2.2 (decide_eq_true h1)
    have e : prv1 l j = l[j - 1]'(by omega) := by unfold prv1; exact at_get (e := YCell) l (j - 1) (by omega)
    rw [e] at this
    exact this
  · obtain ⟨j, hj, rfl⟩ := List.mem_iff_getElem.1 hc
    exact (cellE_ok (key j (Nat.zero_le _) hj)).2.1 hn
theorem mE_at {l : List Rc} : ∀ (d i : Nat), i + d = l.length → mergesE R C l d i = 0 → ∀ j, i ≤ j → (hj : j < l.length) → rectE R C l j l[j] = 0
  | 0, i, hi, _, j, h1, h2 => by omega
  | d + 1, i, hi, h, j, h1, h2 => by
    unfold mergesE at h
    rw [at_get (e := YRect) l i (by omega), bne_E] at h
    by_cases hz : rectE R C l i (l[i]'(by omega)) = 0
    · rw [decide_eq_true hz] at h
      by_cases hij : i = j
      · subst hij; exact hz
      · exact mE_at d (i + 1) (by omega) h j (by omega) h2
    · rw [decide_eq_false hz] at h; exact absurd h hz
theorem rectE_ok {l : List Rc} {i : Nat} {r : Rc} (h : rectE R C l i r = 0) : lies r R C = true ∧ anyM r (l.take i) = false ∧ (u1 r && u2 r) = false ∧ (0 < i → bef (prvR l i) r = true) := by
  unfold rectE at h
  rw [show ((r.2.2.1 : Int) == 1) = u1 r from rfl, show ((r.2.2.2 : Int) == 1) = u2 r from rfl] at h
  cases h1 : lies r R C <;> rw [h1] at h
  · cases h
  rw [bT] at h
  cases h2 : (u1 r && u2 r) <;> rw [h2] at h
  rotate_left
  · cases h
  rw [bF] at h
  cases h3 : (decide (0 < i) && !(bef (prvR l i) r)) <;> rw [h3] at h
  rotate_left
  · cases h
  rw [bF] at h
  cases h4 : anyM r (l.take i) <;> rw [h4] at h
  rotate_left
  · cases h
  refine ⟨rfl, rfl, rfl, fun hi => ?_⟩
  rw [decide_eq_true hi, Bool.true_and] at h3
  simpa using h3
theorem merges_ok {l : List Rc} (h : mergesE R C l l.length 0 = 0) : Apart R C l := by
  have key := mE_at l.length 0 (by omega) h
  refine ⟨fun r hr => ?_, ?_⟩
  · obtain ⟨j, hj, rfl⟩ := List.mem_iff_getElem.1 hr
    exact (rectE_ok (key j (Nat.zero_le _) hj)).1
  · rw [List.pairwise_iff_getElem]
    intro i j hi hj hij
    have := (rectE_ok (key j (Nat.zero_le _) hj)).2.1
    unfold anyM at this
    rw [List.any_eq_false] at this
    have h2 := this l[i] (List.mem_iff_getElem.2 ⟨i, by simp; omega, by simp⟩)
    simpa using h2
theorem fr_ok : ∀ {l : List Rc}, frE R C l = 0 → ∀ r ∈ l, lies r R C = true
  | [], _, r, hr => by cases hr
  | x :: l, h, r, hr => by
    unfold frE at h
    cases h1 : lies x R C <;> rw [h1] at h
    · cases h
    rcases List.mem_cons.1 hr with hr | hr
    · rw [hr]; exact h1
    · exact fr_ok h r hr
theorem fc_ok : ∀ {l : List Cl}, fcE R C l = 0 → ∀ c ∈ l, c0 c < R ∧ c1 c < C
  | [], _, c, hc => by cases hc
  | x :: l, h, c, hc => by
    unfold fcE at h
    by_cases h1 : c0 x ≥ R
    · rw [decide_eq_true h1] at h; cases h
    by_cases h2 : c1 x ≥ C
    · rw [decide_eq_false h1, decide_eq_true h2] at h; cases h
    rw [decide_eq_false h1, decide_eq_false h2] at h
    rcases List.mem_cons.1 hc with hc | hc
    · rw [hc]; omega
    · exact fc_ok h c hc
/-- A valid grid, and an edit that fits it. -/
structure Fits (g : Grid) (e : Edit) : Prop where
  r : AxOk (er e) (gR g) (newR g e)
  l : AxOk (el e) (gC g) (newC' g e)
  er0 : Axis.E (er e) = 0
  el0 : Axis.E (el e) = 0
  c : CsOk (gR g) (gC g) (gc g)
  ne : ∀ z ∈ gc g, emc z = false
  n : CsOk (newR g e) (newC' g e) (ec e)
  m : Apart (gR g) (gC g) (gm g)
  j : ∀ r ∈ em e, lies r (newR g e) (newC' g e) = true
theorem fits_ok {g : Grid} {e : Edit} (h : allE g e = 0) : Fits g e := by
  unfold allE at h
  rw [orE0, orE0] at h
  obtain ⟨h1, h2, h3⟩ := h
  obtain ⟨⟨g0, g1⟩, ⟨g2, g3⟩, g4, g5⟩ := gridE_ok h1
  unfold editE at h2
  rw [orE0, orE0, orE0, orE0] at h2
  obtain ⟨e1, e2, e3, e4, e5⟩ := h2
  unfold fitE at h3
  cases k1 : (szG (gR g) (er e)).2 <;> rw [k1] at h3
  · cases h3
  cases k2 : (szG (gC g) (el e)).2 <;> rw [k2] at h3
  · cases h3
  rw [bT, bT, orE0, orE0] at h3
  obtain ⟨f1, f2, f3⟩ := h3
  have c1' := (cells_ok e3).1
  refine ⟨sz_ok e1 k1 g0 g1, sz_ok e2 k2 g2 g3, e1, e2, (cells_ok g4).1, (cells_ok g4).2 rfl, ⟨fun c hc => ?_, c1'.srt⟩, merges_ok g5, fr_ok f3⟩
  have := c1'.in_ c hc
  have := fc_ok f1 c hc
  omega
theorem ra0 (l : List Int) (e : Int) : res_axis_Apply_0 (ret_axis_Apply l e) = l := id rfl
theorem ra1 (l : List Int) (e : Int) : res_axis_Apply_1 (ret_axis_Apply l e) = e := id rfl
theorem ro0 (e : Int) : res_grid_order_0 (ret_grid_order e) = e := id rfl
theorem rc0' (e : Cl) : res_grid_clone_0 (ret_grid_clone e) = e := id rfl
theorem clone_eq (c : Cl) (h : (ca c).length ≤ 1048576) : C_grid_clone F_grid_clone c = some (ret_grid_clone c) := by
  rw [e_grid_clone, if_pos]
  have : (ca c).length * 32 ≤ 140737488355328 := Nat.le_trans (Nat.mul_le_mul_right 32 h) (by decide)
  exact this
theorem app1 {a : Axis.Steps} {n m : Int} (h : AxOk a n m) (hl : a.length ≤ 1048576) (h0 : a ≠ []) {p : Int} (p0 : 0 ≤ p) (p1 : p < n) : C_axis_Apply F_axis_Apply a [p] = some (ret_axis_Apply [mvG a p] 0) := by
  rcases h.ok with ⟨e1, _⟩ | ⟨e1, e2, e3, e4⟩
  · exact absurd e1 h0
  · have hb : Axis.bad (sumB a) [p] = false := by
      unfold Axis.bad Axis.bad
      rw [decide_eq_false (by omega)]; rfl
    rw [Axis.axa_eq a hl [p] (by simp), if_neg (by rw [e2]; exact fun z => z rfl), hb, if_neg (by decide)]
    unfold mvG
    rw [if_neg h0]; rfl
theorem len_pos (a : Axis.Steps) : decide (((a.length : Int)) > 0) = !(decide (a = [])) := by
  cases a with
  | nil => rfl
  | cons x l => rw [decide_eq_true (by simp), decide_eq_false (by simp)]; rfl
variable {R' C' : Int}
theorem cap64 {k : Nat} (h : k ≤ 2097152) : (k + 1) * 64 ≤ 140737488355328 := Nat.le_trans (Nat.mul_le_mul_right 64 (show k + 1 ≤ 2097153 by omega)) (by decide)
theorem ne_bF {A : Type} (x y : A) : bcond (((0 : Int) != 0) == false) x y = x := rfl
theorem J_moved {b : Axis.Steps} (hc : AxOk b C C') (hb : b.length ≤ 1048576) (a : Axis.Steps) (l out : List Cl) (y : Cl) (y0 : 0 ≤ c1 y) (y1 : c1 y < C) (ho : out.length ≤ 2097152) (n m : Nat) (s i : Int) :
    J_grid_Moved_0 n m a b out y l s i = if mvG b (c1 y) < 0 then L_grid_Moved_0 n m a b out l s (IntKind.i64.wrap (i + 1)) else L_grid_Moved_0 n m a b (out ++ [putP (c0 y) (mvG b (c1 y)) y]) l s (IntKind.i64.wrap (i + 1)) := by
  unfold J_grid_Moved_0
  generalize hN : L_grid_Moved_0 n m a b out l s (IntKind.i64.wrap (i + 1)) = N
  generalize hG : (fun z : Cl => L_grid_Moved_0 n m a b (out ++ [z]) l s (IntKind.i64.wrap (i + 1))) = G
  have hG' : ∀ z : Cl, L_grid_Moved_0 n m a b (out ++ [z]) l s (IntKind.i64.wrap (i + 1)) = G z := fun z => by rw [← hG]
  rw [len_pos]
  by_cases e : b = []
  · have em : mvG b (c1 y) = c1 y := by unfold mvG; rw [if_pos e]
    rw [decide_eq_true e, Bool.not_true, bF, em, if_neg (show ¬ c1 y < 0 by omega), hG', hG']
    have : (out.length + [y].length) * 64 ≤ 140737488355328 := cap64 ho
    rw [if_pos this]
    rfl
  · have ap : C_axis_Apply F_axis_Apply b [y.2.1] = some (ret_axis_Apply [mvG b (c1 y)] 0) := app1 hc hb e y0 y1
    rw [decide_eq_false e, Bool.not_false, bT, ap]
    generalize mvG b (c1 y) = q
    rw [Option.bind_some]
    rw [ra1, ra0]
    rw [ne_bF]
    have p0 : 0 ≤ (0 : Int) ∧ (0 : Int) < (([q] : List Int).length : Int) := by simp
    have a0 : at_ (e := (.int .i64)) [q] 0 = q := rfl
    rw [if_pos p0, a0, if_pos p0]
    by_cases hn : q < 0
    · rw [decide_eq_true hn, bT, if_pos hn]
    · rw [decide_eq_false hn, bF, if_neg hn]
      have : (out.length + [((y.1, (q, y.2.2)) : Cl)].length) * 64 ≤ 140737488355328 := cap64 ho
      rw [if_pos this, hG', hG']
      rfl
theorem L_moved {a b : Axis.Steps} (hr : AxOk a R R') (hc : AxOk b C C') (ha : a.length ≤ 1048576) (hb : b.length ≤ 1048576) (l : List Cl) (hl : l.length ≤ 1048576) (out : List Cl) (ho : out.length ≤ 2097152) (n m i : Nat) (h : i < l.length) (hs : (ca l[i]).length ≤ 1048576) (hin : 0 ≤ c0 l[i] ∧ c0 l[i] < R ∧ 0 ≤ c1 l[i] ∧ c1 l[i] < C) :
    L_grid_Moved_0 n (m + 1) a b out l (l.length : Int) (i : Int) = if mvG a (c0 l[i]) < 0 ∨ mvG b (c1 l[i]) < 0 then L_grid_Moved_0 n m a b out l (l.length : Int) ((i + 1 : Nat) : Int) else L_grid_Moved_0 n m a b (out ++ [putP (mvG a (c0 l[i])) (mvG b (c1 l[i])) l[i]]) l (l.length : Int) ((i + 1 : Nat) : Int) := by
  obtain ⟨i0, i1, i2, i3⟩ := hin
  have w := wsucc h (show l.length ≤ 4611686018427387904 by omega)
  have hJ := fun p : Int => J_moved hc hb a l out ((p, l[i].2) : Cl) i2 i3 ho n m (l.length : Int) (i : Int)
  rw [w] at hJ
  rw [L_grid_Moved_0_step, dlt h, bT, if_pos ((inb i l.length).2 h), at_get (e := YCell) l i h, clone_eq l[i] hs, Option.bind_some, rc0', len_pos, w]
  by_cases e : a = []
  · have em : mvG a (c0 l[i]) = c0 l[i] := by unfold mvG; rw [if_pos e]
    have hJ0 := hJ (c0 l[i])
    have hJ1 : J_grid_Moved_0 n m a b out l[i] l (l.length : Int) (i : Int) = _ := hJ0
    rw [decide_eq_true e, Bool.not_true, bF, hJ1, em]
    have ec : c1 ((c0 l[i], l[i].2) : Cl) = c1 l[i] := rfl
    rw [ec]
    by_cases hn : mvG b (c1 l[i]) < 0
    · rw [if_pos hn, if_pos (.inr hn)]
    · rw [if_neg hn, if_neg (show ¬ (c0 l[i] < 0 ∨ mvG b (c1 l[i]) < 0) by omega)]
      rfl
  · have ap : C_axis_Apply F_axis_Apply a [(l[i] : Cl).1] = some (ret_axis_Apply [mvG a (c0 l[i])] 0) := app1 hr ha e i0 i1
    rw [decide_eq_false e, Bool.not_false, bT, ap]
    generalize mvG a (c0 l[i]) = q at hJ ⊢
    rw [Option.bind_some, ra1, ra0, ne_bF]
    have p0 : 0 ≤ (0 : Int) ∧ (0 : Int) < (([q] : List Int).length : Int) := by simp
    have a0 : at_ (e := (.int .i64)) [q] 0 = q := rfl
    rw [if_pos p0, a0, if_pos p0, hJ]
    have ec : c1 ((q, l[i].2) : Cl) = c1 l[i] := rfl
    rw [ec]
    by_cases hn : q < 0
    · rw [decide_eq_true hn, bT, if_pos (.inl hn)]
    · rw [decide_eq_false hn, bF]
      by_cases hn2 : mvG b (c1 l[i]) < 0
      · rw [if_pos hn2, if_pos (.inr hn2)]
      · rw [if_neg hn2, if_neg (show ¬ (q < 0 ∨ mvG b (c1 l[i]) < 0) by omega)]
        rfl
theorem moved_cons (a b : Axis.Steps) (x : Cl) (l : List Cl) : movedC a b (x :: l) = (if mvG a (c0 x) < 0 ∨ mvG b (c1 x) < 0 then [] else [putP (mvG a (c0 x)) (mvG b (c1 x)) x]) ++ movedC a b l := by
  unfold movedC
  rw [List.filterMap_cons]
  unfold movC
  split
  · rename_i hx
    split at hx
    · rename_i hy; rw [if_pos hy]; rfl
    · cases hx
  · rename_i z hx
    split at hx
    · cases hx
    · rename_i hy; rw [if_neg hy]; injection hx with hx; rw [← hx]; rfl
theorem moved_loop {a b : Axis.Steps} (hr : AxOk a R R') (hc : AxOk b C C') (ha : a.length ≤ 1048576) (hb : b.length ≤ 1048576) (l : List Cl) (hl : l.length ≤ 1048576) (hs : ∀ c ∈ l, (ca c).length ≤ 1048576) (hin : ∀ c ∈ l, 0 ≤ c0 c ∧ c0 c < R ∧ 0 ≤ c1 c ∧ c1 c < C) (n : Nat) :
    ∀ (d i m : Nat) (out : List Cl), i + d = l.length → d < m → out.length ≤ i → L_grid_Moved_0 n m a b out l (l.length : Int) (i : Int) = some (ret_grid_Moved (out ++ movedC a b (l.drop i))) := by
  intro d
  induction d with
  | zero =>
    intro i m out hi hm ho
    obtain ⟨m, rfl⟩ : ∃ q, m = q + 1 := ⟨m - 1, by omega⟩
    obtain rfl : i = l.length := by omega
    rw [L_grid_Moved_0_step, dlt_self, List.drop_length, bF]
    unfold movedC
    rw [List.filterMap_nil, List.append_nil]
  | succ d ih =>
    intro i m out hi hm ho
    obtain ⟨m, rfl⟩ : ∃ q, m = q + 1 := ⟨m - 1, by omega⟩
    have h : i < l.length := by omega
    rw [L_moved hr hc ha hb l hl out (by omega) n m i h (hs _ (List.getElem_mem h)) (hin _ (List.getElem_mem h)), List.drop_eq_getElem_cons h, moved_cons]
    by_cases hn : mvG a (c0 l[i]) < 0 ∨ mvG b (c1 l[i]) < 0
    · rw [if_pos hn, if_pos hn, ih (i + 1) m out (by omega) (by omega) (by omega), List.nil_append]
    · rw [if_neg hn, if_neg hn, ih (i + 1) m _ (by omega) (by omega) (by simp; omega), List.append_assoc]
theorem moved_eq {a b : Axis.Steps} (hr : AxOk a R R') (hc : AxOk b C C') (ha : a.length ≤ 1048576) (hb : b.length ≤ 1048576) (l : List Cl) (hl : l.length ≤ 1048576) (hs : ∀ c ∈ l, (ca c).length ≤ 1048576) (h : CsOk R C l) : C_grid_Moved F_grid_Moved l a b = some (ret_grid_Moved (movedC a b l)) := by
  have := moved_loop hr hc ha hb l hl hs h.in_ big l.length 0 big [] (by omega) (big_ge (n := l.length + 1) (by omega)) (Nat.zero_le _)
  rw [List.drop_zero, List.nil_append] at this
  rw [e_grid_Moved]
  exact this
theorem moved_len (a b : Axis.Steps) (l : List Cl) : (movedC a b l).length ≤ l.length := List.length_filterMap_le _ _
theorem gput_in (l : List Cl) (hl : l.length ≤ 1048576) (ns : List Cl) (hn : ns.length ≤ 1048576) (n m1 j : Nat) (hj : j < ns.length) (c : Cl) (hca : (ca c).length ≤ 1048576) : ∀ (d i m : Nat) (out : List Cl), i + d = l.length → d < m → out.length ≤ i + j →
    ∃ i', i ≤ i' ∧ i' ≤ l.length ∧ l.drop i' = skip posC (posC c) (aft posC (posC c) (l.drop i)) ∧ (out ++ (Lex.bef posC (posC c) (l.drop i) ++ (if emc c = true then [] else [c]))).length ≤ i' + (j + 1) ∧
      L_grid_put_1 n m1 m l out (i : Int) c.1 c.2.1 c.2.2.1 c.2.2.2.1 c.2.2.2.2 ns (ns.length : Int) (j : Int) = L_grid_put_0 n m1 l (out ++ (Lex.bef posC (posC c) (l.drop i) ++ (if emc c = true then [] else [c]))) (i' : Int) ns (ns.length : Int) ((j + 1 : Nat) : Int) := by
  have hc' : ((c.1, (c.2.1, (c.2.2.1, (c.2.2.2.1, c.2.2.2.2)))) : Cl) = c := rfl
  have wj := wsucc hj (show ns.length ≤ 4611686018427387904 by omega)
  have hem := (empty_eq c).1
  have hcl := clone_eq c hca
  intro d
  induction d with
  | zero =>
    intro i m out hi hm ho
    obtain ⟨m, rfl⟩ : ∃ q, m = q + 1 := ⟨m - 1, by omega⟩
    obtain rfl : i = l.length := by omega
    have hcap : ∀ z : Cl, (out.length + [z].length) * 64 ≤ 140737488355328 := fun z => Nat.le_trans (Nat.mul_le_mul_right 64 (show out.length + 1 ≤ 2097153 by omega)) (by decide)
    refine ⟨l.length, Nat.le_refl _, Nat.le_refl _, ?_, ?_, ?_⟩
    · rw [List.drop_length]; rfl
    · rw [List.drop_length]; show (out ++ ([] ++ _)).length ≤ _; split <;> simp <;> omega
    · rw [L_grid_put_1_step, dlt_self, hc', hem, hcl, List.drop_length, wj]
      simp only [Option.bind_some, res_grid_empty_0_ret, rc0']
      simp only [hcap c, if_true]
      show bcond (false == true) _ (bcond (false == true) _ (bcond (!(emc c)) _ _)) = L_grid_put_0 n m1 l (out ++ ([] ++ _)) _ _ _ _
      cases emc c
      · rfl
      · show L_grid_put_0 n m1 l out _ _ _ _ = L_grid_put_0 n m1 l (out ++ ([] ++ [])) _ _ _ _
        rw [List.append_nil, List.append_nil]
  | succ d ih =>
    intro i m out hi hm ho
    obtain ⟨m, rfl⟩ : ∃ q, m = q + 1 := ⟨m - 1, by omega⟩
    have h : i < l.length := by omega
    have w := wsucc h (show l.length ≤ 4611686018427387904 by omega)
    have hcap : ∀ z : Cl, (out.length + [z].length) * 64 ≤ 140737488355328 := fun z => Nat.le_trans (Nat.mul_le_mul_right 64 (show out.length + 1 ≤ 2097153 by omega)) (by decide)
    have hdr := List.drop_eq_getElem_cons h
    by_cases hlt : lt2 (posC l[i]) (posC c)
    · obtain ⟨i', a1, a2, a3, a4, a5⟩ := ih (i + 1) m (out ++ [l[i]]) (by omega) (by omega) (by simp; omega)
      have eb : Lex.bef posC (posC c) (l.drop i) = l[i] :: Lex.bef posC (posC c) (l.drop (i + 1)) := by
        rw [hdr]; unfold Lex.bef; rw [List.takeWhile_cons, decide_eq_true hlt]; rfl
      have ea : aft posC (posC c) (l.drop i) = aft posC (posC c) (l.drop (i + 1)) := by
        rw [hdr]; unfold aft; rw [List.dropWhile_cons, decide_eq_true hlt]; rfl
      have eo : ∀ x : List Cl, out ++ [l[i]] ++ x = out ++ (l[i] :: x) := fun x => by rw [List.append_assoc]; rfl
      refine ⟨i', by omega, a2, by rw [ea]; exact a3, ?_, ?_⟩
      · rw [eb, List.cons_append, ← eo]; exact a4
      · rw [eb, List.cons_append, ← eo, ← a5, L_grid_put_1_step, dlt h]
        simp only [if_pos ((inb i l.length).2 h)]
        rw [at_get (e := YCell) l i h, hc', order_eq]
        simp only [Option.bind_some, ro0]
        rw [ord_lt, decide_eq_true hlt, if_pos (hcap _), w]
        rfl
    · have eb : Lex.bef posC (posC c) (l.drop i) = [] := by
        rw [hdr]; unfold Lex.bef; rw [List.takeWhile_cons, decide_eq_false hlt]; rfl
      have ea : aft posC (posC c) (l.drop i) = l[i] :: l.drop (i + 1) := by
        rw [hdr]; unfold aft; rw [List.dropWhile_cons, decide_eq_false hlt]; rfl
      rw [eb, ea]
      by_cases heq : posC l[i] = posC c
      · refine ⟨i + 1, by omega, by omega, ?_, ?_, ?_⟩
        · simp only [skip]; rw [if_pos heq]
        · split <;> simp <;> omega
        · rw [L_grid_put_1_step, dlt h]
          simp only [if_pos ((inb i l.length).2 h)]
          rw [at_get (e := YCell) l i h, hc', order_eq]
          simp only [Option.bind_some, ro0]
          rw [ord_lt, decide_eq_false hlt, ord_0, decide_eq_true heq, hem, hcl, w, wj]
          simp only [Option.bind_some, res_grid_empty_0_ret, rc0']
          simp only [hcap c, if_true]
          cases emc c
          · rfl
          · show L_grid_put_0 n m1 l out _ _ _ _ = L_grid_put_0 n m1 l (out ++ ([] ++ [])) _ _ _ _
            rw [List.append_nil, List.append_nil]
      · refine ⟨i, by omega, by omega, ?_, ?_, ?_⟩
        · simp only [skip]; rw [if_neg heq, hdr]
        · split <;> simp <;> omega
        · rw [L_grid_put_1_step, dlt h]
          simp only [if_pos ((inb i l.length).2 h)]
          rw [at_get (e := YCell) l i h, hc', order_eq]
          simp only [Option.bind_some, ro0]
          rw [ord_lt, decide_eq_false hlt, ord_0, decide_eq_false heq, hem, hcl, wj]
          simp only [Option.bind_some, res_grid_empty_0_ret, rc0']
          simp only [hcap c, if_true]
          cases emc c
          · rfl
          · show L_grid_put_0 n m1 l out _ _ _ _ = L_grid_put_0 n m1 l (out ++ ([] ++ [])) _ _ _ _
            rw [List.append_nil, List.append_nil]
theorem gput_loop (l : List Cl) (hl : l.length ≤ 1048576) (ns : List Cl) (hn : ns.length ≤ 1048576) (hs : ∀ c ∈ ns, (ca c).length ≤ 1048576) : ∀ (d j m i : Nat) (out : List Cl), j + d = ns.length → d < m → i ≤ l.length → out.length ≤ i + j →
    L_grid_put_0 big m l out (i : Int) ns (ns.length : Int) (j : Int) = some (ret_grid_put (out ++ Lex.putL posC emc (l.drop i) (ns.drop j))) := by
  intro d
  induction d with
  | zero =>
    intro j m i out hj hm hi ho
    obtain ⟨m, rfl⟩ : ∃ q, m = q + 1 := ⟨m - 1, by omega⟩
    obtain rfl : j = ns.length := by omega
    have hcap : (out.length + (List.drop (Int.toNat (i : Int)) (List.take (Int.toNat (l.length : Int)) l)).length) * 64 ≤ 140737488355328 := by
      refine Nat.le_trans (Nat.mul_le_mul_right 64 (show _ ≤ 4194304 from ?_)) (by decide)
      rw [List.length_drop, List.length_take]; omega
    rw [L_grid_put_0_step, dlt_self, bF, if_pos (by omega), if_pos hcap, List.drop_length]
    simp only [Int.toNat_natCast, List.take_length, Lex.putL]
  | succ d ih =>
    intro j m i out hj hm hi ho
    obtain ⟨m, rfl⟩ : ∃ q, m = q + 1 := ⟨m - 1, by omega⟩
    have h : j < ns.length := by omega
    obtain ⟨i', a1, a2, a3, a4, a5⟩ := gput_in l hl ns hn big m j h ns[j] (hs _ (List.getElem_mem h)) (l.length - i) i big out (by omega) (big_ge (n := l.length - i + 1) (by omega)) ho
    rw [L_grid_put_0_step, dlt h, bT, if_pos ((inb j ns.length).2 h), at_get (e := YCell) ns j h, a5, ih (j + 1) m i' _ (by omega) (by omega) a2 a4, a3, List.drop_eq_getElem_cons h]
    simp only [Lex.putL, List.append_assoc]
theorem gput_eq (l : List Cl) (hl : l.length ≤ 1048576) (ns : List Cl) (hn : ns.length ≤ 1048576) (hs : ∀ c ∈ ns, (ca c).length ≤ 1048576) : C_grid_put F_grid_put l ns = some (ret_grid_put (Lex.putL posC emc l ns)) := by
  have := gput_loop l hl ns hn hs ns.length 0 big 0 [] (by omega) (big_ge (n := ns.length + 1) (by omega)) (Nat.zero_le _) (Nat.zero_le _)
  rw [List.drop_zero, List.drop_zero, List.nil_append] at this
  rw [e_grid_put]
  exact this
end Go.Ev.Doc
namespace Go.Ev.Doc
open Go.Ev Go.Ev.Axis Go.Ev.Hul Go.Ev.Lex
set_option linter.unusedVariables false
set_option linter.unusedSimpArgs false
set_option maxRecDepth 100000
variable {R C R' C' : Int}
theorem rh0 (a b : Int) : res_axis_Hull_0 (ret_axis_Hull a b) = a := id rfl
theorem rh1 (a b : Int) : res_axis_Hull_1 (ret_axis_Hull a b) = b := id rfl
theorem hl_walk {a : Axis.Steps} {n m : Int} (h : AxOk a n m) (hl : a.length ≤ 1048576) (h0 : a ≠ []) {p k : Int} (p0 : 0 ≤ p) (k1 : 1 ≤ k) (hk : k ≤ n - p) : C_axis_Hull F_axis_Hull a p (IntKind.i64.wrap (p + k)) = some (ret_axis_Hull (hlG a p (p + k)).1 (hlG a p (p + k)).2) := by
  have hn := h.n1
  rw [w64 (x := p + k) (by omega) (by omega)]
  rcases h.ok with ⟨e1, _⟩ | ⟨e1, e2, e3, e4⟩
  · exact absurd e1 h0
  · rw [hull_eq a hl e2 p (p + k) p0 (by omega) (by omega)]
    unfold hlG
    rw [if_neg h0]
theorem b_ok {A : Type} (a b : Bool) (f : Bool → A) (c : Bool) : bcond (a == true) (bcond (b == true) (f c) (f false)) (f false) = f (a && (b && c)) := by cases a <;> cases b <;> rfl
theorem J_thr {b : Axis.Steps} (hc : AxOk b C C') (hb : b.length ≤ 1048576) (y z : Rc) (y0 : 0 ≤ r1 y) (y1 : 1 ≤ r3 y) (y2 : r3 y ≤ C - r1 y) (y3 : 0 ≤ r2 y) (y4 : r2 y ≤ 2147483648) (n : Nat) :
    J_grid_through_0 n b y z = some (ret_grid_through (mkR (r0 y) (hlG b (r1 y) (r1 y + r3 y)).1 (r2 y) ((hlG b (r1 y) (r1 y + r3 y)).2 - (hlG b (r1 y) (r1 y + r3 y)).1)) (okR (mkR (r0 y) (hlG b (r1 y) (r1 y + r3 y)).1 (r2 y) ((hlG b (r1 y) (r1 y + r3 y)).2 - (hlG b (r1 y) (r1 y + r3 y)).1)))) := by
  have hn := hc.n1
  rw [J_grid_through_0_eq, len_pos]
  by_cases e : b = []
  · have eh : hlG b (r1 y) (r1 y + r3 y) = (r1 y, r1 y + r3 y) := by unfold hlG; rw [if_pos e]
    have ey : mkR (r0 y) (r1 y) (r2 y) (r1 y + r3 y - r1 y) = y := rect_ext rfl rfl rfl (by rw [r3_mk]; omega)
    rw [decide_eq_true e, Bool.not_true, bF, eh]
    simp only
    rw [ey]
    have k := b_ok (decide ((y.2.2.1 : Int) > 0)) (decide ((y.2.2.2 : Int) > 0)) (fun q => some (ret_grid_through y q)) (decide (((IntKind.i64.wrap (y.2.2.1 + y.2.2.2)) : Int) > 2))
    have hw : IntKind.i64.wrap (y.2.2.1 + y.2.2.2) = r2 y + r3 y := w64 (x := r2 y + r3 y) (by omega) (by omega)
    rw [k, hw]
    rfl
  · have hh := hl_walk hc hb e y0 y1 y2
    have hh' : C_axis_Hull F_axis_Hull b y.2.1 (IntKind.i64.wrap (y.2.1 + y.2.2.2)) = _ := hh
    have hi := hl_in hc (p := r1 y) (q := r1 y + r3 y) y0 (by omega) (by omega)
    have hm := hc.m
    rw [decide_eq_false e, Bool.not_false, bT, hh', Option.bind_some]
    generalize (hlG b (r1 y) (r1 y + r3 y)).1 = p at hi ⊢
    generalize (hlG b (r1 y) (r1 y + r3 y)).2 = q at hi ⊢
    have hw : IntKind.i64.wrap (q - p) = q - p := w64 (by omega) (by omega)
    have hw2 : IntKind.i64.wrap (y.2.2.1 + (q - p)) = r2 y + (q - p) := w64 (x := r2 y + (q - p)) (by omega) (by omega)
    simp only [rh0, rh1, hw]
    have k := b_ok (decide ((y.2.2.1 : Int) > 0)) (decide ((q - p : Int) > 0)) (fun t => some (ret_grid_through (y.1, (p, (y.2.2.1, q - p))) t)) (decide (((IntKind.i64.wrap (y.2.2.1 + (q - p))) : Int) > 2))
    rw [k, hw2]
    rfl
theorem thr_eq {a b : Axis.Steps} (hr : AxOk a R R') (hc : AxOk b C C') (ha : a.length ≤ 1048576) (hb : b.length ≤ 1048576) (r : Rc) (h : lies r R C = true) : C_grid_through F_grid_through r a b = some (ret_grid_through (thrG a b r) (okR (thrG a b r))) := by
  obtain ⟨h1, h2, h3, h4, h5, h6, h7, h8⟩ := (liesI r R C).1 h
  have hn := hr.n1
  rw [e_grid_through, len_pos]
  by_cases e : a = []
  · have eh : hlG a (r0 r) (r0 r + r2 r) = (r0 r, r0 r + r2 r) := by unfold hlG; rw [if_pos e]
    rw [decide_eq_true e, Bool.not_true, bF, J_thr hc hb r _ h2 h4 h8 (by omega) (by omega)]
    unfold thrG
    rw [eh]
    simp only
    rw [show r0 r + r2 r - r0 r = r2 r by omega]
  · have hh := hl_walk hr ha e h1 h3 h7
    have hh' : C_axis_Hull F_axis_Hull a r.1 (IntKind.i64.wrap (r.1 + r.2.2.1)) = _ := hh
    have hi := hl_in hr (p := r0 r) (q := r0 r + r2 r) h1 (by omega) (by omega)
    have hm := hr.m
    rw [decide_eq_false e, Bool.not_false, bT, hh', Option.bind_some, rh0, rh1]
    unfold thrG
    generalize (hlG a (r0 r) (r0 r + r2 r)).1 = p at hi ⊢
    generalize (hlG a (r0 r) (r0 r + r2 r)).2 = q at hi ⊢
    rw [w64 (x := q - p) (by omega) (by omega)]
    have hJ := J_thr hc hb (mkR p (r1 r) (q - p) (r3 r)) (0, (0, (0, 0))) h2 h4 h8 (by rw [r2_mk]; omega) (by rw [r2_mk]; omega) big
    exact hJ
theorem rect_beq (q x : Rc) : (((q.1 : Int) == x.1) && (((q.2.1 : Int) == x.2.1) && (((q.2.2.1 : Int) == x.2.2.1) && (((q.2.2.2 : Int) == x.2.2.2) && true)))) = (q == x) := by
  have e : (q == x) = (((q.1 : Int) == x.1) && (((q.2.1 : Int) == x.2.1) && (((q.2.2.1 : Int) == x.2.2.1) && ((q.2.2.2 : Int) == x.2.2.2)))) := rfl
  rw [e, Bool.and_true]
theorem rcontains_eq (l : List Rc) (hl : l.length ≤ 1048576) (q : Rc) : C_slices_Contains_Rect F_slices_Contains_Rect l q = some (ret_slices_Contains_Rect (l.contains q)) := by
  have key : ∀ (n d i m : Nat), i + d = l.length → d < m → ∃ k : Int, L_slices_Index_Rect_0 n m l q.1 q.2.1 q.2.2.1 q.2.2.2 (l.length : Int) (i : Int) = some (ret_slices_Index_Rect k) ∧ decide (k ≥ 0) = (l.drop i).contains q := by
    intro n d
    induction d with
    | zero =>
      intro i m hi hm
      obtain ⟨m, rfl⟩ : ∃ q, m = q + 1 := ⟨m - 1, by omega⟩
      obtain rfl : i = l.length := by omega
      rw [L_slices_Index_Rect_0_step, dlt_self, List.drop_length]
      exact ⟨-1, rfl, rfl⟩
    | succ d ih =>
      intro i m hi hm
      obtain ⟨m, rfl⟩ : ∃ q, m = q + 1 := ⟨m - 1, by omega⟩
      have h : i < l.length := by omega
      obtain ⟨k, k1, k2⟩ := ih (i + 1) m (by omega) (by omega)
      rw [L_slices_Index_Rect_0_step, dlt h, bT, if_pos ((inb i l.length).2 h), at_get (e := YRect) l i h, wsucc h (by omega), rect_beq, k1, List.drop_eq_getElem_cons h, List.contains_cons]
      cases hb : (q == l[i])
      · exact ⟨k, rfl, by rw [k2]; rfl⟩
      · exact ⟨(i : Int), rfl, decide_eq_true (by omega)⟩
  obtain ⟨k, k1, k2⟩ := key big l.length 0 big (by omega) (big_ge (n := l.length + 1) (by omega))
  have k1' : L_slices_Index_Rect_0 big big l q.1 q.2.1 q.2.2.1 q.2.2.2 (l.length : Int) 0 = _ := k1
  rw [List.drop_zero] at k2
  rw [e_slices_Contains_Rect, e_slices_Index_Rect, k1', Option.bind_some, ← k2]
  rfl
theorem c1_meets (hR : 0 ≤ R ∧ R ≤ 2147483648) (hC : 0 ≤ C ∧ C ≤ 2147483648) (q r : Rc) (hq : lies q R C = true) (hr : lies r R C = true) : C_grid_Raw_c1 F_grid_Raw_c1 q r.1 r.2.1 r.2.2.1 r.2.2.2 = some (ret_grid_Raw_c1 (mts q r) r.1 r.2.1 r.2.2.1 r.2.2.2) := by
  have hm : C_grid_meets F_grid_meets q (r.1, (r.2.1, (r.2.2.1, r.2.2.2))) = some (ret_grid_meets (mts q r)) := meets_eq q r R C hR hC hq hr
  rw [e_grid_Raw_c1, hm]
  rfl
theorem idx_walk (hR : 0 ≤ R ∧ R ≤ 2147483648) (hC : 0 ≤ C ∧ C ≤ 2147483648) (r : Rc) (hr : lies r R C = true) (l : List Rc) (hl : l.length ≤ 4194304) (ha : ∀ q ∈ l, lies q R C = true) : ∀ (n d i m : Nat), i + d = l.length → d < m →
    ((∀ q ∈ l.drop i, mts q r = false) ∧ L_slices_IndexFunc_Rect_grid_Raw_c1_0 n m (l.length : Int) (i : Int) r.1 r.2.1 r.2.2.1 r.2.2.2 l = some (ret_slices_IndexFunc_Rect_grid_Raw_c1 (-1) r.1 r.2.1 r.2.2.1 r.2.2.2 l)) ∨
    (∃ k : Nat, i ≤ k ∧ ∃ hk : k < l.length, (∀ j, i ≤ j → (hj : j < k) → mts (l[j]'(by omega)) r = false) ∧ mts l[k] r = true ∧ L_slices_IndexFunc_Rect_grid_Raw_c1_0 n m (l.length : Int) (i : Int) r.1 r.2.1 r.2.2.1 r.2.2.2 l = some (ret_slices_IndexFunc_Rect_grid_Raw_c1 (k : Int) r.1 r.2.1 r.2.2.1 r.2.2.2 l)) := by
  intro n d
  induction d with
  | zero =>
    intro i m hi hm
    obtain ⟨m, rfl⟩ : ∃ q, m = q + 1 := ⟨m - 1, by omega⟩
    obtain rfl : i = l.length := by omega
    left
    rw [L_slices_IndexFunc_Rect_grid_Raw_c1_0_step, dlt_self, List.drop_length]
    exact ⟨(fun q hq => by cases hq), rfl⟩
  | succ d ih =>
    intro i m hi hm
    obtain ⟨m, rfl⟩ : ∃ q, m = q + 1 := ⟨m - 1, by omega⟩
    have h : i < l.length := by omega
    rw [L_slices_IndexFunc_Rect_grid_Raw_c1_0_step, dlt h, bT, if_pos ((inb i l.length).2 h), at_get (e := YRect) l i h, c1_meets hR hC l[i] r (ha _ (List.getElem_mem h)) hr, wsucc h (by omega)]
    simp only [Option.bind_some, res_grid_Raw_c1_0_ret, res_grid_Raw_c1_1_ret, res_grid_Raw_c1_2_ret, res_grid_Raw_c1_3_ret, res_grid_Raw_c1_4_ret]
    cases hm' : mts l[i] r
    · rw [bF]
      rcases ih (i + 1) m (by omega) (by omega) with ⟨q1, q2⟩ | ⟨k, k1, k2, k3, k4, k5⟩
      · left
        refine ⟨fun q hq => ?_, q2⟩
        rw [List.drop_eq_getElem_cons h] at hq
        rcases List.mem_cons.1 hq with hq | hq
        · rw [hq]; exact hm'
        · exact q1 q hq
      · right
        refine ⟨k, by omega, k2, fun j j1 j2 => ?_, k4, k5⟩
        by_cases e : i = j
        · subst e; exact hm'
        · exact k3 j (by omega) j2
    · right
      exact ⟨i, Nat.le_refl _, h, fun j j1 j2 => by omega, hm', rfl⟩
theorem del_loop (hR : 0 ≤ R ∧ R ≤ 2147483648) (hC : 0 ≤ C ∧ C ≤ 2147483648) (r : Rc) (hr : lies r R C = true) (l : List Rc) (hl : l.length ≤ 4194304) (ha : ∀ q ∈ l, lies q R C = true) (n : Nat) : ∀ (d j m : Nat) (x : List Rc) (i : Nat), j + d = l.length → d < m → x.length = l.length → i < j → x.drop j = l.drop j →
    L_slices_DeleteFunc_Rect_grid_Raw_c1_0 n m x (i : Int) (j : Int) r.1 r.2.1 r.2.2.1 r.2.2.2 = some (ret_slices_DeleteFunc_Rect_grid_Raw_c1 (x.take i ++ (l.drop j).filter fun q => !(mts q r)) r.1 r.2.1 r.2.2.1 r.2.2.2) := by
  intro d
  induction d with
  | zero =>
    intro j m x i hj hm hx hi hd
    obtain ⟨m, rfl⟩ : ∃ q, m = q + 1 := ⟨m - 1, by omega⟩
    obtain rfl : j = l.length := by omega
    have hxl : (x.take i).length = i := by rw [List.length_take]; omega
    rw [L_slices_DeleteFunc_Rect_grid_Raw_c1_0_step, hx, dlt_self, bF, List.drop_length, List.filter_nil, List.append_nil, if_pos (by omega)]
    simp only [Int.toNat_natCast]
    rw [if_pos (by rw [List.length_append, hxl]; omega)]
    rw [List.take_append_of_le_length (by rw [hxl]; exact Nat.le_refl _), List.take_take, Nat.min_self]
  | succ d ih =>
    intro j m x i hj hm hx hi hd
    obtain ⟨m, rfl⟩ : ∃ q, m = q + 1 := ⟨m - 1, by omega⟩
    have h : j < l.length := by omega
    have h' : j < x.length := by omega
    have ex : x[j] = l[j] := by
      have e1 := List.drop_eq_getElem_cons h'
      have e2 := List.drop_eq_getElem_cons h
      rw [hd, e2] at e1
      injection e1 with e1 _
      exact e1.symm
    have wi := wsucc (show i < x.length by omega) (show x.length ≤ 4611686018427387904 by omega)
    have wj := wsucc h' (show x.length ≤ 4611686018427387904 by omega)
    have ed : x.drop (j + 1) = l.drop (j + 1) := by
      have := congrArg (List.drop 1) hd
      rw [List.drop_drop, List.drop_drop] at this
      exact this
    rw [L_slices_DeleteFunc_Rect_grid_Raw_c1_0_step, dlt h', bT, if_pos ((inb j x.length).2 h'), at_get (e := YRect) x j h', ex, c1_meets hR hC l[j] r (ha _ (List.getElem_mem h)) hr, wi, wj]
    simp only [Option.bind_some, res_grid_Raw_c1_0_ret, res_grid_Raw_c1_1_ret, res_grid_Raw_c1_2_ret, res_grid_Raw_c1_3_ret, res_grid_Raw_c1_4_ret, Int.toNat_natCast]
    rw [List.drop_eq_getElem_cons h, List.filter_cons]
    cases hm' : mts l[j] r
    · rw [Bool.not_false, bT, if_pos ((inb i x.length).2 (by omega)), ih (j + 1) m (x.set i l[j]) (i + 1) (by omega) (by omega) (by rw [List.length_set]; exact hx) (by omega) (by rw [List.drop_set_of_lt (by omega)]; exact ed)]
      have e1 : (x.set i l[j]).take (i + 1) = x.take i ++ [l[j]] := by
        rw [List.take_succ_eq_append_getElem (by rw [List.length_set]; omega), List.getElem_set_self, List.take_set_of_le (Nat.le_refl _)]
      rw [e1, List.append_assoc]
      rfl
    · rw [Bool.not_true, bF, ih (j + 1) m x i (by omega) (by omega) hx (by omega) ed]
      rfl
theorem del_eq (hR : 0 ≤ R ∧ R ≤ 2147483648) (hC : 0 ≤ C ∧ C ≤ 2147483648) (r : Rc) (hr : lies r R C = true) (l : List Rc) (hl : l.length ≤ 4194304) (ha : ∀ q ∈ l, lies q R C = true) :
    C_slices_DeleteFunc_Rect_grid_Raw_c1 F_slices_DeleteFunc_Rect_grid_Raw_c1 l r.1 r.2.1 r.2.2.1 r.2.2.2 = some (ret_slices_DeleteFunc_Rect_grid_Raw_c1 (l.filter fun q => !(mts q r)) r.1 r.2.1 r.2.2.1 r.2.2.2) := by
  rw [e_slices_DeleteFunc_Rect_grid_Raw_c1, e_slices_IndexFunc_Rect_grid_Raw_c1]
  rcases idx_walk hR hC r hr l hl ha big l.length 0 big (by omega) (big_ge (n := l.length + 1) (by omega)) with ⟨q1, q2⟩ | ⟨k, _, k2, k3, k4, k5⟩
  · rw [show ((0 : Nat) : Int) = 0 from rfl] at q2
    rw [q2]
    simp only [Option.bind_some, res_slices_IndexFunc_Rect_grid_Raw_c1_0_ret, res_slices_IndexFunc_Rect_grid_Raw_c1_1_ret, res_slices_IndexFunc_Rect_grid_Raw_c1_2_ret, res_slices_IndexFunc_Rect_grid_Raw_c1_3_ret, res_slices_IndexFunc_Rect_grid_Raw_c1_4_ret, res_slices_IndexFunc_Rect_grid_Raw_c1_5_ret]
    rw [List.drop_zero] at q1
    have e : l.filter (fun q => !(mts q r)) = l := List.filter_eq_self.2 fun q hq => by rw [q1 q hq]; rfl
    rw [e]
    rfl
  · rw [show ((0 : Nat) : Int) = 0 from rfl] at k5
    rw [k5]
    simp only [Option.bind_some, res_slices_IndexFunc_Rect_grid_Raw_c1_0_ret, res_slices_IndexFunc_Rect_grid_Raw_c1_1_ret, res_slices_IndexFunc_Rect_grid_Raw_c1_2_ret, res_slices_IndexFunc_Rect_grid_Raw_c1_3_ret, res_slices_IndexFunc_Rect_grid_Raw_c1_4_ret, res_slices_IndexFunc_Rect_grid_Raw_c1_5_ret]
    rw [show ((k : Int) == -1) = false from beq_false_of_ne (by omega), bF, wsucc k2 (by omega), del_loop hR hC r hr l hl ha big (l.length - (k + 1)) (k + 1) big l k (by omega) (big_ge (n := l.length - (k + 1) + 1) (by omega)) rfl (by omega) rfl]
    have e : l.filter (fun q => !(mts q r)) = l.take k ++ (l.drop (k + 1)).filter fun q => !(mts q r) := by
      conv => lhs; rw [← List.take_append_drop k l, List.drop_eq_getElem_cons k2]
      rw [List.filter_append, List.filter_cons, k4]
      have : (l.take k).filter (fun q => !(mts q r)) = l.take k := List.filter_eq_self.2 fun q hq => by
        obtain ⟨j, hj, rfl⟩ := List.mem_iff_getElem.1 hq
        have hj' : j < k := by rw [List.length_take] at hj; omega
        rw [List.getElem_take, k3 j (Nat.zero_le _) hj']
        rfl
      rw [this]
      rfl
    rw [e]
theorem rd0 (l : List Rc) (a b c d : Int) : res_slices_DeleteFunc_Rect_grid_Raw_c1_0 (ret_slices_DeleteFunc_Rect_grid_Raw_c1 l a b c d) = l := id rfl
theorem rd1 (l : List Rc) (a b c d : Int) : res_slices_DeleteFunc_Rect_grid_Raw_c1_1 (ret_slices_DeleteFunc_Rect_grid_Raw_c1 l a b c d) = a := id rfl
theorem rd2 (l : List Rc) (a b c d : Int) : res_slices_DeleteFunc_Rect_grid_Raw_c1_2 (ret_slices_DeleteFunc_Rect_grid_Raw_c1 l a b c d) = b := id rfl
theorem rd3 (l : List Rc) (a b c d : Int) : res_slices_DeleteFunc_Rect_grid_Raw_c1_3 (ret_slices_DeleteFunc_Rect_grid_Raw_c1 l a b c d) = c := id rfl
theorem rd4 (l : List Rc) (a b c d : Int) : res_slices_DeleteFunc_Rect_grid_Raw_c1_4 (ret_slices_DeleteFunc_Rect_grid_Raw_c1 l a b c d) = d := id rfl
theorem rt0 (q : Rc) (b : Bool) : res_grid_through_0 (ret_grid_through q b) = q := id rfl
theorem rt1 (q : Rc) (b : Bool) : res_grid_through_1 (ret_grid_through q b) = b := id rfl
theorem cap32 {k : Nat} (h : k ≤ 4194304) : (k + 1) * 32 ≤ 140737488355328 := Nat.le_trans (Nat.mul_le_mul_right 32 (show k + 1 ≤ 4194305 by omega)) (by decide)
theorem c2_eq (x y : Rc) : C_grid_Raw_c2 F_grid_Raw_c2 x y = some (ret_grid_Raw_c2 (cfR x y)) := by
  rw [e_grid_Raw_c2, cmp_eq, cmp_eq]
  simp only [Option.bind_some, res_cmp_Compare_int_0_ret, or_eq, res_cmp_Or_int_0_ret]
  rfl
theorem sort_eq {l : List Rc} (h : Apart R C l) (hl : l.length ≤ 4194304) : C_slices_SortFunc_Rect_grid_Raw_c2 F_slices_SortFunc_Rect_grid_Raw_c2 l = some (ret_slices_SortFunc_Rect_grid_Raw_c2 (sorted cfR l)) :=
  sortF_eq (G := F_grid_Raw_c2) (cf := cfR) (fun x y => c2_eq x y) swoR (tieR h) (by omega)
theorem stay_len (a b : Axis.Steps) (split : List Rc) (l : List Rc) : (stayR a b split l).length ≤ l.length := by
  unfold stayR
  exact Nat.le_trans (List.length_filter_le _ _) (by simp)
theorem join_cons (l : List Rc) (r : Rc) (ms : List Rc) : joinR l (r :: ms) = joinR (l.filter (fun q => !(mts q r)) ++ [r]) ms := rfl
theorem graw1 (hR : 0 ≤ R ∧ R ≤ 2147483648) (hC : 0 ≤ C ∧ C ≤ 2147483648) (ms : List Rc) (hl : ms.length ≤ 1048576) (hm : ∀ r ∈ ms, lies r R C = true) (p q s t : Int) (cs : List Cl) (n : Nat) : ∀ (d i m : Nat) (out : List Rc), i + d = ms.length → d < m → out.length ≤ 1048576 + i → Apart R C out →
    L_grid_Raw_1 n m p q s t cs out ms (ms.length : Int) (i : Int) = some (ret_grid_Raw (s, (t, (cs, sorted cfR (joinR out (ms.drop i)))))) := by
  intro d
  induction d with
  | zero =>
    intro i m out hi hm' ho ha
    obtain ⟨m, rfl⟩ : ∃ q, m = q + 1 := ⟨m - 1, by omega⟩
    obtain rfl : i = ms.length := by omega
    rw [L_grid_Raw_1_step, dlt_self, bF, sort_eq ha (by omega), List.drop_length]
    simp only [Option.bind_some, res_slices_SortFunc_Rect_grid_Raw_c2_0_ret]
    rfl
  | succ d ih =>
    intro i m out hi hm' ho ha
    obtain ⟨m, rfl⟩ : ∃ q, m = q + 1 := ⟨m - 1, by omega⟩
    have h : i < ms.length := by omega
    have hli := hm _ (List.getElem_mem h)
    have hfl : (out.filter fun q => !(mts q ms[i])).length ≤ out.length := List.length_filter_le _ _
    have hap : Apart R C (out.filter (fun q => !(mts q ms[i])) ++ [ms[i]]) := by
      have := join_apart (ms := [ms[i]]) ha (fun r hr => by rw [List.mem_singleton.1 hr]; exact hli)
      exact this
    have hc : ((out.filter fun q => !(mts q ms[i])).length + [ms[i]].length) * 32 ≤ 140737488355328 := cap32 (by omega)
    rw [L_grid_Raw_1_step, dlt h, bT, if_pos ((inb i ms.length).2 h), at_get (e := YRect) ms i h, del_eq hR hC ms[i] hli out (by omega) ha.in_, wsucc h (by omega)]
    simp only [Option.bind_some, rd0, rd1, rd2, rd3, rd4]
    have em : ((ms[i].1, (ms[i].2.1, (ms[i].2.2.1, ms[i].2.2.2))) : Rc) = ms[i] := rfl
    rw [em, if_pos hc, ih (i + 1) m _ (by omega) (by omega) (by rw [List.length_append]; simp; omega) hap, List.drop_eq_getElem_cons h, join_cons]
theorem graw0 {a b : Axis.Steps} (hr : AxOk a R R') (hc : AxOk b C C') (ha : a.length ≤ 1048576) (hb : b.length ≤ 1048576) (l : List Rc) (hl : l.length ≤ 1048576) (hap : Apart R C l) (split ms : List Rc) (hs : split.length ≤ 1048576) (hml : ms.length ≤ 1048576) (hm : ∀ r ∈ ms, lies r R' C' = true) (ce : List Cl) (p q s t : Int) (cs : List Cl) : ∀ (d i m : Nat) (out : List Rc), i + d = l.length → d < m → out.length ≤ i → out = stayR a b split (l.take i) →
    L_grid_Raw_0 big m a b ce split ms p q s t cs out l (l.length : Int) (i : Int) = some (ret_grid_Raw (s, (t, (cs, sorted cfR (joinR (stayR a b split l) ms))))) := by
  intro d
  induction d with
  | zero =>
    intro i m out hi hm' ho he
    obtain ⟨m, rfl⟩ : ∃ q, m = q + 1 := ⟨m - 1, by omega⟩
    obtain rfl : i = l.length := by omega
    rw [List.take_length] at he
    have x1 := hr.m
    have x2 := hc.m
    have h1 := graw1 (R := R') (C := C') (by omega) (by omega) ms hml hm p q s t cs big ms.length 0 big out (by omega) (big_ge (n := ms.length + 1) (by omega)) (by omega) (by rw [he]; exact stay_apart hr hc split hap)
    rw [List.drop_zero, he] at h1
    rw [L_grid_Raw_0_step, dlt_self, bF, he]
    exact h1
  | succ d ih =>
    intro i m out hi hm' ho he
    obtain ⟨m, rfl⟩ : ∃ q, m = q + 1 := ⟨m - 1, by omega⟩
    have h : i < l.length := by omega
    have hc32 : (out.length + [thrG a b l[i]].length) * 32 ≤ 140737488355328 := cap32 (by omega)
    have et : stayR a b split (l.take (i + 1)) = out ++ (if okR (thrG a b l[i]) && !(split.contains (thrG a b l[i])) then [thrG a b l[i]] else []) := by
      rw [List.take_succ_eq_append_getElem h, he]
      unfold stayR
      rw [List.map_append, List.filter_append, List.map_cons, List.filter_cons, List.map_nil, List.filter_nil]
    rw [L_grid_Raw_0_step, dlt h, bT, if_pos ((inb i l.length).2 h), at_get (e := YRect) l i h, thr_eq hr hc ha hb l[i] (hap.in_ _ (List.getElem_mem h)), wsucc h (by omega)]
    simp only [Option.bind_some, rt1, rt0, rcontains_eq split hs, res_slices_Contains_Rect_0_ret]
    rw [if_pos hc32]
    cases h1 : okR (thrG a b l[i])
    · rw [h1] at et
      have := ih (i + 1) m out (by omega) (by omega) (by omega) (by rw [et]; simp)
      exact this
    · cases h2 : split.contains (thrG a b l[i])
      · rw [h1, h2] at et
        have := ih (i + 1) m (out ++ [thrG a b l[i]]) (by omega) (by omega) (by simp; omega) (by rw [et]; rfl)
        exact this
      · rw [h1, h2] at et
        have := ih (i + 1) m out (by omega) (by omega) (by omega) (by rw [et]; simp)
        exact this
/-- A grid behind an edit. -/
noncomputable def rawG (g : Grid) (e : Edit) : Grid := (newR g e, (newC' g e, (putL posC emc (movedC (er e) (el e) (gc g)) (ec e), sorted cfR (joinR (stayR (er e) (el e) (es e) (gm g)) (em e)))))
theorem graw_eq {g : Grid} {e : Edit} (hg : Gs g) (he : Es e) (h : Fits g e) : C_grid_Raw F_grid_Raw g e = some (ret_grid_Raw (rawG g e)) := by
  have s1 : C_grid_size F_grid_size g.1 e.1 = _ := gsize_eq (gR g) (er e) he.r h.er0
  have s2 : C_grid_size F_grid_size g.2.1 e.2.1 = _ := gsize_eq (gC g) (el e) he.l h.el0
  have hca : ∀ c ∈ gc g, (ca c).length ≤ 1048576 := fun c hc => (hg.a c hc).1
  have s3 : C_grid_Moved F_grid_Moved g.2.2.1 e.1 e.2.1 = _ := moved_eq h.r h.l he.r he.l (gc g) hg.c hca h.c
  have s4 : C_grid_put F_grid_put (movedC (er e) (el e) (gc g)) e.2.2.1 = _ := gput_eq _ (Nat.le_trans (moved_len _ _ _) hg.c) (ec e) he.c fun c hc => (he.a c hc).1.1
  have s5 := graw0 h.r h.l he.r he.l (gm g) hg.m h.m (es e) (em e) he.s he.m h.j (ec e) 0 0 (newR g e) (newC' g e) (putL posC emc (movedC (er e) (el e) (gc g)) (ec e)) (gm g).length 0 big [] (by omega) (big_ge (n := (gm g).length + 1) (by have := hg.m; omega)) (Nat.zero_le _) rfl
  rw [e_grid_Raw, s1, s2, s3]
  simp only [Option.bind_some, res_grid_Moved_0_ret]
  rw [s4]
  simp only [Option.bind_some, res_grid_put_0_ret, res_grid_size_0_ret]
  exact s5
/-- The grid without anything. -/
def grid0 : Grid := (0, (0, ([], [])))
theorem gapply_eq (g : Grid) (e : Edit) (hg : Gs g) (he : Es e) : C_grid_Apply F_grid_Apply g e = some (if allE g e = 0 then ret_grid_Apply (rawG g e) 0 else ret_grid_Apply grid0 (allE g e)) := by
  rw [e_grid_Apply, fits_eq g e hg he]
  by_cases h : allE g e = 0
  · rw [if_pos h, if_pos h]
    simp only [Option.bind_some, res_grid_fits_2_ret]
    rw [graw_eq hg he (fits_ok h)]
    rfl
  · rw [if_neg h, if_neg h]
    simp only [Option.bind_some, res_grid_fits_2_ret]
    rw [bne_E, decide_eq_false h]
    rfl
def gEx : Grid := (2, (1, ([(1, (0, ([120], (0, []))))], [])))
def eEx : Edit := ([(1, 1), (0, 2)], ([], ([], ([], []))))
theorem grids_eq : C_law_grids F_law_grids = some (ret_law_grids true) := by
  have hg : Gs gEx := ⟨by decide, by decide, fun c hc => by
    rw [List.mem_singleton.1 hc]; exact ⟨by decide, fun i => by
      have : ([] : List UInt8).length ≤ 1048576 := by decide
      cases i <;> exact ⟨this, this⟩⟩, fun c hc => by
    rw [List.mem_singleton.1 hc]; decide⟩
  have he : Es eEx := ⟨by decide, by decide, by decide, fun c hc => (by cases hc), by decide, by decide⟩
  have h := gapply_eq gEx eEx hg he
  have ha : allE gEx eEx = 0 := by kernel_rfl
  rw [if_pos ha] at h
  have h' : C_grid_Apply F_grid_Apply (2, (1, ([(1, (0, ([120], (0, []))))], []))) ([(1, 1), (0, 2)], ([], ([], ([], [])))) = _ := h
  have e1 : ((rawG gEx eEx).1 : Int) = 3 := by kernel_rfl
  have e2 : (rawG gEx eEx).2.2.1 = [((2, (0, ([120], (0, [])))) : Cl)] := by kernel_rfl
  rw [e_law_grids, h']
  have q0 : ∀ (v : Grid) (e : Int), res_grid_Apply_0 (ret_grid_Apply v e) = v := fun _ _ => id rfl
  have q1 : ∀ (v : Grid) (e : Int), res_grid_Apply_1 (ret_grid_Apply v e) = e := fun _ _ => id rfl
  simp only [Option.bind_some, q0, q1, e1, e2]
  rfl
end Go.Ev.Doc
namespace Go.Ev.Doc
open Go.Ev Go.Ev.Attr Go.Ev.Track Go.Ev.Delta Go.Ev.Axis Go.Ev.Hul Go.Ev.Lex
set_option linter.unusedVariables false
set_option linter.unusedSimpArgs false
set_option maxRecDepth 100000
theorem red1 (e : Edit) (he : (em e).length ≤ 1048576) (n : Nat) : ∀ (d i m : Nat), i + d = (em e).length → d < m → L_R_EditError_1 n m (er e) (el e) (ec e) (es e) (em e) ((em e).length : Int) (i : Int) = some (ret_R_EditError (rsE true ((em e).drop i))) := by
  intro d
  induction d with
  | zero =>
    intro i m hi hm
    obtain ⟨m, rfl⟩ : ∃ q, m = q + 1 := ⟨m - 1, by omega⟩
    obtain rfl : i = (em e).length := by omega
    rw [L_R_EditError_1_step, dlt_self, List.drop_length]
    rfl
  | succ d ih =>
    intro i m hi hm
    obtain ⟨m, rfl⟩ : ∃ q, m = q + 1 := ⟨m - 1, by omega⟩
    have h : i < (em e).length := by omega
    have i1 := ih (i + 1) m (by omega) (by omega)
    rw [L_R_EditError_1_step, dlt h, bT]
    simp only [if_pos ((inb i (em e).length).2 h)]
    rw [at_get (e := YRect) (em e) i h, rlies_eq (em e)[i] _ _ most_ok most_ok, wsucc h (by omega), List.drop_eq_getElem_cons h, rsE]
    simp only [Option.bind_some, res_R_Lies_0_ret]
    rw [i1, show (((em e)[i].2.2.1 : Int) == 1) = u1 (em e)[i] from rfl, show (((em e)[i].2.2.2 : Int) == 1) = u2 (em e)[i] from rfl]
    cases lies (em e)[i] 2147483647 2147483647
    · rfl
    · cases u1 (em e)[i] <;> cases u2 (em e)[i] <;> rfl
theorem red0 (e : Edit) (he : Es e) : ∀ (d i m : Nat), i + d = (es e).length → d < m → L_R_EditError_0 big m (er e) (el e) (ec e) (es e) (em e) ((es e).length : Int) (i : Int) = some (ret_R_EditError (orE (rsE false ((es e).drop i)) (rsE true (em e)))) := by
  intro d
  have hs := he.s
  have hm' := he.m
  induction d with
  | zero =>
    intro i m hi hm
    obtain ⟨m, rfl⟩ : ∃ q, m = q + 1 := ⟨m - 1, by omega⟩
    obtain rfl : i = (es e).length := by omega
    have := red1 e hm' big (em e).length 0 big (by omega) (big_ge (n := (em e).length + 1) (by omega))
    rw [List.drop_zero] at this
    rw [L_R_EditError_0_step, dlt_self, List.drop_length]
    exact this
  | succ d ih =>
    intro i m hi hm
    obtain ⟨m, rfl⟩ : ∃ q, m = q + 1 := ⟨m - 1, by omega⟩
    have h : i < (es e).length := by omega
    have i1 := ih (i + 1) m (by omega) (by omega)
    rw [L_R_EditError_0_step, dlt h, bT, if_pos ((inb i (es e).length).2 h), at_get (e := YRect) (es e) i h, rlies_eq (es e)[i] _ _ most_ok most_ok, wsucc h (by omega), List.drop_eq_getElem_cons h, rsE]
    simp only [Option.bind_some, res_R_Lies_0_ret]
    rw [i1]
    cases lies (es e)[i] 2147483647 2147483647 <;> rfl
theorem reditchk_eq (e : Edit) (he : Es e) : C_R_EditError F_R_EditError e = some (ret_R_EditError (editE e)) := by
  have h0 := red0 e he (es e).length 0 big (by omega) (big_ge (n := (es e).length + 1) (by have := he.s; omega))
  rw [List.drop_zero] at h0
  rw [show ((0 : Nat) : Int) = 0 from rfl] at h0
  have a1 : C_R_AxisError F_R_AxisError e.1 = _ := Axis.axerr_eq (er e) he.r
  have a2 : C_R_AxisError F_R_AxisError e.2.1 = _ := Axis.axerr_eq (el e) he.l
  have a3 : C_R_CellsError F_R_CellsError e.2.2.1 2147483647 2147483647 true = _ := (gcells_eq (ec e) he.c he.a 2147483647 2147483647 most_ok most_ok true).2
  have h0' : L_R_EditError_0 big big e.1 e.2.1 e.2.2.1 e.2.2.2.1 e.2.2.2.2 (List.length e.2.2.2.1 : Int) 0 = _ := h0
  rw [e_R_EditError, a1, a2, a3, h0']
  simp only [Option.bind_some, res_R_AxisError_0_ret, res_R_CellsError_0_ret]
  rw [bne_E, bne_E, bne_E]
  unfold editE
  by_cases k1 : Axis.E (er e) = 0
  · rw [orE_eq _ k1, decide_eq_true k1]
    by_cases k2 : Axis.E (el e) = 0
    · rw [orE_eq _ k2, decide_eq_true k2]
      by_cases k3 : cellsE (ec e) 2147483647 2147483647 true = 0
      · rw [orE_eq _ k3, decide_eq_true k3]; rfl
      · rw [orE_ne _ k3, decide_eq_false k3]; rfl
    · rw [orE_ne _ k2, decide_eq_false k2]; rfl
  · rw [orE_ne _ k1, decide_eq_false k1]; rfl
theorem gs_bulk (g : Grid) (h : YGrid.bulk g ≤ 1048576) : Gs g := by
  have e : YGrid.bulk g = 1 + (1 + ((Ty.list YCell).bulk (gc g) + (Ty.list YRect).bulk (gm g))) := rfl
  have h1 := bulk_len (e := YCell) (gc g)
  have h2 := bulk_len (e := YRect) (gm g)
  have hc : ∀ c ∈ gc g, Sh (ca c) ∧ (c.2.2.1 : List UInt8).length ≤ 1048576 := fun c hc => by
    have := bulk_mem (e := YCell) (gc g) c hc
    have e2 : YCell.bulk c = 1 + (1 + ((c.2.2.1 : List UInt8).length + 1 + (1 + (Ty.list YAttr).bulk (ca c)))) := rfl
    exact ⟨sh_of _ (by omega), by omega⟩
  exact ⟨by omega, by omega, fun c h => (hc c h).1, fun c h => (hc c h).2⟩
theorem es_bulk (e : Edit) (h : YGridEdit.bulk e ≤ 1048576) : Es e := by
  have e1 : YGridEdit.bulk e = (Ty.list YSpan).bulk (er e) + ((Ty.list YSpan).bulk (el e) + ((Ty.list YCell).bulk (ec e) + ((Ty.list YRect).bulk (es e) + (Ty.list YRect).bulk (em e)))) := rfl
  have h1 := bulk_len (e := YSpan) (er e)
  have h2 := bulk_len (e := YSpan) (el e)
  have h3 := bulk_len (e := YCell) (ec e)
  have h4 := bulk_len (e := YRect) (es e)
  have h5 := bulk_len (e := YRect) (em e)
  refine ⟨by omega, by omega, by omega, fun c hc => ?_, by omega, by omega⟩
  have := bulk_mem (e := YCell) (ec e) c hc
  have e2 : YCell.bulk c = 1 + (1 + ((c.2.2.1 : List UInt8).length + 1 + (1 + (Ty.list YAttr).bulk (ca c)))) := rfl
  exact ⟨sh_of _ (by omega), by omega⟩
end Go.Ev.Doc
