
import Derived.Test.YtlgjdgebmiegeaaPFlow
import Derived.Test.YtlgjdgebmiegeaaGSpan
namespace Go.Ev.Span
open Go.Ev
set_option linter.unusedVariables false
set_option linter.unusedSimpArgs false
abbrev Set_ := List YSpan.den
def lo (s : YSpan.den) : Int := s.1
def hi (s : YSpan.den) : Int := s.2
def mkS (a b : Int) : YSpan.den := (a, b)
@[simp] theorem lo_mk (a b : Int) : lo (mkS a b) = a := rfl
@[simp] theorem hi_mk (a b : Int) : hi (mkS a b) = b := rfl
theorem span_ext {s t : YSpan.den} (h1 : lo s = lo t) (h2 : hi s = hi t) : s = t := Prod.ext h1 h2
def atS (l : Set_) (i : Nat) : YSpan.den := at_ (e := YSpan) l (i : Int)
theorem drop_atS {e : Ty} (xs : List e.den) {i : Nat} (h : i < xs.length) : xs.drop i = at_ xs (i : Int) :: xs.drop (i + 1) := by
  rw [List.drop_eq_getElem_cons h]
  congr 1
  unfold at_
  simp [List.getD_eq_getElem?_getD, h]
theorem drop_span (l : Set_) {i : Nat} (h : i < l.length) : l.drop i = atS l i :: l.drop (i + 1) := drop_atS l h
theorem atS_mem (l : Set_) {i : Nat} (h : i < l.length) : atS l i ∈ l := by
  unfold atS at_
  simp [List.getD_eq_getElem?_getD, h]
theorem mem_atS {l : Set_} {s : YSpan.den} (h : s ∈ l) : ∃ i, i < l.length ∧ atS l i = s := by
  obtain ⟨i, h1, h2⟩ := List.getElem_of_mem h
  refine ⟨i, h1, ?_⟩
  unfold atS at_
  simp [List.getD_eq_getElem?_getD, h1, h2]
def cOne (p : Option Int) (s : YSpan.den) : Int := if lo s < 0 ∨ hi s ≤ lo s ∨ 2147483647 < hi s then 2 else match p with
  | none => 0
  | some t => if lo s ≤ t then 5 else 0
def cErr : Option Int → Set_ → Int
  | _, [] => 0
  | p, s :: l => if cOne p s ≠ 0 then cOne p s else cErr (some (hi s)) l
def prv (l : Set_) (i : Nat) : Option Int := if i = 0 then none else some (hi (atS l (i - 1)))
theorem check_loop (l : Set_) (hl : l.length ≤ 4194304) (n : Nat) : ∀ (d i m : Nat), i + d = l.length → d < m →
    L_span_Check_0 n m l l (l.length : Int) i = some (ret_span_Check (cErr (prv l i) (l.drop i))) ∧ L_law_setError_0 n m l (l.length : Int) i = some (ret_law_setError (cErr (prv l i) (l.drop i))) := by
  intro d
  induction d with
  | zero =>
    intro i m hi' hm
    cases m with
    | zero => omega
    | succ m =>
    have : i = l.length := by omega
    subst this
    have c1 : decide ((l.length : Int) < (l.length : Int)) = false := decide_eq_false (by omega)
    rw [L_span_Check_0_step, L_law_setError_0_step, List.drop_length]
    simp [bcond_if, c1, cErr]
  | succ d ih =>
    intro i m hi' hm
    cases m with
    | zero => omega
    | succ m =>
    have hil : i < l.length := by omega
    have c1 : decide ((i : Int) < (l.length : Int)) = true := decide_eq_true (by omega)
    have w1 : IntKind.i64.wrap ((i : Int) + 1) = ((i + 1 : Nat) : Int) := wnat (by omega) (by omega)
    have e1 : (at_ (e := YSpan) l (i : Int)).1 = lo (atS l i) := rfl
    have e2 : (at_ (e := YSpan) l (i : Int)).2 = hi (atS l i) := rfl
    obtain ⟨ih1, ih2⟩ := ih (i + 1) m (by omega) (by omega)
    have hp : prv l (i + 1) = some (hi (atS l i)) := by simp [prv]
    rw [hp] at ih1 ih2
    rw [L_span_Check_0_step, L_law_setError_0_step, drop_span l hil, cErr]
    simp only [bcond_if, inb, hil, c1, if_true, w1, e1, e2, ih1, ih2]
    generalize atS l i = s
    by_cases h1 : lo s < 0
    · have : cOne (prv l i) s = 2 := by simp [cOne, h1]
      rw [this]; simp [h1]
    by_cases h2 : hi s ≤ lo s
    · have : cOne (prv l i) s = 2 := by simp [cOne, h2]
      rw [this]; simp [h1, h2]
    by_cases h3 : 2147483647 < hi s
    · have : cOne (prv l i) s = 2 := by simp [cOne, h3]
      have h3' : hi s > 2147483647 := h3
      rw [this]; simp [h1, h2, h3']
    have h3' : ¬ hi s > 2147483647 := h3
    by_cases h0 : i = 0
    · subst h0
      have : cOne (prv l 0) s = 0 := by simp [cOne, h1, h2, h3, prv]
      rw [this]; simp [h1, h2, h3']
    · have hp2 : prv l i = some (hi (atS l (i - 1))) := by simp [prv, h0]
      have w2 : IntKind.i64.wrap ((i : Int) - 1) = ((i - 1 : Nat) : Int) := wnat (by omega) (by omega)
      have h6 : i - 1 < l.length := by omega
      have c2 : decide ((i : Int) > 0) = true := decide_eq_true (by omega)
      have e3 : (at_ (e := YSpan) l ((i - 1 : Nat) : Int)).2 = hi (atS l (i - 1)) := rfl
      simp only [hp2, w2, inb, h6, if_true, c2, e3, beq_self_eq_true]
      generalize hi (atS l (i - 1)) = q
      by_cases h4 : lo s ≤ q
      · have : cOne (some q) s = 5 := by simp [cOne, h1, h2, h3, h4]
        rw [this]; simp [h1, h2, h3', h4]
      · have : cOne (some q) s = 0 := by simp [cOne, h1, h2, h3, h4]
        rw [this]; simp [h1, h2, h3', h4]
def E (l : Set_) : Int := cErr none l
theorem check_eq (l : Set_) (hl : l.length ≤ 4194304) : C_span_Check F_span_Check l = some (ret_span_Check (E l)) ∧ C_law_setError F_law_setError l = some (ret_law_setError (E l)) := by
  obtain ⟨m, hm⟩ := big_succ (n := 4194305) (by omega)
  rw [e_span_Check, e_law_setError]
  have := check_loop l hl big l.length 0 big (by omega) (by omega)
  simpa [prv, E] using this
/-- Ranges behind `b`, in order, none touching the next one. -/
def VS : Int → Set_ → Prop
  | _, [] => True
  | b, s :: l => b < lo s ∧ lo s < hi s ∧ VS (hi s) l
def lastHi : Int → Set_ → Int
  | b, [] => b
  | _, s :: l => lastHi (hi s) l
theorem cErr_vs : ∀ (l : Set_) (p : Option Int) (b : Int), (∀ t, p = some t → b = t) → (p = none → b = -1) → (cErr p l = 0 ↔ VS b l ∧ (∀ s ∈ l, hi s ≤ 2147483647 ∧ 0 ≤ lo s))
  | [], p, b, _, _ => by simp [cErr, VS]
  | s :: l, p, b, h1, h2 => by
    have ih := cErr_vs l (some (hi s)) (hi s) (fun t e => by injection e) (fun e => by cases e)
    have h0 : cOne p s = 0 ↔ b < lo s ∧ lo s < hi s ∧ hi s ≤ 2147483647 ∧ 0 ≤ lo s := by
      unfold cOne
      by_cases q : lo s < 0 ∨ hi s ≤ lo s ∨ 2147483647 < hi s
      · rw [if_pos q]
        constructor
        · intro h; cases h
        · intro h; omega
      · rw [if_neg q]
        cases p with
        | none =>
          have := h2 rfl
          constructor
          · intro _; omega
          · intro _; rfl
        | some t =>
          have := h1 t rfl
          simp only
          by_cases q2 : lo s ≤ t
          · rw [if_pos q2]
            constructor
            · intro h; cases h
            · intro h; omega
          · rw [if_neg q2]
            constructor
            · intro _; omega
            · intro _; rfl
    simp only [cErr, VS, List.mem_cons]
    by_cases hz : cOne p s = 0
    · have := h0.1 hz
      simp only [hz, ne_eq, not_true, if_false, ih]
      constructor
      · rintro ⟨v, w⟩
        exact ⟨⟨this.1, this.2.1, v⟩, fun t ht => ht.elim (fun e => by subst e; exact ⟨this.2.2.1, this.2.2.2⟩) (w t)⟩
      · rintro ⟨⟨_, _, v⟩, w⟩
        exact ⟨v, fun t ht => w t (.inr ht)⟩
    · simp only [hz, ne_eq, not_false_eq_true, if_true]
      constructor
      · intro h; first | exact absurd h hz | exact h.elim
      · rintro ⟨⟨q1, q2, _⟩, w⟩
        exact absurd (h0.2 ⟨q1, q2, w s (.inl rfl)⟩) hz
def Val (l : Set_) : Prop := VS (-1) l ∧ ∀ s ∈ l, hi s ≤ 2147483647 ∧ 0 ≤ lo s
theorem E_val (l : Set_) : E l = 0 ↔ Val l := cErr_vs l none (-1) (fun t e => by cases e) (fun _ => rfl)
def Mem (l : Set_) (x : Int) : Prop := ∃ s ∈ l, lo s ≤ x ∧ x < hi s
theorem vs_lo : ∀ {l : Set_} {b : Int}, VS b l → ∀ s ∈ l, b < lo s ∧ lo s < hi s
  | [], _, _, s, h => by simp at h
  | t :: l, b, ⟨h1, h2, h3⟩, s, h => by
    rcases List.mem_cons.1 h with rfl | h
    · exact ⟨h1, h2⟩
    · have := vs_lo h3 s h
      omega
theorem vs_uniq : ∀ {l m : Set_} {b : Int}, VS b l → VS b m → (∀ x, Mem l x ↔ Mem m x) → l = m
  | [], [], _, _, _, _ => rfl
  | [], t :: m, b, _, ⟨h1, h2, _⟩, h => by
    obtain ⟨s, hs, _⟩ := (h (lo t)).2 ⟨t, by simp, by omega, h2⟩
    simp at hs
  | s :: l, [], b, ⟨h1, h2, _⟩, _, h => by
    obtain ⟨t, ht, _⟩ := (h (lo s)).1 ⟨s, by simp, by omega, h2⟩
    simp at ht
  | s :: l, t :: m, b, ⟨a1, a2, a3⟩, ⟨b1, b2, b3⟩, h => by
    have low : ∀ {l : Set_} {s : YSpan.den}, lo s < hi s → VS (hi s) l → ∀ x, Mem (s :: l) x → lo s ≤ x ∧ (x < hi s ∨ hi s < x) := by
      rintro l s hs hv x ⟨u, hu, q1, q2⟩
      rcases List.mem_cons.1 hu with rfl | hu
      · omega
      · have := vs_lo hv u hu; omega
    have e1 : lo s = lo t := by
      have := (low b2 b3 _ ((h (lo s)).1 ⟨s, by simp, by omega, a2⟩)).1
      have := (low a2 a3 _ ((h (lo t)).2 ⟨t, by simp, by omega, b2⟩)).1
      omega
    have e2 : hi s = hi t := by
      by_cases q : hi s < hi t
      · have := (low a2 a3 _ ((h (hi s)).2 ⟨t, by simp, by omega, q⟩)).2
        omega
      · by_cases q2 : hi t < hi s
        · have := (low b2 b3 _ ((h (hi t)).1 ⟨s, by simp, by omega, q2⟩)).2
          omega
        · omega
    have e : s = t := span_ext e1 e2
    subst e
    rw [vs_uniq a3 b3 (fun x => by
      constructor
      · rintro ⟨u, hu, q1, q2⟩
        obtain ⟨v, hv, r1, r2⟩ := (h x).1 ⟨u, by simp [hu], q1, q2⟩
        rcases List.mem_cons.1 hv with rfl | hv
        · have := vs_lo a3 u hu; omega
        · exact ⟨v, hv, r1, r2⟩
      · rintro ⟨u, hu, q1, q2⟩
        obtain ⟨v, hv, r1, r2⟩ := (h x).2 ⟨u, by simp [hu], q1, q2⟩
        rcases List.mem_cons.1 hv with rfl | hv
        · have := vs_lo b3 u hu; omega
        · exact ⟨v, hv, r1, r2⟩)]
theorem vs_append : ∀ (l : Set_) (b : Int) (s : YSpan.den), VS b (l ++ [s]) ↔ VS b l ∧ lastHi b l < lo s ∧ lo s < hi s
  | [], b, s => by simp [VS, lastHi]
  | t :: l, b, s => by
    have := vs_append l (hi t) s
    simp only [List.cons_append, VS, lastHi, this]
    constructor
    · rintro ⟨a, b, c, d, e⟩; exact ⟨⟨a, b, c⟩, d, e⟩
    · rintro ⟨⟨a, b, c⟩, d, e⟩; exact ⟨a, b, c, d, e⟩
theorem lastHi_append : ∀ (l : Set_) (b : Int) (s : YSpan.den), lastHi b (l ++ [s]) = hi s
  | [], b, s => rfl
  | t :: l, b, s => by simp only [List.cons_append, lastHi]; exact lastHi_append l _ s
theorem mem_append (l : Set_) (s : YSpan.den) (x : Int) : Mem (l ++ [s]) x ↔ Mem l x ∨ (lo s ≤ x ∧ x < hi s) := by
  unfold Mem
  simp only [List.mem_append, List.mem_singleton]
  constructor
  · rintro ⟨u, hu | rfl, q⟩
    · exact .inl ⟨u, hu, q⟩
    · exact .inr q
  · rintro (⟨u, hu, q⟩ | q)
    · exact ⟨u, .inl hu, q⟩
    · exact ⟨s, .inr rfl, q⟩
open Classical in
noncomputable def mb (l : Set_) (x : Int) : Bool := decide (Mem l x)
theorem mb_iff (l : Set_) (x : Int) : mb l x = true ↔ Mem l x := by simp [mb]
theorem in_eq (x lo hi : Int) : C_R_In F_R_In x lo hi = some (ret_R_In (decide (lo ≤ x) && decide (x ≤ hi))) := by
  rw [e_R_In]
  simp only [bcond_if]
  by_cases h : lo ≤ x <;> simp [h]
end Go.Ev.Span
namespace Go.Ev.Span
open Go.Ev
set_option linter.unusedVariables false
set_option linter.unusedSimpArgs false
/-- The `k`-th end. -/
def en (a : Set_) (k : Nat) : Int := if k % 2 = 0 then lo (atS a (k / 2)) else hi (atS a (k / 2))
theorem end_eq (a : Set_) (ha : a.length ≤ 1048576) (k : Nat) (hk : k < 2 * a.length) : C_span_end F_span_end a (k : Int) = some (ret_span_end (en a k)) := by
  have e1 : ((k : Int).tmod 2) = ((k % 2 : Nat) : Int) := by rw [show (2 : Int) = ((2 : Nat) : Int) from rfl, ← Int.ofNat_tmod]
  have e2 : ((k : Int).tdiv 2) = ((k / 2 : Nat) : Int) := by rw [show (2 : Int) = ((2 : Nat) : Int) from rfl, ← Int.ofNat_tdiv]
  have w : IntKind.i64.wrap ((k / 2 : Nat) : Int) = ((k / 2 : Nat) : Int) := wnat rfl (by omega)
  have hb : k / 2 < a.length := by omega
  have q1 : (at_ (e := YSpan) a ((k / 2 : Nat) : Int)).1 = lo (atS a (k / 2)) := rfl
  have q2 : (at_ (e := YSpan) a ((k / 2 : Nat) : Int)).2 = hi (atS a (k / 2)) := rfl
  rw [e_span_end, e1, e2]
  simp only [bcond_if, w, inb, hb, if_true, q1, q2, show ¬ ((2 : Int) = 0) from by decide, if_false]
  unfold en
  have : k % 2 = 0 ∨ k % 2 = 1 := by omega
  rcases this with h | h
  · rw [h]; rfl
  · rw [h]; rfl
theorem vs_idx : ∀ {a : Set_} {b : Int}, VS b a → ∀ i, i < a.length → lo (atS a i) < hi (atS a i) ∧ (i + 1 < a.length → hi (atS a i) < lo (atS a (i + 1)))
  | [], _, _, i, h => by simp at h
  | s :: l, b, ⟨h1, h2, h3⟩, 0, h => by
    refine ⟨h2, fun h4 => ?_⟩
    cases l with
    | nil => simp at h4
    | cons t l => exact h3.1
  | s :: l, b, ⟨h1, h2, h3⟩, i + 1, h => by
    have := vs_idx h3 i (by simpa using h)
    refine ⟨this.1, fun h4 => this.2 (by simpa using h4)⟩
theorem en_succ {a : Set_} {b : Int} (hv : VS b a) {k : Nat} (hk : k + 1 < 2 * a.length) : en a k < en a (k + 1) := by
  have hd : k / 2 < a.length := by omega
  have h := vs_idx hv (k / 2) hd
  unfold en
  have : k % 2 = 0 ∨ k % 2 = 1 := by omega
  rcases this with q | q
  · have q2 : (k + 1) % 2 = 1 := by omega
    have q3 : (k + 1) / 2 = k / 2 := by omega
    rw [q, q2, q3]
    exact h.1
  · have q2 : (k + 1) % 2 = 0 := by omega
    have q3 : (k + 1) / 2 = k / 2 + 1 := by omega
    rw [q, q2, q3]
    exact h.2 (by omega)
theorem en_mono {a : Set_} {b : Int} (hv : VS b a) {j : Nat} : ∀ (d : Nat), j + d < 2 * a.length → en a j ≤ en a (j + d)
  | 0, _ => Int.le_refl _
  | d + 1, h => by
    have := en_mono hv (j := j) d (by omega)
    have := en_succ hv (k := j + d) (by omega)
    rw [show j + (d + 1) = j + d + 1 from by omega]
    omega
theorem en_val {a : Set_} (hv : Val a) {k : Nat} (hk : k < 2 * a.length) : 0 ≤ en a k ∧ en a k ≤ 2147483647 := by
  have hm := atS_mem a (show k / 2 < a.length by omega)
  have h1 := hv.2 _ hm
  have h2 := (vs_lo hv.1 _ hm).2
  unfold en
  split <;> omega
theorem mem_par {a : Set_} {b : Int} (hv : VS b a) {i : Nat} {x : Int} (h1 : ∀ k, k < i → k < 2 * a.length → en a k ≤ x) (h2 : ∀ k, i ≤ k → k < 2 * a.length → x < en a k) (hi' : i ≤ 2 * a.length) : Mem a x ↔ i % 2 = 1 := by
  have el : ∀ k, en a (2 * k) = lo (atS a k) := fun k => by unfold en; rw [if_pos (by omega), show 2 * k / 2 = k from by omega]
  have eh : ∀ k, en a (2 * k + 1) = hi (atS a k) := fun k => by unfold en; rw [if_neg (by omega), show (2 * k + 1) / 2 = k from by omega]
  constructor
  · rintro ⟨s, hs, q1, q2⟩
    obtain ⟨k, hk, rfl⟩ := mem_atS hs
    rw [← el] at q1
    rw [← eh] at q2
    have c1 : 2 * k < i := by
      apply Nat.lt_of_not_le; intro hn
      have := h2 (2 * k) hn (by omega); omega
    have c2 : i ≤ 2 * k + 1 := by
      apply Nat.le_of_not_lt; intro hn
      have := h1 (2 * k + 1) hn (by omega); omega
    omega
  · intro hp
    refine ⟨atS a (i / 2), atS_mem a (by omega), ?_, ?_⟩
    · rw [← el]; exact h1 _ (by omega) (by omega)
    · rw [← eh]; exact h2 _ (by omega) (by omega)
def od (i : Nat) : Bool := decide (i % 2 = 1)
theorem od_eq (i : Nat) : (((i : Int).tmod 2) == 1) = od i := by
  have e1 : ((i : Int).tmod 2) = ((i % 2 : Nat) : Int) := by rw [show (2 : Int) = ((2 : Nat) : Int) from rfl, ← Int.ofNat_tmod]
  rw [e1]
  unfold od
  have : i % 2 = 0 ∨ i % 2 = 1 := by omega
  rcases this with h | h <;> rw [h] <;> rfl
/-- Where the next end is. -/
def nxt (a b : Set_) (i j : Nat) : Int := if i < 2 * a.length then (if j < 2 * b.length then (if en b j < en a i then en b j else en a i) else en a i) else en b j
theorem add_nil (s : YSpan.den) : C_span_add F_span_add [] s = some (ret_span_add [s]) := by
  rw [e_span_add]
  have hw : IntKind.i64.wrap (-1) = -1 := rfl
  simp [bcond_if, hw]
theorem add_last (d : Set_) (t s : YSpan.den) (hd : d.length ≤ 4194304) : C_span_add F_span_add (d ++ [t]) s = some (ret_span_add (if lo s ≤ hi t then d ++ [mkS (lo t) (if hi t < hi s then hi s else hi t)] else d ++ [t] ++ [s])) := by
  have hlen : (d ++ [t]).length = d.length + 1 := by simp
  have w3 : IntKind.i64.wrap (((d ++ [t]).length : Int) - 1) = ((d.length : Nat) : Int) := wnat (by rw [hlen]; omega) (by omega)
  have el : at_ (e := YSpan) (d ++ [t]) ((d.length : Nat) : Int) = t := by
    unfold at_
    simp [List.getD_eq_getElem?_getD]
  have es : ∀ u : YSpan.den, List.set (d ++ [t]) d.length u = d ++ [u] := fun u => by simp
  have b1 : ((d ++ [t]).length + [s].length) * 16 ≤ 140737488355328 := Nat.le_trans (Nat.mul_le_mul_right 16 (Nat.add_le_add_right (show (d ++ [t]).length ≤ 4194305 by rw [hlen]; omega) 1)) (by decide)
  have c2 : decide (((d.length : Nat) : Int) ≥ 0) = true := decide_eq_true (by omega)
  have c3 : d.length < (d ++ [t]).length := by rw [hlen]; omega
  have q1 : t.1 = lo t := rfl
  have q2 : t.2 = hi t := rfl
  have q3 : s.1 = lo s := rfl
  have q4 : s.2 = hi s := rfl
  have q5 : ∀ z : Int, ((lo t, z) : YSpan.den) = mkS (lo t) z := fun z => rfl
  rw [e_span_add, w3, el]
  simp only [bcond_if, inb, c2, c3, if_true, b1, q1, q2, q3, q4, q5, Int.toNat_natCast, es, beq_self_eq_true]
  by_cases h : lo s ≤ hi t
  · simp only [h, decide_true, if_true]
  · simp [h]
/-- What the walk knows. -/
structure Inv (a b : Set_) (w : Bool → Bool → Bool) (out : Set_) (at' : Int) (i j : Nat) : Prop where
  ia : i ≤ 2 * a.length
  jb : j ≤ 2 * b.length
  a1 : ∀ k, k < i → k < 2 * a.length → en a k ≤ at'
  a2 : ∀ k, i ≤ k → k < 2 * a.length → at' ≤ en a k
  b1 : ∀ k, k < j → k < 2 * b.length → en b k ≤ at'
  b2 : ∀ k, j ≤ k → k < 2 * b.length → at' ≤ en b k
  z : 0 ≤ at'
  big : at' ≤ 2147483647
  v : VS (-1) out
  m : ∀ s ∈ out, hi s ≤ 2147483647 ∧ 0 ≤ lo s
  l : out = [] ∨ ∃ d t, out = d ++ [t] ∧ hi t ≤ at'
  ln : out.length ≤ i + j
  x : ∀ x, Mem out x ↔ 0 ≤ x ∧ x < at' ∧ w (mb a x) (mb b x) = true
theorem inv_step {a b : Set_} {w : Bool → Bool → Bool} {out : Set_} {t : Int} {i j : Nat} (ha : Val a) (hb : Val b) (hla : a.length ≤ 1048576) (hlb : b.length ≤ 1048576) (I : Inv a b w out t i j) (hij : i < 2 * a.length ∨ j < 2 * b.length) :
    let n := nxt a b i j
    let i' := if i < 2 * a.length ∧ en a i = n then i + 1 else i
    let j' := if j < 2 * b.length ∧ en b j = n then j + 1 else j
    t ≤ n ∧ (i' + j' > i + j) ∧ ((t < n ∧ w (od i) (od j) = true) → ∀ out', C_span_add F_span_add out (mkS t n) = some (ret_span_add out') → Inv a b w out' n i' j') ∧ (¬ (t < n ∧ w (od i) (od j) = true) → Inv a b w out n i' j') := by
  intro n i' j'
  have nA : ∀ k, i ≤ k → k < 2 * a.length → n ≤ en a k := fun k h1 h2 => by
    have hm := en_mono ha.1 (j := i) (k - i) (by omega)
    rw [show i + (k - i) = k from by omega] at hm
    have : n ≤ en a i := by
      show nxt a b i j ≤ _
      unfold nxt
      rw [if_pos (show i < 2 * a.length by omega)]
      split
      · split <;> omega
      · omega
    omega
  have nB : ∀ k, j ≤ k → k < 2 * b.length → n ≤ en b k := fun k h1 h2 => by
    have hm := en_mono hb.1 (j := j) (k - j) (by omega)
    rw [show j + (k - j) = k from by omega] at hm
    have : n ≤ en b j := by
      show nxt a b i j ≤ _
      unfold nxt
      split
      · rw [if_pos (show j < 2 * b.length by omega)]
        split <;> omega
      · omega
    omega
  have nE : (i < 2 * a.length ∧ en a i = n) ∨ (j < 2 * b.length ∧ en b j = n) := by
    show (i < 2 * a.length ∧ en a i = nxt a b i j) ∨ (j < 2 * b.length ∧ en b j = nxt a b i j)
    unfold nxt
    by_cases h1 : i < 2 * a.length
    · rw [if_pos h1]
      by_cases h2 : j < 2 * b.length
      · rw [if_pos h2]
        split
        · exact .inr ⟨h2, rfl⟩
        · exact .inl ⟨h1, rfl⟩
      · rw [if_neg h2]; exact .inl ⟨h1, rfl⟩
    · rw [if_neg h1]; exact .inr ⟨by omega, rfl⟩
  have tn : t ≤ n := by
    rcases nE with ⟨h1, h2⟩ | ⟨h1, h2⟩
    · rw [← h2]; exact I.a2 i (Nat.le_refl _) h1
    · rw [← h2]; exact I.b2 j (Nat.le_refl _) h1
  have nbig : n ≤ 2147483647 := by
    rcases nE with ⟨h1, h2⟩ | ⟨h1, h2⟩
    · rw [← h2]; exact (en_val ha h1).2
    · rw [← h2]; exact (en_val hb h1).2
  have hi1 : i' = i ∨ (i' = i + 1 ∧ i < 2 * a.length ∧ en a i = n) := by
    show (if i < 2 * a.length ∧ en a i = n then i + 1 else i) = i ∨ _
    by_cases h : i < 2 * a.length ∧ en a i = n
    · right; exact ⟨if_pos h, h⟩
    · left; exact if_neg h
  have hj1 : j' = j ∨ (j' = j + 1 ∧ j < 2 * b.length ∧ en b j = n) := by
    show (if j < 2 * b.length ∧ en b j = n then j + 1 else j) = j ∨ _
    by_cases h : j < 2 * b.length ∧ en b j = n
    · right; exact ⟨if_pos h, h⟩
    · left; exact if_neg h
  have grow : i' + j' > i + j := by
    rcases nE with h | h
    · have : i' = i + 1 := if_pos h
      rcases hj1 with h2 | h2 <;> omega
    · have : j' = j + 1 := if_pos h
      rcases hi1 with h2 | h2 <;> omega
  have reg : ∀ x, t ≤ x → x < n → (mb a x = od i ∧ mb b x = od j) := fun x h1 h2 => by
    have pa := mem_par ha.1 (i := i) (x := x) (fun k q1 q2 => by have := I.a1 k q1 q2; omega) (fun k q1 q2 => by have := nA k q1 q2; omega) I.ia
    have pb := mem_par hb.1 (i := j) (x := x) (fun k q1 q2 => by have := I.b1 k q1 q2; omega) (fun k q1 q2 => by have := nB k q1 q2; omega) I.jb
    constructor
    · rw [Bool.eq_iff_iff, mb_iff, pa]; simp [od]
    · rw [Bool.eq_iff_iff, mb_iff, pb]; simp [od]
  have A1 : ∀ k, k < i' → k < 2 * a.length → en a k ≤ n := fun k q1 q2 => by
    rcases hi1 with h | ⟨h, h3, h4⟩
    · have := I.a1 k (by omega) q2; omega
    · by_cases hk : k = i
      · subst hk; omega
      · have := I.a1 k (by omega) q2; omega
  have B1 : ∀ k, k < j' → k < 2 * b.length → en b k ≤ n := fun k q1 q2 => by
    rcases hj1 with h | ⟨h, h3, h4⟩
    · have := I.b1 k (by omega) q2; omega
    · by_cases hk : k = j
      · subst hk; omega
      · have := I.b1 k (by omega) q2; omega
  have mk : ∀ out', VS (-1) out' → (∀ s ∈ out', hi s ≤ 2147483647 ∧ 0 ≤ lo s) → (out' = [] ∨ ∃ d s, out' = d ++ [s] ∧ hi s ≤ n) → out'.length ≤ i + j + 1 → (∀ x, Mem out' x ↔ 0 ≤ x ∧ x < n ∧ w (mb a x) (mb b x) = true) → Inv a b w out' n i' j' := fun out' v m l ln x =>
    ⟨by have := I.ia; rcases hi1 with h | h <;> omega, by have := I.jb; rcases hj1 with h | h <;> omega, A1, fun k q1 q2 => nA k (by rcases hi1 with h | h <;> omega) q2, B1, fun k q1 q2 => nB k (by rcases hj1 with h | h <;> omega) q2,
      by have := I.z; omega, nbig, v, m, l, by omega, x⟩
  refine ⟨tn, grow, fun hw out' ho => ?_, fun hw => ?_⟩
  · have hx : ∀ x, (Mem out x ∨ (t ≤ x ∧ x < n)) ↔ 0 ≤ x ∧ x < n ∧ w (mb a x) (mb b x) = true := fun x => by
      rw [I.x x]
      have z := I.z
      constructor
      · rintro (⟨q1, q2, q3⟩ | ⟨q1, q2⟩)
        · exact ⟨q1, by omega, q3⟩
        · obtain ⟨r1, r2⟩ := reg x q1 q2
          exact ⟨by omega, q2, by rw [r1, r2]; exact hw.2⟩
      · rintro ⟨q1, q2, q3⟩
        by_cases h : x < t
        · exact .inl ⟨q1, h, q3⟩
        · exact .inr ⟨by omega, q2⟩
    rcases I.l with hnil | ⟨d, s, hds, hs⟩
    · have hout := I.x
      subst hnil
      rw [add_nil] at ho
      have e : out' = [mkS t n] := by
        have := congrArg (fun o => o.map res_span_add_0) ho
        simpa using this.symm
      subst e
      refine mk _ ⟨by simp; have := I.z; omega, hw.1, trivial⟩ (fun s hs => ?_) (.inr ⟨[], mkS t n, rfl, Int.le_refl _⟩) (by simp) (fun x => ?_)
      · have : s = mkS t n := by simpa using hs
        subst this
        exact ⟨nbig, I.z⟩
      · rw [← hx x, show [mkS t n] = ([] : Set_) ++ [mkS t n] from rfl, mem_append]; rfl
    · have hv := I.v
      have hm := I.m
      have hln := I.ln
      rw [hds] at hv hm ho hln
      have ho2 : out' = (if lo (mkS t n) ≤ hi s then d ++ [mkS (lo s) (if hi s < hi (mkS t n) then hi (mkS t n) else hi s)] else d ++ [s] ++ [mkS t n]) := by
        have hd4 : d.length ≤ 4194304 := by simp at hln; have := I.ia; have := I.jb; omega
        rw [add_last d s (mkS t n) hd4] at ho
        have := congrArg (fun o => o.map res_span_add_0) ho
        simpa using this.symm
      simp only [lo_mk, hi_mk] at ho2
      obtain ⟨v1, v2, v3⟩ := (vs_append d (-1) s).1 hv
      have hsm := hm s (by simp)
      by_cases hc : t ≤ hi s
      · have hst : hi s = t := by omega
        have e4 : (if hi s < n then n else hi s) = n := if_pos (by omega)
        have ho3 : out' = d ++ [mkS (lo s) n] := (ho2.trans (if_pos hc)).trans (congrArg (fun z => d ++ [mkS (lo s) z]) e4)
        subst ho3
        refine mk _ ((vs_append d (-1) _).2 ⟨v1, v2, by simp only [lo_mk, hi_mk]; omega⟩) (fun u hu => ?_) (.inr ⟨d, _, rfl, Int.le_refl _⟩) (by simp at hln ⊢; omega) (fun x => ?_)
        · rcases List.mem_append.1 hu with hu | hu
          · exact hm u (by simp [hu])
          · have : u = mkS (lo s) n := by simpa using hu
            subst this
            exact ⟨nbig, hsm.2⟩
        · rw [← hx x, hds, mem_append, mem_append]
          simp only [lo_mk, hi_mk]
          constructor
          · rintro (q | q)
            · exact .inl (.inl q)
            · by_cases h : x < t
              · exact .inl (.inr ⟨q.1, by omega⟩)
              · exact .inr ⟨by omega, q.2⟩
          · rintro ((q | q) | q)
            · exact .inl q
            · exact .inr ⟨q.1, by omega⟩
            · exact .inr ⟨by omega, q.2⟩
      · have ho3 := ho2.trans (if_neg hc)
        subst ho3
        refine mk _ ((vs_append (d ++ [s]) (-1) _).2 ⟨hv, by rw [lastHi_append]; simp only [lo_mk]; omega, hw.1⟩) (fun u hu => ?_) (.inr ⟨d ++ [s], _, rfl, Int.le_refl _⟩) (by simp at hln ⊢; omega) (fun x => ?_)
        · rcases List.mem_append.1 hu with hu | hu
          · exact hm u hu
          · have : u = mkS t n := by simpa using hu
            subst this
            exact ⟨nbig, I.z⟩
        · rw [← hx x, hds, mem_append (d ++ [s])]
          rfl
  · refine mk _ I.v I.m ?_ (by have := I.ln; omega) (fun x => ?_)
    · rcases I.l with h | ⟨d, s, h1, h2⟩
      · exact .inl h
      · exact .inr ⟨d, s, h1, by omega⟩
    · rw [I.x x]
      constructor
      · rintro ⟨q1, q2, q3⟩; exact ⟨q1, by omega, q3⟩
      · rintro ⟨q1, q2, q3⟩
        refine ⟨q1, ?_, q3⟩
        apply Int.lt_of_not_ge
        intro h
        obtain ⟨r1, r2⟩ := reg x h q2
        rw [r1, r2] at q3
        exact hw ⟨by omega, q3⟩
theorem add_ex (out : Set_) (s : YSpan.den) (h : out = [] ∨ ∃ d t, out = d ++ [t]) (hl : out.length ≤ 4194304) : ∃ out', C_span_add F_span_add out s = some (ret_span_add out') := by
  rcases h with h | ⟨d, t, h⟩
  · subst h
    exact ⟨_, add_nil s⟩
  · subst h
    exact ⟨_, add_last d t s (by simp at hl; omega)⟩
theorem inv_start {a b : Set_} (w : Bool → Bool → Bool) (ha : Val a) (hb : Val b) : Inv a b w [] 0 0 0 := by
  refine ⟨Nat.zero_le _, Nat.zero_le _, fun k h => absurd h (Nat.not_lt_zero _), fun k _ h => (en_val ha h).1, fun k h => absurd h (Nat.not_lt_zero _), fun k _ h => (en_val hb h).1, Int.le_refl _, by decide, trivial, fun s hs => absurd hs (by simp), .inl rfl, by simp, fun x => ?_⟩
  constructor
  · rintro ⟨s, hs, _⟩; simp at hs
  · rintro ⟨h1, h2, _⟩; omega
theorem mb_out {a : Set_} (ha : Val a) {x : Int} (h : x < 0 ∨ ∀ k, k < 2 * a.length → en a k ≤ x) : mb a x = false := by
  have : ¬ Mem a x := by
    rcases h with h | h
    · rintro ⟨s, hs, q1, q2⟩
      have := ha.2 s hs
      omega
    · rw [mem_par ha.1 (i := 2 * a.length) (x := x) (fun k _ h2 => h k h2) (fun k h1 h2 => by omega) (Nat.le_refl _)]
      omega
  cases h2 : mb a x with
  | false => rfl
  | true => exact absurd ((mb_iff _ _).1 h2) this
/-- What a walk leaves. -/
structure Fin_ (a b : Set_) (w : Bool → Bool → Bool) (out : Set_) : Prop where
  v : Val out
  l : out.length ≤ 2 * a.length + 2 * b.length
  x : ∀ x, mb out x = w (mb a x) (mb b x)
theorem inv_end {a b : Set_} {w : Bool → Bool → Bool} {out : Set_} {t : Int} {i j : Nat} (ha : Val a) (hb : Val b) (I : Inv a b w out t i j) (hi' : ¬ (i < 2 * a.length ∨ j < 2 * b.length)) (hw : w false false = false) : Fin_ a b w out := by
  refine ⟨⟨I.v, I.m⟩, by have := I.ln; have := I.ia; have := I.jb; omega, fun x => ?_⟩
  have z := I.z
  rw [Bool.eq_iff_iff, mb_iff, I.x x]
  constructor
  · rintro ⟨_, _, h⟩; exact h
  · intro h
    have h0 : ¬ (mb a x = false ∧ mb b x = false) := fun q => by rw [q.1, q.2, hw] at h; cases h
    refine ⟨?_, ?_, h⟩
    · apply Int.le_of_not_gt
      intro q
      exact h0 ⟨mb_out ha (.inl q), mb_out hb (.inl q)⟩
    · apply Int.lt_of_not_ge
      intro q
      exact h0 ⟨mb_out ha (.inr fun k hk => by have := I.a1 k (by omega) hk; omega), mb_out hb (.inr fun k hk => by have := I.b1 k (by omega) hk; omega)⟩
def w79 (p q : Bool) : Bool := p || q
theorem cw79 (p q : Bool) : C_span_Union_c1 F_span_Union_c1 p q = some (ret_span_Union_c1 (w79 p q)) := by
  rw [e_span_Union_c1]; cases p <;> cases q <;> rfl
theorem step79 (a b : Set_) (hla : a.length ≤ 1048576) (hlb : b.length ≤ 1048576) (ha : Val a) (hb : Val b) (n m : Nat) (out : Set_) (t : Int) (i j : Nat) :
    L_span_merged_span_Union_c1_0 n (m + 1) a b out t i j = if i < 2 * a.length ∨ j < 2 * b.length then (if t < nxt a b i j ∧ w79 (od i) (od j) = true then (C_span_add F_span_add out (mkS t (nxt a b i j))).bind (fun r => L_span_merged_span_Union_c1_1 n m n a b (res_span_add_0 r) (nxt a b i j) i j) else L_span_merged_span_Union_c1_1 n m n a b out (nxt a b i j) i j) else some (ret_span_merged_span_Union_c1 out) := by
  have wa : IntKind.i64.wrap (2 * (a.length : Int)) = ((2 * a.length : Nat) : Int) := wnat (by omega) (by omega)
  have wb : IntKind.i64.wrap (2 * (b.length : Int)) = ((2 * b.length : Nat) : Int) := wnat (by omega) (by omega)
  have q5 : ∀ z : Int, ((t, z) : YSpan.den) = mkS t z := fun z => rfl
  have two : ¬ ((2 : Int) = 0) := by decide
  rw [L_span_merged_span_Union_c1_0_step, wa, wb]
  by_cases h1 : i < 2 * a.length
  · have c1 : decide ((i : Int) < ((2 * a.length : Nat) : Int)) = true := decide_eq_true (by omega)
    have en1 := end_eq a hla i h1
    by_cases h2 : j < 2 * b.length
    · have c2 : decide ((j : Int) < ((2 * b.length : Nat) : Int)) = true := decide_eq_true (by omega)
      have en2 := end_eq b hlb j h2
      have hX : (if (res_span_end_0 (ret_span_end (en b j)) : Int) < res_span_end_0 (ret_span_end (en a i)) then res_span_end_0 (ret_span_end (en b j)) else res_span_end_0 (ret_span_end (en a i))) = nxt a b i j := by unfold nxt; rw [if_pos h1, if_pos h2]; rfl
      simp only [bcond_if, c1, c2, en1, en2, Option.bind_some, hX, q5, cw79, res_span_Union_c1_0_ret, od_eq, if_true, two, if_false, h1, h2, true_or, Bool.true_eq_false, beq_self_eq_true, decide_false, reduceCtorEq, Bool.false_eq_true]
      generalize nxt a b i j = X
      by_cases h3 : t < X <;> cases h4 : w79 (od i) (od j) <;> simp [h3, h4, J_span_merged_span_Union_c1_0, bcond_if, od_eq, cw79, q5]
    · have c2 : decide ((j : Int) < ((2 * b.length : Nat) : Int)) = false := decide_eq_false (by omega)
      have hX : res_span_end_0 (ret_span_end (en a i)) = nxt a b i j := by unfold nxt; rw [if_pos h1, if_neg h2]; rfl
      simp only [bcond_if, c1, c2, en1, Option.bind_some, hX, q5, cw79, res_span_Union_c1_0_ret, od_eq, if_true, two, if_false, h1, h2, true_or, Bool.true_eq_false, beq_self_eq_true, decide_false, reduceCtorEq, Bool.false_eq_true]
      generalize nxt a b i j = X
      by_cases h3 : t < X <;> cases h4 : w79 (od i) (od j) <;> simp [h3, h4, J_span_merged_span_Union_c1_0, bcond_if, od_eq, cw79, q5]
  · have c1 : decide ((i : Int) < ((2 * a.length : Nat) : Int)) = false := decide_eq_false (by omega)
    by_cases h2 : j < 2 * b.length
    · have c2 : decide ((j : Int) < ((2 * b.length : Nat) : Int)) = true := decide_eq_true (by omega)
      have en2 := end_eq b hlb j h2
      have hX : (if (res_span_end_0 (ret_span_end (en b j)) : Int) < 2147483648 then res_span_end_0 (ret_span_end (en b j)) else 2147483648) = nxt a b i j := by
        unfold nxt
        rw [if_neg h1]
        exact if_pos (show en b j < 2147483648 by have := (en_val hb h2).2; omega)
      simp only [bcond_if, c1, c2, en2, Option.bind_some, hX, q5, cw79, res_span_Union_c1_0_ret, od_eq, if_true, two, if_false, h1, h2, or_true, Bool.true_eq_false, beq_self_eq_true, decide_false, reduceCtorEq, Bool.false_eq_true]
      generalize nxt a b i j = X
      by_cases h3 : t < X <;> cases h4 : w79 (od i) (od j) <;> simp [h3, h4, J_span_merged_span_Union_c1_0, bcond_if, od_eq, cw79, q5]
    · have c2 : decide ((j : Int) < ((2 * b.length : Nat) : Int)) = false := decide_eq_false (by omega)
      simp only [bcond_if, c1, c2, h1, h2, or_self, if_false, beq_self_eq_true, if_true, Bool.false_eq_true]
theorem in1_79 (a b : Set_) (hla : a.length ≤ 1048576) (ha : Val a) (m1 m2 : Nat) (out : Set_) (t : Int) (i j : Nat) :
    L_span_merged_span_Union_c1_1 big m1 (m2 + 2) a b out t i j = L_span_merged_span_Union_c1_2 big m1 big a b out t ((if i < 2 * a.length ∧ en a i = t then i + 1 else i : Nat) : Int) j := by
  have wa : IntKind.i64.wrap (2 * (a.length : Int)) = ((2 * a.length : Nat) : Int) := wnat (by omega) (by omega)
  have one : ∀ (k m : Nat), ¬ (k < 2 * a.length ∧ en a k = t) → L_span_merged_span_Union_c1_1 big m1 (m + 1) a b out t k j = L_span_merged_span_Union_c1_2 big m1 big a b out t k j := by
    intro k m hk
    rw [L_span_merged_span_Union_c1_1_step, wa]
    by_cases h1 : k < 2 * a.length
    · have c1 : decide ((k : Int) < ((2 * a.length : Nat) : Int)) = true := decide_eq_true (by omega)
      have c2 : (en a k == t) = false := by
        have : ¬ en a k = t := fun e => hk ⟨h1, e⟩
        simpa using this
      simp only [bcond_if, c1, end_eq a hla k h1, Option.bind_some, res_span_end_0_ret, c2, beq_self_eq_true, if_true, if_false, Bool.false_eq_true]
    · have c1 : decide ((k : Int) < ((2 * a.length : Nat) : Int)) = false := decide_eq_false (by omega)
      simp only [bcond_if, c1, if_false, Bool.false_eq_true, Bool.false_beq, Bool.not_true]
  by_cases hk : i < 2 * a.length ∧ en a i = t
  · rw [if_pos hk, L_span_merged_span_Union_c1_1_step, wa]
    have c1 : decide ((i : Int) < ((2 * a.length : Nat) : Int)) = true := decide_eq_true (by omega)
    have c2 : (en a i == t) = true := by simpa using hk.2
    have w1 : IntKind.i64.wrap ((i : Int) + 1) = ((i + 1 : Nat) : Int) := wnat (by omega) (by omega)
    simp only [bcond_if, c1, end_eq a hla i hk.1, Option.bind_some, res_span_end_0_ret, c2, beq_self_eq_true, if_true, w1]
    refine one (i + 1) m2 fun h => ?_
    have := en_succ ha.1 h.1
    omega
  · rw [if_neg hk]
    exact one i (m2 + 1) hk
theorem in2_79 (a b : Set_) (hlb : b.length ≤ 1048576) (hb : Val b) (m1 m2 : Nat) (out : Set_) (t : Int) (i j : Nat) :
    L_span_merged_span_Union_c1_2 big m1 (m2 + 2) a b out t i j = L_span_merged_span_Union_c1_0 big m1 a b out t i ((if j < 2 * b.length ∧ en b j = t then j + 1 else j : Nat) : Int) := by
  have wa : IntKind.i64.wrap (2 * (b.length : Int)) = ((2 * b.length : Nat) : Int) := wnat (by omega) (by omega)
  have one : ∀ (k m : Nat), ¬ (k < 2 * b.length ∧ en b k = t) → L_span_merged_span_Union_c1_2 big m1 (m + 1) a b out t i k = L_span_merged_span_Union_c1_0 big m1 a b out t i k := by
    intro k m hk
    rw [L_span_merged_span_Union_c1_2_step, wa]
    by_cases h1 : k < 2 * b.length
    · have c1 : decide ((k : Int) < ((2 * b.length : Nat) : Int)) = true := decide_eq_true (by omega)
      have c2 : (en b k == t) = false := by
        have : ¬ en b k = t := fun e => hk ⟨h1, e⟩
        simpa using this
      simp only [bcond_if, c1, end_eq b hlb k h1, Option.bind_some, res_span_end_0_ret, c2, beq_self_eq_true, if_true, if_false, Bool.false_eq_true]
    · have c1 : decide ((k : Int) < ((2 * b.length : Nat) : Int)) = false := decide_eq_false (by omega)
      simp only [bcond_if, c1, if_false, Bool.false_eq_true, Bool.false_beq, Bool.not_true]
  by_cases hk : j < 2 * b.length ∧ en b j = t
  · rw [if_pos hk, L_span_merged_span_Union_c1_2_step, wa]
    have c1 : decide ((j : Int) < ((2 * b.length : Nat) : Int)) = true := decide_eq_true (by omega)
    have c2 : (en b j == t) = true := by simpa using hk.2
    have w1 : IntKind.i64.wrap ((j : Int) + 1) = ((j + 1 : Nat) : Int) := wnat (by omega) (by omega)
    simp only [bcond_if, c1, end_eq b hlb j hk.1, Option.bind_some, res_span_end_0_ret, c2, beq_self_eq_true, if_true, w1]
    refine one (j + 1) m2 fun h => ?_
    have := en_succ hb.1 h.1
    omega
  · rw [if_neg hk]
    exact one j (m2 + 1) hk
theorem walk79 (a b : Set_) (hla : a.length ≤ 1048576) (hlb : b.length ≤ 1048576) (ha : Val a) (hb : Val b) : ∀ (d : Nat) (m : Nat) (out : Set_) (t : Int) (i j : Nat), 2 * a.length + 2 * b.length ≤ i + j + d → d < m → Inv a b w79 out t i j →
    ∃ out', L_span_merged_span_Union_c1_0 big m a b out t i j = some (ret_span_merged_span_Union_c1 out') ∧ Fin_ a b w79 out' := by
  obtain ⟨z, hz⟩ := big_succ (n := 1) (by omega)
  have hz2 : big = z + 2 := by omega
  intro d
  induction d with
  | zero =>
    intro m out t i j hd hm I
    cases m with
    | zero => omega
    | succ m =>
    have hn : ¬ (i < 2 * a.length ∨ j < 2 * b.length) := by have := I.ia; have := I.jb; omega
    refine ⟨out, ?_, inv_end ha hb I hn rfl⟩
    rw [step79 a b hla hlb ha hb, if_neg hn]
  | succ d ih =>
    intro m out t i j hd hm I
    cases m with
    | zero => omega
    | succ m =>
    by_cases hn : i < 2 * a.length ∨ j < 2 * b.length
    · have inn : ∀ o t', L_span_merged_span_Union_c1_1 big m big a b o t' i j = L_span_merged_span_Union_c1_0 big m a b o t' ((if i < 2 * a.length ∧ en a i = t' then i + 1 else i : Nat) : Int) ((if j < 2 * b.length ∧ en b j = t' then j + 1 else j : Nat) : Int) := fun o t' => by
        have h1 := in1_79 a b hla ha m z o t' i j
        have h2 := in2_79 a b hlb hb m z o t' (if i < 2 * a.length ∧ en a i = t' then i + 1 else i) j
        rw [← hz2] at h1 h2
        rw [h1, h2]
      obtain ⟨s1, s2, s3, s4⟩ := inv_step ha hb hla hlb I hn
      rw [step79 a b hla hlb ha hb, if_pos hn]
      by_cases hc : t < nxt a b i j ∧ w79 (od i) (od j) = true
      · rw [if_pos hc]
        obtain ⟨o, ho⟩ := add_ex out (mkS t (nxt a b i j)) (I.l.imp id fun ⟨d, s, h, _⟩ => ⟨d, s, h⟩) (by have := I.ln; have := I.ia; have := I.jb; omega)
        rw [ho, Option.bind_some, res_span_add_0_ret, inn]
        exact ih m _ _ _ _ (by omega) (by omega) (s3 hc o ho)
      · rw [if_neg hc, inn]
        exact ih m _ _ _ _ (by omega) (by omega) (s4 hc)
    · refine ⟨out, ?_, inv_end ha hb I hn rfl⟩
      rw [step79 a b hla hlb ha hb, if_neg hn]
/-- What the operation answers. -/
structure Ans79 (a b o : Set_) (e : Int) : Prop where
  g : Val a → Val b → e = 0 ∧ Fin_ a b w79 o
  b1 : ¬ Val a → e = E a ∧ o = []
  b2 : Val a → ¬ Val b → e = E b ∧ o = []
theorem two79 (a b : Set_) (hla : a.length ≤ 1048576) (hlb : b.length ≤ 1048576) : ∃ o e, C_span_two_span_Union_c1 F_span_two_span_Union_c1 a b = some (ret_span_two_span_Union_c1 o e) ∧ Ans79 a b o e := by
  have ea := (check_eq a (by omega)).1
  have eb := (check_eq b (by omega)).1
  rw [e_span_two_span_Union_c1, ea, eb]
  by_cases h1 : Val a
  · have z1 : E a = 0 := (E_val a).2 h1
    by_cases h2 : Val b
    · have z2 : E b = 0 := (E_val b).2 h2
      obtain ⟨m, hm⟩ := big_succ (n := 4194304) (by omega)
      obtain ⟨o, ho, hf⟩ := walk79 a b hla hlb h1 h2 (2 * a.length + 2 * b.length) big [] 0 0 0 (by omega) (by omega) (inv_start _ h1 h2)
      refine ⟨o, 0, ?_, ⟨fun _ _ => ⟨rfl, hf⟩, fun h => absurd h1 h, fun _ h => absurd h2 h⟩⟩
      have ho' : C_span_merged_span_Union_c1 F_span_merged_span_Union_c1 a b = some (ret_span_merged_span_Union_c1 o) := by rw [e_span_merged_span_Union_c1]; exact ho
      simp [bcond_if, z1, z2, ho']
    · have z2 : ¬ E b = 0 := fun h => h2 ((E_val b).1 h)
      refine ⟨[], E b, ?_, ⟨fun _ h => absurd h h2, fun h => absurd h1 h, fun _ _ => ⟨rfl, rfl⟩⟩⟩
      simp [bcond_if, z1, z2]
  · have z1 : ¬ E a = 0 := fun h => h1 ((E_val a).1 h)
    refine ⟨[], E a, ?_, ⟨fun h _ => absurd h h1, fun _ => ⟨rfl, rfl⟩, fun h => absurd h h1⟩⟩
    simp [bcond_if, z1]
theorem op79 (a b : Set_) (hla : a.length ≤ 1048576) (hlb : b.length ≤ 1048576) : ∃ o e, C_span_Union F_span_Union a b = some (ret_span_Union o e) ∧ Ans79 a b o e := by
  obtain ⟨o, e, h, hA⟩ := two79 a b hla hlb
  refine ⟨o, e, ?_, hA⟩
  rw [e_span_Union, h]
  simp
theorem spans_facts : C_law_spans F_law_spans = some (ret_law_spans true) := by
  obtain ⟨o, e, h, hA⟩ := op79 [mkS 0 2] [mkS 2 3] (by decide) (by decide)
  have v1 : Val [mkS 0 2] := ⟨⟨by decide, by decide, trivial⟩, fun s hs => by
    have : s = mkS 0 2 := by simpa using hs
    subst this; decide⟩
  have v2 : Val [mkS 2 3] := ⟨⟨by decide, by decide, trivial⟩, fun s hs => by
    have : s = mkS 2 3 := by simpa using hs
    subst this; decide⟩
  have v3 : VS (-1) [mkS 0 3] := ⟨by decide, by decide, trivial⟩
  obtain ⟨he, hf⟩ := hA.g v1 v2
  have one : ∀ (p q x : Int), Mem [mkS p q] x ↔ p ≤ x ∧ x < q := fun p q x => by
    unfold Mem
    constructor
    · rintro ⟨s, hs, h1⟩
      have : s = mkS p q := by simpa using hs
      subst this; exact h1
    · intro h1; exact ⟨mkS p q, by simp, h1⟩
  have ho : o = [mkS 0 3] := by
    refine vs_uniq hf.v.1 v3 (fun x => ?_)
    rw [← mb_iff, hf.x, w79, Bool.or_eq_true, mb_iff, mb_iff, one, one, one]
    omega
  subst ho
  subst he
  have h' : C_span_Union F_span_Union [(0, 2)] [(2, 3)] = some (ret_span_Union [mkS 0 3] 0) := h
  rw [e_law_spans, h']
  rfl
end Go.Ev.Span
