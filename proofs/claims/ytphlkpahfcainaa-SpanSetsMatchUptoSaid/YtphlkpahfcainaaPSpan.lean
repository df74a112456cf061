/- Sets of ranges: the plain side, first part: errors, members, what a valid set is. -/
import Derived.Test.YtphlkpahfcainaaEvGot
import Derived.Test.YtphlkpahfcainaaGSpan
namespace Go.Ev.Span
open Go.Ev
set_option linter.unusedVariables false
set_option linter.unusedSimpArgs false

abbrev Set_ := List YSpan.den
def lo (s : YSpan.den) : Int := s.1
def hi (s : YSpan.den) : Int := s.2
def mkS (a b : Int) : YSpan.den := (a, b)
@[simp] theorem lo_mk (a b : Int) : lo (mkS a b) = a := rfl
@[simp] theorem hi_mk (a b : Int) : hi (mkS a b) = b := rfl
theorem span_ext {s t : YSpan.den} (h1 : lo s = lo t) (h2 : hi s = hi t) : s = t := Prod.ext h1 h2
def atS (l : Set_) (i : Nat) : YSpan.den := at_ (e := YSpan) l (i : Int)
theorem drop_atS {e : Ty} (xs : List e.den) {i : Nat} (h : i < xs.length) : xs.drop i = at_ xs (i : Int) :: xs.drop (i + 1) := by
  rw [List.drop_eq_getElem_cons h]
  congr 1
  unfold at_
  simp [List.getD_eq_getElem?_getD, h]
theorem drop_span (l : Set_) {i : Nat} (h : i < l.length) : l.drop i = atS l i :: l.drop (i + 1) := drop_atS l h
theorem atS_mem (l : Set_) {i : Nat} (h : i < l.length) : atS l i ∈ l := by
  unfold atS at_
  simp [List.getD_eq_getElem?_getD, h]
theorem mem_atS {l : Set_} {s : YSpan.den} (h : s ∈ l) : ∃ i, i < l.length ∧ atS l i = s := by
  obtain ⟨i, h1, h2⟩ := List.getElem_of_mem h
  refine ⟨i, h1, ?_⟩
  unfold atS at_
  simp [List.getD_eq_getElem?_getD, h1, h2]

/-! ### Errors -/
def cOne (p : Option Int) (s : YSpan.den) : Int := if lo s < 0 ∨ hi s ≤ lo s ∨ 2147483647 < hi s then 2 else match p with
  | none => 0
  | some t => if lo s ≤ t then 5 else 0
def cErr : Option Int → Set_ → Int
  | _, [] => 0
  | p, s :: l => if cOne p s ≠ 0 then cOne p s else cErr (some (hi s)) l
def prv (l : Set_) (i : Nat) : Option Int := if i = 0 then none else some (hi (atS l (i - 1)))
theorem check_loop (l : Set_) (hl : l.length ≤ 4194304) (n : Nat) : ∀ (d i m : Nat), i + d = l.length → d < m →
    L21_0 n m l l (l.length : Int) i = some (ret21 (cErr (prv l i) (l.drop i))) ∧ L22_0 n m l (l.length : Int) i = some (ret22 (cErr (prv l i) (l.drop i))) := by
  intro d
  induction d with
  | zero =>
    intro i m hi' hm
    cases m with
    | zero => omega
    | succ m =>
    have : i = l.length := by omega
    subst this
    have c1 : decide ((l.length : Int) < (l.length : Int)) = false := decide_eq_false (by omega)
    rw [L21_0_step, L22_0_step, List.drop_length]
    simp [bcond_if, c1, cErr]
  | succ d ih =>
    intro i m hi' hm
    cases m with
    | zero => omega
    | succ m =>
    have hil : i < l.length := by omega
    have c1 : decide ((i : Int) < (l.length : Int)) = true := decide_eq_true (by omega)
    have w1 : IntKind.i64.wrap ((i : Int) + 1) = ((i + 1 : Nat) : Int) := wnat (by omega) (by omega)
    have e1 : (at_ (e := YSpan) l (i : Int)).1 = lo (atS l i) := rfl
    have e2 : (at_ (e := YSpan) l (i : Int)).2 = hi (atS l i) := rfl
    obtain ⟨ih1, ih2⟩ := ih (i + 1) m (by omega) (by omega)
    have hp : prv l (i + 1) = some (hi (atS l i)) := by simp [prv]
    rw [hp] at ih1 ih2
    rw [L21_0_step, L22_0_step, drop_span l hil, cErr]
    simp only [bcond_if, inb, hil, c1, if_true, w1, e1, e2, ih1, ih2]
    generalize atS l i = s
    by_cases h1 : lo s < 0
    · have : cOne (prv l i) s = 2 := by simp [cOne, h1]
      rw [this]; simp [h1]
    by_cases h2 : hi s ≤ lo s
    · have : cOne (prv l i) s = 2 := by simp [cOne, h2]
      rw [this]; simp [h1, h2]
    by_cases h3 : 2147483647 < hi s
    · have : cOne (prv l i) s = 2 := by simp [cOne, h3]
      have h3' : hi s > 2147483647 := h3
      rw [this]; simp [h1, h2, h3']
    have h3' : ¬ hi s > 2147483647 := h3
    by_cases h0 : i = 0
    · subst h0
      have : cOne (prv l 0) s = 0 := by simp [cOne, h1, h2, h3, prv]
      rw [this]; simp [h1, h2, h3']
    · have hp2 : prv l i = some (hi (atS l (i - 1))) := by simp [prv, h0]
      have w2 : IntKind.i64.wrap ((i : Int) - 1) = ((i - 1 : Nat) : Int) := wnat (by omega) (by omega)
      have h6 : i - 1 < l.length := by omega
      have c2 : decide ((i : Int) > 0) = true := decide_eq_true (by omega)
      have e3 : (at_ (e := YSpan) l ((i - 1 : Nat) : Int)).2 = hi (atS l (i - 1)) := rfl
      simp only [hp2, w2, inb, h6, if_true, c2, e3, beq_self_eq_true]
      generalize hi (atS l (i - 1)) = q
      by_cases h4 : lo s ≤ q
      · have : cOne (some q) s = 5 := by simp [cOne, h1, h2, h3, h4]
        rw [this]; simp [h1, h2, h3', h4]
      · have : cOne (some q) s = 0 := by simp [cOne, h1, h2, h3, h4]
        rw [this]; simp [h1, h2, h3', h4]
def E (l : Set_) : Int := cErr none l
theorem check_eq (l : Set_) (hl : l.length ≤ 4194304) : C21 F21 l = some (ret21 (E l)) ∧ C22 F22 l = some (ret22 (E l)) := by
  obtain ⟨m, hm⟩ := big_succ (n := 4194305) (by omega)
  rw [e21, e22]
  have := check_loop l hl big l.length 0 big (by omega) (by omega)
  simpa [prv, E] using this

/-! ### Valid sets -/
/-- Ranges behind `b`, in order, none touching the next one. -/
def VS : Int → Set_ → Prop
  | _, [] => True
  | b, s :: l => b < lo s ∧ lo s < hi s ∧ VS (hi s) l
def lastHi : Int → Set_ → Int
  | b, [] => b
  | _, s :: l => lastHi (hi s) l
theorem cErr_vs : ∀ (l : Set_) (p : Option Int) (b : Int), (∀ t, p = some t → b = t) → (p = none → b = -1) → (cErr p l = 0 ↔ VS b l ∧ (∀ s ∈ l, hi s ≤ 2147483647 ∧ 0 ≤ lo s))
  | [], p, b, _, _ => by simp [cErr, VS]
  | s :: l, p, b, h1, h2 => by
    have ih := cErr_vs l (some (hi s)) (hi s) (fun t e => by injection e) (fun e => by cases e)
    have h0 : cOne p s = 0 ↔ b < lo s ∧ lo s < hi s ∧ hi s ≤ 2147483647 ∧ 0 ≤ lo s := by
      unfold cOne
      by_cases q : lo s < 0 ∨ hi s ≤ lo s ∨ 2147483647 < hi s
      · rw [if_pos q]
        constructor
        · intro h; cases h
        · intro h; omega
      · rw [if_neg q]
        cases p with
        | none =>
          have := h2 rfl
          constructor
          · intro _; omega
          · intro _; rfl
        | some t =>
          have := h1 t rfl
          simp only
          by_cases q2 : lo s ≤ t
          · rw [if_pos q2]
            constructor
            · intro h; cases h
            · intro h; omega
          · rw [if_neg q2]
            constructor
            · intro _; omega
            · intro _; rfl
    simp only [cErr, VS, List.mem_cons]
    by_cases hz : cOne p s = 0
    · have := h0.1 hz
      simp only [hz, ne_eq, not_true, if_false, ih]
      constructor
      · rintro ⟨v, w⟩
        exact ⟨⟨this.1, this.2.1, v⟩, fun t ht => ht.elim (fun e => by subst e; exact ⟨this.2.2.1, this.2.2.2⟩) (w t)⟩
      · rintro ⟨⟨_, _, v⟩, w⟩
        exact ⟨v, fun t ht => w t (.inr ht)⟩
    · simp only [hz, ne_eq, not_false_eq_true, if_true]
      constructor
      · intro h; first | exact absurd h hz | exact h.elim
      · rintro ⟨⟨q1, q2, _⟩, w⟩
        exact absurd (h0.2 ⟨q1, q2, w s (.inl rfl)⟩) hz
def Val (l : Set_) : Prop := VS (-1) l ∧ ∀ s ∈ l, hi s ≤ 2147483647 ∧ 0 ≤ lo s
theorem E_val (l : Set_) : E l = 0 ↔ Val l := cErr_vs l none (-1) (fun t e => by cases e) (fun _ => rfl)

def Mem (l : Set_) (x : Int) : Prop := ∃ s ∈ l, lo s ≤ x ∧ x < hi s
theorem vs_lo : ∀ {l : Set_} {b : Int}, VS b l → ∀ s ∈ l, b < lo s ∧ lo s < hi s
  | [], _, _, s, h => by simp at h
  | t :: l, b, ⟨h1, h2, h3⟩, s, h => by
    rcases List.mem_cons.1 h with rfl | h
    · exact ⟨h1, h2⟩
    · have := vs_lo h3 s h
      omega
/-- A range of a valid set begins and ends it. -/
theorem vs_edge : ∀ {l : Set_} {b : Int}, VS b l → ∀ s ∈ l, ¬ Mem l (lo s - 1) ∧ ¬ Mem l (hi s)
  | [], _, _, s, h => by simp at h
  | t :: l, b, ⟨h1, h2, h3⟩, s, h => by
    rcases List.mem_cons.1 h with rfl | h
    · constructor
      · rintro ⟨u, hu, q1, q2⟩
        rcases List.mem_cons.1 hu with rfl | hu
        · omega
        · have := vs_lo h3 u hu; omega
      · rintro ⟨u, hu, q1, q2⟩
        rcases List.mem_cons.1 hu with rfl | hu
        · omega
        · have := vs_lo h3 u hu; omega
    · have hs := vs_lo h3 s h
      obtain ⟨e1, e2⟩ := vs_edge h3 s h
      constructor
      · rintro ⟨u, hu, q1, q2⟩
        rcases List.mem_cons.1 hu with rfl | hu
        · omega
        · exact e1 ⟨u, hu, q1, q2⟩
      · rintro ⟨u, hu, q1, q2⟩
        rcases List.mem_cons.1 hu with rfl | hu
        · omega
        · exact e2 ⟨u, hu, q1, q2⟩
theorem vs_uniq : ∀ {l m : Set_} {b : Int}, VS b l → VS b m → (∀ x, Mem l x ↔ Mem m x) → l = m
  | [], [], _, _, _, _ => rfl
  | [], t :: m, b, _, ⟨h1, h2, _⟩, h => by
    obtain ⟨s, hs, _⟩ := (h (lo t)).2 ⟨t, by simp, by omega, h2⟩
    simp at hs
  | s :: l, [], b, ⟨h1, h2, _⟩, _, h => by
    obtain ⟨t, ht, _⟩ := (h (lo s)).1 ⟨s, by simp, by omega, h2⟩
    simp at ht
  | s :: l, t :: m, b, ⟨a1, a2, a3⟩, ⟨b1, b2, b3⟩, h => by
    have low : ∀ {l : Set_} {s : YSpan.den}, lo s < hi s → VS (hi s) l → ∀ x, Mem (s :: l) x → lo s ≤ x ∧ (x < hi s ∨ hi s < x) := by
      rintro l s hs hv x ⟨u, hu, q1, q2⟩
      rcases List.mem_cons.1 hu with rfl | hu
      · omega
      · have := vs_lo hv u hu; omega
    have e1 : lo s = lo t := by
      have := (low b2 b3 _ ((h (lo s)).1 ⟨s, by simp, by omega, a2⟩)).1
      have := (low a2 a3 _ ((h (lo t)).2 ⟨t, by simp, by omega, b2⟩)).1
      omega
    have e2 : hi s = hi t := by
      by_cases q : hi s < hi t
      · have := (low a2 a3 _ ((h (hi s)).2 ⟨t, by simp, by omega, q⟩)).2
        omega
      · by_cases q2 : hi t < hi s
        · have := (low b2 b3 _ ((h (hi t)).1 ⟨s, by simp, by omega, q2⟩)).2
          omega
        · omega
    have e : s = t := span_ext e1 e2
    subst e
    rw [vs_uniq a3 b3 (fun x => by
      constructor
      · rintro ⟨u, hu, q1, q2⟩
        obtain ⟨v, hv, r1, r2⟩ := (h x).1 ⟨u, by simp [hu], q1, q2⟩
        rcases List.mem_cons.1 hv with rfl | hv
        · have := vs_lo a3 u hu; omega
        · exact ⟨v, hv, r1, r2⟩
      · rintro ⟨u, hu, q1, q2⟩
        obtain ⟨v, hv, r1, r2⟩ := (h x).2 ⟨u, by simp [hu], q1, q2⟩
        rcases List.mem_cons.1 hv with rfl | hv
        · have := vs_lo b3 u hu; omega
        · exact ⟨v, hv, r1, r2⟩)]
theorem vs_append : ∀ (l : Set_) (b : Int) (s : YSpan.den), VS b (l ++ [s]) ↔ VS b l ∧ lastHi b l < lo s ∧ lo s < hi s
  | [], b, s => by simp [VS, lastHi]
  | t :: l, b, s => by
    have := vs_append l (hi t) s
    simp only [List.cons_append, VS, lastHi, this]
    constructor
    · rintro ⟨a, b, c, d, e⟩; exact ⟨⟨a, b, c⟩, d, e⟩
    · rintro ⟨⟨a, b, c⟩, d, e⟩; exact ⟨a, b, c, d, e⟩
theorem lastHi_append : ∀ (l : Set_) (b : Int) (s : YSpan.den), lastHi b (l ++ [s]) = hi s
  | [], b, s => rfl
  | t :: l, b, s => by simp only [List.cons_append, lastHi]; exact lastHi_append l _ s
theorem mem_append (l : Set_) (s : YSpan.den) (x : Int) : Mem (l ++ [s]) x ↔ Mem l x ∨ (lo s ≤ x ∧ x < hi s) := by
  unfold Mem
  simp only [List.mem_append, List.mem_singleton]
  constructor
  · rintro ⟨u, hu | rfl, q⟩
    · exact .inl ⟨u, hu, q⟩
    · exact .inr q
  · rintro (⟨u, hu, q⟩ | q)
    · exact ⟨u, .inl hu, q⟩
    · exact ⟨s, .inr rfl, q⟩

/-! ### Members -/
open Classical in
noncomputable def mb (l : Set_) (x : Int) : Bool := decide (Mem l x)
theorem mb_iff (l : Set_) (x : Int) : mb l x = true ↔ Mem l x := by simp [mb]
theorem in_eq (x lo hi : Int) : C32 F32 x lo hi = some (ret32 (decide (lo ≤ x) && decide (x ≤ hi))) := by
  rw [e32]
  simp only [bcond_if]
  by_cases h : lo ≤ x <;> simp [h]
theorem member_loop (l : Set_) (hl : l.length ≤ 4194304) (hv : ∀ s ∈ l, hi s ≤ 2147483647 ∧ 0 ≤ lo s ∧ lo s < hi s) (x : Int) (n : Nat) : ∀ (d i m : Nat), i + d = l.length → d < m → L26_0 F32 n m l x (l.length : Int) i = some (ret26 (mb (l.drop i) x)) := by
  intro d
  induction d with
  | zero =>
    intro i m hi' hm
    cases m with
    | zero => omega
    | succ m =>
    have : i = l.length := by omega
    subst this
    have c1 : decide ((l.length : Int) < (l.length : Int)) = false := decide_eq_false (by omega)
    have e : mb [] x = false := by simp [mb, Mem]
    rw [L26_0_step, List.drop_length, e]
    simp [bcond_if, c1]
  | succ d ih =>
    intro i m hi' hm
    cases m with
    | zero => omega
    | succ m =>
    have hil : i < l.length := by omega
    have c1 : decide ((i : Int) < (l.length : Int)) = true := decide_eq_true (by omega)
    have w1 : IntKind.i64.wrap ((i : Int) + 1) = ((i + 1 : Nat) : Int) := wnat (by omega) (by omega)
    have e1 : (at_ (e := YSpan) l (i : Int)).1 = lo (atS l i) := rfl
    have e2 : (at_ (e := YSpan) l (i : Int)).2 = hi (atS l i) := rfl
    have hs := hv _ (atS_mem l hil)
    have w2 : IntKind.i64.wrap (hi (atS l i) - 1) = hi (atS l i) - 1 := w64 (by omega) (by omega)
    rw [L26_0_step, drop_span l hil]
    simp only [bcond_if, inb, hil, c1, if_true, w1, e1, e2, w2, in_eq, Option.bind_some, res32_0_ret, ih (i + 1) m (by omega) (by omega)]
    generalize atS l i = s
    by_cases h : lo s ≤ x ∧ x < hi s
    · have b1 : (decide (lo s ≤ x) && decide (x ≤ hi s - 1)) = true := by rw [decide_eq_true h.1, decide_eq_true (by omega)]; rfl
      have b2 : mb (s :: l.drop (i + 1)) x = true := (mb_iff _ _).2 ⟨s, by simp, h⟩
      rw [b1, b2]; rfl
    · have b1 : (decide (lo s ≤ x) && decide (x ≤ hi s - 1)) = false := by
        by_cases q : lo s ≤ x
        · rw [decide_eq_true q, decide_eq_false (by omega)]; rfl
        · rw [decide_eq_false q]; rfl
      have b2 : mb (s :: l.drop (i + 1)) x = mb (l.drop (i + 1)) x := by
        have : Mem (s :: l.drop (i + 1)) x ↔ Mem (l.drop (i + 1)) x := by
          unfold Mem
          constructor
          · rintro ⟨u, hu, q⟩
            rcases List.mem_cons.1 hu with rfl | hu
            · exact absurd q h
            · exact ⟨u, hu, q⟩
          · rintro ⟨u, hu, q⟩
            exact ⟨u, by simp [hu], q⟩
        simp [mb, this]
      rw [b1, b2]; rfl
theorem member_eq (l : Set_) (hl : l.length ≤ 4194304) (hv : Val l) (x : Int) : C26 F26 l x = some (ret26 (mb l x)) := by
  obtain ⟨m, hm⟩ := big_succ (n := 4194305) (by omega)
  rw [e26]
  have := member_loop l hl (fun s hs => ⟨(hv.2 s hs).1, (hv.2 s hs).2, (vs_lo hv.1 s hs).2⟩) x big l.length 0 big (by omega) (by omega)
  simpa using this
end Go.Ev.Span
