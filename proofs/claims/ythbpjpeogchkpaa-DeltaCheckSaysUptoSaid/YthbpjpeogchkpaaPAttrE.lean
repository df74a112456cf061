
/- Attributes: the plain side, fifth part: joining and rebasing changes; the law. -/
import Derived.Test.YthbpjpeogchkpaaPAttrD
namespace Go.Ev.Attr
open Go.Ev
set_option linter.unusedVariables false
set_option linter.unusedSimpArgs false

def gBoth (x y : YAttr.den) : Attrs := if an y = [] then [x] else [y]
def gWo (x y : YAttr.den) : Attrs := if an y = [] then [x] else []
def joined (a b : Attrs) : Attrs := flat1 gBoth (mrg a b)
def without (a b : Attrs) : Attrs := flat1 gWo (mrg a b)
theorem put_loop (l : Attrs) (hl : l.length ≤ 1048576) (nn vv : Str) (n : Nat) : ∀ (d i m : Nat) (out : Attrs) (done : Bool), i + d = l.length → d < m → out.length ≤ 2 * i →
    L64_0 n m l nn vv out done (l.length : Int) i = some (ret64 (out ++ putL (mkA nn vv) done (l.drop i))) := by
  have ea : ((nn, vv) : YAttr.den) = mkA nn vv := rfl
  intro d
  induction d with
  | zero =>
    intro i m out done hi hm ho
    cases m with
    | zero => omega
    | succ m =>
    have : i = l.length := by omega
    subst this
    have c1 : decide ((l.length : Int) < (l.length : Int)) = false := decide_eq_false (by omega)
    rw [L64_0_step, List.drop_length]
    simp only [bcond_if, c1, Bool.false_eq_true, if_false, ea, putL]
    rw [if_pos (show (out.length + [mkA nn vv].length) * 32 ≤ 140737488355328 by simp; omega)]
    cases done <;> simp
  | succ d ih =>
    intro i m out done hi hm ho
    cases m with
    | zero => omega
    | succ m =>
    have hil : i < l.length := by omega
    have c1 : decide ((i : Int) < (l.length : Int)) = true := decide_eq_true (by omega)
    have w1 : IntKind.i64.wrap ((i : Int) + 1) = ((i + 1 : Nat) : Int) := wnat (by omega) (by omega)
    have ex : at_ (e := YAttr) l (i : Int) = atA l i := rfl
    have ex1 : (atA l i).1 = an (atA l i) := rfl
    rw [L64_0_step, drop_attr l hil]
    simp only [bcond_if, inb, hil, c1, if_true, w1, ex, ex1, ea, putL, an_mk]
    generalize atA l i = x
    have q : out.length ≤ 2097152 := by omega
    have b3 : ((out ++ [mkA nn vv]).length + [x].length) * 32 ≤ 140737488355328 := by
      rw [List.length_append]
      exact Nat.le_trans (Nat.mul_le_mul_right 32 (Nat.add_le_add_right (Nat.add_le_add_right q 1) 1)) (by decide)
    have b1 : (out.length + [mkA nn vv].length) * 32 ≤ 140737488355328 := Nat.le_trans (Nat.mul_le_mul_right 32 (Nat.add_le_add_right q 1)) (by decide)
    have b2 : (out.length + [x].length) * 32 ≤ 140737488355328 := Nat.le_trans (Nat.mul_le_mul_right 32 (Nat.add_le_add_right q 1)) (by decide)
    simp only [b1, b2, b3, if_true]
    have i1 := ih (i + 1) m (out ++ [mkA nn vv] ++ [x]) true (by omega) (by omega) (by simp; omega)
    have i2 := ih (i + 1) m (out ++ [mkA nn vv]) true (by omega) (by omega) (by simp; omega)
    have i3 := fun done => ih (i + 1) m (out ++ [x]) done (by omega) (by omega) (by simp; omega)
    have i4 := fun done => ih (i + 1) m out done (by omega) (by omega) (by omega)
    simp only [i1, i2, i3, i4]
    rcases Bool.eq_false_or_eq_true (strLess (an x) nn) with hs | hs <;> simp only [hs] <;> cases done <;> by_cases h : an x = nn <;> simp [h]
theorem put_eq (l : Attrs) (hl : l.length ≤ 1048576) (a : YAttr.den) : C64 F64 l a = some (ret64 (putL a false l)) := by
  obtain ⟨m, hm⟩ := big_succ (n := 1048577) (by omega)
  rw [e64]
  change L64_0 big big l (an a) (av a) [] false (l.length : Int) 0 = _
  have ea : mkA (an a) (av a) = a := rfl
  have := put_loop l hl (an a) (av a) big l.length 0 big [] false (by omega) (by omega) (by simp)
  simpa [ea] using this
theorem put_len (a : YAttr.den) : ∀ (l : Attrs) (done : Bool), (putL a done l).length ≤ l.length + (if done = true then 0 else 1)
  | [], done => by cases done <;> simp [putL]
  | x :: l, done => by
    have ih := put_len a l (done || !strLess (an x) (an a))
    simp only [putL, List.length_append, List.length_cons]
    cases done <;> cases h : strLess (an x) (an a) <;> rw [h] at ih <;> by_cases h2 : an x = an a <;> simp [h2] at ih ⊢ <;> omega

def has (s : Str) : Attrs → Bool
  | [] => false
  | a :: l => if an a = s then true else has s l
theorem has_iff (s : Str) : ∀ l : Attrs, has s l = true ↔ ∃ a ∈ l, an a = s
  | [] => by simp [has]
  | a :: l => by
    have ih := has_iff s l
    simp only [has]
    split
    · rename_i h; simp [h]
    · rename_i h; rw [ih]; simp [h]
def lack (b : Attrs) : Attrs → Attrs
  | [] => []
  | x :: a => if has (an x) b = true then lack b a else x :: lack b a
theorem lack_mem (b : Attrs) : ∀ (a : Attrs) x, x ∈ lack b a ↔ x ∈ a ∧ has (an x) b = false
  | [], x => by simp [lack]
  | y :: a, x => by
    have ih := lack_mem b a x
    simp only [lack]
    split
    · rename_i h; rw [ih]; simp only [List.mem_cons]; constructor
      · exact fun q => ⟨.inr q.1, q.2⟩
      · rintro ⟨rfl | q, r⟩
        · rw [h] at r; cases r
        · exact ⟨q, r⟩
    · rename_i h
      have h : has (an y) b = false := by simpa using h
      simp only [List.mem_cons, ih]; constructor
      · rintro (rfl | q)
        · exact ⟨.inl rfl, h⟩
        · exact ⟨.inr q.1, q.2⟩
      · rintro ⟨rfl | q, r⟩
        · exact .inl rfl
        · exact .inr ⟨q, r⟩
theorem lack_srt (b : Attrs) : ∀ (a : Attrs), Srt a → Srt (lack b a)
  | [], _ => trivial
  | y :: a, h => by
    simp only [lack]
    split
    · exact lack_srt b a h.2
    · exact ⟨fun x hx => h.1 x ((lack_mem b a x).1 hx).1, lack_srt b a h.2⟩
theorem nm_ne {s : Str} (h : nm s = true) : s ≠ [] := by rintro rfl; cases h
theorem valid (emp : Bool) {l : Attrs} (h : err emp l = 0) : Srt l ∧ Nms l ∧ ∀ x ∈ l, vl (av x) = true ∨ emp = true ∧ av x = [] := by
  obtain ⟨s, k⟩ := err_srt emp l none h
  exact ⟨s, fun x hx => nm_ne (k x hx).1, fun x hx => (k x hx).2.1⟩
theorem joined_puts {a b : Attrs} (ha : err true a = 0) (hb : err true b = 0) : joined a b = puts (puts [] a) b := by
  obtain ⟨sa, na, _⟩ := valid true ha
  obtain ⟨sb, nb, _⟩ := valid true hb
  have e0 : an nul = [] := rfl
  have g0 : ∀ p : YAttr.den × YAttr.den, gBoth p.1 p.2 = [] ∨ ∃ z, gBoth p.1 p.2 = [z] ∧ an z = key p := fun p => by
    right
    unfold gBoth key
    by_cases h : an p.2 = []
    · exact ⟨p.1, by simp [h], by simp [h]⟩
    · exact ⟨p.2, by simp [h], by simp [h]⟩
  obtain ⟨s1, m1⟩ := flat_srt gBoth g0 (mrg a b) (mrg_ks a b sa sb na nb)
  refine srt_ext s1 (puts_srt b _ (puts_srt a [] trivial)) (fun x => ?_)
  have pm := mrg_mem a b sa sb
  rw [show x ∈ joined a b ↔ _ from m1 x, puts_mem b _ sb, puts_mem a [] sa]
  constructor
  · rintro ⟨p, hp, hx⟩
    unfold gBoth at hx
    rcases (pm p).1 hp with ⟨e1, e2, e3⟩ | ⟨e1, e2, e3⟩ | ⟨e1, e2, e3⟩
    · rw [e1, if_pos e0] at hx
      have : x = p.1 := by simpa using hx
      subst this
      exact .inr ⟨.inl e2, e3⟩
    · rw [if_neg (nb _ e2)] at hx
      have : x = p.2 := by simpa using hx
      subst this
      exact .inl e2
    · rw [if_neg (nb _ e2)] at hx
      have : x = p.2 := by simpa using hx
      subst this
      exact .inl e2
  · rintro (h | ⟨h | ⟨h, _⟩, h2⟩)
    · by_cases hc : ∃ y ∈ a, an y = an x
      · obtain ⟨y, hy, e⟩ := hc
        exact ⟨(y, x), (pm _).2 (.inr (.inr ⟨hy, h, e⟩)), by unfold gBoth; rw [if_neg (nb _ h)]; simp⟩
      · exact ⟨(nul, x), (pm _).2 (.inr (.inl ⟨rfl, h, fun y hy e => hc ⟨y, hy, e⟩⟩)), by unfold gBoth; rw [if_neg (nb _ h)]; simp⟩
    · exact ⟨(x, nul), (pm _).2 (.inl ⟨rfl, h, h2⟩), by unfold gBoth; rw [if_pos e0]; simp⟩
    · simp at h
theorem without_lack {a b : Attrs} (ha : err true a = 0) (hb : err true b = 0) : without a b = lack b a := by
  obtain ⟨sa, na, _⟩ := valid true ha
  obtain ⟨sb, nb, _⟩ := valid true hb
  have e0 : an nul = [] := rfl
  have g0 : ∀ p : YAttr.den × YAttr.den, gWo p.1 p.2 = [] ∨ ∃ z, gWo p.1 p.2 = [z] ∧ an z = key p := fun p => by
    unfold gWo key
    by_cases h : an p.2 = []
    · right; exact ⟨p.1, by simp [h], by simp [h]⟩
    · left; simp [h]
  obtain ⟨s1, m1⟩ := flat_srt gWo g0 (mrg a b) (mrg_ks a b sa sb na nb)
  refine srt_ext s1 (lack_srt b a sa) (fun x => ?_)
  have pm := mrg_mem a b sa sb
  rw [show x ∈ without a b ↔ _ from m1 x, lack_mem]
  have hf : has (an x) b = false ↔ ∀ y ∈ b, an y ≠ an x := by
    constructor
    · intro h y hy e
      have := (has_iff (an x) b).2 ⟨y, hy, e⟩
      rw [h] at this; cases this
    · intro h
      cases hc : has (an x) b with
      | false => rfl
      | true => obtain ⟨y, hy, e⟩ := (has_iff (an x) b).1 hc; exact absurd e (h y hy)
  rw [hf]
  constructor
  · rintro ⟨p, hp, hx⟩
    unfold gWo at hx
    rcases (pm p).1 hp with ⟨e1, e2, e3⟩ | ⟨e1, e2, e3⟩ | ⟨e1, e2, e3⟩
    · rw [e1, if_pos e0] at hx
      have : x = p.1 := by simpa using hx
      subst this
      exact ⟨e2, e3⟩
    · rw [if_neg (nb _ e2)] at hx; simp at hx
    · rw [if_neg (nb _ e2)] at hx; simp at hx
  · rintro ⟨h, h2⟩
    exact ⟨(x, nul), (pm _).2 (.inl ⟨rfl, h, h2⟩), by unfold gWo; rw [if_pos e0]; simp⟩

theorem flat_len (g : YAttr.den → YAttr.den → Attrs) (h : ∀ x y, (g x y).length ≤ 1) : ∀ l, (flat1 g l).length ≤ l.length
  | [] => by simp [flat1]
  | p :: l => by
    have := flat_len g h l
    have := h p.1 p.2
    simp only [flat1, List.length_append, List.length_cons]; omega
theorem mrg_len (a b : Attrs) : (mrg a b).length ≤ a.length + b.length := by
  induction a, b using mrg.induct with
  | case1 => rw [mrg]; simp
  | case2 x a ih => rw [mrg]; simp only [List.length_cons] at *; omega
  | case3 y b ih => rw [mrg]; simp only [List.length_cons] at *; omega
  | case4 x a y b h ih => rw [mrg, if_pos h]; simp only [List.length_cons] at *; omega
  | case5 x a y b h1 h ih => rw [mrg, if_neg h1, if_pos h]; simp only [List.length_cons] at *; omega
  | case6 x a y b h1 h ih => rw [mrg, if_neg h1, if_neg h]; simp only [List.length_cons] at *; omega

end Go.Ev.Attr
