
/- Attributes: the plain side, fourth part: sorted lists. -/
import Derived.Test.YtlgjdgebmiegeaaPAttrC
namespace Go.Ev.Attr
open Go.Ev
set_option linter.unusedVariables false
set_option linter.unusedSimpArgs false

def Lt (a b : YAttr.den) : Prop := strLess (an a) (an b) = true
theorem lt_trans {a b c : YAttr.den} (h1 : Lt a b) (h2 : Lt b c) : Lt a c := sl_trans _ _ _ h1 h2
theorem lt_ne {a b : YAttr.den} (h : Lt a b) : an a ≠ an b := sl_ne h
/-- Sorted by name, each name once. -/
def Srt : Attrs → Prop
  | [] => True
  | a :: l => (∀ x ∈ l, Lt a x) ∧ Srt l

theorem srt_ext : ∀ {l m : Attrs}, Srt l → Srt m → (∀ x, x ∈ l ↔ x ∈ m) → l = m
  | [], [], _, _, _ => rfl
  | [], y :: m, _, _, h => by have := (h y).2 (by simp); simp at this
  | x :: l, [], _, _, h => by have := (h x).1 (by simp); simp at this
  | x :: l, y :: m, h1, h2, h => by
    have e : x = y := by
      have a := (h x).1 (by simp)
      have b := (h y).2 (by simp)
      rcases List.mem_cons.1 a with e | a
      · exact e
      · rcases List.mem_cons.1 b with e | b
        · exact e.symm
        · have p := h2.1 x a
          have q := h1.1 y b
          exact absurd p (by unfold Lt at *; rw [sl_asymm q]; simp)
    subst e
    rw [srt_ext h1.2 h2.2 (fun z => by
      have := h z
      constructor
      · intro hz
        rcases List.mem_cons.1 (this.1 (List.mem_cons_of_mem _ hz)) with e | q
        · subst e; exact absurd (h1.1 _ hz) (by unfold Lt; rw [sl_irrefl]; simp)
        · exact q
      · intro hz
        rcases List.mem_cons.1 (this.2 (List.mem_cons_of_mem _ hz)) with e | q
        · subst e; exact absurd (h2.1 _ hz) (by unfold Lt; rw [sl_irrefl]; simp)
        · exact q)]

theorem err_srt (emp : Bool) : ∀ (l : Attrs) (p : Option Str), aErr emp p l = 0 → Srt l ∧ (∀ x ∈ l, nm (an x) = true ∧ (vl (av x) = true ∨ emp = true ∧ av x = []) ∧ ∀ q, p = some q → strLess q (an x) = true)
  | [], p, _ => ⟨trivial, fun x h => by simp at h⟩
  | a :: l, p, h => by
    simp only [aErr] at h
    split at h
    · rename_i h1; exact absurd h h1
    · rename_i h1
      have h1 : eOne emp p a = 0 := Decidable.not_not.1 h1
      obtain ⟨s, k⟩ := err_srt emp l _ h
      have ha : nm (an a) = true ∧ (vl (av a) = true ∨ emp = true ∧ av a = []) ∧ ∀ q, p = some q → strLess q (an a) = true := by
        unfold eOne at h1
        split at h1
        · cases h1
        · rename_i g1
          split at h1
          · cases h1
          · rename_i g2
            refine ⟨by simpa using g1, ?_, ?_⟩
            · cases hv : vl (av a) with
              | true => exact .inl rfl
              | false => exact .inr (Decidable.not_not.1 (fun hn => g2 ⟨hv, hn⟩))
            · intro q hq
              subst hq
              simp only at h1
              split at h1
              · assumption
              · cases h1
      refine ⟨⟨fun x hx => (k x hx).2.2 _ rfl, s⟩, fun x hx => ?_⟩
      rcases List.mem_cons.1 hx with rfl | hx
      · exact ha
      · obtain ⟨k1, k2, k3⟩ := k x hx
        exact ⟨k1, k2, fun q hq => sl_trans _ _ _ (ha.2.2 q hq) (k3 _ rfl)⟩

/-! ### Putting -/
def putL (a : YAttr.den) : Bool → Attrs → Attrs
  | done, [] => if done = true then [] else [a]
  | done, x :: l => (if done = false ∧ strLess (an x) (an a) = false then [a] else []) ++ (if an x = an a then [] else [x]) ++ putL a (done || !strLess (an x) (an a)) l
theorem put_mem (a : YAttr.den) : ∀ (done : Bool) (l : Attrs) (x : YAttr.den), x ∈ putL a done l ↔ (done = false ∧ x = a) ∨ (x ∈ l ∧ an x ≠ an a)
  | done, [], x => by cases done <;> simp [putL]
  | done, y :: l, x => by
    have ih := put_mem a (done || !strLess (an y) (an a)) l x
    simp only [putL, List.mem_append, ih]
    cases done <;> cases strLess (an y) (an a) <;> by_cases h : an y = an a <;> simp [h] <;> grind
theorem put_true (a : YAttr.den) : ∀ (l : Attrs), Srt l → Srt (putL a true l)
  | [], _ => trivial
  | x :: l, h => by
    have ih := put_true a l h.2
    simp only [putL, Bool.true_eq_false, false_and, if_false, List.nil_append, Bool.true_or]
    split
    · exact ih
    · exact ⟨fun y hy => h.1 y ((put_mem a true l y).1 hy |>.elim (fun q => by cases q.1) (fun q => q.1)), ih⟩
theorem put_srt (a : YAttr.den) : ∀ (l : Attrs), Srt l → Srt (putL a false l)
  | [], _ => ⟨fun x h => by simp at h, trivial⟩
  | x :: l, h => by
    simp only [putL, true_and, Bool.false_or]
    rcases sl_total (an x) (an a) with h1 | h1 | h1
    · have h2 : ¬ an x = an a := sl_ne h1
      simp only [h1, Bool.true_eq_false, if_false, h2, List.nil_append, Bool.not_true]
      exact ⟨fun y hy => ((put_mem a false l y).1 hy).elim (fun q => q.2 ▸ h1) (fun q => h.1 y q.1), put_srt a l h.2⟩
    · simp only [h1, sl_irrefl, if_true, Bool.not_false, List.append_nil]
      refine ⟨fun y hy => ?_, put_true a l h.2⟩
      have := ((put_mem a true l y).1 hy).elim (fun q => by cases q.1) (fun q => q.1)
      have := h.1 y this
      unfold Lt at *; rw [← h1]; exact this
    · have h2 : ¬ an x = an a := fun e => sl_ne h1 e.symm
      simp only [sl_asymm h1, if_true, h2, if_false, Bool.not_false]
      refine ⟨fun y hy => ?_, fun y hy => ?_, put_true a l h.2⟩
      · rcases List.mem_cons.1 hy with rfl | hy
        · exact h1
        · have := ((put_mem a true l y).1 hy).elim (fun q => by cases q.1) (fun q => q.1)
          exact lt_trans h1 (h.1 y this)
      · have := ((put_mem a true l y).1 hy).elim (fun q => by cases q.1) (fun q => q.1)
        exact h.1 y this
def puts : Attrs → Attrs → Attrs
  | out, [] => out
  | out, a :: l => puts (putL a false out) l
theorem puts_srt : ∀ (l out : Attrs), Srt out → Srt (puts out l)
  | [], out, h => h
  | a :: l, out, h => puts_srt l _ (put_srt a out h)
theorem puts_mem : ∀ (l out : Attrs), Srt l → ∀ x, x ∈ puts out l ↔ x ∈ l ∨ (x ∈ out ∧ ∀ y ∈ l, an y ≠ an x)
  | [], out, h, x => by simp [puts]
  | a :: l, out, h, x => by
    have ih := puts_mem l (putL a false out) h.2 x
    have h1 := put_mem a false out x
    have hl : ∀ y ∈ l, an y ≠ an a := fun y hy e => lt_ne (h.1 y hy) e.symm
    simp only [puts, ih, h1, List.mem_cons]
    grind

/-! ### Walking side by side -/
theorem mrg_mem (a b : Attrs) (ha : Srt a) (hb : Srt b) : ∀ p, p ∈ mrg a b ↔ (p.2 = nul ∧ p.1 ∈ a ∧ ∀ y ∈ b, an y ≠ an p.1) ∨ (p.1 = nul ∧ p.2 ∈ b ∧ ∀ x ∈ a, an x ≠ an p.2) ∨ (p.1 ∈ a ∧ p.2 ∈ b ∧ an p.1 = an p.2) := by
  induction a, b using mrg.induct with
  | case1 => intro p; rw [mrg]; simp
  | case2 x a ih =>
    intro p
    have := ih ha.2 hb p
    obtain ⟨p1, p2⟩ := p
    rw [mrg]
    simp only [List.mem_cons, this, Prod.mk.injEq]
    clear this ih
    grind
  | case3 y b ih =>
    intro p
    have := ih ha hb.2 p
    obtain ⟨p1, p2⟩ := p
    rw [mrg]
    simp only [List.mem_cons, this, Prod.mk.injEq]
    clear this ih
    grind
  | case4 x a y b h ih =>
    intro p
    have := ih ha.2 hb p
    obtain ⟨p1, p2⟩ := p
    rw [mrg, if_pos h]
    have hx : ∀ z ∈ y :: b, an z ≠ an x := fun z hz => by
      rcases List.mem_cons.1 hz with rfl | hz
      · exact fun e => sl_ne h e.symm
      · exact fun e => lt_ne (lt_trans (a := x) (b := y) h (hb.1 z hz)) e.symm
    simp only [List.mem_cons, this, Prod.mk.injEq] at hx ⊢
    clear this ih
    grind
  | case5 x a y b h1 h ih =>
    intro p
    have := ih ha hb.2 p
    obtain ⟨p1, p2⟩ := p
    rw [mrg, if_neg h1, if_pos h]
    have hx : ∀ z ∈ x :: a, an z ≠ an y := fun z hz => by
      rcases List.mem_cons.1 hz with rfl | hz
      · exact fun e => sl_ne h e.symm
      · exact fun e => lt_ne (lt_trans (a := y) (b := x) h (ha.1 z hz)) e.symm
    simp only [List.mem_cons, this, Prod.mk.injEq] at hx ⊢
    clear this ih
    grind
  | case6 x a y b h1 h ih =>
    intro p
    have := ih ha.2 hb.2 p
    obtain ⟨p1, p2⟩ := p
    rw [mrg, if_neg h1, if_neg h]
    have he : an x = an y := by
      rcases sl_total (an x) (an y) with q | q | q
      · exact absurd q h1
      · exact q
      · exact absurd q h
    have hx : ∀ z ∈ a, an z ≠ an y := fun z hz e => lt_ne (ha.1 z hz) (by rw [he, e])
    have hy : ∀ z ∈ b, an z ≠ an x := fun z hz e => lt_ne (hb.1 z hz) (by rw [← he, e])
    simp only [List.mem_cons, this, Prod.mk.injEq] at hx hy ⊢
    clear this ih
    constructor
    · rintro (⟨rfl, rfl⟩ | ⟨e1, e2, e3⟩ | ⟨e1, e2, e3⟩ | ⟨e1, e2, e3⟩)
      · exact .inr (.inr ⟨.inl rfl, .inl rfl, he⟩)
      · exact .inl ⟨e1, .inr e2, fun z hz => hz.elim (fun q => by rw [q]; exact fun q2 => hx _ e2 q2.symm) (e3 z)⟩
      · exact .inr (.inl ⟨e1, .inr e2, fun z hz => hz.elim (fun q => by rw [q]; exact fun q2 => hy _ e2 q2.symm) (e3 z)⟩)
      · exact .inr (.inr ⟨.inr e1, .inr e2, e3⟩)
    · rintro (⟨e1, e2, e3⟩ | ⟨e1, e2, e3⟩ | ⟨e1, e2, e3⟩)
      · rcases e2 with rfl | e2
        · exact absurd he.symm (e3 y (.inl rfl))
        · exact .inr (.inl ⟨e1, e2, fun z hz => e3 z (.inr hz)⟩)
      · rcases e2 with rfl | e2
        · exact absurd he (e3 x (.inl rfl))
        · exact .inr (.inr (.inl ⟨e1, e2, fun z hz => e3 z (.inr hz)⟩))
      · rcases e1 with rfl | e1 <;> rcases e2 with rfl | e2
        · exact .inl ⟨rfl, rfl⟩
        · exact absurd e3.symm (hy _ e2)
        · exact absurd e3 (hx _ e1)
        · exact .inr (.inr (.inr ⟨e1, e2, e3⟩))

/-- The name that a visited pair tells of. -/
def key (p : YAttr.den × YAttr.den) : Str := if an p.2 = [] then an p.1 else an p.2
def Ks : List (YAttr.den × YAttr.den) → Prop
  | [] => True
  | p :: l => (∀ q ∈ l, strLess (key p) (key q) = true) ∧ Ks l
/-- Every name is a name. -/
def Nms (l : Attrs) : Prop := ∀ x ∈ l, an x ≠ []
theorem key_in (a b : Attrs) (ha : Srt a) (hb : Srt b) (na : Nms a) (nb : Nms b) (s : Str) (h1 : ∀ x ∈ a, strLess s (an x) = true) (h2 : ∀ y ∈ b, strLess s (an y) = true) : ∀ p ∈ mrg a b, strLess s (key p) = true := by
  intro p hp
  have e0 : an nul = [] := rfl
  rcases (mrg_mem a b ha hb p).1 hp with ⟨e1, e2, _⟩ | ⟨e1, e2, _⟩ | ⟨e1, e2, _⟩
  · unfold key; rw [e1, if_pos e0]; exact h1 _ e2
  · unfold key; rw [if_neg (nb _ e2)]; exact h2 _ e2
  · unfold key; rw [if_neg (nb _ e2)]; exact h2 _ e2
theorem mrg_ks (a b : Attrs) (ha : Srt a) (hb : Srt b) (na : Nms a) (nb : Nms b) : Ks (mrg a b) := by
  have e0 : an nul = [] := rfl
  induction a, b using mrg.induct with
  | case1 => rw [mrg]; trivial
  | case2 x a ih =>
    rw [mrg]
    refine ⟨?_, ih ha.2 hb (fun z hz => na z (List.mem_cons_of_mem _ hz)) nb⟩
    have : key (x, nul) = an x := by unfold key; rw [if_pos e0]
    rw [this]
    exact key_in a [] ha.2 hb (fun z hz => na z (List.mem_cons_of_mem _ hz)) nb _ ha.1 (fun y hy => by simp at hy)
  | case3 y b ih =>
    rw [mrg]
    refine ⟨?_, ih ha hb.2 na (fun z hz => nb z (List.mem_cons_of_mem _ hz))⟩
    have : key (nul, y) = an y := by unfold key; rw [if_neg (nb y (by simp))]
    rw [this]
    exact key_in [] b ha hb.2 na (fun z hz => nb z (List.mem_cons_of_mem _ hz)) _ (fun y hy => by simp at hy) hb.1
  | case4 x a y b h ih =>
    rw [mrg, if_pos h]
    refine ⟨?_, ih ha.2 hb (fun z hz => na z (List.mem_cons_of_mem _ hz)) nb⟩
    have : key (x, nul) = an x := by unfold key; rw [if_pos e0]
    rw [this]
    exact key_in a (y :: b) ha.2 hb (fun z hz => na z (List.mem_cons_of_mem _ hz)) nb _ ha.1 (fun z hz => by
      rcases List.mem_cons.1 hz with rfl | hz
      · exact h
      · exact sl_trans _ _ _ h (hb.1 z hz))
  | case5 x a y b h1 h ih =>
    rw [mrg, if_neg h1, if_pos h]
    refine ⟨?_, ih ha hb.2 na (fun z hz => nb z (List.mem_cons_of_mem _ hz))⟩
    have : key (nul, y) = an y := by unfold key; rw [if_neg (nb y (by simp))]
    rw [this]
    exact key_in (x :: a) b ha hb.2 na (fun z hz => nb z (List.mem_cons_of_mem _ hz)) _ (fun z hz => by
      rcases List.mem_cons.1 hz with rfl | hz
      · exact h
      · exact sl_trans _ _ _ h (ha.1 z hz)) hb.1
  | case6 x a y b h1 h ih =>
    have he : an x = an y := by
      rcases sl_total (an x) (an y) with q | q | q
      · exact absurd q h1
      · exact q
      · exact absurd q h
    rw [mrg, if_neg h1, if_neg h]
    refine ⟨?_, ih ha.2 hb.2 (fun z hz => na z (List.mem_cons_of_mem _ hz)) (fun z hz => nb z (List.mem_cons_of_mem _ hz))⟩
    have : key (x, y) = an y := by unfold key; rw [if_neg (nb y (by simp))]
    rw [this]
    exact key_in a b ha.2 hb.2 (fun z hz => na z (List.mem_cons_of_mem _ hz)) (fun z hz => nb z (List.mem_cons_of_mem _ hz)) _ (fun z hz => by rw [← he]; exact ha.1 z hz) hb.1

/-- What a walk puts out is sorted, if each pair puts out at most what is named by it. -/
theorem flat_srt (g : YAttr.den → YAttr.den → Attrs) (h0 : ∀ p : YAttr.den × YAttr.den, g p.1 p.2 = [] ∨ ∃ z, g p.1 p.2 = [z] ∧ an z = key p) : ∀ (l : List (YAttr.den × YAttr.den)), Ks l → Srt (flat1 g l) ∧ ∀ x, x ∈ flat1 g l ↔ ∃ p ∈ l, x ∈ g p.1 p.2
  | [], _ => ⟨trivial, fun x => by simp [flat1]⟩
  | p :: l, h => by
    obtain ⟨s, k⟩ := flat_srt g h0 l h.2
    refine ⟨?_, fun x => ?_⟩
    · rw [flat1]
      rcases h0 p with e | ⟨z, e, ez⟩
      · rw [e]; exact s
      · rw [e]
        refine ⟨fun x hx => ?_, s⟩
        obtain ⟨q, hq, hx⟩ := (k x).1 hx
        rcases h0 q with e2 | ⟨z2, e2, ez2⟩
        · rw [e2] at hx; simp at hx
        · rw [e2] at hx
          have : x = z2 := by simpa using hx
          subst this
          unfold Lt
          rw [ez, ez2]
          exact h.1 q hq
    · rw [flat1, List.mem_append, k x]
      simp
end Go.Ev.Attr
