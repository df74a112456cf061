/- Sets of ranges: the plain side, last part: the law. -/
import Derived.Test.YtphlkpahfcainaaPSpanC
namespace Go.Ev.Span
open Go.Ev
set_option linter.unusedVariables false
set_option linter.unusedSimpArgs false

theorem val_lo {a : Set_} (ha : Val a) {s : YSpan.den} (hs : s ∈ a) : 0 ≤ lo s ∧ lo s < hi s ∧ hi s ≤ 2147483647 :=
  ⟨(ha.2 s hs).2, (vs_lo ha.1 s hs).2, (ha.2 s hs).1⟩
theorem example_ : C20 F20 = some (ret20 true) := by
  obtain ⟨o, e, h, hA⟩ := op79 [mkS 0 2] [mkS 2 3] (by decide) (by decide)
  have v1 : Val [mkS 0 2] := ⟨⟨by decide, by decide, trivial⟩, fun s hs => by
    have : s = mkS 0 2 := by simpa using hs
    subst this; decide⟩
  have v2 : Val [mkS 2 3] := ⟨⟨by decide, by decide, trivial⟩, fun s hs => by
    have : s = mkS 2 3 := by simpa using hs
    subst this; decide⟩
  have v3 : VS (-1) [mkS 0 3] := ⟨by decide, by decide, trivial⟩
  obtain ⟨he, hf⟩ := hA.g v1 v2
  have one : ∀ (p q x : Int), Mem [mkS p q] x ↔ p ≤ x ∧ x < q := fun p q x => by
    unfold Mem
    constructor
    · rintro ⟨s, hs, h1⟩
      have : s = mkS p q := by simpa using hs
      subst this; exact h1
    · intro h1; exact ⟨mkS p q, by simp, h1⟩
  have ho : o = [mkS 0 3] := by
    refine vs_uniq hf.v.1 v3 (fun x => ?_)
    rw [← mb_iff, hf.x, w79, Bool.or_eq_true, mb_iff, mb_iff, one, one, one]
    omega
  subst ho
  subst he
  have h' : C23 F23 [(0, 2)] [(2, 3)] = some (ret23 [mkS 0 3] 0) := h
  rw [e20, h']
  rfl

section
variable (a b u i d : Set_) (hla : a.length ≤ 1048576) (hlb : b.length ≤ 1048576) (ha : Val a) (hb : Val b) (hu : Fin_ a b w79 u) (hi' : Fin_ a b w80 i) (hd : Fin_ a b w81 d)
include hla hlb ha hb

theorem round2 (hu : Fin_ a b w79 u) (hi' : Fin_ a b w80 i) (hd : Fin_ a b w81 d) (m1 m2 m3 : Nat) (x13 p0 p1 : Set_) (x111 x115 x116 y0 y1 y2 y3 : Int) (c : Nat) (hc : c < 4) :
    L4_2 F20 F21 F22 F23 F24 F25 F26 big m1 m2 (m3 + 1) a b u i d x13 p0 p1 x111 x115 x116 y0 y1 y2 y3 (c : Int) = L4_2 F20 F21 F22 F23 F24 F25 F26 big m1 m2 m3 a b u i d x13 p0 p1 x111 x115 x116 y0 y1 y2 y3 ((c + 1 : Nat) : Int) := by
  have ea := fun x => member_eq a (by omega) ha x
  have eb := fun x => member_eq b (by omega) hb x
  have eu := fun x => member_eq u (by have := hu.l; omega) hu.v x
  have ei := fun x => member_eq i (by have := hi'.l; omega) hi'.v x
  have ed := fun x => member_eq d (by have := hd.l; omega) hd.v x
  have c1 : decide ((c : Int) < 4) = true := decide_eq_true (by omega)
  have c2 : (0 ≤ (c : Int) ∧ (c : Int) < 4) := by omega
  have w1 : IntKind.i64.wrap ((c : Int) + 1) = ((c + 1 : Nat) : Int) := wnat (by omega) (by omega)
  rw [L4_2_step]
  simp only [bcond_if, c1, if_true, if_pos c2, ea, eb, eu, ei, ed, Option.bind_some, res26_0_ret, w1]
  generalize at_ (e := .int .i64) [y0, y1, y2, y3] (c : Int) = x
  rw [hu.x, hi'.x, hd.x]
  cases mb a x <;> cases mb b x <;> rfl
theorem loop2 (hu : Fin_ a b w79 u) (hi' : Fin_ a b w80 i) (hd : Fin_ a b w81 d) (m1 m2 : Nat) (x13 p0 p1 : Set_) (x111 x115 x116 y0 y1 y2 y3 : Int) :
    L4_2 F20 F21 F22 F23 F24 F25 F26 big m1 m2 big a b u i d x13 p0 p1 x111 x115 x116 y0 y1 y2 y3 0 = L4_1 F20 F21 F22 F23 F24 F25 F26 big m1 m2 a b u i d x13 p0 p1 x111 x115 (IntKind.i64.wrap (x116 + 1)) := by
  obtain ⟨z, hz⟩ := big_succ (n := 4) (by omega)
  rw [show L4_2 F20 F21 F22 F23 F24 F25 F26 big m1 m2 big a b u i d x13 p0 p1 x111 x115 x116 y0 y1 y2 y3 0 = L4_2 F20 F21 F22 F23 F24 F25 F26 big m1 m2 (z + 1 + 1 + 1 + 1 + 1) a b u i d x13 p0 p1 x111 x115 x116 y0 y1 y2 y3 ((0 : Nat) : Int) from by
    rw [show z + 1 + 1 + 1 + 1 + 1 = big by omega]; rfl]
  rw [round2 a b u i d hla hlb ha hb hu hi' hd _ _ _ _ _ _ _ _ _ _ _ _ _ 0 (by omega), round2 a b u i d hla hlb ha hb hu hi' hd _ _ _ _ _ _ _ _ _ _ _ _ _ 1 (by omega), round2 a b u i d hla hlb ha hb hu hi' hd _ _ _ _ _ _ _ _ _ _ _ _ _ 2 (by omega), round2 a b u i d hla hlb ha hb hu hi' hd _ _ _ _ _ _ _ _ _ _ _ _ _ 3 (by omega), L4_2_step]
  rfl
theorem loop1 (hu : Fin_ a b w79 u) (hi' : Fin_ a b w80 i) (hd : Fin_ a b w81 d) (m1 : Nat) (x p0 p1 : Set_) (hx : x.length ≤ 1048576) (x111 : Int) : ∀ (n k m : Nat), k + n = x.length → n < m →
    L4_1 F20 F21 F22 F23 F24 F25 F26 big m1 m a b u i d x p0 p1 x111 (x.length : Int) k = L4_0 F20 F21 F22 F23 F24 F25 F26 big m1 a b u i d p0 p1 (IntKind.i64.wrap (x111 + 1)) := by
  intro n
  induction n with
  | zero =>
    intro k m hk hm
    cases m with
    | zero => omega
    | succ m =>
    have c1 : decide ((k : Int) < (x.length : Int)) = false := decide_eq_false (by omega)
    rw [L4_1_step]
    simp only [bcond_if, c1, if_false, Bool.false_eq_true]
  | succ n ih =>
    intro k m hk hm
    cases m with
    | zero => omega
    | succ m =>
    have hkl : k < x.length := by omega
    have c1 : decide ((k : Int) < (x.length : Int)) = true := decide_eq_true (by omega)
    have w1 : IntKind.i64.wrap ((k : Int) + 1) = ((k + 1 : Nat) : Int) := wnat (by omega) (by omega)
    rw [L4_1_step]
    simp only [bcond_if, c1, if_true, inb, hkl, loop2 a b u i d hla hlb ha hb hu hi' hd, w1]
    exact ih (k + 1) m (by omega) (by omega)
theorem round5 (m1 m2 m3 : Nat) (r p0 p1 p2 : Set_) (x187 x191 x192 y0 y1 : Int) (c : Nat) (hc : c < 2) (x : Int) (hx : at_ (e := .int .i64) [y0, y1] (c : Int) = x) (hx0 : 0 ≤ x) (hx1 : x ≤ 2147483647) (hne : ¬ (mb a x = mb a (x - 1) ∧ mb b x = mb b (x - 1))) :
    L4_5 F20 F21 F22 F23 F24 F25 F26 big m1 m2 (m3 + 1) a b r p0 p1 p2 x187 x191 x192 y0 y1 (c : Int) = L4_5 F20 F21 F22 F23 F24 F25 F26 big m1 m2 m3 a b r p0 p1 p2 x187 x191 x192 y0 y1 ((c + 1 : Nat) : Int) := by
  have ea := fun x => member_eq a (by omega) ha x
  have eb := fun x => member_eq b (by omega) hb x
  have c1 : decide ((c : Int) < 2) = true := decide_eq_true (by omega)
  have c2 : (0 ≤ (c : Int) ∧ (c : Int) < 2) := by omega
  have w1 : IntKind.i64.wrap ((c : Int) + 1) = ((c + 1 : Nat) : Int) := wnat (by omega) (by omega)
  have w2 : IntKind.i64.wrap (x - 1) = x - 1 := w64 (by omega) (by omega)
  rw [L4_5_step, hx, w2]
  simp only [bcond_if, c1, if_true, if_pos c2, ea, eb, Option.bind_some, res26_0_ret, w1]
  revert hne
  cases mb a x <;> cases mb b x <;> cases mb a (x - 1) <;> cases mb b (x - 1) <;> simp
theorem loop5 (m1 m2 : Nat) (r p0 p1 p2 : Set_) (w : Bool → Bool → Bool) (hr : Fin_ a b w r) (s : YSpan.den) (hs : s ∈ r) (x187 x191 x192 : Int) :
    L4_5 F20 F21 F22 F23 F24 F25 F26 big m1 m2 big a b r p0 p1 p2 x187 x191 x192 s.1 s.2 0 = L4_4 F20 F21 F22 F23 F24 F25 F26 big m1 m2 a b r p0 p1 p2 x187 x191 (IntKind.i64.wrap (x192 + 1)) := by
  obtain ⟨z, hz⟩ := big_succ (n := 2) (by omega)
  obtain ⟨v1, v2, v3⟩ := val_lo hr.v hs
  obtain ⟨q1, q2⟩ := vs_edge hr.v.1 s hs
  have cut : ∀ x, mb r x ≠ mb r (x - 1) → ¬ (mb a x = mb a (x - 1) ∧ mb b x = mb b (x - 1)) := fun x h ⟨h1, h2⟩ => h (by rw [hr.x, hr.x, h1, h2])
  have g1 : mb r (lo s) = true := (mb_iff _ _).2 ⟨s, hs, by omega, v2⟩
  have g2 : mb r (lo s - 1) = false := Bool.eq_false_iff.2 fun h => q1 ((mb_iff _ _).1 h)
  have g3 : mb r (hi s) = false := Bool.eq_false_iff.2 fun h => q2 ((mb_iff _ _).1 h)
  have g4 : mb r (hi s - 1) = true := (mb_iff _ _).2 ⟨s, hs, by omega, by omega⟩
  rw [show L4_5 F20 F21 F22 F23 F24 F25 F26 big m1 m2 big a b r p0 p1 p2 x187 x191 x192 s.1 s.2 0 = L4_5 F20 F21 F22 F23 F24 F25 F26 big m1 m2 (z + 1 + 1 + 1) a b r p0 p1 p2 x187 x191 x192 (lo s) (hi s) ((0 : Nat) : Int) from by
    rw [show z + 1 + 1 + 1 = big by omega]; rfl]
  rw [round5 a b hla hlb ha hb _ _ _ _ _ _ _ _ _ _ (lo s) (hi s) 0 (by omega) (lo s) rfl (by omega) (by omega) (cut _ (by rw [g1, g2]; decide)),
    round5 a b hla hlb ha hb _ _ _ _ _ _ _ _ _ _ (lo s) (hi s) 1 (by omega) (hi s) rfl (by omega) (by omega) (cut _ (by rw [g3, g4]; decide)), L4_5_step]
  rfl
theorem loop4 (m1 : Nat) (r p0 p1 p2 : Set_) (w : Bool → Bool → Bool) (hr : Fin_ a b w r) (x187 : Int) : ∀ (n k m : Nat), k + n = r.length → n < m →
    L4_4 F20 F21 F22 F23 F24 F25 F26 big m1 m a b r p0 p1 p2 x187 (r.length : Int) k = L4_3 F20 F21 F22 F23 F24 F25 F26 big m1 a b p0 p1 p2 (IntKind.i64.wrap (x187 + 1)) := by
  have hl : r.length ≤ 4194304 := by have := hr.l; omega
  intro n
  induction n with
  | zero =>
    intro k m hk hm
    cases m with
    | zero => omega
    | succ m =>
    have c1 : decide ((k : Int) < (r.length : Int)) = false := decide_eq_false (by omega)
    rw [L4_4_step]
    simp only [bcond_if, c1, if_false, Bool.false_eq_true]
  | succ n ih =>
    intro k m hk hm
    cases m with
    | zero => omega
    | succ m =>
    have hkl : k < r.length := by omega
    have c1 : decide ((k : Int) < (r.length : Int)) = true := decide_eq_true (by omega)
    have w1 : IntKind.i64.wrap ((k : Int) + 1) = ((k + 1 : Nat) : Int) := wnat (by omega) (by omega)
    have hm5 := loop5 a b hla hlb ha hb m1 m r p0 p1 p2 w hr (at_ (e := YSpan) r (k : Int)) (atS_mem r hkl) x187 (r.length : Int) k
    rw [L4_4_step]
    simp only [bcond_if, c1, if_true, inb, hkl, hm5, w1]
    exact ih (k + 1) m (by omega) (by omega)
theorem loop3 (hu : Fin_ a b w79 u) (hi' : Fin_ a b w80 i) (hd : Fin_ a b w81 d) :
    L4_3 F20 F21 F22 F23 F24 F25 F26 big big a b u i d 0 = some (ret4 true) := by
  obtain ⟨z, hz⟩ := big_succ (n := 4194304) (by omega)
  obtain ⟨y, hy⟩ : ∃ y, big = y + 1 + 1 + 1 + 1 := ⟨big - 4, by omega⟩
  have st : ∀ (w : Bool → Bool → Bool) (r : Set_) (hr : Fin_ a b w r) (c m : Nat), c < 3 → at_ (e := .list YSpan) [u, i, d] (c : Int) = r → L4_3 F20 F21 F22 F23 F24 F25 F26 big (m + 1) a b u i d c = L4_3 F20 F21 F22 F23 F24 F25 F26 big m a b u i d ((c + 1 : Nat) : Int) := by
    intro w r hr c m hc hx
    have c1 : decide ((c : Int) < 3) = true := decide_eq_true (by omega)
    have c2 : (0 ≤ (c : Int) ∧ (c : Int) < 3) := by omega
    have w1 : IntKind.i64.wrap ((c : Int) + 1) = ((c + 1 : Nat) : Int) := wnat (by omega) (by omega)
    have hl : r.length ≤ 4194304 := by have := hr.l; omega
    have h4 := loop4 a b hla hlb ha hb m r u i d w hr (c : Int) r.length 0 big (by omega) (by omega)
    rw [w1] at h4
    rw [L4_3_step, hx]
    simp only [bcond_if, c1, if_true, if_pos c2]
    exact h4
  rw [show L4_3 F20 F21 F22 F23 F24 F25 F26 big big a b u i d 0 = L4_3 F20 F21 F22 F23 F24 F25 F26 big (y + 1 + 1 + 1 + 1) a b u i d ((0 : Nat) : Int) from by rw [← hy]; rfl]
  rw [st _ u hu 0 _ (by omega) rfl, st _ i hi' 1 _ (by omega) rfl, st _ d hd 2 _ (by omega) rfl, L4_3_step]
  rfl
theorem loop0 (hu : Fin_ a b w79 u) (hi' : Fin_ a b w80 i) (hd : Fin_ a b w81 d) :
    L4_0 F20 F21 F22 F23 F24 F25 F26 big big a b u i d a b 0 = some (ret4 true) := by
  obtain ⟨z, hz⟩ := big_succ (n := 4194304) (by omega)
  obtain ⟨y, hy⟩ : ∃ y, big = y + 1 + 1 + 1 := ⟨big - 3, by omega⟩
  have st : ∀ (r : Set_) (hr : r.length ≤ 1048576) (c m : Nat), c < 2 → at_ (e := .list YSpan) [a, b] (c : Int) = r → L4_0 F20 F21 F22 F23 F24 F25 F26 big (m + 1) a b u i d a b c = L4_0 F20 F21 F22 F23 F24 F25 F26 big m a b u i d a b ((c + 1 : Nat) : Int) := by
    intro r hr c m hc hx
    have c1 : decide ((c : Int) < 2) = true := decide_eq_true (by omega)
    have c2 : (0 ≤ (c : Int) ∧ (c : Int) < 2) := by omega
    have w1 : IntKind.i64.wrap ((c : Int) + 1) = ((c + 1 : Nat) : Int) := wnat (by omega) (by omega)
    have h1 := loop1 a b u i d hla hlb ha hb hu hi' hd m r a b hr (c : Int) r.length 0 big (by omega) (by omega)
    rw [w1] at h1
    rw [L4_0_step, hx]
    simp only [bcond_if, c1, if_true, if_pos c2]
    exact h1
  rw [show L4_0 F20 F21 F22 F23 F24 F25 F26 big big a b u i d a b 0 = L4_0 F20 F21 F22 F23 F24 F25 F26 big (y + 1 + 1 + 1) a b u i d a b ((0 : Nat) : Int) from by rw [← hy]; rfl]
  rw [st a hla 0 _ (by omega) rfl, st b hlb 1 _ (by omega) rfl, L4_0_step]
  exact loop3 a b u i d hla hlb ha hb hu hi' hd
end
theorem law (a b : Set_) (hla : a.length ≤ 1048576) (hlb : b.length ≤ 1048576) : C4 F4 a b = some (ret4 true) := by
  obtain ⟨ea1, ea2⟩ := check_eq a (by omega)
  obtain ⟨eb1, eb2⟩ := check_eq b (by omega)
  obtain ⟨u, eu, hu, Au⟩ := op79 a b hla hlb
  obtain ⟨i, ei, hi', Ai⟩ := op80 a b hla hlb
  obtain ⟨d, ed, hd, Ad⟩ := op81 a b hla hlb
  rw [e4, example_, ea1, ea2, hu, hi', hd, eb2]
  by_cases h1 : Val a
  · have z1 : E a = 0 := (E_val a).2 h1
    by_cases h2 : Val b
    · have z2 : E b = 0 := (E_val b).2 h2
      obtain ⟨r1, f1⟩ := Au.g h1 h2
      obtain ⟨r2, f2⟩ := Ai.g h1 h2
      obtain ⟨r3, f3⟩ := Ad.g h1 h2
      have k1 : C22 F22 u = some (ret22 0) := by rw [(check_eq u (by have := f1.l; omega)).2, (E_val u).2 f1.v]
      have k2 : C22 F22 i = some (ret22 0) := by rw [(check_eq i (by have := f2.l; omega)).2, (E_val i).2 f2.v]
      have k3 : C22 F22 d = some (ret22 0) := by rw [(check_eq d (by have := f3.l; omega)).2, (E_val d).2 f3.v]
      subst r1 r2 r3
      simp [bcond_if, z1, z2, k1, k2, k3, loop0 a b u i d hla hlb h1 h2 f1 f2 f3]
    · have z2 : ¬ E b = 0 := fun h => h2 ((E_val b).1 h)
      obtain ⟨r1, f1⟩ := Au.b2 h1 h2
      obtain ⟨r2, f2⟩ := Ai.b2 h1 h2
      obtain ⟨r3, f3⟩ := Ad.b2 h1 h2
      subst r1 r2 r3 f1 f2 f3
      have hw : IntKind.i64.wrap 0 = 0 := rfl
      simp [bcond_if, z1, z2, hw]
  · have z1 : ¬ E a = 0 := fun h => h1 ((E_val a).1 h)
    obtain ⟨r1, f1⟩ := Au.b1 h1
    obtain ⟨r2, f2⟩ := Ai.b1 h1
    obtain ⟨r3, f3⟩ := Ad.b1 h1
    subst r1 r2 r3 f1 f2 f3
    have hw : IntKind.i64.wrap 0 = 0 := rfl
    simp [bcond_if, z1, hw]
theorem holds (a b : Set_) (o0 : (Ty.list YSpan).ok a) (o1 : (Ty.list YSpan).ok b) (hb : (Ty.list YSpan).bulk a + (Ty.list YSpan).bulk b ≤ 1048576) : C4 F4 a b = some (ret4 true) := by
  have h1 := bulk_len a
  have h2 := bulk_len b
  exact law a b (by omega) (by omega)
end Go.Ev.Span
