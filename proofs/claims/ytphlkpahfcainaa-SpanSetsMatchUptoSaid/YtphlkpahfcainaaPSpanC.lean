/- Sets of ranges: the plain side, third part: the three walks over two sets. Printed by span.py. -/
import Derived.Test.YtphlkpahfcainaaPSpanB
namespace Go.Ev.Span
open Go.Ev
set_option linter.unusedVariables false
set_option linter.unusedSimpArgs false

/-! ### The walk, 79 -/
def w79 (p q : Bool) : Bool := p || q
theorem cw79 (p q : Bool) : C79 F79 p q = some (ret79 (w79 p q)) := by
  rw [e79]; cases p <;> cases q <;> rfl
theorem step79 (a b : Set_) (hla : a.length ≤ 1048576) (hlb : b.length ≤ 1048576) (ha : Val a) (hb : Val b) (n m : Nat) (out : Set_) (t : Int) (i j : Nat) :
    L107_79_0 F118 F79 F119 n (m + 1) a b out t i j = if i < 2 * a.length ∨ j < 2 * b.length then (if t < nxt a b i j ∧ w79 (od i) (od j) = true then (C119 F119 out (mkS t (nxt a b i j))).bind (fun r => L107_79_1 F118 F79 F119 n m n a b (res119_0 r) (nxt a b i j) i j) else L107_79_1 F118 F79 F119 n m n a b out (nxt a b i j) i j) else some (ret107_79 out) := by
  have wa : IntKind.i64.wrap (2 * (a.length : Int)) = ((2 * a.length : Nat) : Int) := wnat (by omega) (by omega)
  have wb : IntKind.i64.wrap (2 * (b.length : Int)) = ((2 * b.length : Nat) : Int) := wnat (by omega) (by omega)
  have q5 : ∀ z : Int, ((t, z) : YSpan.den) = mkS t z := fun z => rfl
  have two : ¬ ((2 : Int) = 0) := by decide
  rw [L107_79_0_step, wa, wb]
  by_cases h1 : i < 2 * a.length
  · have c1 : decide ((i : Int) < ((2 * a.length : Nat) : Int)) = true := decide_eq_true (by omega)
    have en1 := end_eq a hla i h1
    by_cases h2 : j < 2 * b.length
    · have c2 : decide ((j : Int) < ((2 * b.length : Nat) : Int)) = true := decide_eq_true (by omega)
      have en2 := end_eq b hlb j h2
      have hX : (if (res118_0 (ret118 (en b j)) : Int) < res118_0 (ret118 (en a i)) then res118_0 (ret118 (en b j)) else res118_0 (ret118 (en a i))) = nxt a b i j := by unfold nxt; rw [if_pos h1, if_pos h2]; rfl
      simp only [bcond_if, c1, c2, en1, en2, Option.bind_some, hX, q5, cw79, res79_0_ret, od_eq, if_true, two, if_false, h1, h2, true_or, Bool.true_eq_false, beq_self_eq_true, decide_false, reduceCtorEq, Bool.false_eq_true]
      generalize nxt a b i j = X
      by_cases h3 : t < X <;> cases h4 : w79 (od i) (od j) <;> simp [h3]
    · have c2 : decide ((j : Int) < ((2 * b.length : Nat) : Int)) = false := decide_eq_false (by omega)
      have hX : res118_0 (ret118 (en a i)) = nxt a b i j := by unfold nxt; rw [if_pos h1, if_neg h2]; rfl
      simp only [bcond_if, c1, c2, en1, Option.bind_some, hX, q5, cw79, res79_0_ret, od_eq, if_true, two, if_false, h1, h2, true_or, Bool.true_eq_false, beq_self_eq_true, decide_false, reduceCtorEq, Bool.false_eq_true]
      generalize nxt a b i j = X
      by_cases h3 : t < X <;> cases h4 : w79 (od i) (od j) <;> simp [h3]
  · have c1 : decide ((i : Int) < ((2 * a.length : Nat) : Int)) = false := decide_eq_false (by omega)
    by_cases h2 : j < 2 * b.length
    · have c2 : decide ((j : Int) < ((2 * b.length : Nat) : Int)) = true := decide_eq_true (by omega)
      have en2 := end_eq b hlb j h2
      have hX : (if (res118_0 (ret118 (en b j)) : Int) < 2147483648 then res118_0 (ret118 (en b j)) else 2147483648) = nxt a b i j := by
        unfold nxt
        rw [if_neg h1]
        exact if_pos (show en b j < 2147483648 by have := (en_val hb h2).2; omega)
      simp only [bcond_if, c1, c2, en2, Option.bind_some, hX, q5, cw79, res79_0_ret, od_eq, if_true, two, if_false, h1, h2, or_true, Bool.true_eq_false, beq_self_eq_true, decide_false, reduceCtorEq, Bool.false_eq_true]
      generalize nxt a b i j = X
      by_cases h3 : t < X <;> cases h4 : w79 (od i) (od j) <;> simp [h3]
    · have c2 : decide ((j : Int) < ((2 * b.length : Nat) : Int)) = false := decide_eq_false (by omega)
      simp only [bcond_if, c1, c2, h1, h2, or_self, if_false, beq_self_eq_true, if_true, Bool.false_eq_true]
theorem in1_79 (a b : Set_) (hla : a.length ≤ 1048576) (ha : Val a) (m1 m2 : Nat) (out : Set_) (t : Int) (i j : Nat) :
    L107_79_1 F118 F79 F119 big m1 (m2 + 2) a b out t i j = L107_79_2 F118 F79 F119 big m1 big a b out t ((if i < 2 * a.length ∧ en a i = t then i + 1 else i : Nat) : Int) j := by
  have wa : IntKind.i64.wrap (2 * (a.length : Int)) = ((2 * a.length : Nat) : Int) := wnat (by omega) (by omega)
  have one : ∀ (k m : Nat), ¬ (k < 2 * a.length ∧ en a k = t) → L107_79_1 F118 F79 F119 big m1 (m + 1) a b out t k j = L107_79_2 F118 F79 F119 big m1 big a b out t k j := by
    intro k m hk
    rw [L107_79_1_step, wa]
    by_cases h1 : k < 2 * a.length
    · have c1 : decide ((k : Int) < ((2 * a.length : Nat) : Int)) = true := decide_eq_true (by omega)
      have c2 : (en a k == t) = false := by
        have : ¬ en a k = t := fun e => hk ⟨h1, e⟩
        simpa using this
      simp only [bcond_if, c1, end_eq a hla k h1, Option.bind_some, res118_0_ret, c2, beq_self_eq_true, if_true, if_false, Bool.false_eq_true]
    · have c1 : decide ((k : Int) < ((2 * a.length : Nat) : Int)) = false := decide_eq_false (by omega)
      simp only [bcond_if, c1, if_false, Bool.false_eq_true, Bool.false_beq, Bool.not_true]
  by_cases hk : i < 2 * a.length ∧ en a i = t
  · rw [if_pos hk, L107_79_1_step, wa]
    have c1 : decide ((i : Int) < ((2 * a.length : Nat) : Int)) = true := decide_eq_true (by omega)
    have c2 : (en a i == t) = true := by simpa using hk.2
    have w1 : IntKind.i64.wrap ((i : Int) + 1) = ((i + 1 : Nat) : Int) := wnat (by omega) (by omega)
    simp only [bcond_if, c1, end_eq a hla i hk.1, Option.bind_some, res118_0_ret, c2, beq_self_eq_true, if_true, w1]
    refine one (i + 1) m2 fun h => ?_
    have := en_succ ha.1 h.1
    omega
  · rw [if_neg hk]
    exact one i (m2 + 1) hk
theorem in2_79 (a b : Set_) (hlb : b.length ≤ 1048576) (hb : Val b) (m1 m2 : Nat) (out : Set_) (t : Int) (i j : Nat) :
    L107_79_2 F118 F79 F119 big m1 (m2 + 2) a b out t i j = L107_79_0 F118 F79 F119 big m1 a b out t i ((if j < 2 * b.length ∧ en b j = t then j + 1 else j : Nat) : Int) := by
  have wa : IntKind.i64.wrap (2 * (b.length : Int)) = ((2 * b.length : Nat) : Int) := wnat (by omega) (by omega)
  have one : ∀ (k m : Nat), ¬ (k < 2 * b.length ∧ en b k = t) → L107_79_2 F118 F79 F119 big m1 (m + 1) a b out t i k = L107_79_0 F118 F79 F119 big m1 a b out t i k := by
    intro k m hk
    rw [L107_79_2_step, wa]
    by_cases h1 : k < 2 * b.length
    · have c1 : decide ((k : Int) < ((2 * b.length : Nat) : Int)) = true := decide_eq_true (by omega)
      have c2 : (en b k == t) = false := by
        have : ¬ en b k = t := fun e => hk ⟨h1, e⟩
        simpa using this
      simp only [bcond_if, c1, end_eq b hlb k h1, Option.bind_some, res118_0_ret, c2, beq_self_eq_true, if_true, if_false, Bool.false_eq_true]
    · have c1 : decide ((k : Int) < ((2 * b.length : Nat) : Int)) = false := decide_eq_false (by omega)
      simp only [bcond_if, c1, if_false, Bool.false_eq_true, Bool.false_beq, Bool.not_true]
  by_cases hk : j < 2 * b.length ∧ en b j = t
  · rw [if_pos hk, L107_79_2_step, wa]
    have c1 : decide ((j : Int) < ((2 * b.length : Nat) : Int)) = true := decide_eq_true (by omega)
    have c2 : (en b j == t) = true := by simpa using hk.2
    have w1 : IntKind.i64.wrap ((j : Int) + 1) = ((j + 1 : Nat) : Int) := wnat (by omega) (by omega)
    simp only [bcond_if, c1, end_eq b hlb j hk.1, Option.bind_some, res118_0_ret, c2, beq_self_eq_true, if_true, w1]
    refine one (j + 1) m2 fun h => ?_
    have := en_succ hb.1 h.1
    omega
  · rw [if_neg hk]
    exact one j (m2 + 1) hk
theorem walk79 (a b : Set_) (hla : a.length ≤ 1048576) (hlb : b.length ≤ 1048576) (ha : Val a) (hb : Val b) : ∀ (d : Nat) (m : Nat) (out : Set_) (t : Int) (i j : Nat), 2 * a.length + 2 * b.length ≤ i + j + d → d < m → Inv a b w79 out t i j →
    ∃ out', L107_79_0 F118 F79 F119 big m a b out t i j = some (ret107_79 out') ∧ Fin_ a b w79 out' := by
  obtain ⟨z, hz⟩ := big_succ (n := 1) (by omega)
  have hz2 : big = z + 2 := by omega
  intro d
  induction d with
  | zero =>
    intro m out t i j hd hm I
    cases m with
    | zero => omega
    | succ m =>
    have hn : ¬ (i < 2 * a.length ∨ j < 2 * b.length) := by have := I.ia; have := I.jb; omega
    refine ⟨out, ?_, inv_end ha hb I hn rfl⟩
    rw [step79 a b hla hlb ha hb, if_neg hn]
  | succ d ih =>
    intro m out t i j hd hm I
    cases m with
    | zero => omega
    | succ m =>
    by_cases hn : i < 2 * a.length ∨ j < 2 * b.length
    · have inn : ∀ o t', L107_79_1 F118 F79 F119 big m big a b o t' i j = L107_79_0 F118 F79 F119 big m a b o t' ((if i < 2 * a.length ∧ en a i = t' then i + 1 else i : Nat) : Int) ((if j < 2 * b.length ∧ en b j = t' then j + 1 else j : Nat) : Int) := fun o t' => by
        have h1 := in1_79 a b hla ha m z o t' i j
        have h2 := in2_79 a b hlb hb m z o t' (if i < 2 * a.length ∧ en a i = t' then i + 1 else i) j
        rw [← hz2] at h1 h2
        rw [h1, h2]
      obtain ⟨s1, s2, s3, s4⟩ := inv_step ha hb hla hlb I hn
      rw [step79 a b hla hlb ha hb, if_pos hn]
      by_cases hc : t < nxt a b i j ∧ w79 (od i) (od j) = true
      · rw [if_pos hc]
        obtain ⟨o, ho⟩ := add_ex out (mkS t (nxt a b i j)) (I.l.imp id fun ⟨d, s, h, _⟩ => ⟨d, s, h⟩) (by have := I.ln; have := I.ia; have := I.jb; omega)
        rw [ho, Option.bind_some, res119_0_ret, inn]
        exact ih m _ _ _ _ (by omega) (by omega) (s3 hc o ho)
      · rw [if_neg hc, inn]
        exact ih m _ _ _ _ (by omega) (by omega) (s4 hc)
    · refine ⟨out, ?_, inv_end ha hb I hn rfl⟩
      rw [step79 a b hla hlb ha hb, if_neg hn]
/-- What the operation answers. -/
structure Ans79 (a b o : Set_) (e : Int) : Prop where
  g : Val a → Val b → e = 0 ∧ Fin_ a b w79 o
  b1 : ¬ Val a → e = E a ∧ o = []
  b2 : Val a → ¬ Val b → e = E b ∧ o = []
theorem two79 (a b : Set_) (hla : a.length ≤ 1048576) (hlb : b.length ≤ 1048576) : ∃ o e, C78_79 F78_79 a b = some (ret78_79 o e) ∧ Ans79 a b o e := by
  have ea := (check_eq a (by omega)).1
  have eb := (check_eq b (by omega)).1
  rw [e78_79, ea, eb]
  by_cases h1 : Val a
  · have z1 : E a = 0 := (E_val a).2 h1
    by_cases h2 : Val b
    · have z2 : E b = 0 := (E_val b).2 h2
      obtain ⟨m, hm⟩ := big_succ (n := 4194304) (by omega)
      obtain ⟨o, ho, hf⟩ := walk79 a b hla hlb h1 h2 (2 * a.length + 2 * b.length) big [] 0 0 0 (by omega) (by omega) (inv_start _ h1 h2)
      refine ⟨o, 0, ?_, ⟨fun _ _ => ⟨rfl, hf⟩, fun h => absurd h1 h, fun _ h => absurd h2 h⟩⟩
      have ho' : C107_79 F107_79 a b = some (ret107_79 o) := by rw [e107_79]; exact ho
      simp [bcond_if, z1, z2, ho']
    · have z2 : ¬ E b = 0 := fun h => h2 ((E_val b).1 h)
      refine ⟨[], E b, ?_, ⟨fun _ h => absurd h h2, fun h => absurd h1 h, fun _ _ => ⟨rfl, rfl⟩⟩⟩
      simp [bcond_if, z1, z2]
  · have z1 : ¬ E a = 0 := fun h => h1 ((E_val a).1 h)
    refine ⟨[], E a, ?_, ⟨fun h _ => absurd h h1, fun _ => ⟨rfl, rfl⟩, fun h => absurd h h1⟩⟩
    simp [bcond_if, z1]
theorem op79 (a b : Set_) (hla : a.length ≤ 1048576) (hlb : b.length ≤ 1048576) : ∃ o e, C23 F23 a b = some (ret23 o e) ∧ Ans79 a b o e := by
  obtain ⟨o, e, h, hA⟩ := two79 a b hla hlb
  refine ⟨o, e, ?_, hA⟩
  rw [e23, h]
  simp

/-! ### The walk, 80 -/
def w80 (p q : Bool) : Bool := p && q
theorem cw80 (p q : Bool) : C80 F80 p q = some (ret80 (w80 p q)) := by
  rw [e80]; cases p <;> cases q <;> rfl
theorem step80 (a b : Set_) (hla : a.length ≤ 1048576) (hlb : b.length ≤ 1048576) (ha : Val a) (hb : Val b) (n m : Nat) (out : Set_) (t : Int) (i j : Nat) :
    L107_80_0 F118 F80 F119 n (m + 1) a b out t i j = if i < 2 * a.length ∨ j < 2 * b.length then (if t < nxt a b i j ∧ w80 (od i) (od j) = true then (C119 F119 out (mkS t (nxt a b i j))).bind (fun r => L107_80_1 F118 F80 F119 n m n a b (res119_0 r) (nxt a b i j) i j) else L107_80_1 F118 F80 F119 n m n a b out (nxt a b i j) i j) else some (ret107_80 out) := by
  have wa : IntKind.i64.wrap (2 * (a.length : Int)) = ((2 * a.length : Nat) : Int) := wnat (by omega) (by omega)
  have wb : IntKind.i64.wrap (2 * (b.length : Int)) = ((2 * b.length : Nat) : Int) := wnat (by omega) (by omega)
  have q5 : ∀ z : Int, ((t, z) : YSpan.den) = mkS t z := fun z => rfl
  have two : ¬ ((2 : Int) = 0) := by decide
  rw [L107_80_0_step, wa, wb]
  by_cases h1 : i < 2 * a.length
  · have c1 : decide ((i : Int) < ((2 * a.length : Nat) : Int)) = true := decide_eq_true (by omega)
    have en1 := end_eq a hla i h1
    by_cases h2 : j < 2 * b.length
    · have c2 : decide ((j : Int) < ((2 * b.length : Nat) : Int)) = true := decide_eq_true (by omega)
      have en2 := end_eq b hlb j h2
      have hX : (if (res118_0 (ret118 (en b j)) : Int) < res118_0 (ret118 (en a i)) then res118_0 (ret118 (en b j)) else res118_0 (ret118 (en a i))) = nxt a b i j := by unfold nxt; rw [if_pos h1, if_pos h2]; rfl
      simp only [bcond_if, c1, c2, en1, en2, Option.bind_some, hX, q5, cw80, res80_0_ret, od_eq, if_true, two, if_false, h1, h2, true_or, Bool.true_eq_false, beq_self_eq_true, decide_false, reduceCtorEq, Bool.false_eq_true]
      generalize nxt a b i j = X
      by_cases h3 : t < X <;> cases h4 : w80 (od i) (od j) <;> simp [h3]
    · have c2 : decide ((j : Int) < ((2 * b.length : Nat) : Int)) = false := decide_eq_false (by omega)
      have hX : res118_0 (ret118 (en a i)) = nxt a b i j := by unfold nxt; rw [if_pos h1, if_neg h2]; rfl
      simp only [bcond_if, c1, c2, en1, Option.bind_some, hX, q5, cw80, res80_0_ret, od_eq, if_true, two, if_false, h1, h2, true_or, Bool.true_eq_false, beq_self_eq_true, decide_false, reduceCtorEq, Bool.false_eq_true]
      generalize nxt a b i j = X
      by_cases h3 : t < X <;> cases h4 : w80 (od i) (od j) <;> simp [h3]
  · have c1 : decide ((i : Int) < ((2 * a.length : Nat) : Int)) = false := decide_eq_false (by omega)
    by_cases h2 : j < 2 * b.length
    · have c2 : decide ((j : Int) < ((2 * b.length : Nat) : Int)) = true := decide_eq_true (by omega)
      have en2 := end_eq b hlb j h2
      have hX : (if (res118_0 (ret118 (en b j)) : Int) < 2147483648 then res118_0 (ret118 (en b j)) else 2147483648) = nxt a b i j := by
        unfold nxt
        rw [if_neg h1]
        exact if_pos (show en b j < 2147483648 by have := (en_val hb h2).2; omega)
      simp only [bcond_if, c1, c2, en2, Option.bind_some, hX, q5, cw80, res80_0_ret, od_eq, if_true, two, if_false, h1, h2, or_true, Bool.true_eq_false, beq_self_eq_true, decide_false, reduceCtorEq, Bool.false_eq_true]
      generalize nxt a b i j = X
      by_cases h3 : t < X <;> cases h4 : w80 (od i) (od j) <;> simp [h3]
    · have c2 : decide ((j : Int) < ((2 * b.length : Nat) : Int)) = false := decide_eq_false (by omega)
      simp only [bcond_if, c1, c2, h1, h2, or_self, if_false, beq_self_eq_true, if_true, Bool.false_eq_true]
theorem in1_80 (a b : Set_) (hla : a.length ≤ 1048576) (ha : Val a) (m1 m2 : Nat) (out : Set_) (t : Int) (i j : Nat) :
    L107_80_1 F118 F80 F119 big m1 (m2 + 2) a b out t i j = L107_80_2 F118 F80 F119 big m1 big a b out t ((if i < 2 * a.length ∧ en a i = t then i + 1 else i : Nat) : Int) j := by
  have wa : IntKind.i64.wrap (2 * (a.length : Int)) = ((2 * a.length : Nat) : Int) := wnat (by omega) (by omega)
  have one : ∀ (k m : Nat), ¬ (k < 2 * a.length ∧ en a k = t) → L107_80_1 F118 F80 F119 big m1 (m + 1) a b out t k j = L107_80_2 F118 F80 F119 big m1 big a b out t k j := by
    intro k m hk
    rw [L107_80_1_step, wa]
    by_cases h1 : k < 2 * a.length
    · have c1 : decide ((k : Int) < ((2 * a.length : Nat) : Int)) = true := decide_eq_true (by omega)
      have c2 : (en a k == t) = false := by
        have : ¬ en a k = t := fun e => hk ⟨h1, e⟩
        simpa using this
      simp only [bcond_if, c1, end_eq a hla k h1, Option.bind_some, res118_0_ret, c2, beq_self_eq_true, if_true, if_false, Bool.false_eq_true]
    · have c1 : decide ((k : Int) < ((2 * a.length : Nat) : Int)) = false := decide_eq_false (by omega)
      simp only [bcond_if, c1, if_false, Bool.false_eq_true, Bool.false_beq, Bool.not_true]
  by_cases hk : i < 2 * a.length ∧ en a i = t
  · rw [if_pos hk, L107_80_1_step, wa]
    have c1 : decide ((i : Int) < ((2 * a.length : Nat) : Int)) = true := decide_eq_true (by omega)
    have c2 : (en a i == t) = true := by simpa using hk.2
    have w1 : IntKind.i64.wrap ((i : Int) + 1) = ((i + 1 : Nat) : Int) := wnat (by omega) (by omega)
    simp only [bcond_if, c1, end_eq a hla i hk.1, Option.bind_some, res118_0_ret, c2, beq_self_eq_true, if_true, w1]
    refine one (i + 1) m2 fun h => ?_
    have := en_succ ha.1 h.1
    omega
  · rw [if_neg hk]
    exact one i (m2 + 1) hk
theorem in2_80 (a b : Set_) (hlb : b.length ≤ 1048576) (hb : Val b) (m1 m2 : Nat) (out : Set_) (t : Int) (i j : Nat) :
    L107_80_2 F118 F80 F119 big m1 (m2 + 2) a b out t i j = L107_80_0 F118 F80 F119 big m1 a b out t i ((if j < 2 * b.length ∧ en b j = t then j + 1 else j : Nat) : Int) := by
  have wa : IntKind.i64.wrap (2 * (b.length : Int)) = ((2 * b.length : Nat) : Int) := wnat (by omega) (by omega)
  have one : ∀ (k m : Nat), ¬ (k < 2 * b.length ∧ en b k = t) → L107_80_2 F118 F80 F119 big m1 (m + 1) a b out t i k = L107_80_0 F118 F80 F119 big m1 a b out t i k := by
    intro k m hk
    rw [L107_80_2_step, wa]
    by_cases h1 : k < 2 * b.length
    · have c1 : decide ((k : Int) < ((2 * b.length : Nat) : Int)) = true := decide_eq_true (by omega)
      have c2 : (en b k == t) = false := by
        have : ¬ en b k = t := fun e => hk ⟨h1, e⟩
        simpa using this
      simp only [bcond_if, c1, end_eq b hlb k h1, Option.bind_some, res118_0_ret, c2, beq_self_eq_true, if_true, if_false, Bool.false_eq_true]
    · have c1 : decide ((k : Int) < ((2 * b.length : Nat) : Int)) = false := decide_eq_false (by omega)
      simp only [bcond_if, c1, if_false, Bool.false_eq_true, Bool.false_beq, Bool.not_true]
  by_cases hk : j < 2 * b.length ∧ en b j = t
  · rw [if_pos hk, L107_80_2_step, wa]
    have c1 : decide ((j : Int) < ((2 * b.length : Nat) : Int)) = true := decide_eq_true (by omega)
    have c2 : (en b j == t) = true := by simpa using hk.2
    have w1 : IntKind.i64.wrap ((j : Int) + 1) = ((j + 1 : Nat) : Int) := wnat (by omega) (by omega)
    simp only [bcond_if, c1, end_eq b hlb j hk.1, Option.bind_some, res118_0_ret, c2, beq_self_eq_true, if_true, w1]
    refine one (j + 1) m2 fun h => ?_
    have := en_succ hb.1 h.1
    omega
  · rw [if_neg hk]
    exact one j (m2 + 1) hk
theorem walk80 (a b : Set_) (hla : a.length ≤ 1048576) (hlb : b.length ≤ 1048576) (ha : Val a) (hb : Val b) : ∀ (d : Nat) (m : Nat) (out : Set_) (t : Int) (i j : Nat), 2 * a.length + 2 * b.length ≤ i + j + d → d < m → Inv a b w80 out t i j →
    ∃ out', L107_80_0 F118 F80 F119 big m a b out t i j = some (ret107_80 out') ∧ Fin_ a b w80 out' := by
  obtain ⟨z, hz⟩ := big_succ (n := 1) (by omega)
  have hz2 : big = z + 2 := by omega
  intro d
  induction d with
  | zero =>
    intro m out t i j hd hm I
    cases m with
    | zero => omega
    | succ m =>
    have hn : ¬ (i < 2 * a.length ∨ j < 2 * b.length) := by have := I.ia; have := I.jb; omega
    refine ⟨out, ?_, inv_end ha hb I hn rfl⟩
    rw [step80 a b hla hlb ha hb, if_neg hn]
  | succ d ih =>
    intro m out t i j hd hm I
    cases m with
    | zero => omega
    | succ m =>
    by_cases hn : i < 2 * a.length ∨ j < 2 * b.length
    · have inn : ∀ o t', L107_80_1 F118 F80 F119 big m big a b o t' i j = L107_80_0 F118 F80 F119 big m a b o t' ((if i < 2 * a.length ∧ en a i = t' then i + 1 else i : Nat) : Int) ((if j < 2 * b.length ∧ en b j = t' then j + 1 else j : Nat) : Int) := fun o t' => by
        have h1 := in1_80 a b hla ha m z o t' i j
        have h2 := in2_80 a b hlb hb m z o t' (if i < 2 * a.length ∧ en a i = t' then i + 1 else i) j
        rw [← hz2] at h1 h2
        rw [h1, h2]
      obtain ⟨s1, s2, s3, s4⟩ := inv_step ha hb hla hlb I hn
      rw [step80 a b hla hlb ha hb, if_pos hn]
      by_cases hc : t < nxt a b i j ∧ w80 (od i) (od j) = true
      · rw [if_pos hc]
        obtain ⟨o, ho⟩ := add_ex out (mkS t (nxt a b i j)) (I.l.imp id fun ⟨d, s, h, _⟩ => ⟨d, s, h⟩) (by have := I.ln; have := I.ia; have := I.jb; omega)
        rw [ho, Option.bind_some, res119_0_ret, inn]
        exact ih m _ _ _ _ (by omega) (by omega) (s3 hc o ho)
      · rw [if_neg hc, inn]
        exact ih m _ _ _ _ (by omega) (by omega) (s4 hc)
    · refine ⟨out, ?_, inv_end ha hb I hn rfl⟩
      rw [step80 a b hla hlb ha hb, if_neg hn]
/-- What the operation answers. -/
structure Ans80 (a b o : Set_) (e : Int) : Prop where
  g : Val a → Val b → e = 0 ∧ Fin_ a b w80 o
  b1 : ¬ Val a → e = E a ∧ o = []
  b2 : Val a → ¬ Val b → e = E b ∧ o = []
theorem two80 (a b : Set_) (hla : a.length ≤ 1048576) (hlb : b.length ≤ 1048576) : ∃ o e, C78_80 F78_80 a b = some (ret78_80 o e) ∧ Ans80 a b o e := by
  have ea := (check_eq a (by omega)).1
  have eb := (check_eq b (by omega)).1
  rw [e78_80, ea, eb]
  by_cases h1 : Val a
  · have z1 : E a = 0 := (E_val a).2 h1
    by_cases h2 : Val b
    · have z2 : E b = 0 := (E_val b).2 h2
      obtain ⟨m, hm⟩ := big_succ (n := 4194304) (by omega)
      obtain ⟨o, ho, hf⟩ := walk80 a b hla hlb h1 h2 (2 * a.length + 2 * b.length) big [] 0 0 0 (by omega) (by omega) (inv_start _ h1 h2)
      refine ⟨o, 0, ?_, ⟨fun _ _ => ⟨rfl, hf⟩, fun h => absurd h1 h, fun _ h => absurd h2 h⟩⟩
      have ho' : C107_80 F107_80 a b = some (ret107_80 o) := by rw [e107_80]; exact ho
      simp [bcond_if, z1, z2, ho']
    · have z2 : ¬ E b = 0 := fun h => h2 ((E_val b).1 h)
      refine ⟨[], E b, ?_, ⟨fun _ h => absurd h h2, fun h => absurd h1 h, fun _ _ => ⟨rfl, rfl⟩⟩⟩
      simp [bcond_if, z1, z2]
  · have z1 : ¬ E a = 0 := fun h => h1 ((E_val a).1 h)
    refine ⟨[], E a, ?_, ⟨fun h _ => absurd h h1, fun _ => ⟨rfl, rfl⟩, fun h => absurd h h1⟩⟩
    simp [bcond_if, z1]
theorem op80 (a b : Set_) (hla : a.length ≤ 1048576) (hlb : b.length ≤ 1048576) : ∃ o e, C24 F24 a b = some (ret24 o e) ∧ Ans80 a b o e := by
  obtain ⟨o, e, h, hA⟩ := two80 a b hla hlb
  refine ⟨o, e, ?_, hA⟩
  rw [e24, h]
  simp

/-! ### The walk, 81 -/
def w81 (p q : Bool) : Bool := p && !q
theorem cw81 (p q : Bool) : C81 F81 p q = some (ret81 (w81 p q)) := by
  rw [e81]; cases p <;> cases q <;> rfl
theorem step81 (a b : Set_) (hla : a.length ≤ 1048576) (hlb : b.length ≤ 1048576) (ha : Val a) (hb : Val b) (n m : Nat) (out : Set_) (t : Int) (i j : Nat) :
    L107_81_0 F118 F81 F119 n (m + 1) a b out t i j = if i < 2 * a.length ∨ j < 2 * b.length then (if t < nxt a b i j ∧ w81 (od i) (od j) = true then (C119 F119 out (mkS t (nxt a b i j))).bind (fun r => L107_81_1 F118 F81 F119 n m n a b (res119_0 r) (nxt a b i j) i j) else L107_81_1 F118 F81 F119 n m n a b out (nxt a b i j) i j) else some (ret107_81 out) := by
  have wa : IntKind.i64.wrap (2 * (a.length : Int)) = ((2 * a.length : Nat) : Int) := wnat (by omega) (by omega)
  have wb : IntKind.i64.wrap (2 * (b.length : Int)) = ((2 * b.length : Nat) : Int) := wnat (by omega) (by omega)
  have q5 : ∀ z : Int, ((t, z) : YSpan.den) = mkS t z := fun z => rfl
  have two : ¬ ((2 : Int) = 0) := by decide
  rw [L107_81_0_step, wa, wb]
  by_cases h1 : i < 2 * a.length
  · have c1 : decide ((i : Int) < ((2 * a.length : Nat) : Int)) = true := decide_eq_true (by omega)
    have en1 := end_eq a hla i h1
    by_cases h2 : j < 2 * b.length
    · have c2 : decide ((j : Int) < ((2 * b.length : Nat) : Int)) = true := decide_eq_true (by omega)
      have en2 := end_eq b hlb j h2
      have hX : (if (res118_0 (ret118 (en b j)) : Int) < res118_0 (ret118 (en a i)) then res118_0 (ret118 (en b j)) else res118_0 (ret118 (en a i))) = nxt a b i j := by unfold nxt; rw [if_pos h1, if_pos h2]; rfl
      simp only [bcond_if, c1, c2, en1, en2, Option.bind_some, hX, q5, cw81, res81_0_ret, od_eq, if_true, two, if_false, h1, h2, true_or, Bool.true_eq_false, beq_self_eq_true, decide_false, reduceCtorEq, Bool.false_eq_true]
      generalize nxt a b i j = X
      by_cases h3 : t < X <;> cases h4 : w81 (od i) (od j) <;> simp [h3]
    · have c2 : decide ((j : Int) < ((2 * b.length : Nat) : Int)) = false := decide_eq_false (by omega)
      have hX : res118_0 (ret118 (en a i)) = nxt a b i j := by unfold nxt; rw [if_pos h1, if_neg h2]; rfl
      simp only [bcond_if, c1, c2, en1, Option.bind_some, hX, q5, cw81, res81_0_ret, od_eq, if_true, two, if_false, h1, h2, true_or, Bool.true_eq_false, beq_self_eq_true, decide_false, reduceCtorEq, Bool.false_eq_true]
      generalize nxt a b i j = X
      by_cases h3 : t < X <;> cases h4 : w81 (od i) (od j) <;> simp [h3]
  · have c1 : decide ((i : Int) < ((2 * a.length : Nat) : Int)) = false := decide_eq_false (by omega)
    by_cases h2 : j < 2 * b.length
    · have c2 : decide ((j : Int) < ((2 * b.length : Nat) : Int)) = true := decide_eq_true (by omega)
      have en2 := end_eq b hlb j h2
      have hX : (if (res118_0 (ret118 (en b j)) : Int) < 2147483648 then res118_0 (ret118 (en b j)) else 2147483648) = nxt a b i j := by
        unfold nxt
        rw [if_neg h1]
        exact if_pos (show en b j < 2147483648 by have := (en_val hb h2).2; omega)
      simp only [bcond_if, c1, c2, en2, Option.bind_some, hX, q5, cw81, res81_0_ret, od_eq, if_true, two, if_false, h1, h2, or_true, Bool.true_eq_false, beq_self_eq_true, decide_false, reduceCtorEq, Bool.false_eq_true]
      generalize nxt a b i j = X
      by_cases h3 : t < X <;> cases h4 : w81 (od i) (od j) <;> simp [h3]
    · have c2 : decide ((j : Int) < ((2 * b.length : Nat) : Int)) = false := decide_eq_false (by omega)
      simp only [bcond_if, c1, c2, h1, h2, or_self, if_false, beq_self_eq_true, if_true, Bool.false_eq_true]
theorem in1_81 (a b : Set_) (hla : a.length ≤ 1048576) (ha : Val a) (m1 m2 : Nat) (out : Set_) (t : Int) (i j : Nat) :
    L107_81_1 F118 F81 F119 big m1 (m2 + 2) a b out t i j = L107_81_2 F118 F81 F119 big m1 big a b out t ((if i < 2 * a.length ∧ en a i = t then i + 1 else i : Nat) : Int) j := by
  have wa : IntKind.i64.wrap (2 * (a.length : Int)) = ((2 * a.length : Nat) : Int) := wnat (by omega) (by omega)
  have one : ∀ (k m : Nat), ¬ (k < 2 * a.length ∧ en a k = t) → L107_81_1 F118 F81 F119 big m1 (m + 1) a b out t k j = L107_81_2 F118 F81 F119 big m1 big a b out t k j := by
    intro k m hk
    rw [L107_81_1_step, wa]
    by_cases h1 : k < 2 * a.length
    · have c1 : decide ((k : Int) < ((2 * a.length : Nat) : Int)) = true := decide_eq_true (by omega)
      have c2 : (en a k == t) = false := by
        have : ¬ en a k = t := fun e => hk ⟨h1, e⟩
        simpa using this
      simp only [bcond_if, c1, end_eq a hla k h1, Option.bind_some, res118_0_ret, c2, beq_self_eq_true, if_true, if_false, Bool.false_eq_true]
    · have c1 : decide ((k : Int) < ((2 * a.length : Nat) : Int)) = false := decide_eq_false (by omega)
      simp only [bcond_if, c1, if_false, Bool.false_eq_true, Bool.false_beq, Bool.not_true]
  by_cases hk : i < 2 * a.length ∧ en a i = t
  · rw [if_pos hk, L107_81_1_step, wa]
    have c1 : decide ((i : Int) < ((2 * a.length : Nat) : Int)) = true := decide_eq_true (by omega)
    have c2 : (en a i == t) = true := by simpa using hk.2
    have w1 : IntKind.i64.wrap ((i : Int) + 1) = ((i + 1 : Nat) : Int) := wnat (by omega) (by omega)
    simp only [bcond_if, c1, end_eq a hla i hk.1, Option.bind_some, res118_0_ret, c2, beq_self_eq_true, if_true, w1]
    refine one (i + 1) m2 fun h => ?_
    have := en_succ ha.1 h.1
    omega
  · rw [if_neg hk]
    exact one i (m2 + 1) hk
theorem in2_81 (a b : Set_) (hlb : b.length ≤ 1048576) (hb : Val b) (m1 m2 : Nat) (out : Set_) (t : Int) (i j : Nat) :
    L107_81_2 F118 F81 F119 big m1 (m2 + 2) a b out t i j = L107_81_0 F118 F81 F119 big m1 a b out t i ((if j < 2 * b.length ∧ en b j = t then j + 1 else j : Nat) : Int) := by
  have wa : IntKind.i64.wrap (2 * (b.length : Int)) = ((2 * b.length : Nat) : Int) := wnat (by omega) (by omega)
  have one : ∀ (k m : Nat), ¬ (k < 2 * b.length ∧ en b k = t) → L107_81_2 F118 F81 F119 big m1 (m + 1) a b out t i k = L107_81_0 F118 F81 F119 big m1 a b out t i k := by
    intro k m hk
    rw [L107_81_2_step, wa]
    by_cases h1 : k < 2 * b.length
    · have c1 : decide ((k : Int) < ((2 * b.length : Nat) : Int)) = true := decide_eq_true (by omega)
      have c2 : (en b k == t) = false := by
        have : ¬ en b k = t := fun e => hk ⟨h1, e⟩
        simpa using this
      simp only [bcond_if, c1, end_eq b hlb k h1, Option.bind_some, res118_0_ret, c2, beq_self_eq_true, if_true, if_false, Bool.false_eq_true]
    · have c1 : decide ((k : Int) < ((2 * b.length : Nat) : Int)) = false := decide_eq_false (by omega)
      simp only [bcond_if, c1, if_false, Bool.false_eq_true, Bool.false_beq, Bool.not_true]
  by_cases hk : j < 2 * b.length ∧ en b j = t
  · rw [if_pos hk, L107_81_2_step, wa]
    have c1 : decide ((j : Int) < ((2 * b.length : Nat) : Int)) = true := decide_eq_true (by omega)
    have c2 : (en b j == t) = true := by simpa using hk.2
    have w1 : IntKind.i64.wrap ((j : Int) + 1) = ((j + 1 : Nat) : Int) := wnat (by omega) (by omega)
    simp only [bcond_if, c1, end_eq b hlb j hk.1, Option.bind_some, res118_0_ret, c2, beq_self_eq_true, if_true, w1]
    refine one (j + 1) m2 fun h => ?_
    have := en_succ hb.1 h.1
    omega
  · rw [if_neg hk]
    exact one j (m2 + 1) hk
theorem walk81 (a b : Set_) (hla : a.length ≤ 1048576) (hlb : b.length ≤ 1048576) (ha : Val a) (hb : Val b) : ∀ (d : Nat) (m : Nat) (out : Set_) (t : Int) (i j : Nat), 2 * a.length + 2 * b.length ≤ i + j + d → d < m → Inv a b w81 out t i j →
    ∃ out', L107_81_0 F118 F81 F119 big m a b out t i j = some (ret107_81 out') ∧ Fin_ a b w81 out' := by
  obtain ⟨z, hz⟩ := big_succ (n := 1) (by omega)
  have hz2 : big = z + 2 := by omega
  intro d
  induction d with
  | zero =>
    intro m out t i j hd hm I
    cases m with
    | zero => omega
    | succ m =>
    have hn : ¬ (i < 2 * a.length ∨ j < 2 * b.length) := by have := I.ia; have := I.jb; omega
    refine ⟨out, ?_, inv_end ha hb I hn rfl⟩
    rw [step81 a b hla hlb ha hb, if_neg hn]
  | succ d ih =>
    intro m out t i j hd hm I
    cases m with
    | zero => omega
    | succ m =>
    by_cases hn : i < 2 * a.length ∨ j < 2 * b.length
    · have inn : ∀ o t', L107_81_1 F118 F81 F119 big m big a b o t' i j = L107_81_0 F118 F81 F119 big m a b o t' ((if i < 2 * a.length ∧ en a i = t' then i + 1 else i : Nat) : Int) ((if j < 2 * b.length ∧ en b j = t' then j + 1 else j : Nat) : Int) := fun o t' => by
        have h1 := in1_81 a b hla ha m z o t' i j
        have h2 := in2_81 a b hlb hb m z o t' (if i < 2 * a.length ∧ en a i = t' then i + 1 else i) j
        rw [← hz2] at h1 h2
        rw [h1, h2]
      obtain ⟨s1, s2, s3, s4⟩ := inv_step ha hb hla hlb I hn
      rw [step81 a b hla hlb ha hb, if_pos hn]
      by_cases hc : t < nxt a b i j ∧ w81 (od i) (od j) = true
      · rw [if_pos hc]
        obtain ⟨o, ho⟩ := add_ex out (mkS t (nxt a b i j)) (I.l.imp id fun ⟨d, s, h, _⟩ => ⟨d, s, h⟩) (by have := I.ln; have := I.ia; have := I.jb; omega)
        rw [ho, Option.bind_some, res119_0_ret, inn]
        exact ih m _ _ _ _ (by omega) (by omega) (s3 hc o ho)
      · rw [if_neg hc, inn]
        exact ih m _ _ _ _ (by omega) (by omega) (s4 hc)
    · refine ⟨out, ?_, inv_end ha hb I hn rfl⟩
      rw [step81 a b hla hlb ha hb, if_neg hn]
/-- What the operation answers. -/
structure Ans81 (a b o : Set_) (e : Int) : Prop where
  g : Val a → Val b → e = 0 ∧ Fin_ a b w81 o
  b1 : ¬ Val a → e = E a ∧ o = []
  b2 : Val a → ¬ Val b → e = E b ∧ o = []
theorem two81 (a b : Set_) (hla : a.length ≤ 1048576) (hlb : b.length ≤ 1048576) : ∃ o e, C78_81 F78_81 a b = some (ret78_81 o e) ∧ Ans81 a b o e := by
  have ea := (check_eq a (by omega)).1
  have eb := (check_eq b (by omega)).1
  rw [e78_81, ea, eb]
  by_cases h1 : Val a
  · have z1 : E a = 0 := (E_val a).2 h1
    by_cases h2 : Val b
    · have z2 : E b = 0 := (E_val b).2 h2
      obtain ⟨m, hm⟩ := big_succ (n := 4194304) (by omega)
      obtain ⟨o, ho, hf⟩ := walk81 a b hla hlb h1 h2 (2 * a.length + 2 * b.length) big [] 0 0 0 (by omega) (by omega) (inv_start _ h1 h2)
      refine ⟨o, 0, ?_, ⟨fun _ _ => ⟨rfl, hf⟩, fun h => absurd h1 h, fun _ h => absurd h2 h⟩⟩
      have ho' : C107_81 F107_81 a b = some (ret107_81 o) := by rw [e107_81]; exact ho
      simp [bcond_if, z1, z2, ho']
    · have z2 : ¬ E b = 0 := fun h => h2 ((E_val b).1 h)
      refine ⟨[], E b, ?_, ⟨fun _ h => absurd h h2, fun h => absurd h1 h, fun _ _ => ⟨rfl, rfl⟩⟩⟩
      simp [bcond_if, z1, z2]
  · have z1 : ¬ E a = 0 := fun h => h1 ((E_val a).1 h)
    refine ⟨[], E a, ?_, ⟨fun h _ => absurd h h1, fun _ => ⟨rfl, rfl⟩, fun h => absurd h h1⟩⟩
    simp [bcond_if, z1]
theorem op81 (a b : Set_) (hla : a.length ≤ 1048576) (hlb : b.length ≤ 1048576) : ∃ o e, C25 F25 a b = some (ret25 o e) ∧ Ans81 a b o e := by
  obtain ⟨o, e, h, hA⟩ := two81 a b hla hlb
  refine ⟨o, e, ?_, hA⟩
  rw [e25, h]
  simp

end Go.Ev.Span
