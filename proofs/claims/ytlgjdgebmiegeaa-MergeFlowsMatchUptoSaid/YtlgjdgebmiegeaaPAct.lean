
import Derived.Test.YtlgjdgebmiegeaaPWriter
namespace Go.Ev.Delta
open Go.Ev Go.Ev.Attr Go.Ev.Track
set_option linter.unusedVariables false
set_option linter.unusedSimpArgs false
/-- What a writer holds: what is out, what is to be added, how much is to be cut. -/
abbrev W := Steps × Flow × Int
def w0 : W := ([], [], 0)
def out (w : W) : Steps := fl w.1 w.2.1 w.2.2
def uE (x : Flow) (w : W) : W := (w.1, w.2.1 ++ x, w.2.2)
def uC (w : W) : W := (w.1, w.2.1, w.2.2 + 1)
def uK (t : Attrs) (w : W) : W := (mrgK (out w) 1 t, [], 0)
def unit (c : Bool) (t : Attrs) (w : W) : W := if c = true then uC w else uK t w
def runA : List Flow → List Bool → List Attrs → W → W
  | x :: xs, c :: cs, t :: ts, w => runA xs cs ts (unit c t (uE x w))
  | [x], _, _, w => uE x w
  | _, _, _, w => w
theorem uE_nil (w : W) : uE [] w = w := by unfold uE; simp
theorem uE_uE (x y : Flow) (w : W) : uE y (uE x w) = uE (x ++ y) w := by unfold uE; simp
theorem runA_snoc : ∀ (xs : List Flow) (cs : List Bool) (ts : List Attrs) (c : Bool) (t : Attrs) (w : W), xs.length = cs.length + 1 → ts.length = cs.length →
    runA (xs ++ [[]]) (cs ++ [c]) (ts ++ [t]) w = unit c t (runA xs cs ts w)
  | [], cs, ts, c, t, w, h1, h2 => by simp at h1
  | [x], [], [], c, t, w, h1, h2 => by
    show runA [[]] [] [] (unit c t (uE x w)) = unit c t (uE x w)
    exact uE_nil _
  | x :: y :: xs, [], ts, c, t, w, h1, h2 => by simp at h1
  | [x], [], _ :: _, c, t, w, h1, h2 => by simp at h2
  | [x], _ :: _, ts, c, t, w, h1, h2 => by simp at h1
  | x :: y :: xs, d :: cs, [], c, t, w, h1, h2 => by simp at h2
  | x :: y :: xs, d :: cs, s :: ts, c, t, w, h1, h2 => by
    show runA (y :: xs ++ [[]]) (cs ++ [c]) (ts ++ [t]) (unit d s (uE x w)) = unit c t (runA (y :: xs) cs ts (unit d s (uE x w)))
    exact runA_snoc (y :: xs) cs ts c t _ (by simpa using h1) (by simpa using h2)
theorem runA_last : ∀ (xs : List Flow) (cs : List Bool) (ts : List Attrs) (l e : Flow) (w : W), xs.length = cs.length → ts.length = cs.length →
    runA (xs ++ [l ++ e]) cs ts w = uE e (runA (xs ++ [l]) cs ts w)
  | [], [], [], l, e, w, h1, h2 => (uE_uE l e w).symm
  | [], _ :: _, ts, l, e, w, h1, h2 => by simp at h1
  | [], [], _ :: _, l, e, w, h1, h2 => by simp at h2
  | x :: xs, [], ts, l, e, w, h1, h2 => by simp at h1
  | x :: xs, d :: cs, [], l, e, w, h1, h2 => by simp at h2
  | x :: xs, d :: cs, s :: ts, l, e, w, h1, h2 => by
    show runA (xs ++ [l ++ e]) cs ts (unit d s (uE x w)) = uE e (runA (xs ++ [l]) cs ts (unit d s (uE x w)))
    exact runA_last xs cs ts l e _ (by simpa using h1) (by simpa using h2)
def units (n : Nat) (c : Bool) (t : Attrs) (w : W) : W := n.rec w fun _ w => unit c t w
theorem units_succ (n : Nat) (c : Bool) (t : Attrs) (w : W) : units (n + 1) c t w = unit c t (units n c t w) := rfl
theorem units_first (n : Nat) (c : Bool) (t : Attrs) (w : W) : units (n + 1) c t w = units n c t (unit c t w) := by
  induction n with
  | zero => rfl
  | succ n ih => rw [units_succ, ih]; rfl
theorem runA_units (n : Nat) (xs : List Flow) (cs : List Bool) (ts : List Attrs) (c : Bool) (t : Attrs) (w : W) (h1 : xs.length = cs.length + 1) (h2 : ts.length = cs.length) :
    runA (xs ++ List.replicate n []) (cs ++ List.replicate n c) (ts ++ List.replicate n t) w = units n c t (runA xs cs ts w) := by
  induction n with
  | zero =>
    rw [List.replicate_zero, List.replicate_zero, List.replicate_zero, List.append_nil, List.append_nil, List.append_nil]
    rfl
  | succ n ih =>
    rw [units_succ, ← ih, ← runA_snoc _ _ _ _ _ _ (by simp; omega) (by simp; omega)]
    rw [List.replicate_succ', List.replicate_succ', List.replicate_succ', List.append_assoc, List.append_assoc, List.append_assoc]
/-- A step, unit by unit. -/
def stU (s : YStep.den) (w : W) : W := if sk s = 1 then uE (se s) w else units (sn s).toNat (sk s == 2) (sa s) w
def runU : Steps → W → W
  | [], w => w
  | s :: l, w => runU l (stU s w)
abbrev Act := List Flow × List Bool × List Attrs
def stA (s : YStep.den) (a : Act) : Act := if sk s = 1 then (a.1.set (a.1.length - 1) ((a.1.getD (a.1.length - 1) []) ++ se s), a.2.1, a.2.2) else
  (a.1 ++ List.replicate (sn s).toNat [], a.2.1 ++ List.replicate (sn s).toNat (sk s == 2), a.2.2 ++ List.replicate (sn s).toNat (sa s))
def actL : Steps → Act → Act
  | [], a => a
  | s :: l, a => actL l (stA s a)
def A0 : Act := ([[]], [], [])
structure AOk (a : Act) : Prop where
  h1 : a.1.length = a.2.1.length + 1
  h2 : a.2.2.length = a.2.1.length
theorem snoc_of {α : Type} (l : List α) (n : Nat) (h : l.length = n + 1) : ∃ A x, l = A ++ [x] ∧ A.length = n := by
  rcases List.eq_nil_or_concat l with h2 | ⟨A, x, h2⟩
  · subst h2; simp at h
  · have h3 : l = A ++ [x] := by simpa using h2
    exact ⟨A, x, h3, by rw [h3] at h; simpa using h⟩
theorem stA_ok {a : Act} (s : YStep.den) (h : AOk a) : AOk (stA s a) := by
  unfold stA
  split
  · exact ⟨by simpa using h.h1, h.h2⟩
  · exact ⟨by have := h.h1; simp; omega, by have := h.h2; simp; omega⟩
theorem stA_run {a : Act} (s : YStep.den) (h : AOk a) (w : W) : runA (stA s a).1 (stA s a).2.1 (stA s a).2.2 w = stU s (runA a.1 a.2.1 a.2.2 w) := by
  unfold stA stU
  split
  · obtain ⟨A, x, hA, hl⟩ := snoc_of a.1 _ h.h1
    simp only
    have e1 : a.1.getD (a.1.length - 1) [] = x := by
      rw [hA]; simp [List.getD_eq_getElem?_getD]
    have e2 : a.1.set (a.1.length - 1) (x ++ se s) = A ++ [x ++ se s] := by
      rw [hA]; simp
    rw [e1, e2, runA_last A _ _ x (se s) w hl h.h2, ← hA]
  · exact runA_units _ _ _ _ _ _ _ h.h1 h.h2
theorem actL_run : ∀ (l : Steps) (a : Act) (w : W), AOk a → AOk (actL l a) ∧ runA (actL l a).1 (actL l a).2.1 (actL l a).2.2 w = runU l (runA a.1 a.2.1 a.2.2 w)
  | [], a, w, h => ⟨h, rfl⟩
  | s :: l, a, w, h => by
    obtain ⟨q1, q2⟩ := actL_run l (stA s a) w (stA_ok s h)
    refine ⟨q1, ?_⟩
    show runA (actL l (stA s a)).1 (actL l (stA s a)).2.1 (actL l (stA s a)).2.2 w = runU l (stU s _)
    rw [q2, stA_run s h]
theorem act_run (l : Steps) : AOk (actL l A0) ∧ runA (actL l A0).1 (actL l A0).2.1 (actL l A0).2.2 w0 = runU l w0 := by
  obtain ⟨q1, q2⟩ := actL_run l A0 w0 ⟨rfl, rfl⟩
  refine ⟨q1, ?_⟩
  rw [q2]
  show runU l (uE [] w0) = _
  rw [uE_nil]
def eb : Steps → Nat
  | [] => 0
  | s :: l => (se s).length + eb l
def nb : Steps → Nat
  | [] => 0
  | s :: l => (if sk s = 1 then 0 else (sn s).toNat) + nb l
theorem act_inner (l : Steps) (n m1 i : Nat) (k N : Int) (hN : N ≤ 4194304) (t : Attrs) (e : Flow) : ∀ (d j m : Nat) (xs : List Flow) (cs : List Bool) (ts : List Attrs), (j : Int) + d = N → d < m → xs.length + d ≤ 4194304 → cs.length + d ≤ 4194304 → ts.length + d ≤ 4194304 →
    L_R_ActOf_1 n m1 m l xs cs ts k N t e (l.length : Int) (i : Int) N (j : Int) = L_R_ActOf_0 n m1 l (xs ++ List.replicate d []) (cs ++ List.replicate d (k == 2)) (ts ++ List.replicate d t) (l.length : Int) (IntKind.i64.wrap ((i : Int) + 1)) := by
  intro d
  induction d with
  | zero =>
    intro j m xs cs ts hj hm h1 h2 h3
    cases m with
    | zero => omega
    | succ m =>
    have c1 : decide ((j : Int) < N) = false := decide_eq_false (by omega)
    rw [L_R_ActOf_1_step]
    simp [bcond_if, c1]
  | succ d ih =>
    intro j m xs cs ts hj hm h1 h2 h3
    cases m with
    | zero => omega
    | succ m =>
    have c1 : decide ((j : Int) < N) = true := decide_eq_true (by omega)
    have w1 : IntKind.i64.wrap ((j : Int) + 1) = ((j + 1 : Nat) : Int) := wnat (by omega) (by omega)
    have b1 : ∀ x : Flow, (xs.length + [x].length) * 24 ≤ 140737488355328 := fun x => by have : [x].length = 1 := rfl; omega
    have b2 : ∀ x : Bool, (cs.length + [x].length) * 1 ≤ 140737488355328 := fun x => by have : [x].length = 1 := rfl; omega
    have b3 : ∀ x : Attrs, (ts.length + [x].length) * 24 ≤ 140737488355328 := fun x => by have : [x].length = 1 := rfl; omega
    have b1' : (List.length (xs : List (Ty.list YElem).den) + List.length ([[]] : List (Ty.list YElem).den)) * 24 ≤ 140737488355328 := b1 []
    have b3' : (List.length (ts : List (Ty.list YAttr).den) + List.length ([t] : List (Ty.list YAttr).den)) * 24 ≤ 140737488355328 := b3 t
    have := ih (j + 1) m (xs ++ [[]]) (cs ++ [(k == 2)]) (ts ++ [t]) (by omega) (by omega) (by simp; omega) (by simp; omega) (by simp; omega)
    rw [L_R_ActOf_1_step, c1, if_pos b1', if_pos (b2 _), if_pos b3', w1]
    show L_R_ActOf_1 n m1 m l (xs ++ [[]]) (cs ++ [(k == 2)]) (ts ++ [t]) k N t e (l.length : Int) (i : Int) N ((j + 1 : Nat) : Int) = _
    rw [this, List.append_assoc, List.append_assoc, List.append_assoc]
    rfl
theorem getD_at (xs : List Flow) (k : Nat) : at_ (e := .list YElem) xs (k : Int) = xs.getD k [] := rfl
theorem act_loop (l : Steps) (hlen : l.length ≤ 1048576) (hv : ∀ s ∈ l, sk s = 1 ∨ 0 ≤ sn s) : ∀ (d i m : Nat) (a : Act), i + d = l.length → d < m → AOk a → a.2.1.length + nb (l.drop i) ≤ 4194303 → (∀ k, (a.1.getD k []).length + eb (l.drop i) ≤ 4194304) →
    L_R_ActOf_0 big m l a.1 a.2.1 a.2.2 (l.length : Int) i = some (ret_R_ActOf (actL (l.drop i) a)) := by
  obtain ⟨z, hz⟩ := big_succ (n := 4194304) (by omega)
  intro d
  induction d with
  | zero =>
    intro i m a hi hm ha h1 h2
    cases m with
    | zero => omega
    | succ m =>
    have : i = l.length := by omega
    subst this
    have c1 : decide ((l.length : Int) < (l.length : Int)) = false := decide_eq_false (by omega)
    rw [L_R_ActOf_0_step, List.drop_length]
    simp [bcond_if, c1, actL]
  | succ d ih =>
    intro i m a hi hm ha h1 h2
    cases m with
    | zero => omega
    | succ m =>
    have hil : i < l.length := by omega
    have c1 : decide ((i : Int) < (l.length : Int)) = true := decide_eq_true (by omega)
    have w1 : IntKind.i64.wrap ((i : Int) + 1) = ((i + 1 : Nat) : Int) := wnat (by omega) (by omega)
    have ea0 : at_ (e := YStep) l (i : Int) = atT l i := rfl
    have e1 : (atT l i).1 = sk (atT l i) := rfl
    have e2 : (atT l i).2.1 = sn (atT l i) := rfl
    have e3 : (atT l i).2.2.1 = sa (atT l i) := rfl
    have e4 : (atT l i).2.2.2 = se (atT l i) := rfl
    have a1 := ha.h1
    have a2 := ha.h2
    have hsi := hv _ (atT_mem l hil)
    rw [drop_step l hil] at h1 h2 ⊢
    simp only [eb, nb] at h1 h2
    have IH := ih (i + 1) m (stA (atT l i) a) (by omega) (by omega) (stA_ok _ ha)
    rw [L_R_ActOf_0_step]
    show _ = some (ret_R_ActOf (actL (l.drop (i + 1)) (stA (atT l i) a)))
    by_cases hk : sk (atT l i) = 1
    · have w2 : IntKind.i64.wrap ((a.1.length : Int) - 1) = ((a.1.length - 1 : Nat) : Int) := wnat (by omega) (by omega)
      have w2' : IntKind.i64.wrap ((List.length (a.1 : List (List YElem.den)) : Int) - 1) = ((a.1.length - 1 : Nat) : Int) := w2
      have q1 : a.1.length - 1 < a.1.length := by omega
      have hk2 := h2 (a.1.length - 1)
      have b1 : (List.length ([] : List YElem.den) + (a.1.getD (a.1.length - 1) []).length) * 40 ≤ 140737488355328 := by
        have : List.length ([] : List YElem.den) = 0 := rfl
        omega
      have b2 : (List.length (([] : List YElem.den) ++ a.1.getD (a.1.length - 1) []) + (se (atT l i)).length) * 40 ≤ 140737488355328 := by
        rw [List.nil_append]; omega
      have eS : stA (atT l i) a = (a.1.set (a.1.length - 1) ((a.1.getD (a.1.length - 1) []) ++ se (atT l i)), a.2.1, a.2.2) := by unfold stA; rw [if_pos hk]
      rw [eS] at IH ⊢
      rw [if_pos hk] at h1
      have IH := IH (by simpa using h1) (fun k => by
        have hk3 := h2 k
        rw [List.getD_eq_getElem?_getD, List.getElem?_set]
        by_cases hkk : a.1.length - 1 = k
        · subst hkk
          rw [if_pos rfl, if_pos q1]
          simp only [Option.getD_some, List.length_append]
          omega
        · rw [if_neg hkk, ← List.getD_eq_getElem?_getD]
          omega)
      rw [w2', getD_at]
      simp only [bcond_if, c1, if_true, inb, hil, w1, ea0, e1, e4, hk, beq_self_eq_true, q1, b1, b2, Int.toNat_natCast, List.nil_append]
      rw [List.nil_append] at b2
      simp only [b2, if_true]
      exact IH
    · have hN := hsi.resolve_left hk
      have hkb : (sk (atT l i) == 1) = false := by simpa using hk
      have eS : stA (atT l i) a = (a.1 ++ List.replicate (sn (atT l i)).toNat [], a.2.1 ++ List.replicate (sn (atT l i)).toNat (sk (atT l i) == 2), a.2.2 ++ List.replicate (sn (atT l i)).toNat (sa (atT l i))) := by unfold stA; rw [if_neg hk]
      rw [if_neg hk] at h1
      have inn := act_inner l big m i (sk (atT l i)) (sn (atT l i)) (by omega) (sa (atT l i)) (se (atT l i)) (sn (atT l i)).toNat 0 big a.1 a.2.1 a.2.2 (by omega) (by omega) (by omega) (by omega) (by omega)
      rw [w1] at inn
      rw [eS] at IH ⊢
      have IH := IH (by simp only [List.length_append, List.length_replicate]; omega) (fun k => by
        have hk3 := h2 k
        have : (a.1 ++ List.replicate (sn (atT l i)).toNat []).getD k [] = a.1.getD k [] := by
          rw [List.getD_eq_getElem?_getD, List.getD_eq_getElem?_getD, List.getElem?_append]
          by_cases hkk : k < a.1.length
          · rw [if_pos hkk]
          · rw [if_neg hkk, List.getElem?_eq_none (l := a.1) (by omega), List.getElem?_replicate]
            split <;> rfl
        rw [this]; omega)
      simp only [bcond_if, c1, if_true, inb, hil, ea0, e1, e2, e3, e4, hkb, if_false, Bool.false_eq_true]
      have inn' : L_R_ActOf_1 big m big l a.1 a.2.1 a.2.2 (sk (atT l i)) (sn (atT l i)) (sa (atT l i)) (se (atT l i)) (l.length : Int) (i : Int) (sn (atT l i)) 0 = L_R_ActOf_0 big m l (a.1 ++ List.replicate (sn (atT l i)).toNat []) (a.2.1 ++ List.replicate (sn (atT l i)).toNat (sk (atT l i) == 2)) (a.2.2 ++ List.replicate (sn (atT l i)).toNat (sa (atT l i))) (l.length : Int) ((i + 1 : Nat) : Int) := inn
      rw [inn']
      exact IH
end Go.Ev.Delta
