
import Derived.Test.YtlgjdgebmiegeaaPTidy
namespace Go.Ev.Delta
open Go.Ev Go.Ev.Attr Go.Ev.Track
set_option linter.unusedVariables false
set_option linter.unusedSimpArgs false
inductive U where
  | a (x : YElem.den)
  | c
  | k (t : Attrs)
def uU : U → W → W
  | .a x, w => uE [x] w
  | .c, w => uC w
  | .k t, w => uK t w
def runP : List U → W → W
  | [], w => w
  | u :: us, w => runP us (uU u w)
theorem runP_append : ∀ (us vs : List U) (w : W), runP (us ++ vs) w = runP vs (runP us w)
  | [], vs, w => rfl
  | u :: us, vs, w => runP_append us vs (uU u w)
theorem runP_a : ∀ (x : Flow) (w : W), runP (x.map U.a) w = uE x w
  | [], w => (uE_nil w).symm
  | y :: x, w => by
    show runP (x.map U.a) (uE [y] w) = _
    rw [runP_a x, uE_uE]; rfl
def uni (c : Bool) (t : Attrs) : U := if c = true then .c else .k t
theorem uU_uni (c : Bool) (t : Attrs) (w : W) : uU (uni c t) w = unit c t w := by cases c <;> rfl
theorem runP_units (n : Nat) (c : Bool) (t : Attrs) (w : W) : runP (List.replicate n (uni c t)) w = units n c t w := by
  induction n generalizing w with
  | zero => rfl
  | succ n ih =>
    rw [List.replicate_succ, units_first, ← ih]
    show runP _ (uU (uni c t) w) = _
    rw [uU_uni]
def exS (s : YStep.den) : List U := if sk s = 1 then (se s).map U.a else List.replicate (sn s).toNat (uni (sk s == 2) (sa s))
def ex : Steps → List U
  | [] => []
  | s :: l => exS s ++ ex l
theorem runP_exS (s : YStep.den) (w : W) : runP (exS s) w = stU s w := by
  unfold exS stU
  split
  · exact runP_a _ _
  · exact runP_units _ _ _ _
theorem runU_ex : ∀ (l : Steps) (w : W), runU l w = runP (ex l) w
  | [], w => rfl
  | s :: l, w => by
    show runU l (stU s w) = runP (exS s ++ ex l) w
    rw [runP_append, runP_exS, runU_ex l]
def ilL : List Flow → List Bool → List Attrs → List U
  | x :: xs, c :: cs, t :: ts => x.map U.a ++ uni c t :: ilL xs cs ts
  | [x], _, _ => x.map U.a
  | _, _, _ => []
theorem ilL_snoc : ∀ (xs : List Flow) (cs : List Bool) (ts : List Attrs) (c : Bool) (t : Attrs), xs.length = cs.length + 1 → ts.length = cs.length →
    ilL (xs ++ [[]]) (cs ++ [c]) (ts ++ [t]) = ilL xs cs ts ++ [uni c t]
  | [], cs, ts, c, t, h1, h2 => by simp at h1
  | [x], [], [], c, t, h1, h2 => by simp [ilL]
  | x :: y :: xs, [], ts, c, t, h1, h2 => by simp at h1
  | [x], [], _ :: _, c, t, h1, h2 => by simp at h2
  | [x], _ :: _, ts, c, t, h1, h2 => by simp at h1
  | x :: y :: xs, d :: cs, [], c, t, h1, h2 => by simp at h2
  | x :: y :: xs, d :: cs, s :: ts, c, t, h1, h2 => by
    show x.map U.a ++ uni d s :: ilL (y :: xs ++ [[]]) (cs ++ [c]) (ts ++ [t]) = x.map U.a ++ uni d s :: ilL (y :: xs) cs ts ++ [uni c t]
    rw [ilL_snoc (y :: xs) cs ts c t (by simpa using h1) (by simpa using h2)]
    simp
theorem ilL_last : ∀ (xs : List Flow) (cs : List Bool) (ts : List Attrs) (l e : Flow), xs.length = cs.length → ts.length = cs.length →
    ilL (xs ++ [l ++ e]) cs ts = ilL (xs ++ [l]) cs ts ++ e.map U.a
  | [], [], [], l, e, h1, h2 => by simp [ilL]
  | [], _ :: _, ts, l, e, h1, h2 => by simp at h1
  | [], [], _ :: _, l, e, h1, h2 => by simp at h2
  | x :: xs, [], ts, l, e, h1, h2 => by simp at h1
  | x :: xs, d :: cs, [], l, e, h1, h2 => by simp at h2
  | x :: xs, d :: cs, s :: ts, l, e, h1, h2 => by
    show x.map U.a ++ uni d s :: ilL (xs ++ [l ++ e]) cs ts = x.map U.a ++ uni d s :: ilL (xs ++ [l]) cs ts ++ e.map U.a
    rw [ilL_last xs cs ts l e (by simpa using h1) (by simpa using h2)]
    simp
def il (a : Act) : List U := ilL a.1 a.2.1 a.2.2
/-- More is added at an act's end. -/
def aE (x : Flow) (a : Act) : Act := (a.1.set (a.1.length - 1) ((a.1.getD (a.1.length - 1) []) ++ x), a.2.1, a.2.2)
/-- One more unit. -/
def aU (c : Bool) (t : Attrs) (a : Act) : Act := (a.1 ++ [[]], a.2.1 ++ [c], a.2.2 ++ [t])
theorem aE_ok {a : Act} (x : Flow) (h : AOk a) : AOk (aE x a) := ⟨by simpa [aE] using h.h1, h.h2⟩
theorem aU_ok {a : Act} (c : Bool) (t : Attrs) (h : AOk a) : AOk (aU c t a) := ⟨by have := h.h1; simp [aU]; omega, by have := h.h2; simp [aU]; omega⟩
theorem aE_il {a : Act} (x : Flow) (h : AOk a) : il (aE x a) = il a ++ x.map U.a := by
  obtain ⟨A, y, hA, hl⟩ := snoc_of a.1 _ h.h1
  have e1 : a.1.getD (a.1.length - 1) [] = y := by
    rw [hA]; simp [List.getD_eq_getElem?_getD]
  have e2 : a.1.set (a.1.length - 1) (y ++ x) = A ++ [y ++ x] := by
    rw [hA]; simp
  show ilL (a.1.set (a.1.length - 1) ((a.1.getD (a.1.length - 1) []) ++ x)) a.2.1 a.2.2 = ilL a.1 a.2.1 a.2.2 ++ _
  rw [e1, e2, ilL_last A _ _ y x hl h.h2, ← hA]
theorem aU_il {a : Act} (c : Bool) (t : Attrs) (h : AOk a) : il (aU c t a) = il a ++ [uni c t] := ilL_snoc _ _ _ _ _ h.h1 h.h2
def good : Option YStep.den → Steps → Prop
  | _, [] => True
  | p, s :: l => dOne p s = 0 ∧ good (some s) l
def lastO : Option YStep.den → Steps → Option YStep.den
  | p, [] => p
  | _, s :: l => lastO (some s) l
theorem lastO_snoc : ∀ (l : Steps) (p : Option YStep.den) (s : YStep.den), lastO p (l ++ [s]) = some s
  | [], p, s => rfl
  | x :: l, p, s => lastO_snoc l (some x) s
theorem good_snoc : ∀ (l : Steps) (p : Option YStep.den) (s : YStep.den), good p (l ++ [s]) ↔ good p l ∧ dOne (lastO p l) s = 0
  | [], p, s => by simp [good, lastO]
  | x :: l, p, s => by
    show dOne p x = 0 ∧ good (some x) (l ++ [s]) ↔ (dOne p x = 0 ∧ good (some x) l) ∧ dOne (lastO (some x) l) s = 0
    rw [good_snoc l (some x) s, and_assoc]
theorem dErr_good : ∀ (l : Steps) (p : Option YStep.den) (b a : Int), good p l → b + befs l ≤ 2147483647 → a + afts l ≤ 2147483647 → dErr p b a l = 0
  | [], p, b, a, h, h1, h2 => by
    simp only [befs, afts] at h1 h2
    simp only [dErr]
    rw [if_neg (by omega)]
  | s :: l, p, b, a, h, h1, h2 => by
    simp only [befs, afts] at h1 h2
    simp only [dErr, h.1, ne_eq, not_true, if_false]
    exact dErr_good l (some s) _ _ h.2 (by rw [addB_0]; omega) (by rw [addA_0]; omega)
theorem befs_snoc : ∀ (l : Steps) (s : YStep.den), befs (l ++ [s]) = befs l + addB s 0
  | [], s => by simp [befs]
  | x :: l, s => by
    show addB x 0 + befs (l ++ [s]) = addB x 0 + befs l + addB s 0
    rw [befs_snoc l s]; omega
theorem afts_snoc : ∀ (l : Steps) (s : YStep.den), afts (l ++ [s]) = afts l + addA s 0
  | [], s => by simp [afts]
  | x :: l, s => by
    show addA x 0 + afts (l ++ [s]) = addA x 0 + afts l + addA s 0
    rw [afts_snoc l s]; omega
theorem one_pos {p : Option YStep.den} {s : YStep.den} (h : dOne p s = 0) : 0 ≤ addB s 0 ∧ 0 ≤ addA s 0 := by
  have hz := (dOne_zero h).1
  unfold addB addA ssz
  rcases sErr_zero hz with ⟨h1, h2, h3, h4, h5⟩ | ⟨h1, h2, h3, h4, h5⟩
  · simp [h1]
  · have : ¬ sk s = 1 := by rcases h1 with q | q <;> omega
    rw [if_neg this, if_neg this]
    constructor
    · omega
    · split <;> omega
theorem good_pos : ∀ (l : Steps) (p : Option YStep.den), good p l → 0 ≤ befs l ∧ 0 ≤ afts l
  | [], p, h => by simp [befs, afts]
  | s :: l, p, h => by
    have q1 := one_pos h.1
    have q2 := good_pos l (some s) h.2
    simp only [befs, afts]
    omega
theorem ord_keep {q : YStep.den} (hq : sk q = 0) (k n : Int) (t : Attrs) (e : Flow) (hk : k = 1 ∨ k = 2) : ord q (mkT k n t e) = false := by
  unfold ord
  rw [sk_mk, hq]
  rcases hk with rfl | rfl <;> rfl
theorem keep_ok (n : Int) (t : Attrs) (h1 : 1 ≤ n) (h2 : n ≤ 2147483647) (ht : Attr.err true t = 0) : sErr (mkT 0 n t []) = 0 := by
  unfold sErr
  rw [sk_mk, sn_mk, sa_mk, se_mk, if_neg (by decide), if_pos (.inl rfl), if_neg (by rintro (h | h); cases h; exact absurd h.1 (by decide)), if_neg (by omega)]
  exact ht
theorem cut_ok (n : Int) (h1 : 1 ≤ n) (h2 : n ≤ 2147483647) : sErr (mkT 2 n [] []) = 0 := by
  unfold sErr
  rw [sk_mk, sn_mk, sa_mk, se_mk, if_neg (by decide), if_pos (.inr rfl), if_neg (by rintro (h | h); cases h; exact absurd h.2 (by decide)), if_neg (by omega)]
  rfl
theorem add_ok (a : Flow) (h1 : emp a = false) (h2 : pErr a = 0) : sErr (mkT 1 0 [] a) = 0 := by
  unfold sErr
  rw [sk_mk, sn_mk, sa_mk, se_mk, if_pos rfl, if_neg (by rintro (h | h); exact h rfl; cases h), if_neg (by rw [h1]; decide)]
  exact h2
structure VI (w : W) (b a : Int) : Prop where
  g : good none w.1
  l : w.1 = [] ∨ ∃ d q, w.1 = d ++ [q] ∧ sk q = 0
  e : pErr w.2.1 = 0
  c : 0 ≤ w.2.2
  b : befs w.1 + w.2.2 = b
  a : afts w.1 + w.2.1.length = a
theorem one_of {p : Option YStep.den} {s : YStep.den} (h : sErr s = 0) (hp : ∀ q, p = some q → ord q s = false) : dOne p s = 0 := by
  unfold dOne
  rw [if_neg (by rw [h]; decide)]
  cases p with
  | none => rfl
  | some q => simp [hp q rfl]
theorem VI.outs {w : W} {b a : Int} (h : VI w b a) (hb : b ≤ 2147483647) : good none (out w) ∧ befs (out w) = b ∧ afts (out w) = a := by
  have hl : ∀ q, lastO none w.1 = some q → sk q = 0 := by
    intro q hq
    rcases h.l with h1 | ⟨d, r, h1, h2⟩
    · rw [h1] at hq; cases hq
    · rw [h1, lastO_snoc] at hq
      injection hq with hq
      rw [← hq]; exact h2
  have hb2 := h.b
  have ha2 := h.a
  have hc := h.c
  have hp := good_pos _ _ h.g
  have g1 : good none (w.1 ++ (if emp w.2.1 = true then [] else [mkT 1 0 [] w.2.1])) ∧ befs (w.1 ++ (if emp w.2.1 = true then [] else [mkT 1 0 [] w.2.1])) = befs w.1 ∧ afts (w.1 ++ (if emp w.2.1 = true then [] else [mkT 1 0 [] w.2.1])) = a ∧
      ∀ q, lastO none (w.1 ++ (if emp w.2.1 = true then [] else [mkT 1 0 [] w.2.1])) = some q → sk q = 0 ∨ sk q = 1 := by
    split
    · rename_i he
      have : w.2.1 = [] := (emp_iff _).1 he
      rw [List.append_nil]
      refine ⟨h.g, rfl, ?_, fun q hq => .inl (hl q hq)⟩
      rw [this] at ha2; simpa using ha2
    · rename_i he
      have he : emp w.2.1 = false := by simpa using he
      refine ⟨(good_snoc _ _ _).2 ⟨h.g, one_of (add_ok _ he h.e) fun q hq => ord_keep (hl q hq) _ _ _ _ (.inl rfl)⟩, ?_, ?_, ?_⟩
      · rw [befs_snoc]; simp [addB]
      · rw [afts_snoc]; simp [addA, ssz]; omega
      · intro q hq
        rw [lastO_snoc] at hq
        injection hq with hq
        rw [← hq]; exact .inr rfl
  obtain ⟨g2, g3, g4, g5⟩ := g1
  show good none (fl w.1 w.2.1 w.2.2) ∧ befs (fl w.1 w.2.1 w.2.2) = b ∧ afts (fl w.1 w.2.1 w.2.2) = a
  unfold fl
  generalize w.1 ++ (if emp w.2.1 = true then [] else [mkT 1 0 [] w.2.1]) = o at g2 g3 g4 g5
  by_cases hc0 : 0 < w.2.2
  · rw [if_pos hc0]
    refine ⟨(good_snoc _ _ _).2 ⟨g2, one_of (cut_ok _ (by omega) (by omega)) fun q hq => ?_⟩, ?_, ?_⟩
    · unfold ord
      rw [sk_mk]
      rcases g5 q hq with k | k <;> rw [k] <;> rfl
    · rw [befs_snoc, g3]; simp [addB]; omega
    · rw [afts_snoc, g4]; simp [addA]
  · rw [if_neg hc0, List.append_nil]
    exact ⟨g2, by omega, g4⟩
theorem mrg_good (y : Steps) (t : Attrs) (hg : good none y) (ht : Attr.err true t = 0) (hb : befs y + 1 ≤ 2147483647) :
    good none (mrgK y 1 t) ∧ befs (mrgK y 1 t) = befs y + 1 ∧ afts (mrgK y 1 t) = afts y + 1 ∧ ∃ d q, mrgK y 1 t = d ++ [q] ∧ sk q = 0 := by
  rcases last_cases y with hy | ⟨d, s, hy⟩
  · subst hy
    have k1 : sErr (mkT 0 1 t []) = 0 := keep_ok 1 t (by omega) (by omega) ht
    exact ⟨⟨one_of k1 (fun q h => by cases h), trivial⟩, by simp [mrgK, befs, addB], by simp [mrgK, afts, addA, ssz], [], _, rfl, rfl⟩
  · subst hy
    rw [mrg_last]
    obtain ⟨g1, g2⟩ := (good_snoc _ _ _).1 hg
    rw [befs_snoc] at hb
    have hp := good_pos _ _ g1
    split
    · rename_i hc
      have hz := dOne_zero g2
      have hs : se s = [] ∧ 1 ≤ sn s ∧ Attr.err true (sa s) = 0 := by
        rcases sErr_zero hz.1 with ⟨h1, _⟩ | ⟨h1, h2, h3, h4, h5⟩
        · rw [hc.1] at h1; cases h1
        · exact ⟨h2, h3, h5⟩
      have hB : addB s 0 = sn s := by unfold addB; rw [if_neg (by rw [hc.1]; decide)]; omega
      rw [hB] at hb
      have hA : addA s 0 = sn s := by unfold addA ssz; rw [if_neg (by rw [hc.1]; decide), if_neg (by rw [hc.1]; decide)]; omega
      refine ⟨(good_snoc _ _ _).2 ⟨g1, one_of ?_ fun q hq => ?_⟩, ?_, ?_, d, _, rfl, hc.1⟩
      · rw [hc.1, hs.1]; exact keep_ok _ _ (by omega) (by omega) hs.2.2
      · have := hz.2 q hq
        unfold ord at this ⊢
        simpa using this
      · rw [befs_snoc, befs_snoc, hB]; simp [addB, hc.1]; omega
      · rw [afts_snoc, afts_snoc, hA]; simp [addA, ssz, hc.1]; omega
    · rename_i hc
      refine ⟨(good_snoc _ _ _).2 ⟨hg, one_of (keep_ok 1 t (by omega) (by omega) ht) fun q hq => ?_⟩, ?_, ?_, d ++ [s], _, rfl, rfl⟩
      · rw [lastO_snoc] at hq
        injection hq with hq
        subst hq
        unfold ord
        rw [sk_mk, sa_mk]
        by_cases k0 : sk s = 0
        · have : eqA (sa s) t = false := by
            cases hq : eqA (sa s) t with
            | true => exact absurd ⟨k0, hq⟩ hc
            | false => rfl
          rw [k0, this]; rfl
        · have : (sk s == 0) = false := by simpa using k0
          rw [this]; simp
      · rw [befs_snoc]; simp [addB]
      · rw [afts_snoc]; simp [addA, ssz]
def okU : U → Prop
  | .a x => eErr x = 0
  | .c => True
  | .k t => Attr.err true t = 0
def cB : List U → Nat
  | [] => 0
  | .a _ :: l => cB l
  | _ :: l => cB l + 1
def cA : List U → Nat
  | [] => 0
  | .c :: l => cA l
  | _ :: l => cA l + 1
theorem pErr_append : ∀ (x y : Flow), pErr x = 0 → pErr y = 0 → pErr (x ++ y) = 0
  | [], y, h1, h2 => h2
  | e :: x, y, h1, h2 => by
    simp only [pErr] at h1
    split at h1
    · rename_i h; exact absurd h1 h
    · rename_i h
      show (if eErr e ≠ 0 then eErr e else pErr (x ++ y)) = 0
      rw [if_neg h]; exact pErr_append x y h1 h2
theorem VI.run : ∀ (us : List U) (w : W) (b a : Int), VI w b a → (∀ u ∈ us, okU u) → b + cB us ≤ 2147483647 → VI (runP us w) (b + cB us) (a + cA us)
  | [], w, b, a, h, hu, hb => by simpa [runP, cB, cA] using h
  | .a x :: us, w, b, a, h, hu, hb => by
    have h1 := hu (.a x) (by simp)
    have hx : eErr x = 0 := h1
    have : VI (uE [x] w) b (a + 1) := ⟨h.g, h.l, pErr_append _ _ h.e (by simp [pErr, hx]), h.c, h.b, by
      have := h.a
      show afts w.1 + ((w.2.1 ++ [x]).length : Int) = _
      simp; omega⟩
    have r := VI.run us _ _ _ this (fun u hu2 => hu u (by simp [hu2])) hb
    have e : a + 1 + (cA us : Int) = a + ((cA us + 1 : Nat) : Int) := by omega
    rw [e] at r
    exact r
  | .c :: us, w, b, a, h, hu, hb => by
    have hc := h.c
    have hb2 := h.b
    have : VI (uC w) (b + 1) a := ⟨h.g, h.l, h.e, by show 0 ≤ w.2.2 + 1; omega, by show befs w.1 + (w.2.2 + 1) = _; omega, h.a⟩
    have e : b + 1 + (cB us : Int) = b + ((cB us + 1 : Nat) : Int) := by omega
    have r := VI.run us _ _ _ this (fun u hu2 => hu u (by simp [hu2])) (by rw [e]; exact hb)
    rw [e] at r
    exact r
  | .k t :: us, w, b, a, h, hu, hb => by
    have h1 := hu (.k t) (by simp)
    have hx : Attr.err true t = 0 := h1
    have hb3 : b + ((cB us + 1 : Nat) : Int) ≤ 2147483647 := hb
    obtain ⟨q1, q2, q3⟩ := h.outs (by omega)
    obtain ⟨m1, m2, m3, m4⟩ := mrg_good (out w) t q1 hx (by omega)
    have : VI (uK t w) (b + 1) (a + 1) := ⟨m1, .inr m4, rfl, by show (0 : Int) ≤ 0; omega, by show befs (mrgK (out w) 1 t) + (0 : Int) = _; omega, by show afts (mrgK (out w) 1 t) + (([] : Flow).length : Int) = _; simp; omega⟩
    have e : b + 1 + (cB us : Int) = b + ((cB us + 1 : Nat) : Int) := by omega
    have e2 : a + 1 + (cA us : Int) = a + ((cA us + 1 : Nat) : Int) := by omega
    have r := VI.run us _ _ _ this (fun u hu2 => hu u (by simp [hu2])) (by rw [e]; exact hb)
    rw [e, e2] at r
    exact r
theorem VI0 : VI w0 0 0 := ⟨trivial, .inl rfl, rfl, by decide, by decide, by decide⟩
/-- What is written of valid units is a valid delta. -/
theorem valid_out (us : List U) (hu : ∀ u ∈ us, okU u) (hb : cB us ≤ 2147483647) (ha : cA us ≤ 2147483647) : err (out (runP us w0)) = 0 ∧ befs (out (runP us w0)) = cB us ∧ afts (out (runP us w0)) = cA us := by
  have h := VI.run us w0 0 0 VI0 hu (by omega)
  obtain ⟨q1, q2, q3⟩ := h.outs (by omega)
  exact ⟨dErr_good _ _ _ _ q1 (by omega) (by omega), by omega, by omega⟩
end Go.Ev.Delta
