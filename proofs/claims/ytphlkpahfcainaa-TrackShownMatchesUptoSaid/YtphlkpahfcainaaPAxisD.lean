/- Where rows are after a change: the law. -/
import Derived.Test.YtphlkpahfcainaaPAxisC
namespace Go.Ev.Axis
open Go.Ev
set_option linter.unusedVariables false
set_option linter.unusedSimpArgs false

theorem same_loop (a b : List Int) (hl : a.length ≤ 1048576) (he : a.length = b.length) (n : Nat) : ∀ (d i m : Nat), i + d = a.length → d < m → L34_0 n m a b (a.length : Int) i = some (ret34 (decide (a.drop i = b.drop i))) := by
  intro d
  induction d with
  | zero =>
    intro i m hi hm
    cases m with
    | zero => omega
    | succ m =>
    have : i = a.length := by omega
    subst this
    have c1 : decide ((a.length : Int) < (a.length : Int)) = false := decide_eq_false (by omega)
    rw [L34_0_step, List.drop_length, he, List.drop_length]
    rw [he] at c1
    simp [bcond_if, c1]
  | succ d ih =>
    intro i m hi hm
    cases m with
    | zero => omega
    | succ m =>
    have hil : i < a.length := by omega
    have hib : i < b.length := by omega
    have c1 : decide ((i : Int) < (a.length : Int)) = true := decide_eq_true (by omega)
    have w1 : IntKind.i64.wrap ((i : Int) + 1) = ((i + 1 : Nat) : Int) := wnat (by omega) (by omega)
    rw [L34_0_step, drop_int a hil, drop_int b hib]
    simp only [bcond_if, inb, hil, hib, c1, if_true, w1, at_int, ih (i + 1) m (by omega) (by omega)]
    by_cases h0 : a.getD i 0 = b.getD i 0
    · rw [if_neg (by simpa using h0)]
      simp only [List.cons.injEq, h0, true_and]
    · rw [if_pos (by simpa using h0)]
      simp only [List.cons.injEq, h0, false_and, decide_false]
theorem same_eq (a b : List Int) (hl : a.length ≤ 1048576) : C34 F34 a b = some (ret34 (decide (a = b))) := by
  obtain ⟨m, hm⟩ := big_succ (n := 1048577) (by omega)
  rw [e34]
  simp only [bcond_if]
  by_cases he : a.length = b.length
  · rw [if_neg (by simp; omega)]
    have := same_loop a b hl he big a.length 0 big (by omega) (by omega)
    simpa using this
  · rw [if_pos (by simp; omega)]
    have : ¬ a = b := fun e => he (by rw [e])
    simp [this]

/-- A place outside of the old rows. -/
def bad (old : Int) : List Int → Bool
  | [] => false
  | p :: ps => decide (p < 0 ∨ old ≤ p) || bad old ps

theorem apply_loop (a : Steps) (hl : a.length ≤ 1048576) (h : E a = 0) (ps : List Int) (hp : ps.length ≤ 1048576) (n : Nat) : ∀ (d i m : Nat) (out : List Int), i + d = ps.length → d < m → out.length ≤ i →
    L28_0 F61 F82 F83 n m a (sumB a) out ps (ps.length : Int) i = some (if bad (sumB a) (ps.drop i) = true then ret28 [] 2 else ret28 (out ++ (ps.drop i).map fun p => pl p 0 0 a) 0) := by
  intro d
  induction d with
  | zero =>
    intro i m out hi hm ho
    cases m with
    | zero => omega
    | succ m =>
    have : i = ps.length := by omega
    subst this
    have c1 : decide ((ps.length : Int) < (ps.length : Int)) = false := decide_eq_false (by omega)
    rw [L28_0_step, List.drop_length]
    simp [bcond_if, c1, bad]
  | succ d ih =>
    intro i m out hi hm ho
    cases m with
    | zero => omega
    | succ m =>
    have hil : i < ps.length := by omega
    have c1 : decide ((i : Int) < (ps.length : Int)) = true := decide_eq_true (by omega)
    have w1 : IntKind.i64.wrap ((i : Int) + 1) = ((i + 1 : Nat) : Int) := wnat (by omega) (by omega)
    obtain ⟨g, hb, ha⟩ := E_good h
    obtain ⟨p, hp⟩ : ∃ p : Int, at_ (e := .int .i64) ps (i : Int) = p := ⟨_, rfl⟩
    rw [L28_0_step, drop_int ps hil, ← at_int, hp]
    simp only [bcond_if, inb, hil, c1, if_true, w1, bad, List.map_cons]
    by_cases h0 : p < 0
    · simp [h0]
    · by_cases h1 : sumB a ≤ p
      · have h1' : p ≥ sumB a := h1
        simp [h0, h1']
      · have h1' : ¬ p ≥ sumB a := h1
        rw [place_eq a hl h p (by omega) (by omega)]
        simp only [Option.bind_some, res83_0_ret]
        have := ih (i + 1) m (out ++ [pl p 0 0 a]) (by omega) (by omega) (by simp; omega)
        rw [this]
        rw [if_pos (show (out.length + [pl p 0 0 a].length) * 8 ≤ 140737488355328 by simp; omega)]
        simp [h0, h1, h1']
theorem apply_eq (a : Steps) (hl : a.length ≤ 1048576) (ps : List Int) (hp : ps.length ≤ 1048576) :
    C28 F28 a ps = some (if E a ≠ 0 then ret28 [] (E a) else if bad (sumB a) ps = true then ret28 [] 2 else ret28 (ps.map fun p => pl p 0 0 a) 0) := by
  obtain ⟨m, hm⟩ := big_succ (n := 1048577) (by omega)
  rw [e28, check_eq a hl]
  simp only [Option.bind_some, res61_0_ret, bcond_if]
  by_cases h : E a = 0
  · rw [h, lengths_eq a hl h]
    simp only [Option.bind_some, res82_0_ret]
    have := apply_loop a hl h ps hp big ps.length 0 big [] (by omega) (by omega) (by simp)
    simpa using this
  · simp [h]

theorem axes_eq : C27 F27 = some (ret27 true) := by
  have h := apply_eq [mkS 0 2, mkS 1 3, mkS 0 1] (by decide) [1, 2] (by decide)
  have e1 : E [mkS 0 2, mkS 1 3, mkS 0 1] = 0 := by decide
  have e2 : bad (sumB [mkS 0 2, mkS 1 3, mkS 0 1]) [1, 2] = false := by decide
  have e3 : ([1, 2] : List Int).map (fun p => pl p 0 0 [mkS 0 2, mkS 1 3, mkS 0 1]) = [1, 5] := by decide
  rw [e1, e2, e3] at h
  simp only [ne_eq, not_true, if_false, Bool.false_eq_true] at h
  rw [e27]
  change ((C28 F28 [mkS 0 2, mkS 1 3, mkS 0 1] [1, 2]).bind _) = _
  rw [h]
  simp only [Option.bind_some, res28_1_ret, res28_0_ret, bcond_if, same_eq [1, 5] [1, 5] (by decide), res34_0_ret]
  rfl

theorem count_step (us : List Int) (hl : us.length ≤ 1048576) (n : Nat) (ps lst : List Int) (e : Int) : ∀ (d i m : Nat) (c : Int), i + d = us.length → d < m → 0 ≤ c → c ≤ i →
    L5_0 F27 F28 F29 F30 F31 F32 F33 F34 n m ps lst e us c (us.length : Int) i = L5_1 F27 F28 F29 F30 F31 F32 F33 F34 n n ps lst e us (c + (((us.drop i).filter fun u => u != 1).length : Int)) [] (ps.length : Int) 0 := by
  intro d
  induction d with
  | zero =>
    intro i m c hi hm h0 h1
    cases m with
    | zero => omega
    | succ m =>
    have : i = us.length := by omega
    subst this
    have c1 : decide ((us.length : Int) < (us.length : Int)) = false := decide_eq_false (by omega)
    rw [L5_0_step, List.drop_length]
    simp [bcond_if, c1]
  | succ d ih =>
    intro i m c hi hm h0 h1
    cases m with
    | zero => omega
    | succ m =>
    have hil : i < us.length := by omega
    have c1 : decide ((i : Int) < (us.length : Int)) = true := decide_eq_true (by omega)
    have w1 : IntKind.i64.wrap ((i : Int) + 1) = ((i + 1 : Nat) : Int) := wnat (by omega) (by omega)
    have w2 : IntKind.i64.wrap (c + 1) = c + 1 := w64 (by omega) (by omega)
    rw [L5_0_step, drop_int us hil]
    simp only [bcond_if, inb, hil, c1, if_true, w1, w2, at_int, List.filter_cons]
    generalize us.getD i 0 = u
    by_cases hu : u = 1
    · subst hu
      rw [if_neg (by simp), if_neg (by simp), ih (i + 1) m c (by omega) (by omega) (by omega) (by omega)]
    · rw [if_pos (by simpa using hu), if_pos (by simpa using hu), ih (i + 1) m (c + 1) (by omega) (by omega) (by omega) (by omega)]
      congr 1
      simp; omega
theorem count_units : ∀ {l : Steps}, Good l → (((units l).filter fun u => u != 1).length : Int) = sumB l
  | [], _ => rfl
  | s :: l, ⟨⟨k, n1, n2⟩, g⟩ => by
    have := count_units g
    simp only [units, sumB, List.filter_append, List.length_append]
    rcases k with hk | hk | hk <;> rw [hk] <;> simp <;> omega

theorem law_bad (us ps : List Int) (hp : ps.length ≤ 1048576) (hu : us.length ≤ 1048576) (old : Int) (ho : 0 ≤ old ∧ old ≤ 2147483647) (n : Nat) : ∀ (d i m : Nat) (w : List Int), i + d = ps.length → d < m → w.length ≤ i → bad old (ps.drop i) = true →
    L5_1 F27 F28 F29 F30 F31 F32 F33 F34 n m ps [] 2 us old w (ps.length : Int) i = some (ret5 true) := by
  intro d
  induction d with
  | zero =>
    intro i m w hi hm hw hb
    have : i = ps.length := by omega
    subst this
    rw [List.drop_length] at hb
    cases hb
  | succ d ih =>
    intro i m w hi hm hw hb
    cases m with
    | zero => omega
    | succ m =>
    have hil : i < ps.length := by omega
    have c1 : decide ((i : Int) < (ps.length : Int)) = true := decide_eq_true (by omega)
    have w1 : IntKind.i64.wrap ((i : Int) + 1) = ((i + 1 : Nat) : Int) := wnat (by omega) (by omega)
    have w2 : IntKind.i64.wrap (old - 1) = old - 1 := w64 (by omega) (by omega)
    rw [drop_int ps hil] at hb
    rw [L5_1_step]
    simp only [bcond_if, inb, hil, c1, if_true, w1, w2, at_int, in_eq, Option.bind_some, res32_0_ret, where_eq us hu, res33_0_ret]
    simp only [bad, Bool.or_eq_true, decide_eq_true_eq] at hb
    by_cases h : ps.getD i 0 < 0 ∨ old ≤ ps.getD i 0
    · have : (decide (0 ≤ ps.getD i 0) && decide (ps.getD i 0 ≤ old - 1)) = false := by
        rcases h with h | h
        · rw [decide_eq_false (by omega)]; rfl
        · rw [decide_eq_false (p := ps.getD i 0 ≤ old - 1) (by omega)]; simp
      rw [this]
      simp
    · have : (decide (0 ≤ ps.getD i 0) && decide (ps.getD i 0 ≤ old - 1)) = true := by
        rw [decide_eq_true (by omega), decide_eq_true (by omega)]; rfl
      rw [this]
      simp only [Bool.not_true, Bool.false_eq_true, if_false]
      rw [if_pos (by simp; omega)]
      exact ih (i + 1) m _ (by omega) (by omega) (by simp; omega) (hb.resolve_left h)

theorem law_good (a : Steps) (g : Good a) (ps lst : List Int) (hp : ps.length ≤ 1048576) (hu : (units a).length ≤ 1048576) (hlst : lst.length ≤ 1048576) (old : Int) (ho : 0 ≤ old ∧ old ≤ 2147483647) (n : Nat) : ∀ (d i m : Nat) (w : List Int), i + d = ps.length → d < m → w.length ≤ i → bad old (ps.drop i) = false →
    lst = w ++ (ps.drop i).map (fun p => pl p 0 0 a) →
    L5_1 F27 F28 F29 F30 F31 F32 F33 F34 n m ps lst 0 (units a) old w (ps.length : Int) i = some (ret5 true) := by
  intro d
  induction d with
  | zero =>
    intro i m w hi hm hw hb he
    cases m with
    | zero => omega
    | succ m =>
    have : i = ps.length := by omega
    subst this
    have c1 : decide ((ps.length : Int) < (ps.length : Int)) = false := decide_eq_false (by omega)
    rw [List.drop_length, List.map_nil, List.append_nil] at he
    subst he
    rw [L5_1_step]
    simp [bcond_if, c1, same_eq lst lst hlst]
  | succ d ih =>
    intro i m w hi hm hw hb he
    cases m with
    | zero => omega
    | succ m =>
    have hil : i < ps.length := by omega
    have c1 : decide ((i : Int) < (ps.length : Int)) = true := decide_eq_true (by omega)
    have w1 : IntKind.i64.wrap ((i : Int) + 1) = ((i + 1 : Nat) : Int) := wnat (by omega) (by omega)
    have w2 : IntKind.i64.wrap (old - 1) = old - 1 := w64 (by omega) (by omega)
    rw [drop_int ps hil] at hb he
    rw [L5_1_step]
    simp only [bcond_if, inb, hil, c1, if_true, w1, w2, at_int, in_eq, Option.bind_some, res32_0_ret, where_eq _ hu, res33_0_ret]
    simp only [bad, Bool.or_eq_false_iff, decide_eq_false_iff_not] at hb
    have : (decide (0 ≤ ps.getD i 0) && decide (ps.getD i 0 ≤ old - 1)) = true := by
      rw [decide_eq_true (by omega), decide_eq_true (by omega)]; rfl
    rw [this]
    simp only [Bool.not_true, Bool.false_eq_true, if_false]
    rw [if_pos (by simp; omega), pl_find a g _ _ _ (by omega) (by omega)]
    refine ih (i + 1) m _ (by omega) (by omega) (by simp; omega) hb.2 ?_
    rw [he]
    simp

theorem law (a : Steps) (ps : List Int) (hl : a.length ≤ 1048576) (hp : ps.length ≤ 1048576) : C5 F5 a ps = some (ret5 true) := by
  obtain ⟨m, hm⟩ := big_succ (n := 1048577) (by omega)
  rw [e5, axes_eq, apply_eq a hl ps hp, axerr_eq a hl]
  simp only [Option.bind_some, res27_0_ret, res29_0_ret, bcond_if, Bool.not_true, Bool.false_eq_true, if_false]
  by_cases h : E a = 0
  · obtain ⟨g, hb, ha⟩ := E_good h
    have sp := sum_pos g
    rw [few_eq a hl h]
    simp only [h, ne_eq, not_true, if_false, Option.bind_some, res30_0_ret, bne_self_eq_false, Bool.false_eq_true]
    by_cases hf : sumN a ≤ 300
    · have hu := units_len g
      rw [units_eq a hl h (by omega)]
      simp only [hf, decide_true, Bool.not_true, Bool.false_eq_true, if_false, Option.bind_some, res31_0_ret]
      have cs := count_step (units a) (by omega) big ps
      have cu := count_units g
      cases hbd : bad (sumB a) ps with
      | true =>
        have := cs [] 2 (units a).length 0 big 0 (by omega) (by omega) (by omega) (by omega)
        rw [List.drop_zero, cu] at this
        simp only [if_true, res28_0_ret, res28_1_ret]
        rw [show ((0 : Nat) : Int) = 0 from rfl] at this
        rw [this]
        have := law_bad (units a) ps hp (by omega) (0 + sumB a) (by omega) big ps.length 0 big [] (by omega) (by omega) (by simp) (by simpa using hbd)
        exact this
      | false =>
        have := cs (ps.map fun p => pl p 0 0 a) 0 (units a).length 0 big 0 (by omega) (by omega) (by omega) (by omega)
        rw [List.drop_zero, cu] at this
        simp only [Bool.false_eq_true, if_false, res28_0_ret, res28_1_ret]
        rw [show ((0 : Nat) : Int) = 0 from rfl] at this
        rw [this]
        have := law_good a g ps (ps.map fun p => pl p 0 0 a) hp (by omega) (by simpa using hp) (0 + sumB a) (by omega) big ps.length 0 big [] (by omega) (by omega) (by simp) (by simpa using hbd) (by simp)
        exact this
    · simp only [hf, decide_false, Bool.not_false, if_true]
      cases hbd : bad (sumB a) ps <;> simp
  · simp [h]

theorem holds (a : Steps) (ps : List Int) (o0 : (Ty.list YSpan).ok a) (o1 : (Ty.list (.int .i64)).ok ps) (hb : (Ty.list YSpan).bulk a + (Ty.list (.int .i64)).bulk ps ≤ 1048576) : C5 F5 a ps = some (ret5 true) := by
  have h1 := bulk_len a
  have h2 := bulk_len (e := .int .i64) ps
  exact law a ps (by omega) (by omega)
end Go.Ev.Axis
