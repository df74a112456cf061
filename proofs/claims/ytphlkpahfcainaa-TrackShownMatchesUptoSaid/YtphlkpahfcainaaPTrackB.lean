/- Tracked changes: the plain side, second part: the ranges of changes; the law. -/
import Derived.Test.YtphlkpahfcainaaPTrack
namespace Go.Ev.Track
open Go.Ev Go.Ev.Attr
set_option linter.unusedVariables false
set_option linter.unusedSimpArgs false

def kA (x : YElem.den) : Str := get [97, 100, 100] (ea x)
def kC (x : YElem.den) : Str := get [99, 117, 116] (ea x)
def mkS (a b : Int) : YSpan.den := (a, b)
def flush (cur : Option (Int × Str × Str)) (i : Int) : List YSpan.den := match cur with
  | none => []
  | some (s, _, _) => [mkS s i]
/-- The ranges of changes, from element `i` on; `cur`: one is under way. -/
def chs : Int → Option (Int × Str × Str) → Flow → List YSpan.den
  | i, cur, [] => flush cur i
  | i, cur, x :: l => if kA x = [] ∧ kC x = [] then flush cur i ++ chs (i + 1) none l else match cur with
    | none => chs (i + 1) (some (i, kA x, kC x)) l
    | some (s, A, C) => if A = kA x ∧ C = kC x then chs (i + 1) (some (s, A, C)) l else mkS s i :: chs (i + 1) (some (i, kA x, kC x)) l

theorem chs_nil (i : Int) (cur : Option (Int × Str × Str)) : chs i cur [] = flush cur i := by rw [chs.eq_def]
theorem chs_cons (i : Int) (cur : Option (Int × Str × Str)) (x : YElem.den) (l : Flow) : chs i cur (x :: l) = if kA x = [] ∧ kC x = [] then flush cur i ++ chs (i + 1) none l else match cur with
    | none => chs (i + 1) (some (i, kA x, kC x)) l
    | some (s, A, C) => if A = kA x ∧ C = kC x then chs (i + 1) (some (s, A, C)) l else mkS s i :: chs (i + 1) (some (i, kA x, kC x)) l := by rw [chs.eq_def]
theorem sp_last (d : List YSpan.den) (s t : Int) : at_ (e := YSpan) (d ++ [mkS s t]) ((d.length : Nat) : Int) = mkS s t := by
  unfold at_
  simp [List.getD_eq_getElem?_getD]
theorem sp_set (d : List YSpan.den) (s t u v : Int) : List.set (d ++ [mkS s t]) d.length (mkS u v) = d ++ [mkS u v] := by
  simp

theorem ch_blank (f : Flow) (hf : Fs f) (n m i : Nat) (hi : i < f.length) (out : List YSpan.den) (h : kA (atE f i) = [] ∧ kC (atE f i) = []) : L50_0 F92 F41 n (m + 1) f out f (f.length : Int) i = L50_0 F92 F41 n m f out f (f.length : Int) ((i + 1 : Nat) : Int) := by
  have hl := hf.1
  have c1 : decide ((i : Int) < (f.length : Int)) = true := decide_eq_true (by omega)
  have w1 : IntKind.i64.wrap ((i : Int) + 1) = ((i + 1 : Nat) : Int) := wnat (by omega) (by omega)
  have ex : at_ (e := YElem) f (i : Int) = atE f i := rfl
  have e3 : (atE f i).2.2 = ea (atE f i) := rfl
  have g1 : get [97, 100, 100] (ea (atE f i)) = [] := h.1
  have g2 : get [99, 117, 116] (ea (atE f i)) = [] := h.2
  rw [L50_0_step]
  simp only [bcond_if, inb, hi, c1, if_true, w1, ex, e3, get_eq _ (hf.2 i).1, Option.bind_some, res41_0_ret, g1, g2, beq_self_eq_true]
theorem ch_first (f : Flow) (hf : Fs f) (n m i : Nat) (hi : i < f.length) (h : ¬ (kA (atE f i) = [] ∧ kC (atE f i) = [])) : L50_0 F92 F41 n (m + 1) f [] f (f.length : Int) i = L50_0 F92 F41 n m f [mkS i ((i + 1 : Nat) : Int)] f (f.length : Int) ((i + 1 : Nat) : Int) := by
  have hl := hf.1
  have c1 : decide ((i : Int) < (f.length : Int)) = true := decide_eq_true (by omega)
  have w1 : IntKind.i64.wrap ((i : Int) + 1) = ((i + 1 : Nat) : Int) := wnat (by omega) (by omega)
  have ex : at_ (e := YElem) f (i : Int) = atE f i := rfl
  have e3 : (atE f i).2.2 = ea (atE f i) := rfl
  have e4 : (((i : Int), ((i + 1 : Nat) : Int)) : YSpan.den) = mkS i ((i + 1 : Nat) : Int) := rfl
  have c2 : decide (IntKind.i64.wrap ((([] : List YSpan.den).length : Int) - 1) ≥ 0) = false := rfl
  have b1 : ((([] : List YSpan.den)).length + [mkS (i : Int) ((i + 1 : Nat) : Int)].length) * 16 ≤ 140737488355328 := by simp
  have g1 : get [97, 100, 100] (ea (atE f i)) = kA (atE f i) := rfl
  have g2 : get [99, 117, 116] (ea (atE f i)) = kC (atE f i) := rfl
  rw [L50_0_step]
  simp only [bcond_if, inb, hi, c1, c2, if_true, w1, ex, e3, e4, get_eq _ (hf.2 i).1, Option.bind_some, res41_0_ret, g1, g2, b1, List.nil_append]
  by_cases h1 : kA (atE f i) = []
  · have h2 : ¬ kC (atE f i) = [] := fun q => h ⟨h1, q⟩
    simp [h1, h2]
  · simp [h1]
theorem ch_next (f : Flow) (hf : Fs f) (n m i : Nat) (hi : i < f.length) (d : List YSpan.den) (s t : Int) (hd : d.length + 1 ≤ i) (ht : t ≤ i) (h : ¬ (kA (atE f i) = [] ∧ kC (atE f i) = [])) :
    L50_0 F92 F41 n (m + 1) f (d ++ [mkS s t]) f (f.length : Int) i = if t = i ∧ kA (atE f (i - 1)) = kA (atE f i) ∧ kC (atE f (i - 1)) = kC (atE f i) then L50_0 F92 F41 n m f (d ++ [mkS s ((i + 1 : Nat) : Int)]) f (f.length : Int) ((i + 1 : Nat) : Int)
      else L50_0 F92 F41 n m f (d ++ [mkS s t] ++ [mkS i ((i + 1 : Nat) : Int)]) f (f.length : Int) ((i + 1 : Nat) : Int) := by
  have hl := hf.1
  have c1 : decide ((i : Int) < (f.length : Int)) = true := decide_eq_true (by omega)
  have w1 : IntKind.i64.wrap ((i : Int) + 1) = ((i + 1 : Nat) : Int) := wnat (by omega) (by omega)
  have w2 : IntKind.i64.wrap ((i : Int) - 1) = ((i - 1 : Nat) : Int) := wnat (by omega) (by omega)
  have hlen : (d ++ [mkS s t]).length = d.length + 1 := by simp
  have w3 : IntKind.i64.wrap (((d ++ [mkS s t]).length : Int) - 1) = ((d.length : Nat) : Int) := wnat (by rw [hlen]; omega) (by omega)
  have ex : at_ (e := YElem) f (i : Int) = atE f i := rfl
  have ex2 : at_ (e := YElem) f ((i - 1 : Nat) : Int) = atE f (i - 1) := rfl
  have e3 : (atE f i).2.2 = ea (atE f i) := rfl
  have e32 : (atE f (i - 1)).2.2 = ea (atE f (i - 1)) := rfl
  have e4 : (((i : Int), ((i + 1 : Nat) : Int)) : YSpan.den) = mkS i ((i + 1 : Nat) : Int) := rfl
  have c2 : decide (((d.length : Nat) : Int) ≥ 0) = true := decide_eq_true (by omega)
  have c3 : d.length < (d ++ [mkS s t]).length := by rw [hlen]; omega
  have c4 : i - 1 < f.length := by omega
  have b1 : ((d ++ [mkS s t]).length + [mkS (i : Int) ((i + 1 : Nat) : Int)].length) * 16 ≤ 140737488355328 := Nat.le_trans (Nat.mul_le_mul_right 16 (Nat.add_le_add_right (show (d ++ [mkS s t]).length ≤ 1048576 by rw [hlen]; omega) 1)) (by decide)
  have g1 : get [97, 100, 100] (ea (atE f i)) = kA (atE f i) := rfl
  have g2 : get [99, 117, 116] (ea (atE f i)) = kC (atE f i) := rfl
  have g3 : get [97, 100, 100] (ea (atE f (i - 1))) = kA (atE f (i - 1)) := rfl
  have g4 : get [99, 117, 116] (ea (atE f (i - 1))) = kC (atE f (i - 1)) := rfl
  have s1 : (mkS s t).1 = s := rfl
  have s2 : (mkS s t).2 = t := rfl
  have wt : t = i → IntKind.i64.wrap (t + 1) = ((i + 1 : Nat) : Int) := fun e => by rw [e]; exact w1
  have e5 : ∀ z : Int, ((s, z) : YSpan.den) = mkS s z := fun z => rfl
  rw [L50_0_step, w3, sp_last d s t]
  simp only [bcond_if, inb, hi, c1, if_true, w1, w2, w3, ex, ex2, e3, e32, e4, c2, c3, c4, sp_last, s1, s2, get_eq _ (hf.2 i).1, get_eq _ (hf.2 (i - 1)).1, Option.bind_some, res41_0_ret, g1, g2, g3, g4, b1, beq_self_eq_true, e5, Int.toNat_natCast, sp_set]
  generalize kA (atE f (i - 1)) = A' at *
  generalize kC (atE f (i - 1)) = C' at *
  by_cases ht2 : t = i
  · simp only [wt ht2]
    by_cases h1 : kA (atE f i) = []
    · have h2 : ¬ kC (atE f i) = [] := fun q => h ⟨h1, q⟩
      by_cases q1 : A' = [] <;> by_cases q2 : C' = kC (atE f i) <;> simp [h1, h2, q1, q2, ht2]
    · by_cases q1 : A' = kA (atE f i) <;> by_cases q2 : C' = kC (atE f i) <;> simp [h1, q1, q2, ht2]
  · by_cases h1 : kA (atE f i) = []
    · have h2 : ¬ kC (atE f i) = [] := fun q => h ⟨h1, q⟩
      simp [h1, h2, ht2]
    · simp [h1, ht2]

/-- What the loop knows. -/
def Inv (f : Flow) (i : Nat) (done out : List YSpan.den) : Option (Int × Str × Str) → Prop
  | none => out = done ∧ (done = [] ∨ ∃ d s t, done = d ++ [mkS s t] ∧ t < (i : Int))
  | some (s, A, C) => out = done ++ [mkS s i] ∧ 1 ≤ i ∧ kA (atE f (i - 1)) = A ∧ kC (atE f (i - 1)) = C
theorem ch_loop (f : Flow) (hf : Fs f) (n : Nat) : ∀ (d i m : Nat) (done out : List YSpan.den) (cur : Option (Int × Str × Str)), i + d = f.length → d < m → out.length ≤ i → Inv f i done out cur →
    L50_0 F92 F41 n m f out f (f.length : Int) i = some (ret50 (done ++ chs i cur (f.drop i)) 0) := by
  have hl := hf.1
  intro d
  induction d with
  | zero =>
    intro i m done out cur hi hm ho hI
    cases m with
    | zero => omega
    | succ m =>
    have : i = f.length := by omega
    subst this
    have c1 : decide ((f.length : Int) < (f.length : Int)) = false := decide_eq_false (by omega)
    rw [L50_0_step, List.drop_length]
    simp only [bcond_if, c1, Bool.false_eq_true, if_false]
    change some (ret50 out 0) = some (ret50 (done ++ flush cur (f.length : Int)) 0)
    cases cur with
    | none => rw [hI.1]; simp [flush]
    | some q => obtain ⟨s, A, C⟩ := q; rw [hI.1]; rfl
  | succ d ih =>
    intro i m done out cur hi hm ho hI
    cases m with
    | zero => omega
    | succ m =>
    have hil : i < f.length := by omega
    have e9 : ((i + 1 : Nat) : Int) = (i : Int) + 1 := by omega
    rw [drop_elem f hil, chs_cons]
    by_cases hb : kA (atE f i) = [] ∧ kC (atE f i) = []
    · rw [ch_blank f hf n m i hil out hb, if_pos hb]
      have hI' : Inv f (i + 1) (done ++ flush cur i) out none := by
        cases cur with
        | none =>
          obtain ⟨h1, h2⟩ := hI
          refine ⟨by rw [h1]; simp [flush], ?_⟩
          rcases h2 with rfl | ⟨d', s, t, rfl, h3⟩
          · exact .inl (by simp [flush])
          · exact .inr ⟨d', s, t, by simp [flush], by omega⟩
        | some q =>
          obtain ⟨s, A, C⟩ := q
          exact ⟨by rw [hI.1]; rfl, .inr ⟨done, s, i, rfl, by omega⟩⟩
      rw [ih (i + 1) m _ out none (by omega) (by omega) (by omega) hI', e9, List.append_assoc]
    · rw [if_neg hb]
      cases cur with
      | none =>
        obtain ⟨h1, h2⟩ := hI
        subst h1
        have nx : L50_0 F92 F41 n (m + 1) f out f (f.length : Int) i = L50_0 F92 F41 n m f (out ++ [mkS i ((i + 1 : Nat) : Int)]) f (f.length : Int) ((i + 1 : Nat) : Int) := by
          rcases h2 with rfl | ⟨d', s, t, rfl, h3⟩
          · exact ch_first f hf n m i hil hb
          · rw [ch_next f hf n m i hil d' s t (by simp at ho; omega) (by omega) hb, if_neg (fun q => by omega)]
        rw [nx, ih (i + 1) m out _ (some (i, kA (atE f i), kC (atE f i))) (by omega) (by omega) (by simp; omega) ⟨rfl, by omega, rfl, rfl⟩, e9]
      | some q =>
        obtain ⟨s, A, C⟩ := q
        obtain ⟨h1, h2, h3, h4⟩ := hI
        subst h1
        rw [ch_next f hf n m i hil done s i (by simp at ho; omega) (by omega) hb, h3, h4]
        by_cases hk : A = kA (atE f i) ∧ C = kC (atE f i)
        · rw [if_pos ⟨rfl, hk⟩]
          simp only [hk, and_self, if_true]
          rw [ih (i + 1) m done _ (some (s, kA (atE f i), kC (atE f i))) (by omega) (by omega) (by simp at ho ⊢; omega) ⟨rfl, by omega, rfl, rfl⟩, e9]
        · rw [if_neg (fun q => hk q.2)]
          simp only [hk, if_false]
          rw [ih (i + 1) m (done ++ [mkS s i]) _ (some (i, kA (atE f i), kC (atE f i))) (by omega) (by omega) (by simp at ho ⊢; omega) ⟨rfl, by omega, rfl, rfl⟩, e9, List.append_assoc]
          rfl
theorem changes_eq (f : Flow) (hf : Fs f) : C50 F50 f = some (if pErr f ≠ 0 then ret50 [] (pErr f) else ret50 (chs 0 none f) 0) := by
  have hl := hf.1
  obtain ⟨m, hm⟩ := big_succ (n := 1048577) (by omega)
  rw [e50, (part_eq f hf).1]
  simp only [Option.bind_some, res92_0_ret, bcond_if]
  by_cases h : pErr f = 0
  · have := ch_loop f hf big f.length 0 big [] [] none (by omega) (by omega) (by simp) ⟨rfl, .inl rfl⟩
    simp only [h, bne_self_eq_false, Bool.false_eq_true, if_false, ne_eq, not_true]
    simpa using this
  · simp [h]

/-! ### The law -/
/-- How many of the first elements have these authors. -/
def rl (A C : Str) : Flow → Nat
  | [] => 0
  | x :: l => if kA x = A ∧ kC x = C then rl A C l + 1 else 0
theorem rl_le (A C : Str) : ∀ l, rl A C l ≤ l.length
  | [] => by simp [rl]
  | x :: l => by
    have := rl_le A C l
    simp only [rl, List.length_cons]
    split <;> omega
theorem chs_blank : ∀ (l : Flow) (i : Int), chs i none l = chs (i + rl [] [] l) none (l.drop (rl [] [] l))
  | [], i => by simp [rl]
  | x :: l, i => by
    have ih := chs_blank l (i + 1)
    simp only [rl]
    split
    · rename_i h
      rw [chs_cons, if_pos h]
      simp only [flush, List.nil_append, List.drop_succ_cons]
      rw [ih]
      congr 1
      omega
    · simp
theorem chs_run (s : Int) (A C : Str) (h : ¬ (A = [] ∧ C = [])) : ∀ (l : Flow) (i : Int), chs i (some (s, A, C)) l = mkS s (i + rl A C l) :: chs (i + rl A C l) none (l.drop (rl A C l))
  | [], i => by
    change [mkS s i] = mkS s (i + ((0 : Nat) : Int)) :: []
    simp
  | x :: l, i => by
    have ih := chs_run s A C h l (i + 1)
    simp only [rl]
    by_cases hk : kA x = A ∧ kC x = C
    · have hb : ¬ (kA x = [] ∧ kC x = []) := fun q => h ⟨hk.1 ▸ q.1, hk.2 ▸ q.2⟩
      rw [chs_cons, if_neg hb]
      simp only [hk, and_self, if_true, List.drop_succ_cons, ih]
      rw [show i + 1 + (rl A C l : Int) = i + ((rl A C l + 1 : Nat) : Int) from by omega]
    · simp only [hk, if_false, List.drop_zero]
      have hk2 : ¬ (A = kA x ∧ C = kC x) := fun q => hk ⟨q.1.symm, q.2.symm⟩
      rw [chs_cons, chs_cons]
      by_cases hb : kA x = [] ∧ kC x = []
      · simp [hb, flush]
      · simp [hb, hk2]

theorem inner (f : Flow) (hf : Fs f) (mode : Int) (x5 : List Int) (x6 : Int) (c : List YSpan.den) (n m1 i t : Nat) (A C : Str) (hc : c.length ≤ 1048576) (ht : t ≤ c.length) : ∀ (d k m : Nat), k + d = f.length → d < m →
    L8_1 F48 F49 F50 F51 F42 F32 F52 F34 n m1 m f mode x5 x6 c t i A C k =
      (if A = [] ∧ C = [] then L8_0 F48 F49 F50 F51 F42 F32 F52 F34 n m1 f mode x5 x6 c t ((k + rl A C (f.drop k) : Nat) : Int)
      else if t < c.length ∧ at_ (e := YSpan) c (t : Int) = mkS i ((k + rl A C (f.drop k) : Nat) : Int) then L8_0 F48 F49 F50 F51 F42 F32 F52 F34 n m1 f mode x5 x6 c ((t + 1 : Nat) : Int) ((k + rl A C (f.drop k) : Nat) : Int) else some (ret8 false)) := by
  have hl := hf.1
  have tail : ∀ k : Nat, (if ((!(A == [])) == false) = true then
        if (!(C == [])) = true then
          if (decide ((t : Int) ≥ (c.length : Int)) == false) = true then
            if 0 ≤ (t : Int) ∧ (t : Int) < (c.length : Int) then
              if (!((at_ (e := YSpan) c (t : Int)).1 == (i : Int) && ((at_ (e := YSpan) c (t : Int)).2 == (k : Int) && true))) = true then some (ret8 false)
              else L8_0 F48 F49 F50 F51 F42 F32 F52 F34 n m1 f mode x5 x6 c (IntKind.i64.wrap ((t : Int) + 1)) k
            else none
          else some (ret8 false)
        else L8_0 F48 F49 F50 F51 F42 F32 F52 F34 n m1 f mode x5 x6 c t k
      else
        if (decide ((t : Int) ≥ (c.length : Int)) == false) = true then
          if 0 ≤ (t : Int) ∧ (t : Int) < (c.length : Int) then
            if (!((at_ (e := YSpan) c (t : Int)).1 == (i : Int) && ((at_ (e := YSpan) c (t : Int)).2 == (k : Int) && true))) = true then some (ret8 false)
            else L8_0 F48 F49 F50 F51 F42 F32 F52 F34 n m1 f mode x5 x6 c (IntKind.i64.wrap ((t : Int) + 1)) k
          else none
        else some (ret8 false)) =
      (if A = [] ∧ C = [] then L8_0 F48 F49 F50 F51 F42 F32 F52 F34 n m1 f mode x5 x6 c t k
      else if t < c.length ∧ at_ (e := YSpan) c (t : Int) = mkS i k then L8_0 F48 F49 F50 F51 F42 F32 F52 F34 n m1 f mode x5 x6 c ((t + 1 : Nat) : Int) k else some (ret8 false)) := by
    intro k
    have w1 : IntKind.i64.wrap ((t : Int) + 1) = ((t + 1 : Nat) : Int) := wnat (by omega) (by omega)
    have eqv : at_ (e := YSpan) c (t : Int) = mkS i k ↔ ((at_ (e := YSpan) c (t : Int)).1 = (i : Int) ∧ (at_ (e := YSpan) c (t : Int)).2 = (k : Int)) := by
      constructor
      · intro h; rw [h]; exact ⟨rfl, rfl⟩
      · intro h; exact Prod.ext h.1 h.2
    rw [w1]
    obtain ⟨u, hu⟩ : ∃ u : Int, (at_ (e := YSpan) c (t : Int)).1 = u := ⟨_, rfl⟩
    obtain ⟨v, hv⟩ : ∃ u : Int, (at_ (e := YSpan) c (t : Int)).2 = u := ⟨_, rfl⟩
    rw [hu, hv] at eqv ⊢
    by_cases h1 : t < c.length
    · have h2 : decide ((t : Int) ≥ (c.length : Int)) = false := decide_eq_false (by omega)
      have h3 : (0 ≤ (t : Int) ∧ (t : Int) < (c.length : Int)) := by omega
      rw [h2, if_pos h3]
      simp only [eqv]
      by_cases hA : A = [] <;> by_cases hC : C = [] <;> by_cases h4 : u = (i : Int) <;> by_cases h5 : v = (k : Int) <;> simp [hA, hC, h4, h5, h1]
    · have h2 : decide ((t : Int) ≥ (c.length : Int)) = true := decide_eq_true (by omega)
      rw [h2]
      by_cases hA : A = [] <;> by_cases hC : C = [] <;> simp [hA, hC, h1]
  intro d
  induction d with
  | zero =>
    intro k m hk hm
    cases m with
    | zero => omega
    | succ m =>
    have : k = f.length := by omega
    subst this
    have c1 : decide ((f.length : Int) < (f.length : Int)) = false := decide_eq_false (by omega)
    rw [L8_1_step, List.drop_length]
    simp only [bcond_if, c1, Bool.false_eq_true, if_false, rl, Nat.add_zero, show ((false : Bool) == true) = false from rfl]
    exact tail f.length
  | succ d ih =>
    intro k m hk hm
    cases m with
    | zero => omega
    | succ m =>
    have hil : k < f.length := by omega
    have c1 : decide ((k : Int) < (f.length : Int)) = true := decide_eq_true (by omega)
    have w1 : IntKind.i64.wrap ((k : Int) + 1) = ((k + 1 : Nat) : Int) := wnat (by omega) (by omega)
    have ex : at_ (e := YElem) f (k : Int) = atE f k := rfl
    have e3 : (atE f k).2.2 = ea (atE f k) := rfl
    have g1 : get [97, 100, 100] (ea (atE f k)) = kA (atE f k) := rfl
    have g2 : get [99, 117, 116] (ea (atE f k)) = kC (atE f k) := rfl
    rw [L8_1_step, drop_elem f hil]
    simp only [bcond_if, inb, hil, c1, if_true, w1, ex, e3, rget_eq _ (hf.2 k).1, Option.bind_some, res42_0_ret, g1, g2, beq_self_eq_true]
    by_cases q1 : kA (atE f k) = A
    · by_cases q2 : kC (atE f k) = C
      · have hr : k + rl A C (atE f k :: f.drop (k + 1)) = k + 1 + rl A C (f.drop (k + 1)) := by
          rw [rl, if_pos ⟨q1, q2⟩]; omega
        have b1 : ((kA (atE f k) == A) == true) = true := by simp [q1]
        have b2 : (kC (atE f k) == C) = true := by simp [q2]
        rw [hr]
        simp only [b1, b2, if_true]
        exact ih (k + 1) m (by omega) (by omega)
      · have hr : k + rl A C (atE f k :: f.drop (k + 1)) = k := by
          rw [rl, if_neg (fun q => q2 q.2)]; rfl
        have b1 : ((kA (atE f k) == A) == true) = true := by simp [q1]
        have b2 : (kC (atE f k) == C) = false := by simpa using q2
        rw [hr]
        simp only [b1, b2, if_true, Bool.false_eq_true, if_false]
        simpa only [inb] using tail k
    · have hr : k + rl A C (atE f k :: f.drop (k + 1)) = k := by
        rw [rl, if_neg (fun q => q1 q.1)]; rfl
      have b1 : ((kA (atE f k) == A) == true) = false := by simpa using q1
      rw [hr]
      simp only [b1, Bool.false_eq_true, if_false]
      simpa only [inb] using tail k

theorem chs_len : ∀ (l : Flow) (i : Int), (chs i none l).length ≤ l.length ∧ ∀ q, (chs i (some q) l).length ≤ l.length + 1
  | [], i => ⟨Nat.le_refl 0, fun q => Nat.le_refl 1⟩
  | x :: l, i => by
    obtain ⟨h1, h2⟩ := chs_len l (i + 1)
    refine ⟨?_, fun q => ?_⟩
    · rw [chs_cons]
      split
      · simp only [flush, List.nil_append, List.length_cons]; omega
      · have := h2 (i, kA x, kC x)
        simp only [List.length_cons]; omega
    · obtain ⟨s, A, C⟩ := q
      rw [chs_cons]
      split
      · simp only [flush, List.length_append, List.length_cons, List.length_nil]; omega
      · simp only
        split
        · have := h2 (s, A, C)
          simp only [List.length_cons]; omega
        · have := h2 (i, kA x, kC x)
          simp only [List.length_cons]; omega

theorem law_loop (f : Flow) (hf : Fs f) (hp : pErr f = 0) (hl1 : f.length + 1 ≤ 1048576) (mode : Int) (n : Nat) (hn : 1048577 < n) : ∀ (d i t m : Nat), f.length - i = d → i ≤ f.length → d < m → t ≤ (chs 0 none f).length → (chs 0 none f).drop t = chs i none (f.drop i) →
    L8_0 F48 F49 F50 F51 F42 F32 F52 F34 n m f mode (if mode < 0 ∨ 2 < mode then [] else plc f.length mode 0 f) (if mode < 0 ∨ 2 < mode then 1 else 0) (chs 0 none f) t i = some (ret8 true) := by
  have hl := hf.1
  have hcl := (chs_len f 0).1
  intro d
  induction d using Nat.strongRecOn with
  | ind d ih =>
    intro i t m hd hi hm ht he
    cases m with
    | zero => omega
    | succ m =>
    by_cases hil : i < f.length
    · have c1 : decide ((i : Int) < (f.length : Int)) = true := decide_eq_true (by omega)
      have ex : at_ (e := YElem) f (i : Int) = atE f i := rfl
      have e3 : (atE f i).2.2 = ea (atE f i) := rfl
      have g1 : get [97, 100, 100] (ea (atE f i)) = kA (atE f i) := rfl
      have g2 : get [99, 117, 116] (ea (atE f i)) = kC (atE f i) := rfl
      rw [L8_0_step]
      simp only [bcond_if, inb, hil, c1, if_true, ex, e3, rget_eq _ (hf.2 i).1, Option.bind_some, res42_0_ret, g1, g2]
      rw [inner f hf mode _ _ (chs 0 none f) n m i t _ _ (by omega) ht (f.length - i) i n (by omega) (by omega)]
      have hr : rl (kA (atE f i)) (kC (atE f i)) (f.drop i) = rl (kA (atE f i)) (kC (atE f i)) (f.drop (i + 1)) + 1 := by
        rw [drop_elem f hil, rl, if_pos ⟨rfl, rfl⟩]
      have hle := rl_le (kA (atE f i)) (kC (atE f i)) (f.drop i)
      rw [List.length_drop] at hle
      generalize hR : rl (kA (atE f i)) (kC (atE f i)) (f.drop i) = r at *
      by_cases hb : kA (atE f i) = [] ∧ kC (atE f i) = []
      · rw [if_pos hb]
        refine ih (f.length - (i + r)) (by omega) (i + r) t m rfl (by omega) (by omega) ht ?_
        rw [he, chs_blank, ← hb.1]
        have : rl (kA (atE f i)) [] (f.drop i) = r := by rw [← hR]; rw [hb.2]
        rw [hb.1] at this ⊢
        rw [this, List.drop_drop]
        congr 1
        all_goals first | omega | rfl
      · rw [if_neg hb]
        have hrun : chs i none (f.drop i) = mkS i ((i + r : Nat) : Int) :: chs ((i + r : Nat) : Int) none (f.drop (i + r)) := by
          rw [drop_elem f hil, chs_cons, if_neg hb]
          simp only
          rw [chs_run _ _ _ hb]
          have e1 : (i : Int) + 1 + (rl (kA (atE f i)) (kC (atE f i)) (f.drop (i + 1)) : Int) = ((i + r : Nat) : Int) := by omega
          rw [e1, List.drop_drop]
          rw [show i + 1 + rl (kA (atE f i)) (kC (atE f i)) (f.drop (i + 1)) = i + r from by omega]
        rw [hrun] at he
        have htl : t < (chs 0 none f).length := by
          apply Nat.lt_of_not_le
          intro hge
          rw [List.drop_eq_nil_of_le hge] at he
          cases he
        rw [drop_at' (e := YSpan) _ htl] at he
        obtain ⟨he1, he2⟩ := List.cons.inj he
        rw [if_pos ⟨htl, he1⟩]
        exact ih (f.length - (i + r)) (by omega) (i + r) (t + 1) m rfl (by omega) (by omega) (by omega) he2
    · have : i = f.length := by omega
      subst this
      have c1 : decide ((f.length : Int) < (f.length : Int)) = false := decide_eq_false (by omega)
      rw [List.drop_length] at he
      have he : (chs 0 none f).drop t = [] := he
      have htl : t = (chs 0 none f).length := by
        have := List.drop_eq_nil_iff.1 he
        omega
      have c2 : ((t : Int) != ((chs 0 none f).length : Int)) = false := by rw [htl]; simp
      have hpl := plc_len f.length mode f 0
      rw [L8_0_step]
      simp only [bcond_if, c1, c2, Bool.false_eq_true, if_false, Axis.in_eq, Option.bind_some, res32_0_ret, rshown_eq f hf hp, res52_0_ret]
      by_cases h1 : mode < 0 ∨ 2 < mode
      · have e1 : (decide (0 ≤ mode) && decide (mode ≤ 2)) = false := by
          rcases h1 with h1 | h1
          · rw [decide_eq_false (by omega)]; rfl
          · rw [decide_eq_false (p := mode ≤ 2) (by omega)]; simp
        rw [e1]
        simp [h1]
      · have e1 : (decide (0 ≤ mode) && decide (mode ≤ 2)) = true := by rw [decide_eq_true (by omega), decide_eq_true (by omega)]; rfl
        rw [e1]
        simp only [h1, if_false, Bool.not_true, Bool.false_eq_true]
        rw [Axis.same_eq _ _ (by omega)]
        simp

theorem facts : C48 F48 = some (ret48 true) := by
  have s0 : Sh ([] : Attrs) := sh_small _ (by decide) (by simp)
  have s1 : Sh [mkA [99, 117, 116] [120]] := sh_small _ (by decide) (by decide)
  have hf : Fs [mkE 97 0 [], mkE 98 0 [mkA [99, 117, 116] [120]], mkE 10 0 []] := by
    refine ⟨by decide, fun i => ?_⟩
    have : i = 0 ∨ i = 1 ∨ i = 2 ∨ 3 ≤ i := by omega
    rcases this with rfl | rfl | rfl | h
    · exact s0
    · exact s1
    · exact s0
    · have : atE [mkE 97 0 [], mkE 98 0 [mkA [99, 117, 116] [120]], mkE 10 0 []] i = mkE 0 0 [] := by
        unfold atE at_
        rw [List.getD_eq_getElem?_getD, List.getElem?_eq_none (by simp; omega)]
        rfl
      rw [this]; exact s0
  have h := shown_eq _ hf 0
  have c1 : pErr [mkE 97 0 [], mkE 98 0 [mkA [99, 117, 116] [120]], mkE 10 0 []] = 0 := by decide
  have c2 : plc (([mkE 97 0 [], mkE 98 0 [mkA [99, 117, 116] [120]], mkE 10 0 []] : Flow).length : Int) 0 0 [mkE 97 0 [], mkE 98 0 [mkA [99, 117, 116] [120]], mkE 10 0 []] = [0, 2] := by decide
  rw [c1, c2] at h
  rw [e48, e91]
  simp only [Option.bind_some]
  change ((C49 F49 [mkE 97 0 [], mkE 98 0 [mkA [99, 117, 116] [120]], mkE 10 0 []] 0).bind _) = _
  rw [h]
  simp only [ne_eq, not_true, if_false, show ¬ ((0 : Int) < 0 ∨ (2 : Int) < 0) from by omega, Option.bind_some, res49_0_ret, res49_1_ret, bcond_if, Axis.same_eq [0, 2] [0, 2] (by decide), res34_0_ret]
  rfl

theorem law (f : Flow) (hf : Fs f) (hl1 : f.length + 1 ≤ 1048576) (mode : Int) : C8 F8 f mode = some (ret8 true) := by
  obtain ⟨m, hm⟩ := big_succ (n := 1048577) (by omega)
  rw [e8, facts, shown_eq f hf mode, changes_eq f hf, (part_eq f hf).2]
  simp only [Option.bind_some, res48_0_ret, res51_0_ret, bcond_if, Bool.not_true, Bool.false_eq_true, if_false]
  by_cases h : pErr f = 0
  · have := law_loop f hf h hl1 mode big (by omega) f.length 0 0 big (by omega) (by omega) (by omega) (by omega) (by simp)
    simp only [h, ne_eq, not_true, if_false, res50_0_ret, res50_1_ret, bne_self_eq_false, Bool.false_eq_true]
    by_cases h1 : mode < 0 ∨ 2 < mode
    · simp only [h1, if_true, res49_0_ret, res49_1_ret] at this ⊢
      exact this
    · simp only [h1, if_false, res49_0_ret, res49_1_ret] at this ⊢
      exact this
  · simp [h, w64]
theorem holds (f : Flow) (mode : Int) (o0 : (Ty.list YElem).ok f) (o1 : (Ty.int .i64).ok mode) (hb : (Ty.list YElem).bulk f + (Ty.int .i64).bulk mode ≤ 1048576) : C8 F8 f mode = some (ret8 true) := by
  have h1 := bulk_len f
  have h2 := bulk_pos (.int .i64) mode
  refine law f ⟨by omega, fun i => ?_⟩ (by omega) mode
  by_cases hi : i < f.length
  · have := bulk_mem f _ (atE_mem f hi)
    have e : YElem.bulk (atE f i) = 1 + (1 + (Ty.list YAttr).bulk (ea (atE f i))) := rfl
    exact sh_of _ (by omega)
  · have : atE f i = mkE 0 0 [] := by
      unfold atE at_
      rw [List.getD_eq_getElem?_getD, List.getElem?_eq_none (by simp; omega)]
      rfl
    rw [this]
    exact sh_small _ (by decide) (by simp)
end Go.Ev.Track
