/- Which entries count: the plain side. -/
import Derived.Test.YtphlkpahfcainaaEvGot
import Derived.Test.YtphlkpahfcainaaGUndo
namespace Go.Ev.Undo
open Go.Ev
set_option linter.unusedVariables false
set_option linter.unusedSimpArgs false

abbrev Log := List YEntry.den
def en (l : Log) (i : Nat) : YEntry.den := l.getD i YEntry.zero
def site (l : Log) (i : Nat) : Int := (en l i).1
def und (l : Log) (i : Nat) : Int := (en l i).2.2.2.1
def ref (l : Log) (i : Nat) : Int := (en l i).2.2.2.2
theorem at_en (l : Log) (i : Nat) : at_ (e := YEntry) l (i : Int) = en l i := rfl

/-- What is told of the numbers. -/
def Ok (l : Log) : Prop := l.length ≤ 1048576 ∧ ∀ i, -9223372036854775808 ≤ und l i ∧ und l i < 9223372036854775808

/-- Entry `i` undoes an earlier one. -/
def un (l : Log) (i : Nat) : Bool := decide (1 ≤ und l i) && decide (und l i ≤ i)

def dep (l : Log) (i : Nat) : Nat := if h : 1 ≤ und l i ∧ und l i ≤ i then dep l (und l i - 1).toNat + 1 else 0
termination_by i
decreasing_by omega
def lev (l : Log) (i : Nat) : Nat := if h : 1 ≤ und l i ∧ und l i ≤ i then (if lev l (und l i - 1).toNat = 1 then 2 else 1) else 0
termination_by i
decreasing_by omega

theorem dep_le (l : Log) : ∀ i, dep l i ≤ i := by
  intro i
  induction i using Nat.strongRecOn with
  | ind i ih =>
    rw [dep]
    split
    · rename_i h
      have := ih (und l i - 1).toNat (by omega)
      omega
    · omega
theorem lev_dep (l : Log) : ∀ i, lev l i = if dep l i = 0 then 0 else if dep l i % 2 = 1 then 1 else 2 := by
  intro i
  induction i using Nat.strongRecOn with
  | ind i ih =>
    rw [lev, dep]
    split
    · rename_i h
      rw [ih _ (by omega)]
      generalize dep l (und l i - 1).toNat = d
      by_cases h0 : d = 0
      · subst h0; simp
      · by_cases h1 : d % 2 = 1
        · simp [h0, h1]; omega
        · simp [h0, h1]; omega
    · simp

theorem undoes_eq (l : Log) (i : Nat) (hi : i < l.length) : C106 F106 l i = some (ret106 (un l i)) := by
  rw [e106]
  simp only [at_en, bcond_if, inb, hi, if_true]
  change (if (decide (und l i ≥ 1) == true) = true then some (ret106 (decide (und l i ≤ i))) else some (ret106 false)) = _
  unfold un
  by_cases h1 : 1 ≤ und l i <;> simp [h1]

theorem undoing_eq (l : Log) (i : Nat) (hi : i < l.length) : C77 F77 l i = some (ret77 (un l i)) := by
  rw [e77]
  simp only [at_en, inb, hi, if_true, e32, bcond_if]
  change (Option.bind (if (decide (und l i ≥ 1) == true) = true then some (ret32 (decide (und l i ≤ i))) else some (ret32 false)) _) = _
  unfold un
  by_cases h1 : 1 ≤ und l i <;> simp [h1]

theorem un_iff (l : Log) (i : Nat) : un l i = true ↔ (1 ≤ und l i ∧ und l i ≤ i) := by simp [un]

theorem depth_loop (l : Log) (hl : Ok l) (n : Nat) : ∀ (i m : Nat) (c : Nat), i < l.length → i < m → c + i ≤ 1048576 → L76_0 F106 n m l i c = some (ret76 ((c + dep l i : Nat) : Int)) := by
  intro i
  induction i using Nat.strongRecOn with
  | ind i ih =>
    intro m c hi hm hc
    cases m with
    | zero => omega
    | succ m =>
    rw [L76_0_step, undoes_eq l i hi, dep]
    simp only [Option.bind_some, res106_0_ret, bcond_if, un_iff]
    split
    · rename_i h
      have h2 : (0 ≤ (i : Int) ∧ (i : Int) < (l.length : Int)) := by omega
      simp only [h2, if_true, at_en, and_self]
      change L76_0 F106 n m l (IntKind.i64.wrap (und l i - 1)) (IntKind.i64.wrap ((c : Int) + 1)) = _
      rw [wnat (x := und l i - 1) (n := (und l i - 1).toNat) (by omega) (by have := hl.1; omega), wnat (x := (c : Int) + 1) (n := c + 1) (by omega) (by omega)]
      rw [ih _ (by omega) m (c + 1) (by omega) (by omega) (by omega)]
      congr 3
      omega
    · rfl

theorem depth_eq (l : Log) (hl : Ok l) (i : Nat) (hi : i < l.length) : C76 F76 l i = some (ret76 (dep l i : Int)) := by
  rw [e76]
  obtain ⟨m, hm⟩ := big_succ (n := 1048576) (by omega)
  have := depth_loop l hl big i big 0 hi (by have := hl.1; omega) (by have := hl.1; omega)
  simpa using this

theorem level_k (l : Log) (hl : Ok l) : ∀ (i k : Nat), i < l.length → i < k → C18 (F18k k) l i = some (ret18 (lev l i : Int)) := by
  intro i
  induction i using Nat.strongRecOn with
  | ind i ih =>
    intro k hi hk
    cases k with
    | zero => omega
    | succ k =>
    rw [e18, undoing_eq l i hi, lev]
    simp only [Option.bind_some, res77_0_ret, bcond_if]
    by_cases h : 1 ≤ und l i ∧ und l i ≤ i
    · have hu : un l i = true := (un_iff l i).2 h
      have h2 : (0 ≤ (i : Int) ∧ (i : Int) < (l.length : Int)) := by omega
      simp only [hu, Bool.not_true, Bool.false_eq_true, if_false, h2, and_self, if_true, at_en]
      change (Option.bind (C18 (F18k k) l (IntKind.i64.wrap (und l i - 1))) _) = _
      rw [wnat (x := und l i - 1) (n := (und l i - 1).toNat) (by omega) (by have := hl.1; omega), ih _ (by omega) k (by omega) (by omega)]
      simp only [Option.bind_some, res18_0_ret, h, and_self, dite_true]
      generalize lev l (und l i - 1).toNat = d
      have e : ((d : Int) == 1) = decide (d = 1) := by
        by_cases h4 : d = 1
        · subst h4; rfl
        · rw [decide_eq_false h4]; exact beq_eq_false_iff_ne.2 (by omega)
      by_cases h4 : d = 1
      · subst h4; rfl
      · simp [e, h4]
    · have hu : un l i = false := by
        cases hc : un l i with
        | false => rfl
        | true => exact absurd ((un_iff l i).1 hc) h
      simp [hu, h]

theorem level_eq (l : Log) (hl : Ok l) (i : Nat) (hi : i < l.length) : C18 F18 l i = some (ret18 (lev l i : Int)) := by
  obtain ⟨m, hm⟩ := big_succ (n := 1048576) (by omega)
  exact level_k l hl i big hi (by have := hl.1; omega)

/-- From entry `k` on `c` tells which entries count. -/
def Q (l : Log) (c : List Bool) (k : Nat) : Prop := c.length = l.length ∧ ∀ i, k ≤ i → i < l.length → (c.getD i false = true ↔ (ref l i = 0 ∧ ∀ j, i < j → j < l.length → und l j = i + 1 → ¬ c.getD j false = true))

theorem Q_uniq {l : Log} {c d : List Bool} (hc : Q l c 0) (hd : Q l d 0) : c = d := by
  apply ext_getD (by rw [hc.1, hd.1])
  have key : ∀ k i, l.length - i = k → i < l.length → (c.getD i false = true ↔ d.getD i false = true) := by
    intro k
    induction k using Nat.strongRecOn with
    | ind k ih =>
      intro i hk hi
      rw [hc.2 i (by omega) hi, hd.2 i (by omega) hi]
      constructor
      · rintro ⟨h1, h2⟩
        exact ⟨h1, fun j a b e => by rw [← ih (l.length - j) (by omega) j rfl b]; exact h2 j a b e⟩
      · rintro ⟨h1, h2⟩
        exact ⟨h1, fun j a b e => by rw [ih (l.length - j) (by omega) j rfl b]; exact h2 j a b e⟩
  intro i hi
  exact key _ i rfl (by rw [← hc.1]; exact hi)

theorem counting_in (l : Log) (hl : Ok l) (n m1 i : Nat) (hi : i < l.length) : ∀ (d j m2 : Nat) (c : List Bool), j + d = l.length → i < j → d < m2 → Q l c (i + 1) →
    (c.getD i false = true ↔ (ref l i = 0 ∧ ∀ j', i < j' → j' < j → und l j' = i + 1 → ¬ c.getD j' false = true)) →
    ∃ c', Q l c' i ∧ L17_1 n m1 m2 l c i j = L17_0 n m1 l c' ((i : Int) - 1) := by
  intro d
  induction d with
  | zero =>
    intro j m2 c hj hij hm hq hc
    cases m2 with
    | zero => omega
    | succ m2 =>
    refine ⟨c, ⟨hq.1, fun i' h1 h2 => ?_⟩, ?_⟩
    · by_cases h3 : i' = i
      · subst h3
        rw [hc]
        have : j = l.length := by omega
        rw [this]
      · exact hq.2 i' (by omega) h2
    · rw [L17_1_step]
      have : ¬ ((j : Int) < (l.length : Int)) := by omega
      simp only [bcond_if, this, decide_false, Bool.false_eq_true, if_false]
      rw [w64 (by omega) (by have := hl.1; omega)]
  | succ d ih =>
    intro j m2 c hj hij hm hq hc
    cases m2 with
    | zero => omega
    | succ m2 =>
    have hlen := hl.1
    have hjl : j < l.length := by omega
    have hcl : c.length = l.length := hq.1
    have stepj : IntKind.i64.wrap ((j : Int) + 1) = ((j + 1 : Nat) : Int) := wnat (by omega) (by omega)
    have c1 : (j : Int) < (l.length : Int) := by omega
    rw [L17_1_step]
    simp only [bcond_if, inb, hjl, c1, decide_true, if_true, hcl, hi, at_bool, at_en, stepj, wnat (x := (i : Int) + 1) (n := i + 1) (by omega) (by omega), Int.toNat_natCast]
    have e : ((und l j == ((i + 1 : Nat) : Int)) == true) = decide (und l j = (i : Int) + 1) := by
      by_cases h : und l j = (i : Int) + 1
      · rw [h]; simp
      · have : ¬ und l j = ((i + 1 : Nat) : Int) := by omega
        simp [h, this]
    change ∃ c', Q l c' i ∧ (if ((und l j == ((i + 1 : Nat) : Int)) == true) = true then _ else _) = _
    rw [e]
    by_cases h : und l j = (i : Int) + 1
    · simp only [h, decide_true, if_true]
      by_cases hcj : c.getD j false = true
      · rw [if_pos hcj]
        refine ih (j + 1) m2 (c.set i false) (by omega) (by omega) (by omega) ⟨by simp [hcl], fun i' h1 h2 => ?_⟩ ?_
        · rw [getD_setB _ _ _ _ (by omega), if_neg (by omega), hq.2 i' h1 h2]
          constructor
          · rintro ⟨a1, a2⟩
            exact ⟨a1, fun j' b1 b2 b3 => by rw [getD_setB _ _ _ _ (by omega), if_neg (by omega)]; exact a2 j' b1 b2 b3⟩
          · rintro ⟨a1, a2⟩
            refine ⟨a1, fun j' b1 b2 b3 => ?_⟩
            have := a2 j' b1 b2 b3
            rw [getD_setB _ _ _ _ (by omega), if_neg (by omega)] at this
            exact this
        · rw [getD_setB _ _ _ _ (by omega), if_pos rfl]
          constructor
          · intro x; cases x
          · rintro ⟨a1, a2⟩
            have := a2 j hij (by omega) h
            rw [getD_setB _ _ _ _ (by omega), if_neg (by omega)] at this
            exact absurd hcj this
      · rw [if_neg hcj]
        refine ih (j + 1) m2 c (by omega) (by omega) (by omega) hq ?_
        rw [hc]
        constructor
        · rintro ⟨a1, a2⟩
          refine ⟨a1, fun j' b1 b2 b3 => ?_⟩
          by_cases hjj : j' = j
          · subst hjj; exact hcj
          · exact a2 j' b1 (by omega) b3
        · rintro ⟨a1, a2⟩
          exact ⟨a1, fun j' b1 b2 b3 => a2 j' b1 (by omega) b3⟩
    · simp only [h, decide_false, Bool.false_eq_true, if_false]
      refine ih (j + 1) m2 c (by omega) (by omega) (by omega) hq ?_
      rw [hc]
      constructor
      · rintro ⟨a1, a2⟩
        refine ⟨a1, fun j' b1 b2 b3 => ?_⟩
        by_cases hjj : j' = j
        · subst hjj; exact absurd b3 h
        · exact a2 j' b1 (by omega) b3
      · rintro ⟨a1, a2⟩
        exact ⟨a1, fun j' b1 b2 b3 => a2 j' b1 (by omega) b3⟩

theorem counting_out (l : Log) (hl : Ok l) (n : Nat) (hn : l.length < n) : ∀ (k m : Nat) (c : List Bool), k ≤ l.length → k < m → Q l c k → ∃ c', Q l c' 0 ∧ L17_0 n m l c ((k : Int) - 1) = some (ret17 c') := by
  intro k
  have hlen := hl.1
  induction k with
  | zero =>
    intro m c hk hm hq
    cases m with
    | zero => omega
    | succ m =>
    refine ⟨c, hq, ?_⟩
    rw [L17_0_step]
    simp [bcond_if]
  | succ k ih =>
    intro m c hk hm hq
    cases m with
    | zero => omega
    | succ m =>
    have hkl : k < l.length := by omega
    have e0 : ((k + 1 : Nat) : Int) - 1 = (k : Int) := by omega
    rw [L17_0_step, e0]
    have c1 : decide ((k : Int) ≥ 0) = true := decide_eq_true (by omega)
    simp only [bcond_if, inb, hkl, c1, if_true, hq.1, at_en, wnat (x := (k : Int) + 1) (n := k + 1) (by omega) (by omega), Int.toNat_natCast]
    change ∃ c', Q l c' 0 ∧ L17_1 n m n l (c.set k (ref l k == 0)) k ((k + 1 : Nat) : Int) = _
    obtain ⟨c', q1, q2⟩ := counting_in l hl n m k hkl (l.length - (k + 1)) (k + 1) n (c.set k (ref l k == 0)) (by omega) (by omega) (by omega) ⟨by simp [hq.1], fun i' h1 h2 => by
      rw [getD_setB _ _ _ _ (by rw [hq.1]; omega), if_neg (by omega), hq.2 i' h1 h2]
      constructor
      · rintro ⟨a1, a2⟩
        exact ⟨a1, fun j' b1 b2 b3 => by rw [getD_setB _ _ _ _ (by rw [hq.1]; omega), if_neg (by omega)]; exact a2 j' b1 b2 b3⟩
      · rintro ⟨a1, a2⟩
        refine ⟨a1, fun j' b1 b2 b3 => ?_⟩
        have := a2 j' b1 b2 b3
        rw [getD_setB _ _ _ _ (by rw [hq.1]; omega), if_neg (by omega)] at this
        exact this⟩ (by
      rw [getD_setB _ _ _ _ (by rw [hq.1]; omega), if_pos rfl]
      simp only [beq_iff_eq]
      exact ⟨fun h => ⟨h, fun j' b1 b2 => by omega⟩, fun h => h.1⟩)
    rw [q2]
    exact ih m c' (by omega) (by omega) q1

theorem counting_eq (l : Log) (hl : Ok l) : ∃ c, Q l c 0 ∧ C17 F17 l = some (ret17 c) := by
  have hlen := hl.1
  obtain ⟨m, hm⟩ := big_succ (n := 1048576) (by omega)
  rw [e17]
  rw [if_pos (by omega), w64 (by omega) (by omega)]
  refine counting_out l hl big (by omega) l.length big _ (Nat.le_refl _) (by omega) ⟨by simp, fun i h1 h2 => by omega⟩

def nxc (l : Log) (c u : List Bool) (k : Nat) : Bool := !(u.getD k false) && (ref l k == 0)
def nxu (l : Log) (c u : List Bool) (k : Nat) : List Bool := if nxc l c u k = true ∧ (1 ≤ und l k ∧ und l k ≤ k) then u.set (und l k - 1).toNat true else u

theorem counts_step (l : Log) (hl : Ok l) (n m k : Nat) (c u : List Bool) (hk : k < l.length) (hc : c.length = l.length) (hu : u.length = l.length) :
    L15_0 n (m + 1) l c u (k : Int) = L15_0 n m l (c.set k (nxc l c u k)) (nxu l c u k) ((k : Int) - 1) := by
  have hlen := hl.1
  have c1 : decide ((k : Int) ≥ 0) = true := decide_eq_true (by omega)
  have w1 : IntKind.i64.wrap ((k : Int) - 1) = (k : Int) - 1 := w64 (by omega) (by omega)
  have gs : ∀ b, (c.set k b).getD k false = b := fun b => by rw [getD_setB _ _ _ _ (by omega), if_pos rfl]
  rw [L15_0_step]
  simp only [bcond_if, inb, hk, c1, if_true, hc, hu, at_bool, at_en, w1, Int.toNat_natCast, List.length_set, gs]
  have hn : nxc l c u k = (!(u.getD k false) && (ref l k == 0)) := rfl
  cases hb : u.getD k false with
  | true =>
    have hn' : nxc l c u k = false := by rw [hn, hb]; rfl
    have hx : nxu l c u k = u := by simp [nxu, hn']
    rw [hx, hn']
    simp
  | false =>
    have hn' : nxc l c u k = (ref l k == 0) := by rw [hn, hb]; rfl
    simp only [Bool.not_false, beq_self_eq_true, if_true]
    change (if ((ref l k == 0) == true) = true then (if (decide (und l k ≥ 1) == true) = true then (if decide (und l k ≤ k) = true then (if 0 ≤ IntKind.i64.wrap (und l k - 1) ∧ IntKind.i64.wrap (und l k - 1) < (l.length : Int) then L15_0 n m l (c.set k (ref l k == 0)) (u.set (IntKind.i64.wrap (und l k - 1)).toNat true) ((k : Int) - 1) else none) else L15_0 n m l (c.set k (ref l k == 0)) u ((k : Int) - 1)) else L15_0 n m l (c.set k (ref l k == 0)) u ((k : Int) - 1)) else L15_0 n m l (c.set k (ref l k == 0)) u ((k : Int) - 1)) = _
    rw [hn']
    by_cases h0 : (ref l k == 0) = true
    · rw [h0]
      simp only [beq_self_eq_true, if_true]
      by_cases h1 : 1 ≤ und l k
      · have h1' : und l k ≥ 1 := h1
        by_cases h2 : und l k ≤ k
        · have hx : nxu l c u k = u.set (und l k - 1).toNat true := by rw [nxu, if_pos ⟨by rw [hn', h0], h1, h2⟩]
          rw [hx, w64 (x := und l k - 1) (by omega) (by omega)]
          simp only [h1', h2, decide_true, beq_self_eq_true, if_true]
          rw [if_pos (by omega)]
        · have hx : nxu l c u k = u := by rw [nxu, if_neg (fun h => h2 h.2.2)]
          rw [hx]
          simp [h1', h2]
      · have hx : nxu l c u k = u := by rw [nxu, if_neg (fun h => h1 h.2.1)]
        have h1' : ¬ und l k ≥ 1 := h1
        rw [hx]
        simp [h1']
    · have hx : nxu l c u k = u := by rw [nxu, if_neg (fun h => h0 (by rw [← hn']; exact h.1))]
      rw [hx]
      simp [h0]

theorem counts_out (l : Log) (hl : Ok l) (n : Nat) : ∀ (k m : Nat) (c u : List Bool), k ≤ l.length → k < m → Q l c k → u.length = l.length →
    (∀ i, i < k → (u.getD i false = true ↔ ∃ j, k ≤ j ∧ j < l.length ∧ c.getD j false = true ∧ und l j = i + 1)) → ∃ c', Q l c' 0 ∧ L15_0 n m l c u ((k : Int) - 1) = some (ret15 c') := by
  intro k
  induction k with
  | zero =>
    intro m c u hk hm hq hu hU
    cases m with
    | zero => omega
    | succ m =>
    refine ⟨c, hq, ?_⟩
    rw [L15_0_step]
    simp [bcond_if]
  | succ k ih =>
    intro m c u hk hm hq hu hU
    cases m with
    | zero => omega
    | succ m =>
    rw [show ((k + 1 : Nat) : Int) - 1 = (k : Int) from by omega, counts_step l hl n m k c u (by omega) hq.1 hu]
    have hk1 : k < c.length := by rw [hq.1]; omega
    have gsk : ∀ i b, (c.set k b).getD i false = if k = i then b else c.getD i false := fun i b => getD_setB c k i b hk1
    refine ih m _ _ (by omega) (by omega) ⟨by simp [hq.1], fun i h1 h2 => ?_⟩ ?_ (fun i hi => ?_)
    · rw [gsk]
      have rest : ∀ j, i < j → ((c.set k (nxc l c u k)).getD j false = c.getD j false) := fun j hj => by rw [gsk, if_neg (by omega)]
      by_cases h3 : k = i
      · subst h3
        rw [if_pos rfl]
        unfold nxc
        simp only [Bool.and_eq_true, Bool.not_eq_true', beq_iff_eq]
        constructor
        · rintro ⟨a1, a2⟩
          refine ⟨a2, fun j b1 b2 b3 hc => ?_⟩
          rw [show (c.set k (!(u.getD k false) && ref l k == 0)) = c.set k (nxc l c u k) from rfl, rest j b1] at hc
          have := (hU k (by omega)).2 ⟨j, by omega, b2, hc, b3⟩
          rw [this] at a1; cases a1
        · rintro ⟨a1, a2⟩
          refine ⟨?_, a1⟩
          cases hc : u.getD k false with
          | false => rfl
          | true =>
            obtain ⟨j, b1, b2, b3, b4⟩ := (hU k (by omega)).1 hc
            have := a2 j (by omega) b2 b4
            rw [show (c.set k (!(u.getD k false) && ref l k == 0)) = c.set k (nxc l c u k) from rfl, rest j (by omega)] at this
            exact absurd b3 this
      · rw [if_neg h3, hq.2 i (by omega) h2]
        constructor
        · rintro ⟨a1, a2⟩
          exact ⟨a1, fun j b1 b2 b3 => by rw [rest j b1]; exact a2 j b1 b2 b3⟩
        · rintro ⟨a1, a2⟩
          exact ⟨a1, fun j b1 b2 b3 => by rw [← rest j b1]; exact a2 j b1 b2 b3⟩
    · unfold nxu; split <;> simp [hu]
    · have old := hU i (by omega)
      have cj : ∀ j, k < j → (c.set k (nxc l c u k)).getD j false = c.getD j false := fun j hj => by rw [gsk, if_neg (by omega)]
      have ck : (c.set k (nxc l c u k)).getD k false = nxc l c u k := by rw [gsk, if_pos rfl]
      have hsplit : (∃ j, k ≤ j ∧ j < l.length ∧ (c.set k (nxc l c u k)).getD j false = true ∧ und l j = i + 1) ↔ ((nxc l c u k = true ∧ und l k = i + 1) ∨ ∃ j, k + 1 ≤ j ∧ j < l.length ∧ c.getD j false = true ∧ und l j = i + 1) := by
        constructor
        · rintro ⟨j, b1, b2, b3, b4⟩
          by_cases hj : j = k
          · subst hj; rw [ck] at b3; exact .inl ⟨b3, b4⟩
          · rw [cj j (by omega)] at b3; exact .inr ⟨j, by omega, b2, b3, b4⟩
        · rintro (⟨b3, b4⟩ | ⟨j, b1, b2, b3, b4⟩)
          · exact ⟨k, by omega, by omega, by rw [ck]; exact b3, b4⟩
          · exact ⟨j, by omega, b2, by rw [cj j (by omega)]; exact b3, b4⟩
      rw [hsplit, ← old]
      unfold nxu
      split
      · rename_i h
        rw [getD_setB _ _ _ _ (by omega)]
        split
        · rename_i e
          exact ⟨fun _ => .inl ⟨h.1, by omega⟩, fun _ => rfl⟩
        · rename_i e
          exact ⟨.inr, fun h' => h'.elim (fun x => absurd x.2 (by omega)) id⟩
      · rename_i h
        exact ⟨.inr, fun h' => h'.elim (fun x => absurd ⟨x.1, by omega, by omega⟩ h) id⟩

theorem counts_eq (l : Log) (hl : Ok l) : ∃ c, Q l c 0 ∧ C15 F15 l = some (ret15 c) := by
  have hlen := hl.1
  obtain ⟨m, hm⟩ := big_succ (n := 1048576) (by omega)
  rw [e15]
  rw [if_pos (by omega), if_pos (by omega), w64 (by omega) (by omega)]
  refine counts_out l hl big l.length big _ _ (Nat.le_refl _) (by omega) ⟨by simp, fun i h1 h2 => by omega⟩ (by simp) (fun i hi => ?_)
  constructor
  · intro h
    rw [List.getD_eq_getElem?_getD] at h
    simp [List.getElem?_replicate] at h
    split at h <;> simp at h
  · rintro ⟨j, h1, h2, _⟩
    omega

def lastp (p : Nat → Bool) : Nat → Nat
  | 0 => 0
  | k + 1 => if p k = true then k + 1 else lastp p k
/-- What is told of entry `k`: its site's, counted, and no undoing. -/
def plast (l : Log) (s : Int) (c : List Bool) (k : Nat) : Bool := (site l k == s) && c.getD k false && decide (dep l k = 0)
def taken (l : Log) (s : Int) (c : List Bool) : Nat → Nat
  | 0 => 0
  | k + 1 => if site l k ≠ s ∨ ref l k ≠ 0 then taken l s c k else if dep l k % 2 = 1 then (if c.getD k false = true then k + 1 else taken l s c k) else if dep l k = 0 then 0 else taken l s c k

theorem last_loop (l : Log) (hl : Ok l) (s : Int) (c : List Bool) (hc : c.length = l.length) (n : Nat) : ∀ k m, k ≤ l.length → k < m → L16_0 F15 F76 n m l s c ((k : Int) - 1) = some (ret16 (lastp (plast l s c) k : Int)) := by
  have hlen := hl.1
  intro k
  induction k with
  | zero =>
    intro m hk hm
    cases m with
    | zero => omega
    | succ m =>
    rw [L16_0_step]
    simp [bcond_if, lastp]
  | succ k ih =>
    intro m hk hm
    cases m with
    | zero => omega
    | succ m =>
    have hkl : k < l.length := by omega
    have c1 : decide ((k : Int) ≥ 0) = true := decide_eq_true (by omega)
    have w1 : IntKind.i64.wrap ((k : Int) - 1) = (k : Int) - 1 := w64 (by omega) (by omega)
    rw [show ((k + 1 : Nat) : Int) - 1 = (k : Int) from by omega, L16_0_step]
    simp only [bcond_if, inb, hkl, c1, if_true, hc, at_bool, at_en, w1, Int.toNat_natCast, depth_eq l hl k hkl, Option.bind_some, res76_0_ret, ih m (by omega) (by omega), wnat (x := (k : Int) + 1) (n := k + 1) (by omega) (by omega), lastp]
    change (if ((site l k == s) == true) = true then _ else _) = _
    unfold plast
    cases h1 : (site l k == s) <;> cases h2 : c.getD k false <;> by_cases h3 : dep l k = 0 <;> simp [h3]

theorem undone_loop (l : Log) (hl : Ok l) (s : Int) (c : List Bool) (hc : c.length = l.length) (n : Nat) : ∀ k m, k ≤ l.length → k < m → L19_0 F15 F76 n m l s c ((k : Int) - 1) = some (ret19 (taken l s c k : Int)) := by
  have hlen := hl.1
  intro k
  induction k with
  | zero =>
    intro m hk hm
    cases m with
    | zero => omega
    | succ m =>
    rw [L19_0_step]
    simp [bcond_if, taken]
  | succ k ih =>
    intro m hk hm
    cases m with
    | zero => omega
    | succ m =>
    have hkl : k < l.length := by omega
    have c1 : decide ((k : Int) ≥ 0) = true := decide_eq_true (by omega)
    have w1 : IntKind.i64.wrap ((k : Int) - 1) = (k : Int) - 1 := w64 (by omega) (by omega)
    rw [show ((k + 1 : Nat) : Int) - 1 = (k : Int) from by omega, L19_0_step]
    simp only [bcond_if, inb, hkl, c1, if_true, hc, at_bool, at_en, w1, Int.toNat_natCast, depth_eq l hl k hkl, Option.bind_some, res76_0_ret, ih m (by omega) (by omega), wnat (x := (k : Int) + 1) (n := k + 1) (by omega) (by omega), taken]
    change (if ((site l k != s) == false) = true then (if (ref l k != 0) = true then _ else _) else _) = _
    have e1 : (((dep l k : Int).tmod 2 == 1) = true) ↔ dep l k % 2 = 1 := by
      rw [beq_iff_eq, show (2 : Int) = ((2 : Nat) : Int) from rfl, ← Int.ofNat_tmod (dep l k) 2]
      omega
    by_cases h1 : site l k = s
    · by_cases h2 : ref l k = 0
      · simp only [h1, h2]
        by_cases h3 : dep l k % 2 = 1
        · have := e1.2 h3
          cases h4 : c.getD k false <;> simp [h3, this]
        · have := mt e1.1 h3
          by_cases h5 : dep l k = 0 <;> simp [h5, h3, this]
      · simp [h1, h2]
    · simp [h1]

theorem last_eq (l : Log) (hl : Ok l) (s : Int) (c : List Bool) (hq : Q l c 0) : C16 F16 l s = some (ret16 (lastp (plast l s c) l.length : Int)) := by
  have hlen := hl.1
  obtain ⟨m, hm⟩ := big_succ (n := 1048576) (by omega)
  obtain ⟨c', q1, q2⟩ := counts_eq l hl
  obtain rfl := Q_uniq hq q1
  rw [e16, q2]
  simp only [Option.bind_some, res15_0_ret]
  rw [w64 (by omega) (by omega)]
  exact last_loop l hl s c hq.1 big l.length big (Nat.le_refl _) (by omega)
theorem undone_eq (l : Log) (hl : Ok l) (s : Int) (c : List Bool) (hq : Q l c 0) : C19 F19 l s = some (ret19 (taken l s c l.length : Int)) := by
  have hlen := hl.1
  obtain ⟨m, hm⟩ := big_succ (n := 1048576) (by omega)
  obtain ⟨c', q1, q2⟩ := counts_eq l hl
  obtain rfl := Q_uniq hq q1
  rw [e19, q2]
  simp only [Option.bind_some, res15_0_ret]
  rw [w64 (by omega) (by omega)]
  exact undone_loop l hl s c hq.1 big l.length big (Nat.le_refl _) (by omega)

theorem law_loop (l : Log) (hl : Ok l) (s : Int) (c : List Bool) (hq : Q l c 0) (n : Nat) : ∀ d k m, k + d = l.length → d < m →
    L3_0 F15 F16 F17 F18 F19 n m l s c c (lastp (plast l s c) k) (taken l s c k) (l.length : Int) k = some (ret3 true) := by
  have hlen := hl.1
  intro d
  induction d with
  | zero =>
    intro k m hk hm
    cases m with
    | zero => omega
    | succ m =>
    have hkl : k = l.length := by omega
    subst hkl
    rw [L3_0_step]
    have c1 : decide ((l.length : Int) < (l.length : Int)) = false := decide_eq_false (by omega)
    simp only [bcond_if, c1, Bool.false_eq_true, if_false, last_eq l hl s c hq, undone_eq l hl s c hq, Option.bind_some, res16_0_ret, res19_0_ret, beq_self_eq_true, if_true]
  | succ d ih =>
    intro k m hk hm
    cases m with
    | zero => omega
    | succ m =>
    have hkl : k < l.length := by omega
    have c1 : decide ((k : Int) < (l.length : Int)) = true := decide_eq_true (by omega)
    have hi := ih (k + 1) m (by omega) (by omega)
    rw [L3_0_step]
    simp only [bcond_if, inb, hkl, c1, if_true, hq.1, at_bool, at_en, Int.toNat_natCast, level_eq l hl k hkl, Option.bind_some, res18_0_ret, wnat (x := (k : Int) + 1) (n := k + 1) (by omega) (by omega), bne_self_eq_false, Bool.false_eq_true, if_false]
    change (if (site l k != s) = true then _ else if (((lev l k : Int) == 0) == true) = true then (if (ref l k == 0) = true then _ else _) else _) = _
    have hcr : c.getD k false = true → ref l k = 0 := fun h => ((hq.2 k (by omega) hkl).1 h).1
    have hlev := lev_dep l k
    by_cases h1 : site l k = s
    · rw [if_neg (by simp [h1])]
      by_cases h0 : dep l k = 0
      · have hv : lev l k = 0 := by rw [hlev, if_pos h0]
        by_cases hr : ref l k = 0
        · rw [hv]
          cases hc : c.getD k false
          · have e1 : lastp (plast l s c) (k + 1) = lastp (plast l s c) k := by simp [-List.getD_eq_getElem?_getD, lastp, plast, hc]
            have e2 : taken l s c (k + 1) = 0 := by simp [-List.getD_eq_getElem?_getD, taken, h1, hr, h0]
            rw [e1, e2] at hi
            simpa [-List.getD_eq_getElem?_getD, hr, hc] using hi
          · have e1 : lastp (plast l s c) (k + 1) = k + 1 := by simp [-List.getD_eq_getElem?_getD, lastp, plast, hc, h1, h0]
            have e2 : taken l s c (k + 1) = 0 := by simp [-List.getD_eq_getElem?_getD, taken, h1, hr, h0]
            rw [e1, e2] at hi
            simpa [-List.getD_eq_getElem?_getD, hr, hc] using hi
        · have hc : c.getD k false = false := by
            cases hc : c.getD k false with
            | false => rfl
            | true => exact absurd (hcr hc) hr
          have e1 : lastp (plast l s c) (k + 1) = lastp (plast l s c) k := by simp [-List.getD_eq_getElem?_getD, lastp, plast, hc]
          have e2 : taken l s c (k + 1) = taken l s c k := by simp [-List.getD_eq_getElem?_getD, taken, hr]
          rw [e1, e2] at hi
          rw [hv]
          simpa [-List.getD_eq_getElem?_getD, hr, hc] using hi
      · have e1 : lastp (plast l s c) (k + 1) = lastp (plast l s c) k := by simp [-List.getD_eq_getElem?_getD, lastp, plast, h0]
        rw [e1] at hi
        by_cases h2 : dep l k % 2 = 1
        · have hv : lev l k = 1 := by rw [hlev, if_neg h0, if_pos h2]
          rw [hv]
          cases hc : c.getD k false
          · have e2 : taken l s c (k + 1) = taken l s c k := by simp [-List.getD_eq_getElem?_getD, taken, hc, h2]
            rw [e2] at hi
            simpa [-List.getD_eq_getElem?_getD, hc] using hi
          · have e2 : taken l s c (k + 1) = k + 1 := by simp [-List.getD_eq_getElem?_getD, taken, hc, h2, h1, hcr hc]
            rw [e2] at hi
            simpa [-List.getD_eq_getElem?_getD, hc] using hi
        · have hv : lev l k = 2 := by rw [hlev, if_neg h0, if_neg h2]
          have e2 : taken l s c (k + 1) = taken l s c k := by simp [-List.getD_eq_getElem?_getD, taken, h2, h0]
          rw [e2] at hi
          rw [hv]
          simpa using hi
    · rw [if_pos (by simp [h1])]
      have e1 : lastp (plast l s c) (k + 1) = lastp (plast l s c) k := by simp [-List.getD_eq_getElem?_getD, lastp, plast, h1]
      have e2 : taken l s c (k + 1) = taken l s c k := by simp [-List.getD_eq_getElem?_getD, taken, h1]
      rw [e1, e2] at hi
      exact hi

def three : Log := [(1, (0, ([], (0, 0)))), (1, (0, ([], (1, 0)))), (1, (0, ([], (2, 0))))]
theorem three_ok : Ok three := ⟨by simp [three], fun i => by
  have : i = 0 ∨ i = 1 ∨ i = 2 ∨ 3 ≤ i := by omega
  rcases this with rfl | rfl | rfl | h
  · decide
  · decide
  · decide
  · have : en three i = YEntry.zero := by unfold en; rw [List.getD_eq_getElem?_getD, List.getElem?_eq_none (by simpa [three] using h)]; rfl
    unfold und
    rw [this]
    decide⟩
theorem three_q : Q three [true, false, true] 0 := ⟨rfl, fun i _ hi => by
  have hi : i < 3 := hi
  have : i = 0 ∨ i = 1 ∨ i = 2 := by omega
  rcases this with rfl | rfl | rfl
  · refine ⟨fun _ => ⟨rfl, fun j a b e => ?_⟩, fun _ => rfl⟩
    have b : j < 3 := b
    have : j = 1 ∨ j = 2 := by omega
    rcases this with rfl | rfl
    · decide
    · exact absurd e (by decide)
  · exact ⟨fun h => (by cases h), fun h => absurd rfl (h.2 2 (by omega) (by decide) (by decide))⟩
  · refine ⟨fun _ => ⟨rfl, fun j a b e => ?_⟩, fun _ => rfl⟩
    have b : j < 3 := b
    omega⟩
theorem three_last : lastp (plast three 1 [true, false, true]) three.length = 1 := by
  have d0 : dep three 0 = 0 := by rw [dep]; rfl
  have d2 : dep three 2 = 2 := by
    rw [dep, dif_pos (by decide), show (und three 2 - 1).toNat = 1 from rfl, dep, dif_pos (by decide), show (und three 1 - 1).toNat = 0 from rfl, d0]
  show lastp (plast three 1 [true, false, true]) 3 = 1
  simp only [lastp, plast, d0, d2]
  decide

theorem law (l : Log) (hl : Ok l) (s : Int) : C3 F3 l s = some (ret3 true) := by
  have hlen := hl.1
  have core : ∀ l : Log, Ok l → ((C15 F15 l).bind fun r3 => (C17 F17 l).bind fun r4 => bcond (((List.length (res15_0 r3) : Int) : Int) != (List.length (res17_0 r4) : Int)) (some (ret3 false)) (L3_0 F15 F16 F17 F18 F19 big big l s (res15_0 r3) (res17_0 r4) 0 0 (List.length l : Int) 0)) = some (ret3 true) := by
    intro l hl
    have hlen := hl.1
    obtain ⟨m, hm⟩ := big_succ (n := 1048576) (by omega)
    obtain ⟨c, q1, q2⟩ := counts_eq l hl
    obtain ⟨c', q3, q4⟩ := counting_eq l hl
    obtain rfl := Q_uniq q1 q3
    rw [q2]
    simp only [Option.bind_some, res15_0_ret, q4, res17_0_ret, bcond_if, bne_self_eq_false, Bool.false_eq_true, if_false]
    exact law_loop l hl s c q1 big l.length 0 big (by omega) (by omega)
  obtain ⟨c, q1, q2⟩ := counts_eq three three_ok
  obtain rfl := Q_uniq three_q q1
  have h16 := last_eq three three_ok 1 _ three_q
  rw [three_last] at h16
  rw [e3]
  unfold three at q2 h16
  rw [q2]
  simp only [Option.bind_some, res15_0_ret]
  rw [h16]
  simp only [Option.bind_some, res16_0_ret]
  by_cases h40 : (l.length : Int) > 40
  · have hk : Ok (List.drop (Int.toNat 0) (List.take (Int.toNat 40) l)) := ⟨by simp; omega, fun i => by
      have := hl.2 i
      have e : und (List.drop (Int.toNat 0) (List.take (Int.toNat 40) l)) i = if i < 40 then und l i else 0 := by
        unfold und en
        simp only [List.getD_eq_getElem?_getD, List.getElem?_drop, List.getElem?_take]
        simp
        split <;> rfl
      rw [e]; split <;> omega⟩
    have := core _ hk
    simpa [bcond_if, at_, h40, show (40 : Int) ≤ l.length from by omega] using this
  · have := core _ hl
    simpa [bcond_if, at_, h40] using this

theorem holds (l : Log) (s : Int) (o0 : (Ty.list YEntry).ok l) (o1 : (Ty.int .i64).ok s) (hb : (Ty.list YEntry).bulk l + (Ty.int .i64).bulk s ≤ 1048576) : C3 F3 l s = some (ret3 true) := by
  have := bulk_len l
  exact law l ⟨by omega, fun i => ok_int (ok_getD o0 i).2.2.2.1⟩ s
end Go.Ev.Undo
