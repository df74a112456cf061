
import Derived.Test.YtpmeeopafdgbpaaDoorPGrD
namespace Go.Ev.Doc
open Go.Ev Go.Ev.Attr Go.Ev.Track Go.Ev.Delta Go.Ev.Axis Go.Ev.Hul Go.Ev.Lex
set_option linter.unusedVariables false
set_option linter.unusedSimpArgs false
set_option maxRecDepth 100000
theorem ordI (x y : Cl) : ord x y ≥ 0 ↔ c0 y < c0 x ∨ (c0 y = c0 x ∧ c1 y ≤ c1 x) := ord_ge x y
theorem ord_lt (x y : Cl) : decide (ord x y < 0) = decide (lt2 (posC x) (posC y)) := by
  have h := ordI x y
  by_cases h1 : ord x y < 0
  · rw [decide_eq_true h1]
    have : ¬ (ord x y ≥ 0) := by omega
    rw [h] at this
    refine (decide_eq_true ?_).symm
    unfold lt2 posC; simp only; omega
  · rw [decide_eq_false h1]
    have : ord x y ≥ 0 := by omega
    rw [h] at this
    refine (decide_eq_false ?_).symm
    unfold lt2 posC; simp only; omega
theorem sgn0 (a b : Int) : sgn a b = 0 ↔ a = b := by
  unfold sgn
  by_cases h : a < b
  · rw [if_pos h]; constructor
    · intro h2; exact absurd h2 (by decide)
    · intro h2; omega
  · rw [if_neg h]
    by_cases h2 : a > b
    · rw [if_pos h2]; constructor
      · intro h3; exact absurd h3 (by decide)
      · intro h3; omega
    · rw [if_neg h2]; constructor
      · intro _; omega
      · intro _; rfl
theorem ord_0 (x y : Cl) : (ord x y == 0) = decide (posC x = posC y) := by
  have e : ord x y = if sgn (c0 x) (c0 y) ≠ 0 then sgn (c0 x) (c0 y) else sgn (c1 x) (c1 y) := rfl
  have k : ord x y = 0 ↔ posC x = posC y := by
    rw [e]
    unfold posC
    rw [Prod.mk.injEq]
    by_cases h : sgn (c0 x) (c0 y) = 0
    · rw [if_neg (fun z => z h), sgn0]
      rw [sgn0] at h
      exact ⟨fun h2 => ⟨h, h2⟩, fun h2 => h2.2⟩
    · rw [if_pos h]
      exact ⟨fun h2 => absurd h2 h, fun h2 => absurd ((sgn0 _ _).2 h2.1) h⟩
  by_cases h : ord x y = 0
  · rw [h, decide_eq_true (k.1 h)]; rfl
  · rw [decide_eq_false fun z => h (k.2 z)]; simpa using h
variable {R C : Int}
theorem cE_at {l : List Cl} {non : Bool} : ∀ (d i : Nat), i + d = l.length → cE l R C non d i = 0 → ∀ j, i ≤ j → (hj : j < l.length) → cellE R C non (decide (0 < j)) (prv1 l j) l[j] = 0
  | 0, i, hi, _, j, h1, h2 => by omega
  | d + 1, i, hi, h, j, h1, h2 => by
    unfold cE at h
    rw [at_get (e := YCell) l i (by omega), bne_E] at h
    by_cases hz : cellE R C non (decide (0 < i)) (prv1 l i) (l[i]'(by omega)) = 0
    · rw [decide_eq_true hz] at h
      by_cases hij : i = j
      · subst hij; exact hz
      · exact cE_at d (i + 1) (by omega) h j (by omega) h2
    · rw [decide_eq_false hz] at h; exact absurd h hz
theorem cellE_ok {non b : Bool} {q c : Cl} (h : cellE R C non b q c = 0) : (0 ≤ c0 c ∧ c0 c < R ∧ 0 ≤ c1 c ∧ c1 c < C) ∧ (non = false → emc c = false) ∧ (b = true → lt2 (posC q) (posC c)) := by
  unfold cellE at h
  rw [show (c.1 : Int) = c0 c from rfl, show (c.2.1 : Int) = c1 c from rfl] at h
  by_cases a1 : c0 c < 0
  · rw [decide_eq_true a1] at h; cases h
  by_cases a2 : c0 c ≥ R
  · rw [decide_eq_false a1, decide_eq_true a2] at h; cases h
  by_cases a3 : c1 c < 0
  · rw [decide_eq_false a1, decide_eq_false a2, decide_eq_true a3] at h; cases h
  by_cases a4 : c1 c ≥ C
  · rw [decide_eq_false a1, decide_eq_false a2, decide_eq_false a3, decide_eq_true a4] at h; cases h
  rw [decide_eq_false a1, decide_eq_false a2, decide_eq_false a3, decide_eq_false a4, bF, bF, bF, bF] at h
  refine ⟨by omega, ?_⟩
  cases b1 : decide ((c.2.2.2.1 : Int) < 0) <;> rw [b1] at h
  rotate_left
  · cases h
  cases b2 : decide ((c.2.2.2.1 : Int) > 1073741824) <;> rw [b2] at h
  rotate_left
  · cases h
  cases b3 : Utf.tx c.2.2.1 <;> rw [b3] at h
  · cases h
  rw [bF, bF, bT, bne_E] at h
  by_cases b4 : Attr.err false (ca c) = 0
  rotate_left
  · rw [decide_eq_false b4] at h; exact absurd h b4
  rw [decide_eq_true b4, Bool.not_true, bF] at h
  refine ⟨fun hn => ?_, fun hb => ?_⟩
  · subst hn
    cases he : emc c
    · rfl
    · rw [he] at h; cases h
  · subst hb
    cases he : (!non && emc c) <;> rw [he] at h
    rotate_left
    · cases h
    rw [bF, bT] at h
    by_cases ho : ord q c ≥ 0
    · rw [decide_eq_true ho] at h; cases h
    · have : ord q c < 0 := by omega
      have e := ord_lt q c
      rw [decide_eq_true this] at e
      exact of_decide_eq_true e.symm
/-- One behind another is enough. -/
theorem srt_adj {l : List Cl} (h : ∀ j, 0 < j → (hj : j < l.length) → lt2 (posC (l[j - 1]'(by omega))) (posC l[j])) : Lex.Srt posC l := by
  unfold Lex.Srt
  rw [List.pairwise_iff_getElem]
  intro i j hi hj hij
  induction j with
  | zero => omega
  | succ j ih =>
    have h1 := h (j + 1) (by omega) hj
    by_cases e : i = j
    · subst e; exact h1
    · exact lt2_trans (ih (by omega) (by omega)) h1
theorem cells_ok {l : List Cl} {non : Bool} (h : cellsE l R C non = 0) : CsOk R C l ∧ (non = false → ∀ z ∈ l, emc z = false) := by
  have key := cE_at l.length 0 (by omega) h
  refine ⟨⟨fun c hc => ?_, srt_adj fun j h1 h2 => ?_⟩, fun hn c hc => ?_⟩
  · obtain ⟨j, hj, rfl⟩ := List.mem_iff_getElem.1 hc
    exact (cellE_ok (key j (Nat.zero_le _) hj)).1
  · have := (cellE_ok (key j (Nat.zero_le _) h2)).2.2 (decide_eq_true h1)
    have e : prv1 l j = l[j - 1]'(by omega) := by unfold prv1; exact at_get (e := YCell) l (j - 1) (by omega)
    rw [e] at this
    exact this
  · obtain ⟨j, hj, rfl⟩ := List.mem_iff_getElem.1 hc
    exact (cellE_ok (key j (Nat.zero_le _) hj)).2.1 hn
theorem mE_at {l : List Rc} : ∀ (d i : Nat), i + d = l.length → mergesE R C l d i = 0 → ∀ j, i ≤ j → (hj : j < l.length) → rectE R C l j l[j] = 0
  | 0, i, hi, _, j, h1, h2 => by omega
  | d + 1, i, hi, h, j, h1, h2 => by
    unfold mergesE at h
    rw [at_get (e := YRect) l i (by omega), bne_E] at h
    by_cases hz : rectE R C l i (l[i]'(by omega)) = 0
    · rw [decide_eq_true hz] at h
      by_cases hij : i = j
      · subst hij; exact hz
      · exact mE_at d (i + 1) (by omega) h j (by omega) h2
    · rw [decide_eq_false hz] at h; exact absurd h hz
theorem rectE_ok {l : List Rc} {i : Nat} {r : Rc} (h : rectE R C l i r = 0) : lies r R C = true ∧ anyM r (l.take i) = false ∧ (u1 r && u2 r) = false ∧ (0 < i → bef (prvR l i) r = true) := by
  unfold rectE at h
  rw [show ((r.2.2.1 : Int) == 1) = u1 r from rfl, show ((r.2.2.2 : Int) == 1) = u2 r from rfl] at h
  cases h1 : lies r R C <;> rw [h1] at h
  · cases h
  rw [bT] at h
  cases h2 : (u1 r && u2 r) <;> rw [h2] at h
  rotate_left
  · cases h
  rw [bF] at h
  cases h3 : (decide (0 < i) && !(bef (prvR l i) r)) <;> rw [h3] at h
  rotate_left
  · cases h
  rw [bF] at h
  cases h4 : anyM r (l.take i) <;> rw [h4] at h
  rotate_left
  · cases h
  refine ⟨rfl, rfl, rfl, fun hi => ?_⟩
  rw [decide_eq_true hi, Bool.true_and] at h3
  simpa using h3
theorem merges_ok {l : List Rc} (h : mergesE R C l l.length 0 = 0) : Apart R C l := by
  have key := mE_at l.length 0 (by omega) h
  refine ⟨fun r hr => ?_, ?_⟩
  · obtain ⟨j, hj, rfl⟩ := List.mem_iff_getElem.1 hr
    exact (rectE_ok (key j (Nat.zero_le _) hj)).1
  · rw [List.pairwise_iff_getElem]
    intro i j hi hj hij
    have := (rectE_ok (key j (Nat.zero_le _) hj)).2.1
    unfold anyM at this
    rw [List.any_eq_false] at this
    have h2 := this l[i] (List.mem_iff_getElem.2 ⟨i, by simp; omega, by simp⟩)
    simpa using h2
theorem fr_ok : ∀ {l : List Rc}, frE R C l = 0 → ∀ r ∈ l, lies r R C = true
  | [], _, r, hr => by cases hr
  | x :: l, h, r, hr => by
    unfold frE at h
    cases h1 : lies x R C <;> rw [h1] at h
    · cases h
    rcases List.mem_cons.1 hr with hr | hr
    · rw [hr]; exact h1
    · exact fr_ok h r hr
theorem fc_ok : ∀ {l : List Cl}, fcE R C l = 0 → ∀ c ∈ l, c0 c < R ∧ c1 c < C
  | [], _, c, hc => by cases hc
  | x :: l, h, c, hc => by
    unfold fcE at h
    by_cases h1 : c0 x ≥ R
    · rw [decide_eq_true h1] at h; cases h
    by_cases h2 : c1 x ≥ C
    · rw [decide_eq_false h1, decide_eq_true h2] at h; cases h
    rw [decide_eq_false h1, decide_eq_false h2] at h
    rcases List.mem_cons.1 hc with hc | hc
    · rw [hc]; omega
    · exact fc_ok h c hc
/-- A valid grid, and an edit that fits it. -/
structure Fits (g : Grid) (e : Edit) : Prop where
  r : AxOk (er e) (gR g) (newR g e)
  l : AxOk (el e) (gC g) (newC' g e)
  er0 : Axis.E (er e) = 0
  el0 : Axis.E (el e) = 0
  c : CsOk (gR g) (gC g) (gc g)
  ne : ∀ z ∈ gc g, emc z = false
  n : CsOk (newR g e) (newC' g e) (ec e)
  m : Apart (gR g) (gC g) (gm g)
  j : ∀ r ∈ em e, lies r (newR g e) (newC' g e) = true
theorem fits_ok {g : Grid} {e : Edit} (h : allE g e = 0) : Fits g e := by
  unfold allE at h
  rw [orE0, orE0] at h
  obtain ⟨h1, h2, h3⟩ := h
  obtain ⟨⟨g0, g1⟩, ⟨g2, g3⟩, g4, g5⟩ := gridE_ok h1
  unfold editE at h2
  rw [orE0, orE0, orE0, orE0] at h2
  obtain ⟨e1, e2, e3, e4, e5⟩ := h2
  unfold fitE at h3
  cases k1 : (szG (gR g) (er e)).2 <;> rw [k1] at h3
  · cases h3
  cases k2 : (szG (gC g) (el e)).2 <;> rw [k2] at h3
  · cases h3
  rw [bT, bT, orE0, orE0] at h3
  obtain ⟨f1, f2, f3⟩ := h3
  have c1' := (cells_ok e3).1
  refine ⟨sz_ok e1 k1 g0 g1, sz_ok e2 k2 g2 g3, e1, e2, (cells_ok g4).1, (cells_ok g4).2 rfl, ⟨fun c hc => ?_, c1'.srt⟩, merges_ok g5, fr_ok f3⟩
  have := c1'.in_ c hc
  have := fc_ok f1 c hc
  omega
theorem ra0 (l : List Int) (e : Int) : res_axis_Apply_0 (ret_axis_Apply l e) = l := id rfl
theorem ra1 (l : List Int) (e : Int) : res_axis_Apply_1 (ret_axis_Apply l e) = e := id rfl
theorem ro0 (e : Int) : res_grid_order_0 (ret_grid_order e) = e := id rfl
theorem rc0' (e : Cl) : res_grid_clone_0 (ret_grid_clone e) = e := id rfl
theorem clone_eq (c : Cl) (h : (ca c).length ≤ 1048576) : C_grid_clone F_grid_clone c = some (ret_grid_clone c) := by
  rw [e_grid_clone, if_pos]
  have : (ca c).length * 32 ≤ 140737488355328 := Nat.le_trans (Nat.mul_le_mul_right 32 h) (by decide)
  exact this
theorem app1 {a : Axis.Steps} {n m : Int} (h : AxOk a n m) (hl : a.length ≤ 1048576) (h0 : a ≠ []) {p : Int} (p0 : 0 ≤ p) (p1 : p < n) : C_axis_Apply F_axis_Apply a [p] = some (ret_axis_Apply [mvG a p] 0) := by
  rcases h.ok with ⟨e1, _⟩ | ⟨e1, e2, e3, e4⟩
  · exact absurd e1 h0
  · have hb : Axis.bad (sumB a) [p] = false := by
      unfold Axis.bad Axis.bad
      rw [decide_eq_false (by omega)]; rfl
    rw [Axis.axa_eq a hl [p] (by simp), if_neg (by rw [e2]; exact fun z => z rfl), hb, if_neg (by decide)]
    unfold mvG
    rw [if_neg h0]; rfl
theorem len_pos (a : Axis.Steps) : decide (((a.length : Int)) > 0) = !(decide (a = [])) := by
  cases a with
  | nil => rfl
  | cons x l => rw [decide_eq_true (by simp), decide_eq_false (by simp)]; rfl
variable {R' C' : Int}
theorem cap64 {k : Nat} (h : k ≤ 2097152) : (k + 1) * 64 ≤ 140737488355328 := Nat.le_trans (Nat.mul_le_mul_right 64 (show k + 1 ≤ 2097153 by omega)) (by decide)
theorem ne_bF {A : Type} (x y : A) : bcond (((0 : Int) != 0) == false) x y = x := rfl
theorem J_moved {b : Axis.Steps} (hc : AxOk b C C') (hb : b.length ≤ 1048576) (a : Axis.Steps) (l out : List Cl) (y : Cl) (y0 : 0 ≤ c1 y) (y1 : c1 y < C) (ho : out.length ≤ 2097152) (n m : Nat) (s i : Int) :
    J_grid_Moved_0 n m a b out y l s i = if mvG b (c1 y) < 0 then L_grid_Moved_0 n m a b out l s (IntKind.i64.wrap (i + 1)) else L_grid_Moved_0 n m a b (out ++ [putP (c0 y) (mvG b (c1 y)) y]) l s (IntKind.i64.wrap (i + 1)) := by
  unfold J_grid_Moved_0
  generalize hN : L_grid_Moved_0 n m a b out l s (IntKind.i64.wrap (i + 1)) = N
  generalize hG : (fun z : Cl => L_grid_Moved_0 n m a b (out ++ [z]) l s (IntKind.i64.wrap (i + 1))) = G
  have hG' : ∀ z : Cl, L_grid_Moved_0 n m a b (out ++ [z]) l s (IntKind.i64.wrap (i + 1)) = G z := fun z => by rw [← hG]
  rw [len_pos]
  by_cases e : b = []
  · have em : mvG b (c1 y) = c1 y := by unfold mvG; rw [if_pos e]
    rw [decide_eq_true e, Bool.not_true, bF, em, if_neg (show ¬ c1 y < 0 by omega), hG', hG']
    have : (out.length + [y].length) * 64 ≤ 140737488355328 := cap64 ho
    rw [if_pos this]
    rfl
  · have ap : C_axis_Apply F_axis_Apply b [y.2.1] = some (ret_axis_Apply [mvG b (c1 y)] 0) := app1 hc hb e y0 y1
    rw [decide_eq_false e, Bool.not_false, bT, ap]
    generalize mvG b (c1 y) = q
    rw [Option.bind_some]
    rw [ra1, ra0]
    rw [ne_bF]
    have p0 : 0 ≤ (0 : Int) ∧ (0 : Int) < (([q] : List Int).length : Int) := by simp
    have a0 : at_ (e := (.int .i64)) [q] 0 = q := rfl
    rw [if_pos p0, a0, if_pos p0]
    by_cases hn : q < 0
    · rw [decide_eq_true hn, bT, if_pos hn]
    · rw [decide_eq_false hn, bF, if_neg hn]
      have : (out.length + [((y.1, (q, y.2.2)) : Cl)].length) * 64 ≤ 140737488355328 := cap64 ho
      rw [if_pos this, hG', hG']
      rfl
theorem L_moved {a b : Axis.Steps} (hr : AxOk a R R') (hc : AxOk b C C') (ha : a.length ≤ 1048576) (hb : b.length ≤ 1048576) (l : List Cl) (hl : l.length ≤ 1048576) (out : List Cl) (ho : out.length ≤ 2097152) (n m i : Nat) (h : i < l.length) (hs : (ca l[i]).length ≤ 1048576) (hin : 0 ≤ c0 l[i] ∧ c0 l[i] < R ∧ 0 ≤ c1 l[i] ∧ c1 l[i] < C) :
    L_grid_Moved_0 n (m + 1) a b out l (l.length : Int) (i : Int) = if mvG a (c0 l[i]) < 0 ∨ mvG b (c1 l[i]) < 0 then L_grid_Moved_0 n m a b out l (l.length : Int) ((i + 1 : Nat) : Int) else L_grid_Moved_0 n m a b (out ++ [putP (mvG a (c0 l[i])) (mvG b (c1 l[i])) l[i]]) l (l.length : Int) ((i + 1 : Nat) : Int) := by
  obtain ⟨i0, i1, i2, i3⟩ := hin
  have w := wsucc h (show l.length ≤ 4611686018427387904 by omega)
  have hJ := fun p : Int => J_moved hc hb a l out ((p, l[i].2) : Cl) i2 i3 ho n m (l.length : Int) (i : Int)
  rw [w] at hJ
  rw [L_grid_Moved_0_step, dlt h, bT, if_pos ((inb i l.length).2 h), at_get (e := YCell) l i h, clone_eq l[i] hs, Option.bind_some, rc0', len_pos, w]
  by_cases e : a = []
  · have em : mvG a (c0 l[i]) = c0 l[i] := by unfold mvG; rw [if_pos e]
    have hJ0 := hJ (c0 l[i])
    have hJ1 : J_grid_Moved_0 n m a b out l[i] l (l.length : Int) (i : Int) = _ := hJ0
    rw [decide_eq_true e, Bool.not_true, bF, hJ1, em]
    have ec : c1 ((c0 l[i], l[i].2) : Cl) = c1 l[i] := rfl
    rw [ec]
    by_cases hn : mvG b (c1 l[i]) < 0
    · rw [if_pos hn, if_pos (.inr hn)]
    · rw [if_neg hn, if_neg (show ¬ (c0 l[i] < 0 ∨ mvG b (c1 l[i]) < 0) by omega)]
      rfl
  · have ap : C_axis_Apply F_axis_Apply a [(l[i] : Cl).1] = some (ret_axis_Apply [mvG a (c0 l[i])] 0) := app1 hr ha e i0 i1
    rw [decide_eq_false e, Bool.not_false, bT, ap]
    generalize mvG a (c0 l[i]) = q at hJ ⊢
    rw [Option.bind_some, ra1, ra0, ne_bF]
    have p0 : 0 ≤ (0 : Int) ∧ (0 : Int) < (([q] : List Int).length : Int) := by simp
    have a0 : at_ (e := (.int .i64)) [q] 0 = q := rfl
    rw [if_pos p0, a0, if_pos p0, hJ]
    have ec : c1 ((q, l[i].2) : Cl) = c1 l[i] := rfl
    rw [ec]
    by_cases hn : q < 0
    · rw [decide_eq_true hn, bT, if_pos (.inl hn)]
    · rw [decide_eq_false hn, bF]
      by_cases hn2 : mvG b (c1 l[i]) < 0
      · rw [if_pos hn2, if_pos (.inr hn2)]
      · rw [if_neg hn2, if_neg (show ¬ (q < 0 ∨ mvG b (c1 l[i]) < 0) by omega)]
        rfl
theorem moved_cons (a b : Axis.Steps) (x : Cl) (l : List Cl) : movedC a b (x :: l) = (if mvG a (c0 x) < 0 ∨ mvG b (c1 x) < 0 then [] else [putP (mvG a (c0 x)) (mvG b (c1 x)) x]) ++ movedC a b l := by
  unfold movedC
  rw [List.filterMap_cons]
  unfold movC
  split
  · rename_i hx
    split at hx
    · rename_i hy; rw [if_pos hy]; rfl
    · cases hx
  · rename_i z hx
    split at hx
    · cases hx
    · rename_i hy; rw [if_neg hy]; injection hx with hx; rw [← hx]; rfl
theorem moved_loop {a b : Axis.Steps} (hr : AxOk a R R') (hc : AxOk b C C') (ha : a.length ≤ 1048576) (hb : b.length ≤ 1048576) (l : List Cl) (hl : l.length ≤ 1048576) (hs : ∀ c ∈ l, (ca c).length ≤ 1048576) (hin : ∀ c ∈ l, 0 ≤ c0 c ∧ c0 c < R ∧ 0 ≤ c1 c ∧ c1 c < C) (n : Nat) :
    ∀ (d i m : Nat) (out : List Cl), i + d = l.length → d < m → out.length ≤ i → L_grid_Moved_0 n m a b out l (l.length : Int) (i : Int) = some (ret_grid_Moved (out ++ movedC a b (l.drop i))) := by
  intro d
  induction d with
  | zero =>
    intro i m out hi hm ho
    obtain ⟨m, rfl⟩ : ∃ q, m = q + 1 := ⟨m - 1, by omega⟩
    obtain rfl : i = l.length := by omega
    rw [L_grid_Moved_0_step, dlt_self, List.drop_length, bF]
    unfold movedC
    rw [List.filterMap_nil, List.append_nil]
  | succ d ih =>
    intro i m out hi hm ho
    obtain ⟨m, rfl⟩ : ∃ q, m = q + 1 := ⟨m - 1, by omega⟩
    have h : i < l.length := by omega
    rw [L_moved hr hc ha hb l hl out (by omega) n m i h (hs _ (List.getElem_mem h)) (hin _ (List.getElem_mem h)), List.drop_eq_getElem_cons h, moved_cons]
    by_cases hn : mvG a (c0 l[i]) < 0 ∨ mvG b (c1 l[i]) < 0
    · rw [if_pos hn, if_pos hn, ih (i + 1) m out (by omega) (by omega) (by omega), List.nil_append]
    · rw [if_neg hn, if_neg hn, ih (i + 1) m _ (by omega) (by omega) (by simp; omega), List.append_assoc]
theorem moved_eq {a b : Axis.Steps} (hr : AxOk a R R') (hc : AxOk b C C') (ha : a.length ≤ 1048576) (hb : b.length ≤ 1048576) (l : List Cl) (hl : l.length ≤ 1048576) (hs : ∀ c ∈ l, (ca c).length ≤ 1048576) (h : CsOk R C l) : C_grid_Moved F_grid_Moved l a b = some (ret_grid_Moved (movedC a b l)) := by
  have := moved_loop hr hc ha hb l hl hs h.in_ big l.length 0 big [] (by omega) (big_ge (n := l.length + 1) (by omega)) (Nat.zero_le _)
  rw [List.drop_zero, List.nil_append] at this
  rw [e_grid_Moved]
  exact this
theorem moved_len (a b : Axis.Steps) (l : List Cl) : (movedC a b l).length ≤ l.length := List.length_filterMap_le _ _
theorem gput_in (l : List Cl) (hl : l.length ≤ 1048576) (ns : List Cl) (hn : ns.length ≤ 1048576) (n m1 j : Nat) (hj : j < ns.length) (c : Cl) (hca : (ca c).length ≤ 1048576) : ∀ (d i m : Nat) (out : List Cl), i + d = l.length → d < m → out.length ≤ i + j →
    ∃ i', i ≤ i' ∧ i' ≤ l.length ∧ l.drop i' = skip posC (posC c) (aft posC (posC c) (l.drop i)) ∧ (out ++ (Lex.bef posC (posC c) (l.drop i) ++ (if emc c = true then [] else [c]))).length ≤ i' + (j + 1) ∧
      L_grid_put_1 n m1 m l out (i : Int) c.1 c.2.1 c.2.2.1 c.2.2.2.1 c.2.2.2.2 ns (ns.length : Int) (j : Int) = L_grid_put_0 n m1 l (out ++ (Lex.bef posC (posC c) (l.drop i) ++ (if emc c = true then [] else [c]))) (i' : Int) ns (ns.length : Int) ((j + 1 : Nat) : Int) := by
  have hc' : ((c.1, (c.2.1, (c.2.2.1, (c.2.2.2.1, c.2.2.2.2)))) : Cl) = c := rfl
  have wj := wsucc hj (show ns.length ≤ 4611686018427387904 by omega)
  have hem := (empty_eq c).1
  have hcl := clone_eq c hca
  intro d
  induction d with
  | zero =>
    intro i m out hi hm ho
    obtain ⟨m, rfl⟩ : ∃ q, m = q + 1 := ⟨m - 1, by omega⟩
    obtain rfl : i = l.length := by omega
    have hcap : ∀ z : Cl, (out.length + [z].length) * 64 ≤ 140737488355328 := fun z => Nat.le_trans (Nat.mul_le_mul_right 64 (show out.length + 1 ≤ 2097153 by omega)) (by decide)
    refine ⟨l.length, Nat.le_refl _, Nat.le_refl _, ?_, ?_, ?_⟩
    · rw [List.drop_length]; rfl
    · rw [List.drop_length]; show (out ++ ([] ++ _)).length ≤ _; split <;> simp <;> omega
    · rw [L_grid_put_1_step, dlt_self, hc', hem, hcl, List.drop_length, wj]
      simp only [Option.bind_some, res_grid_empty_0_ret, rc0']
      simp only [hcap c, if_true]
      show bcond (false == true) _ (bcond (false == true) _ (bcond (!(emc c)) _ _)) = L_grid_put_0 n m1 l (out ++ ([] ++ _)) _ _ _ _
      cases emc c
      · rfl
      · show L_grid_put_0 n m1 l out _ _ _ _ = L_grid_put_0 n m1 l (out ++ ([] ++ [])) _ _ _ _
        rw [List.append_nil, List.append_nil]
  | succ d ih =>
    intro i m out hi hm ho
    obtain ⟨m, rfl⟩ : ∃ q, m = q + 1 := ⟨m - 1, by omega⟩
    have h : i < l.length := by omega
    have w := wsucc h (show l.length ≤ 4611686018427387904 by omega)
    have hcap : ∀ z : Cl, (out.length + [z].length) * 64 ≤ 140737488355328 := fun z => Nat.le_trans (Nat.mul_le_mul_right 64 (show out.length + 1 ≤ 2097153 by omega)) (by decide)
    have hdr := List.drop_eq_getElem_cons h
    by_cases hlt : lt2 (posC l[i]) (posC c)
    · obtain ⟨i', a1, a2, a3, a4, a5⟩ := ih (i + 1) m (out ++ [l[i]]) (by omega) (by omega) (by simp; omega)
      have eb : Lex.bef posC (posC c) (l.drop i) = l[i] :: Lex.bef posC (posC c) (l.drop (i + 1)) := by
        rw [hdr]; unfold Lex.bef; rw [List.takeWhile_cons, decide_eq_true hlt]; rfl
      have ea : aft posC (posC c) (l.drop i) = aft posC (posC c) (l.drop (i + 1)) := by
        rw [hdr]; unfold aft; rw [List.dropWhile_cons, decide_eq_true hlt]; rfl
      have eo : ∀ x : List Cl, out ++ [l[i]] ++ x = out ++ (l[i] :: x) := fun x => by rw [List.append_assoc]; rfl
      refine ⟨i', by omega, a2, by rw [ea]; exact a3, ?_, ?_⟩
      · rw [eb, List.cons_append, ← eo]; exact a4
      · rw [eb, List.cons_append, ← eo, ← a5, L_grid_put_1_step, dlt h]
        simp only [if_pos ((inb i l.length).2 h)]
        rw [at_get (e := YCell) l i h, hc', order_eq]
        simp only [Option.bind_some, ro0]
        rw [ord_lt, decide_eq_true hlt, if_pos (hcap _), w]
        rfl
    · have eb : Lex.bef posC (posC c) (l.drop i) = [] := by
        rw [hdr]; unfold Lex.bef; rw [List.takeWhile_cons, decide_eq_false hlt]; rfl
      have ea : aft posC (posC c) (l.drop i) = l[i] :: l.drop (i + 1) := by
        rw [hdr]; unfold aft; rw [List.dropWhile_cons, decide_eq_false hlt]; rfl
      rw [eb, ea]
      by_cases heq : posC l[i] = posC c
      · refine ⟨i + 1, by omega, by omega, ?_, ?_, ?_⟩
        · simp only [skip]; rw [if_pos heq]
        · split <;> simp <;> omega
        · rw [L_grid_put_1_step, dlt h]
          simp only [if_pos ((inb i l.length).2 h)]
          rw [at_get (e := YCell) l i h, hc', order_eq]
          simp only [Option.bind_some, ro0]
          rw [ord_lt, decide_eq_false hlt, ord_0, decide_eq_true heq, hem, hcl, w, wj]
          simp only [Option.bind_some, res_grid_empty_0_ret, rc0']
          simp only [hcap c, if_true]
          cases emc c
          · rfl
          · show L_grid_put_0 n m1 l out _ _ _ _ = L_grid_put_0 n m1 l (out ++ ([] ++ [])) _ _ _ _
            rw [List.append_nil, List.append_nil]
      · refine ⟨i, by omega, by omega, ?_, ?_, ?_⟩
        · simp only [skip]; rw [if_neg heq, hdr]
        · split <;> simp <;> omega
        · rw [L_grid_put_1_step, dlt h]
          simp only [if_pos ((inb i l.length).2 h)]
          rw [at_get (e := YCell) l i h, hc', order_eq]
          simp only [Option.bind_some, ro0]
          rw [ord_lt, decide_eq_false hlt, ord_0, decide_eq_false heq, hem, hcl, wj]
          simp only [Option.bind_some, res_grid_empty_0_ret, rc0']
          simp only [hcap c, if_true]
          cases emc c
          · rfl
          · show L_grid_put_0 n m1 l out _ _ _ _ = L_grid_put_0 n m1 l (out ++ ([] ++ [])) _ _ _ _
            rw [List.append_nil, List.append_nil]
theorem gput_loop (l : List Cl) (hl : l.length ≤ 1048576) (ns : List Cl) (hn : ns.length ≤ 1048576) (hs : ∀ c ∈ ns, (ca c).length ≤ 1048576) : ∀ (d j m i : Nat) (out : List Cl), j + d = ns.length → d < m → i ≤ l.length → out.length ≤ i + j →
    L_grid_put_0 big m l out (i : Int) ns (ns.length : Int) (j : Int) = some (ret_grid_put (out ++ Lex.putL posC emc (l.drop i) (ns.drop j))) := by
  intro d
  induction d with
  | zero =>
    intro j m i out hj hm hi ho
    obtain ⟨m, rfl⟩ : ∃ q, m = q + 1 := ⟨m - 1, by omega⟩
    obtain rfl : j = ns.length := by omega
    have hcap : (out.length + (List.drop (Int.toNat (i : Int)) (List.take (Int.toNat (l.length : Int)) l)).length) * 64 ≤ 140737488355328 := by
      refine Nat.le_trans (Nat.mul_le_mul_right 64 (show _ ≤ 4194304 from ?_)) (by decide)
      rw [List.length_drop, List.length_take]; omega
    rw [L_grid_put_0_step, dlt_self, bF, if_pos (by omega), if_pos hcap, List.drop_length]
    simp only [Int.toNat_natCast, List.take_length, Lex.putL]
  | succ d ih =>
    intro j m i out hj hm hi ho
    obtain ⟨m, rfl⟩ : ∃ q, m = q + 1 := ⟨m - 1, by omega⟩
    have h : j < ns.length := by omega
    obtain ⟨i', a1, a2, a3, a4, a5⟩ := gput_in l hl ns hn big m j h ns[j] (hs _ (List.getElem_mem h)) (l.length - i) i big out (by omega) (big_ge (n := l.length - i + 1) (by omega)) ho
    rw [L_grid_put_0_step, dlt h, bT, if_pos ((inb j ns.length).2 h), at_get (e := YCell) ns j h, a5, ih (j + 1) m i' _ (by omega) (by omega) a2 a4, a3, List.drop_eq_getElem_cons h]
    simp only [Lex.putL, List.append_assoc]
theorem gput_eq (l : List Cl) (hl : l.length ≤ 1048576) (ns : List Cl) (hn : ns.length ≤ 1048576) (hs : ∀ c ∈ ns, (ca c).length ≤ 1048576) : C_grid_put F_grid_put l ns = some (ret_grid_put (Lex.putL posC emc l ns)) := by
  have := gput_loop l hl ns hn hs ns.length 0 big 0 [] (by omega) (big_ge (n := ns.length + 1) (by omega)) (Nat.zero_le _) (Nat.zero_le _)
  rw [List.drop_zero, List.drop_zero, List.nil_append] at this
  rw [e_grid_put]
  exact this
end Go.Ev.Doc
