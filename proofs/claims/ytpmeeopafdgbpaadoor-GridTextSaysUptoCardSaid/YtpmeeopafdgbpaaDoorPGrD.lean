
import Derived.Test.YtpmeeopafdgbpaaDoorPGrC
import Derived.Test.YtpmeeopafdgbpaaDoorGGridA
namespace Go.Ev.Doc
open Go.Ev Go.Ev.Attr Go.Ev.Track Go.Ev.Delta Go.Ev.Axis Go.Ev.Hul Go.Ev.Lex
set_option linter.unusedVariables false
set_option linter.unusedSimpArgs false
set_option maxRecDepth 100000
abbrev Edit := YGridEdit.den
def er (e : Edit) : Axis.Steps := e.1
def el (e : Edit) : Axis.Steps := e.2.1
def ec (e : Edit) : List Cl := e.2.2.1
def es (e : Edit) : List Rc := e.2.2.2.1
def em (e : Edit) : List Rc := e.2.2.2.2
def gR (g : Grid) : Int := g.1
def gC (g : Grid) : Int := g.2.1
/-- An edit is short enough. -/
structure Es (e : Edit) : Prop where
  r : (er e).length ≤ 1048576
  l : (el e).length ≤ 1048576
  c : (ec e).length ≤ 1048576
  a : ∀ c ∈ ec e, Sh (ca c) ∧ (c.2.2.1 : List UInt8).length ≤ 1048576
  s : (es e).length ≤ 1048576
  m : (em e).length ≤ 1048576
/-- The first that is wrong. -/
def orE (a b : Int) : Int := if a = 0 then b else a
theorem orE0 {a b : Int} : orE a b = 0 ↔ a = 0 ∧ b = 0 := by
  unfold orE
  split
  · rename_i h; exact ⟨fun h2 => ⟨h, h2⟩, fun h2 => h2.2⟩
  · rename_i h; exact ⟨fun h2 => absurd h2 h, fun h2 => absurd h2.1 h⟩
theorem orE_ne {a : Int} (b : Int) (h : a ≠ 0) : orE a b = a := if_neg h
theorem orE_eq {a : Int} (b : Int) (h : a = 0) : orE a b = b := if_pos h
def u1 (r : Rc) : Bool := (r.2.2.1 : Int) == 1
def u2 (r : Rc) : Bool := (r.2.2.2 : Int) == 1
/-- What is wrong with rectangles of an edit. -/
def rsE (k : Bool) : List Rc → Int
  | [] => 0
  | r :: l => bcond (lies r 2147483647 2147483647) (bcond (k && (u1 r && u2 r)) 4 (rsE k l)) 2
theorem most_ok : (0 : Int) ≤ 2147483647 ∧ (2147483647 : Int) ≤ 2147483648 := by decide
theorem chk2 (n m1 : Nat) (x7 : Int) (k : Bool) (hk : ((x7 : Int) == 1) = k) (A B : List Rc) (x36 : Int) (l : List Rc) (hl : l.length ≤ 1048576) (c : Int) (hc : L_grid_CheckEdit_1 n m1 A B (IntKind.i64.wrap (x36 + 1)) = some (ret_grid_CheckEdit c)) :
    ∀ (d i m : Nat), i + d = l.length → d < m → L_grid_CheckEdit_2 n m1 m x7 A B x36 l (l.length : Int) (i : Int) = some (ret_grid_CheckEdit (orE (rsE k (l.drop i)) c)) := by
  intro d
  induction d with
  | zero =>
    intro i m hi hm
    obtain ⟨m, rfl⟩ : ∃ q, m = q + 1 := ⟨m - 1, by omega⟩
    obtain rfl : i = l.length := by omega
    rw [L_grid_CheckEdit_2_step, dlt_self, List.drop_length]
    exact hc
  | succ d ih =>
    intro i m hi hm
    obtain ⟨m, rfl⟩ : ∃ q, m = q + 1 := ⟨m - 1, by omega⟩
    have h : i < l.length := by omega
    have i1 := ih (i + 1) m (by omega) (by omega)
    rw [L_grid_CheckEdit_2_step, dlt h, bT, if_pos ((inb i l.length).2 h), at_get (e := YRect) l i h, inside_eq l[i] _ _ most_ok most_ok, wsucc h (by omega), List.drop_eq_getElem_cons h, rsE, hk]
    simp only [Option.bind_some, res_grid_inside_0_ret]
    rw [i1, show ((l[i].2.2.1 : Int) == 1) = u1 l[i] from rfl, show ((l[i].2.2.2 : Int) == 1) = u2 l[i] from rfl]
    cases lies l[i] 2147483647 2147483647
    · rfl
    · cases k <;> cases u1 l[i] <;> cases u2 l[i] <;> rfl
/-- What is wrong with an edit by itself. -/
def editE (e : Edit) : Int := orE (Axis.E (er e)) (orE (Axis.E (el e)) (orE (cellsE (ec e) 2147483647 2147483647 true) (orE (rsE false (es e)) (rsE true (em e)))))
theorem bne_E {x : Int} : (x != 0) = !(decide (x = 0)) := by
  by_cases h : x = 0
  · rw [h]; rfl
  · rw [decide_eq_false h]; simpa using h
theorem editchk_eq (e : Edit) (he : Es e) : C_grid_CheckEdit F_grid_CheckEdit e = some (ret_grid_CheckEdit (editE e)) := by
  obtain ⟨m, hm⟩ := big_succ (n := 4) (by omega)
  have b5 : big = m + 1 + 1 + 1 + 1 + 1 := by omega
  have w1 : IntKind.i64.wrap ((0 : Int) + 1) = 1 := rfl
  have w2 : IntKind.i64.wrap ((1 : Int) + 1) = 2 := rfl
  have q0 : decide ((0 : Int) < 2) = true := rfl
  have q1 : decide ((1 : Int) < 2) = true := rfl
  have q2 : decide ((2 : Int) < 2) = false := rfl
  have p0 : 0 ≤ (0 : Int) ∧ (0 : Int) < 2 := by decide
  have p1 : 0 ≤ (1 : Int) ∧ (1 : Int) < 2 := by decide
  -- rectangles
  have r2 : ∀ n k, L_grid_CheckEdit_1 n (k + 1) (es e) (em e) 2 = some (ret_grid_CheckEdit 0) := fun n k => by
    rw [L_grid_CheckEdit_1_step, q2, bF]
  have r1 : ∀ k, L_grid_CheckEdit_1 big (k + 1 + 1) (es e) (em e) 1 = some (ret_grid_CheckEdit (rsE true (em e))) := fun k => by
    have e1 : at_ (e := (.list YRect)) [es e, em e] 1 = em e := rfl
    rw [L_grid_CheckEdit_1_step, q1, bT, if_pos p1, e1]
    have := chk2 big (k + 1) 1 true rfl (es e) (em e) 1 (em e) he.m 0 (by rw [w2]; exact r2 big k) (em e).length 0 big (by omega) (big_ge (n := (em e).length + 1) (by have := he.m; omega))
    rw [List.drop_zero] at this
    rw [show ((0 : Nat) : Int) = 0 from rfl] at this
    rw [this]
    unfold orE
    split
    · rename_i h; rw [h]
    · rfl
  have r0 : L_grid_CheckEdit_1 big big (es e) (em e) 0 = some (ret_grid_CheckEdit (orE (rsE false (es e)) (rsE true (em e)))) := by
    have e0 : at_ (e := (.list YRect)) [es e, em e] 0 = es e := rfl
    have hb : big = (m + 1 + 1) + 1 + 1 + 1 := by omega
    have := chk2 big ((m + 1 + 1) + 1 + 1) 0 false rfl (es e) (em e) 0 (es e) he.s _ (by rw [w1]; exact r1 (m + 1 + 1)) (es e).length 0 big (by omega) (big_ge (n := (es e).length + 1) (by have := he.s; omega))
    rw [List.drop_zero] at this
    rw [show ((0 : Nat) : Int) = 0 from rfl] at this
    have key : L_grid_CheckEdit_1 big ((m + 1 + 1) + 1 + 1 + 1) (es e) (em e) 0 = some (ret_grid_CheckEdit (orE (rsE false (es e)) (rsE true (em e)))) := by
      rw [L_grid_CheckEdit_1_step, q0, bT, if_pos p0, e0]
      exact this
    rw [← hb] at key
    exact key
  -- cells
  have c0 : ∀ k, L_grid_CheckEdit_0 big (k + 1) (er e) (el e) (ec e) (es e) (em e) (er e) (el e) 2 = some (ret_grid_CheckEdit (orE (cellsE (ec e) 2147483647 2147483647 true) (orE (rsE false (es e)) (rsE true (em e))))) := fun k => by
    rw [L_grid_CheckEdit_0_step, q2, bF, (gcells_eq (ec e) he.c he.a 2147483647 2147483647 most_ok most_ok true).1]
    simp only [Option.bind_some, res_grid_cells_0_ret]
    rw [r0, bne_E]
    unfold orE
    by_cases h : cellsE (ec e) 2147483647 2147483647 true = 0
    · rw [if_pos h, decide_eq_true h]; rfl
    · rw [if_neg h, decide_eq_false h]; rfl
  -- axes
  have a1 : ∀ k, L_grid_CheckEdit_0 big (k + 1 + 1) (er e) (el e) (ec e) (es e) (em e) (er e) (el e) 1 = some (ret_grid_CheckEdit (orE (Axis.E (el e)) (orE (cellsE (ec e) 2147483647 2147483647 true) (orE (rsE false (es e)) (rsE true (em e)))))) := fun k => by
    have e1 : at_ (e := (.list YSpan)) [er e, el e] 1 = el e := rfl
    rw [L_grid_CheckEdit_0_step, q1, bT, if_pos p1, e1, Axis.check_eq (el e) he.l, w2, c0 k]
    simp only [Option.bind_some, res_axis_Check_0_ret]
    rw [bne_E]
    by_cases h : Axis.E (el e) = 0
    · rw [orE_eq _ h, decide_eq_true h]; rfl
    · rw [orE_ne _ h, decide_eq_false h]; rfl
  have a0 : L_grid_CheckEdit_0 big (m + 1 + 1 + 1 + 1 + 1) (er e) (el e) (ec e) (es e) (em e) (er e) (el e) 0 = some (ret_grid_CheckEdit (editE e)) := by
    have e1 : at_ (e := (.list YSpan)) [er e, el e] 0 = er e := rfl
    rw [L_grid_CheckEdit_0_step, q0, bT, if_pos p0, e1, Axis.check_eq (er e) he.r, w1, a1 (m + 1 + 1)]
    simp only [Option.bind_some, res_axis_Check_0_ret]
    rw [bne_E]
    unfold editE
    by_cases h : Axis.E (er e) = 0
    · rw [orE_eq _ h, decide_eq_true h]; rfl
    · rw [orE_ne _ h, decide_eq_false h]; rfl
  rw [← b5] at a0
  rw [e_grid_CheckEdit]
  exact a0
theorem gsize_eq (n : Int) (a : Axis.Steps) (hl : a.length ≤ 1048576) (h : Axis.E a = 0) : C_grid_size F_grid_size n a = some (ret_grid_size (szG n a).1 (szG n a).2) := by
  rw [e_grid_size]
  unfold szG
  by_cases h0 : a = []
  · subst h0; rfl
  · have : ((a.length : Int) == 0) = false := by
      cases a with
      | nil => exact absurd rfl h0
      | cons x l => simp; omega
    rw [if_neg h0, this, bF, lens_eq a hl h]
    simp only [Option.bind_some, res_axis_Lengths_0_ret, res_axis_Lengths_1_ret]
    rfl
theorem sz_ok {n : Int} {a : Axis.Steps} (h : Axis.E a = 0) (hs : (szG n a).2 = true) (n0 : 0 ≤ n) (n1 : n ≤ 2147483647) : AxOk a n (szG n a).1 := by
  refine ⟨?_, n0, n1⟩
  unfold szG at hs ⊢
  by_cases h0 : a = []
  · rw [if_pos h0]; exact .inl ⟨h0, rfl⟩
  · rw [if_neg h0] at hs ⊢
    exact .inr ⟨h0, h, of_decide_eq_true hs, rfl⟩
def fcE (R C : Int) : List Cl → Int
  | [] => 0
  | c :: l => bcond (decide (c0 c ≥ R)) 2 (bcond (decide (c1 c ≥ C)) 2 (fcE R C l))
def frE (R C : Int) : List Rc → Int
  | [] => 0
  | r :: l => bcond (lies r R C) (frE R C l) 2
def newR (g : Grid) (e : Edit) : Int := (szG (gR g) (er e)).1
def newC' (g : Grid) (e : Edit) : Int := (szG (gC g) (el e)).1
def fitE (g : Grid) (e : Edit) : Int :=
  bcond (szG (gR g) (er e)).2 (bcond (szG (gC g) (el e)).2 (orE (fcE (newR g e) (newC' g e) (ec e)) (orE (frE (newR g e) (newC' g e) (es e)) (frE (newR g e) (newC' g e) (em e)))) 14) 14
/-- What is wrong with an edit of a grid. -/
def allE (g : Grid) (e : Edit) : Int := orE (gridE g) (orE (editE e) (fitE g e))
theorem gridE_ok {g : Grid} (h : gridE g = 0) : (0 ≤ gR g ∧ gR g ≤ 2147483647) ∧ (0 ≤ gC g ∧ gC g ≤ 2147483647) ∧ cellsE (gc g) (gR g) (gC g) false = 0 ∧ mergesE (gR g) (gC g) (gm g) (gm g).length 0 = 0 := by
  unfold gridE at h
  have e1 : (g.1 : Int) = gR g := rfl
  have e2 : (g.2.1 : Int) = gC g := rfl
  rw [e1, e2] at h
  by_cases a1 : gR g < 0
  · rw [decide_eq_true a1] at h; cases h
  by_cases a2 : gR g > 2147483647
  · rw [decide_eq_false a1, decide_eq_true a2] at h; cases h
  by_cases a3 : gC g < 0
  · rw [decide_eq_false a1, decide_eq_false a2, decide_eq_true a3] at h; cases h
  by_cases a4 : gC g > 2147483647
  · rw [decide_eq_false a1, decide_eq_false a2, decide_eq_false a3, decide_eq_true a4] at h; cases h
  rw [decide_eq_false a1, decide_eq_false a2, decide_eq_false a3, decide_eq_false a4, bF, bF, bF, bF, bne_E] at h
  by_cases a5 : cellsE (gc g) (gR g) (gC g) false = 0
  · rw [decide_eq_true a5] at h
    exact ⟨⟨by omega, by omega⟩, ⟨by omega, by omega⟩, a5, h⟩
  · rw [decide_eq_false a5] at h; exact absurd h a5
variable {R C : Int}
theorem fit2 (n m1 : Nat) (hR : 0 ≤ R ∧ R ≤ 2147483648) (hC : 0 ≤ C ∧ C ≤ 2147483648) (A B : List Rc) (x74 : Int) (l : List Rc) (hl : l.length ≤ 1048576) (c : Int) (hc : L_grid_fits_1 n m1 R C A B (IntKind.i64.wrap (x74 + 1)) = some (if c = 0 then ret_grid_fits R C 0 else ret_grid_fits 0 0 c)) :
    ∀ (d i m : Nat), i + d = l.length → d < m → L_grid_fits_2 n m1 m R C A B x74 l (l.length : Int) (i : Int) = some (if orE (frE R C (l.drop i)) c = 0 then ret_grid_fits R C 0 else ret_grid_fits 0 0 (orE (frE R C (l.drop i)) c)) := by
  intro d
  induction d with
  | zero =>
    intro i m hi hm
    obtain ⟨m, rfl⟩ : ∃ q, m = q + 1 := ⟨m - 1, by omega⟩
    obtain rfl : i = l.length := by omega
    rw [L_grid_fits_2_step, dlt_self, List.drop_length]
    exact hc
  | succ d ih =>
    intro i m hi hm
    obtain ⟨m, rfl⟩ : ∃ q, m = q + 1 := ⟨m - 1, by omega⟩
    have h : i < l.length := by omega
    have i1 := ih (i + 1) m (by omega) (by omega)
    rw [L_grid_fits_2_step, dlt h, bT, if_pos ((inb i l.length).2 h), at_get (e := YRect) l i h, inside_eq l[i] _ _ hR hC, wsucc h (by omega), List.drop_eq_getElem_cons h, frE]
    simp only [Option.bind_some, res_grid_inside_0_ret]
    rw [i1]
    cases lies l[i] R C <;> rfl
theorem fit1 (hR : 0 ≤ R ∧ R ≤ 2147483648) (hC : 0 ≤ C ∧ C ≤ 2147483648) (A B : List Rc) (hA : A.length ≤ 1048576) (hB : B.length ≤ 1048576) : L_grid_fits_1 big big R C A B 0 = some (if orE (frE R C A) (frE R C B) = 0 then ret_grid_fits R C 0 else ret_grid_fits 0 0 (orE (frE R C A) (frE R C B))) := by
  obtain ⟨m, hm⟩ := big_succ (n := 4) (by omega)
  have w1 : IntKind.i64.wrap ((0 : Int) + 1) = 1 := rfl
  have w2 : IntKind.i64.wrap ((1 : Int) + 1) = 2 := rfl
  have q0 : decide ((0 : Int) < 2) = true := rfl
  have q1 : decide ((1 : Int) < 2) = true := rfl
  have q2 : decide ((2 : Int) < 2) = false := rfl
  have p0 : 0 ≤ (0 : Int) ∧ (0 : Int) < 2 := by decide
  have p1 : 0 ≤ (1 : Int) ∧ (1 : Int) < 2 := by decide
  have r2 : ∀ k, L_grid_fits_1 big (k + 1) R C A B 2 = some (if (0 : Int) = 0 then ret_grid_fits R C 0 else ret_grid_fits 0 0 0) := fun k => by
    rw [L_grid_fits_1_step, q2, bF, if_pos rfl]
  have r1 : ∀ k, L_grid_fits_1 big (k + 1 + 1) R C A B 1 = some (if frE R C B = 0 then ret_grid_fits R C 0 else ret_grid_fits 0 0 (frE R C B)) := fun k => by
    have e1 : at_ (e := (.list YRect)) [A, B] 1 = B := rfl
    rw [L_grid_fits_1_step, q1, bT, if_pos p1, e1]
    have := fit2 big (k + 1) hR hC A B 1 B hB 0 (by rw [w2]; exact r2 k) B.length 0 big (by omega) (big_ge (n := B.length + 1) (by omega))
    rw [List.drop_zero] at this
    rw [show ((0 : Nat) : Int) = 0 from rfl] at this
    have z : orE (frE R C B) 0 = frE R C B := by
      unfold orE; split
      · rename_i h; exact h.symm
      · rfl
    rw [z] at this
    exact this
  have hb : big = (m + 1 + 1) + 1 + 1 + 1 := by omega
  have := fit2 big ((m + 1 + 1) + 1 + 1) hR hC A B 0 A hA _ (by rw [w1]; exact r1 (m + 1 + 1)) A.length 0 big (by omega) (big_ge (n := A.length + 1) (by omega))
  rw [List.drop_zero] at this
  rw [show ((0 : Nat) : Int) = 0 from rfl] at this
  have key : L_grid_fits_1 big ((m + 1 + 1) + 1 + 1 + 1) R C A B 0 = some (if orE (frE R C A) (frE R C B) = 0 then ret_grid_fits R C 0 else ret_grid_fits 0 0 (orE (frE R C A) (frE R C B))) := by
    have e0 : at_ (e := (.list YRect)) [A, B] 0 = A := rfl
    rw [L_grid_fits_1_step, q0, bT, if_pos p0, e0]
    exact this
  rw [← hb] at key
  exact key
theorem fit0 (hR : 0 ≤ R ∧ R ≤ 2147483648) (hC : 0 ≤ C ∧ C ≤ 2147483648) (a b : Axis.Steps) (cs l : List Cl) (A B : List Rc) (hA : A.length ≤ 1048576) (hB : B.length ≤ 1048576) (hl : l.length ≤ 1048576) : ∀ (d i m : Nat), i + d = l.length → d < m →
    L_grid_fits_0 big m a b cs A B R C l (l.length : Int) (i : Int) = some (if orE (fcE R C (l.drop i)) (orE (frE R C A) (frE R C B)) = 0 then ret_grid_fits R C 0 else ret_grid_fits 0 0 (orE (fcE R C (l.drop i)) (orE (frE R C A) (frE R C B)))) := by
  intro d
  induction d with
  | zero =>
    intro i m hi hm
    obtain ⟨m, rfl⟩ : ∃ q, m = q + 1 := ⟨m - 1, by omega⟩
    obtain rfl : i = l.length := by omega
    rw [L_grid_fits_0_step, dlt_self, List.drop_length]
    exact fit1 hR hC A B hA hB
  | succ d ih =>
    intro i m hi hm
    obtain ⟨m, rfl⟩ : ∃ q, m = q + 1 := ⟨m - 1, by omega⟩
    have h : i < l.length := by omega
    have i1 := ih (i + 1) m (by omega) (by omega)
    rw [L_grid_fits_0_step, dlt h, bT, if_pos ((inb i l.length).2 h), at_get (e := YCell) l i h, wsucc h (by omega), List.drop_eq_getElem_cons h, fcE, i1, show (l[i].1 : Int) = c0 l[i] from rfl, show (l[i].2.1 : Int) = c1 l[i] from rfl]
    cases decide (c0 l[i] ≥ R) <;> cases decide (c1 l[i] ≥ C) <;> rfl
theorem fits_eq (g : Grid) (e : Edit) (hg : Gs g) (he : Es e) : C_grid_fits F_grid_fits g e = some (if allE g e = 0 then ret_grid_fits (newR g e) (newC' g e) 0 else ret_grid_fits 0 0 (allE g e)) := by
  rw [e_grid_fits, (gridchk_eq g hg).1]
  simp only [Option.bind_some, res_grid_Check_0_ret]
  rw [bne_E]
  unfold allE
  by_cases h1 : gridE g = 0
  · rw [decide_eq_true h1, orE_eq _ h1, Bool.not_true, bF, editchk_eq e he]
    simp only [Option.bind_some, res_grid_CheckEdit_0_ret]
    rw [bne_E]
    by_cases h2 : editE e = 0
    · rw [decide_eq_true h2, orE_eq _ h2, Bool.not_true, bF]
      have h3 := h2
      unfold editE at h3
      rw [orE0, orE0] at h3
      obtain ⟨⟨g0, g1⟩, ⟨g2, g3⟩, _⟩ := gridE_ok h1
      have s1 := gsize_eq (gR g) (er e) he.r h3.1
      have s2 := gsize_eq (gC g) (el e) he.l h3.2.1
      have s1' : C_grid_size F_grid_size g.1 e.1 = _ := s1
      have s2' : C_grid_size F_grid_size g.2.1 e.2.1 = _ := s2
      rw [s1', s2']
      simp only [Option.bind_some, res_grid_size_1_ret, res_grid_size_0_ret]
      unfold fitE
      cases k1 : (szG (gR g) (er e)).2
      · rfl
      · cases k2 : (szG (gC g) (el e)).2
        · rfl
        · have x1 := (sz_ok h3.1 k1 g0 g1).m
          have x2 := (sz_ok h3.2.1 k2 g2 g3).m
          have := fit0 (R := newR g e) (C := newC' g e) (by unfold newR; omega) (by unfold newC'; omega) (er e) (el e) (ec e) (ec e) (es e) (em e) he.s he.m he.c (ec e).length 0 big (by omega) (big_ge (n := (ec e).length + 1) (by have := he.c; omega))
          rw [List.drop_zero] at this
          exact this
    · rw [decide_eq_false h2, orE_ne _ h2, if_neg h2]; rfl
  · rw [decide_eq_false h1, orE_ne _ h1, if_neg h1]; rfl
end Go.Ev.Doc
