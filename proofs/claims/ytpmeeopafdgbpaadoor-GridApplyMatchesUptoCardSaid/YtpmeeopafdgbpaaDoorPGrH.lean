
import Derived.Test.YtpmeeopafdgbpaaDoorPGrG
import Derived.Test.YtpmeeopafdgbpaaDoorGGridF
namespace Go.Ev.Axis
open Go.Ev Go.Ev.Doc
set_option linter.unusedVariables false
set_option linter.unusedSimpArgs false
theorem szs_loop (l : Steps) (hl : l.length ≤ 1048576) (g : Good l) (n : Nat) : ∀ (d i m : Nat) (b a : Int), i + d = l.length → d < m → 0 ≤ b → 0 ≤ a → b + sumB (l.drop i) ≤ 2147483647 → a + sumA (l.drop i) ≤ 2147483647 →
    L_R_sizes_0 n m l b a (l.length : Int) i = some (ret_R_sizes (b + sumB (l.drop i)) (a + sumA (l.drop i))) := by
  intro d
  induction d with
  | zero =>
    intro i m b a hi hm hb ha hB hA
    cases m with
    | zero => omega
    | succ m =>
    have : i = l.length := by omega
    subst this
    have c1 : decide ((l.length : Int) < (l.length : Int)) = false := decide_eq_false (by omega)
    rw [L_R_sizes_0_step, List.drop_length]
    simp [bcond_if, c1, sumB, sumA]
  | succ d ih =>
    intro i m b a hi hm hb ha hB hA
    cases m with
    | zero => omega
    | succ m =>
    have hil : i < l.length := by omega
    have c1 : decide ((i : Int) < (l.length : Int)) = true := decide_eq_true (by omega)
    have w1 : IntKind.i64.wrap ((i : Int) + 1) = ((i + 1 : Nat) : Int) := wnat (by omega) (by omega)
    have ek : (at_ (e := YSpan) l (i : Int)).1 = kind l i := rfl
    have en : (at_ (e := YSpan) l (i : Int)).2 = num l i := rfl
    obtain ⟨k1, n1, n2⟩ := good_at g hil
    have hp := sum_pos (good_drop g (i + 1))
    rw [drop_cons l hil] at hB hA ⊢
    simp only [sumB, sumA, sk_mk, sn_mk] at hB hA ⊢
    rw [L_R_sizes_0_step]
    simp only [bcond_if, inb, hil, c1, if_true, w1, ek, en]
    rcases k1 with hk | hk | hk <;> rw [hk] at hB hA ⊢
    · rw [w64 (by simp at hB; omega) (by simp at hB; omega), w64 (by simp at hA; omega) (by simp at hA; omega)]
      have := ih (i + 1) m (b + num l i) (a + num l i) (by omega) (by omega) (by omega) (by omega) (by simp at hB; omega) (by simp at hA; omega)
      simpa [Int.add_assoc] using this
    · rw [w64 (x := a + num l i) (by simp at hA; omega) (by simp at hA; omega)]
      have := ih (i + 1) m b (a + num l i) (by omega) (by omega) (by omega) (by omega) (by simp at hB; omega) (by simp at hA; omega)
      simpa [Int.add_assoc] using this
    · rw [w64 (x := b + num l i) (by simp at hB; omega) (by simp at hB; omega)]
      have := ih (i + 1) m (b + num l i) a (by omega) (by omega) (by omega) (by omega) (by simp at hB; omega) (by simp at hA; omega)
      simpa [Int.add_assoc] using this
theorem szs_eq (l : Steps) (hl : l.length ≤ 1048576) (h : E l = 0) : C_R_sizes F_R_sizes l = some (ret_R_sizes (sumB l) (sumA l)) := by
  obtain ⟨g, hb, ha⟩ := E_good h
  rw [e_R_sizes]
  have := szs_loop l hl g big l.length 0 big 0 0 (by omega) (big_ge (n := l.length + 1) (by omega)) (by omega) (by omega) (by simpa using hb) (by simpa using ha)
  simpa using this
theorem one_eq (n : Int) (n0 : 0 ≤ n) (n1 : n ≤ 1048576) : C_R_Units F_R_Units [(0, n)] = some (ret_R_Units (List.replicate n.toNat 0)) := by
  rw [e_R_Units]
  by_cases h : n = 0
  · subst h
    obtain ⟨m, hm⟩ := big_succ (n := 4) (by omega)
    have b5 : big = m + 1 + 1 + 1 + 1 + 1 := by omega
    have e1 : ((List.length ([((0 : Int), (0 : Int))] : List YSpan.den) : Nat) : Int) = 1 := rfl
    have key : ∀ k j : Nat, L_R_Units_0 (j + 1) (k + 1 + 1) [(0, 0)] [] 1 0 = some (ret_R_Units []) := fun k j => by
      rw [L_R_Units_0_step, show decide ((0 : Int) < 1) = true from rfl, bT, if_pos (by rw [e1]; decide)]
      rw [show (at_ (e := YSpan) [((0 : Int), (0 : Int))] 0).2 = 0 from rfl, L_R_Units_1_step, show decide ((0 : Int) < 0) = false from rfl, bF, show IntKind.i64.wrap ((0 : Int) + 1) = 1 from rfl, L_R_Units_0_step, show decide ((1 : Int) < 1) = false from rfl, bF]
    rw [e1]
    have := key (m + 1 + 1 + 1) (m + 1 + 1 + 1 + 1)
    rw [← b5] at this
    exact this
  · have g : Good [(0, n)] := ⟨⟨Or.inl rfl, show 1 ≤ n by omega, show n ≤ 2147483647 by omega⟩, trivial⟩
    have := unitx_loop [(0, n)] (show 1 ≤ 1048576 by decide) g big (big_ge (n := 1048578) (by omega)) 1 0 big [] rfl (big_ge (n := 2) (by omega)) (by
      show (0 : Int) + (n + 0) ≤ 1048576; omega)
    have e2 : ([] : List Int) ++ units (([(0, n)] : Steps).drop 0) = List.replicate n.toNat 0 := by
      show [] ++ (List.replicate n.toNat 0 ++ []) = _
      rw [List.nil_append, List.append_nil]
    rw [e2] at this
    exact this
end Go.Ev.Axis
namespace Go.Ev.Doc
open Go.Ev Go.Ev.Attr Go.Ev.Track Go.Ev.Delta Go.Ev.Axis Go.Ev.Hul Go.Ev.Lex
set_option linter.unusedVariables false
set_option linter.unusedSimpArgs false
set_option maxRecDepth 100000
variable {R C R' C' : Int}
theorem rfit2 (hR : 0 ≤ R ∧ R ≤ 2147483648) (hC : 0 ≤ C ∧ C ≤ 2147483648) (a b : Axis.Steps) (cs : List Cl) (A l : List Rc) (hl : l.length ≤ 1048576) (n : Nat) : ∀ (d i m : Nat), i + d = l.length → d < m →
    L_R_FitError_2 n m a b cs A l R C (l.length : Int) (i : Int) = some (ret_R_FitError (frE R C (l.drop i))) := by
  intro d
  induction d with
  | zero =>
    intro i m hi hm
    obtain ⟨m, rfl⟩ : ∃ q, m = q + 1 := ⟨m - 1, by omega⟩
    obtain rfl : i = l.length := by omega
    rw [L_R_FitError_2_step, dlt_self, List.drop_length]
    rfl
  | succ d ih =>
    intro i m hi hm
    obtain ⟨m, rfl⟩ : ∃ q, m = q + 1 := ⟨m - 1, by omega⟩
    have h : i < l.length := by omega
    have i1 := ih (i + 1) m (by omega) (by omega)
    rw [L_R_FitError_2_step, dlt h, bT, if_pos ((inb i l.length).2 h), at_get (e := YRect) l i h, rlies_eq l[i] _ _ hR hC, wsucc h (by omega), List.drop_eq_getElem_cons h, frE]
    simp only [Option.bind_some, res_R_Lies_0_ret]
    rw [i1]
    cases lies l[i] R C <;> rfl
theorem rfit1 (hR : 0 ≤ R ∧ R ≤ 2147483648) (hC : 0 ≤ C ∧ C ≤ 2147483648) (a b : Axis.Steps) (cs : List Cl) (B l : List Rc) (hl : l.length ≤ 1048576) (hB : B.length ≤ 1048576) : ∀ (d i m : Nat), i + d = l.length → d < m →
    L_R_FitError_1 big m a b cs l B R C (l.length : Int) (i : Int) = some (ret_R_FitError (orE (frE R C (l.drop i)) (frE R C B))) := by
  intro d
  induction d with
  | zero =>
    intro i m hi hm
    obtain ⟨m, rfl⟩ : ∃ q, m = q + 1 := ⟨m - 1, by omega⟩
    obtain rfl : i = l.length := by omega
    rw [L_R_FitError_1_step, dlt_self, List.drop_length]
    exact rfit2 hR hC a b cs l B hB big B.length 0 big (by omega) (big_ge (n := B.length + 1) (by omega))
  | succ d ih =>
    intro i m hi hm
    obtain ⟨m, rfl⟩ : ∃ q, m = q + 1 := ⟨m - 1, by omega⟩
    have h : i < l.length := by omega
    have i1 := ih (i + 1) m (by omega) (by omega)
    rw [L_R_FitError_1_step, dlt h, bT, if_pos ((inb i l.length).2 h), at_get (e := YRect) l i h, rlies_eq l[i] _ _ hR hC, wsucc h (by omega), List.drop_eq_getElem_cons h, frE]
    simp only [Option.bind_some, res_R_Lies_0_ret]
    rw [i1]
    cases lies l[i] R C <;> rfl
theorem rfit0 (hR : 0 ≤ R ∧ R ≤ 2147483648) (hC : 0 ≤ C ∧ C ≤ 2147483648) (a b : Axis.Steps) (l : List Cl) (A B : List Rc) (hA : A.length ≤ 1048576) (hB : B.length ≤ 1048576) (hl : l.length ≤ 1048576) : ∀ (d i m : Nat), i + d = l.length → d < m →
    L_R_FitError_0 big m a b l A B R C (l.length : Int) (i : Int) = some (ret_R_FitError (orE (fcE R C (l.drop i)) (orE (frE R C A) (frE R C B)))) := by
  intro d
  induction d with
  | zero =>
    intro i m hi hm
    obtain ⟨m, rfl⟩ : ∃ q, m = q + 1 := ⟨m - 1, by omega⟩
    obtain rfl : i = l.length := by omega
    rw [L_R_FitError_0_step, dlt_self, List.drop_length]
    exact rfit1 hR hC a b l B A hA hB A.length 0 big (by omega) (big_ge (n := A.length + 1) (by omega))
  | succ d ih =>
    intro i m hi hm
    obtain ⟨m, rfl⟩ : ∃ q, m = q + 1 := ⟨m - 1, by omega⟩
    have h : i < l.length := by omega
    have i1 := ih (i + 1) m (by omega) (by omega)
    rw [L_R_FitError_0_step, dlt h, bT]
    simp only [if_pos ((inb i l.length).2 h)]
    rw [at_get (e := YCell) l i h, wsucc h (by omega), List.drop_eq_getElem_cons h, fcE, i1, show (l[i].1 : Int) = c0 l[i] from rfl, show (l[i].2.1 : Int) = c1 l[i] from rfl]
    cases decide (c0 l[i] ≥ R) <;> cases decide (c1 l[i] ≥ C) <;> rfl
theorem sumA_rng {a : Axis.Steps} (h : Axis.E a = 0) : 0 ≤ sumA a ∧ sumA a ≤ 2147483648 := by
  obtain ⟨g, _, h2⟩ := Axis.E_good h
  have := Axis.sum_pos g
  omega
theorem rfit_eq (g : Grid) (e : Edit) (he : Es e) (h1 : gridE g = 0) (h2 : editE e = 0) : C_R_FitError F_R_FitError g e = some (ret_R_FitError (fitE g e)) := by
  obtain ⟨⟨a0, a1⟩, ⟨a2, a3⟩, _, _⟩ := gridE_ok h1
  have h2' := h2
  unfold editE at h2'
  rw [orE0, orE0] at h2'
  obtain ⟨E1, E2, _⟩ := h2'
  have key : ∀ R C : Int, (0 ≤ R ∧ R ≤ 2147483648) → (0 ≤ C ∧ C ≤ 2147483648) → L_R_FitError_0 big big e.1 e.2.1 e.2.2.1 e.2.2.2.1 e.2.2.2.2 R C (List.length e.2.2.1 : Int) 0 = some (ret_R_FitError (orE (fcE R C (ec e)) (orE (frE R C (es e)) (frE R C (em e))))) := fun R C hR hC =>
    rfit0 hR hC (er e) (el e) (ec e) (es e) (em e) he.s he.m he.c (ec e).length 0 big (by omega) (big_ge (n := (ec e).length + 1) (by have := he.c; omega))
  have s1 : C_R_sizes F_R_sizes e.1 = some (ret_R_sizes (sumB (er e)) (sumA (er e))) := Axis.szs_eq (er e) he.r E1
  have s2 : C_R_sizes F_R_sizes e.2.1 = some (ret_R_sizes (sumB (el e)) (sumA (el e))) := Axis.szs_eq (el e) he.l E2
  have p1 : decide (((List.length e.1 : Int)) > 0) = !(decide (er e = [])) := len_pos (er e)
  have p2 : decide (((List.length e.2.1 : Int)) > 0) = !(decide (el e = [])) := len_pos (el e)
  rw [e_R_FitError, p1, p2, s1, s2]
  simp only [Option.bind_some, res_R_sizes_0_ret, res_R_sizes_1_ret, show (g.1 : Int) = gR g from rfl, show (g.2.1 : Int) = gC g from rfl]
  rw [key _ _ (sumA_rng E1) (sumA_rng E2), key _ _ (sumA_rng E1) ⟨a2, by omega⟩, key _ _ ⟨a0, by omega⟩ (sumA_rng E2), key _ _ ⟨a0, by omega⟩ ⟨a2, by omega⟩]
  unfold fitE newR newC' szG
  by_cases k1 : er e = []
  · rw [decide_eq_true k1, if_pos k1]
    by_cases k2 : el e = []
    · rw [decide_eq_true k2, if_pos k2]; rfl
    · rw [decide_eq_false k2, if_neg k2]
      by_cases k3 : sumB (el e) = gC g
      · rw [show (sumB (el e) != gC g) = false from bne_eq_false_iff_eq.2 k3, decide_eq_true k3]; rfl
      · rw [show (sumB (el e) != gC g) = true from bne_iff_ne.2 k3, decide_eq_false k3]; rfl
  · rw [decide_eq_false k1, if_neg k1]
    by_cases k4 : sumB (er e) = gR g
    · rw [show (sumB (er e) != gR g) = false from bne_eq_false_iff_eq.2 k4, decide_eq_true k4]
      by_cases k2 : el e = []
      · rw [decide_eq_true k2, if_pos k2]; rfl
      · rw [decide_eq_false k2, if_neg k2]
        by_cases k3 : sumB (el e) = gC g
        · rw [show (sumB (el e) != gC g) = false from bne_eq_false_iff_eq.2 k3, decide_eq_true k3]; rfl
        · rw [show (sumB (el e) != gC g) = true from bne_iff_ne.2 k3, decide_eq_false k3]; rfl
    · rw [show (sumB (er e) != gR g) = true from bne_iff_ne.2 k4, decide_eq_false k4]; rfl
theorem runits_eq {a : Axis.Steps} {n m : Int} (h : AxOk a n m) (hl : a.length ≤ 1048576) (hN : Axis.sumN a ≤ 1048576) (n1 : n ≤ 1048576) : C_R_units F_R_units a n = some (ret_R_units (unitsG a n)) := by
  rw [e_R_units]
  unfold unitsG
  rcases h.ok with ⟨e1, e2⟩ | ⟨e1, e2, e3, e4⟩
  · subst e1
    rw [if_pos rfl, Axis.one_eq n h.n0 n1]
    rfl
  · have e5 : (((List.length a : Int)) == 0) = false := beq_false_of_ne fun z => e1 (List.eq_nil_of_length_eq_zero (by omega))
    rw [if_neg e1, e5, bF, Axis.unitx_eq a hl e2 hN]
    rfl
theorem unitsG_len {a : Axis.Steps} {n m : Int} (h : AxOk a n m) (hN : Axis.sumN a ≤ 1048576) (n1 : n ≤ 1048576) : (unitsG a n).length ≤ 1048576 := by
  unfold unitsG
  rcases h.ok with ⟨e1, e2⟩ | ⟨e1, e2, e3, e4⟩
  · rw [if_pos e1, List.length_replicate]; omega
  · rw [if_neg e1]
    have := Axis.unitx_len (Axis.E_good e2).1
    omega
theorem rrest_eq {a : Axis.Steps} {n m : Int} (h : AxOk a n m) (hN : Axis.sumN a ≤ 1048576) (n1 : n ≤ 1048576) {p k : Int} (p0 : 0 ≤ p) (k1 : 1 ≤ k) (hk : k ≤ n - p) : C_R_RestOf F_R_RestOf (unitsG a n) p (IntKind.i64.wrap (p + k)) = some (ret_R_RestOf (hlG a p (p + k)).1 (hlG a p (p + k)).2) := by
  rw [w64 (x := p + k) (by omega) (by omega), Axis.restof_eq (unitsG a n) (unitsG_len h hN n1) p (p + k) p0 (by omega) (by omega), ← rest_hl h p0 (show p < p + k by omega) (by omega)]
  rfl
theorem rmoved_eq {a b : Axis.Steps} (hr : AxOk a R R') (hc : AxOk b C C') (ha : Axis.sumN a ≤ 1048576) (hb : Axis.sumN b ≤ 1048576) (hR : R ≤ 1048576) (hC : C ≤ 1048576) (r : Rc) (h : lies r R C = true) : C_R_MovedRect F_R_MovedRect r (unitsG a R) (unitsG b C) = some (ret_R_MovedRect (mrR a b r)) := by
  obtain ⟨h1, h2, h3, h4, h5, h6, h7, h8⟩ := (liesI r R C).1 h
  have q1 : C_R_RestOf F_R_RestOf (unitsG a R) r.1 (IntKind.i64.wrap (r.1 + r.2.2.1)) = _ := rrest_eq hr ha hR (p := r0 r) (k := r2 r) h1 h3 h7
  have q2 : C_R_RestOf F_R_RestOf (unitsG b C) r.2.1 (IntKind.i64.wrap (r.2.1 + r.2.2.2)) = _ := rrest_eq hc hb hC (p := r1 r) (k := r3 r) h2 h4 h8
  have t0 : ∀ a b : Int, res_R_RestOf_0 (ret_R_RestOf a b) = a := fun _ _ => id rfl
  have t1 : ∀ a b : Int, res_R_RestOf_1 (ret_R_RestOf a b) = b := fun _ _ => id rfl
  rw [e_R_MovedRect, q1, q2]
  simp only [Option.bind_some, t0, t1]
  have i1 := hl_in hr (p := r0 r) (q := r0 r + r2 r) h1 (by omega) (by omega)
  have i2 := hl_in hc (p := r1 r) (q := r1 r + r3 r) h2 (by omega) (by omega)
  have m1 := hr.m
  have m2 := hc.m
  unfold mrR thrG
  generalize hlG a (r0 r) (r0 r + r2 r) = u at i1 ⊢
  generalize hlG b (r1 r) (r1 r + r3 r) = v at i2 ⊢
  obtain ⟨u1, u2⟩ := u
  obtain ⟨v1, v2⟩ := v
  simp only at i1 i2 ⊢
  rw [w64 (x := u2 - u1) (by omega) (by omega), w64 (x := v2 - v1) (by omega) (by omega), w64 (x := u2 - u1 + v2) (by omega) (by omega), w64 (x := u2 - u1 + v2 - v1) (by omega) (by omega)]
  by_cases k1 : u1 < u2
  · rw [decide_eq_true k1]
    by_cases k2 : v1 < v2
    · rw [decide_eq_true k2]
      by_cases k3 : u2 - u1 + v2 - v1 > 2
      · rw [decide_eq_true k3, if_pos ⟨k1, k2, k3⟩]; rfl
      · rw [decide_eq_false k3, if_neg fun z => k3 z.2.2]; rfl
    · rw [decide_eq_false k2, if_neg fun z => k2 z.2.1]; rfl
  · rw [decide_eq_false k1, if_neg fun z => k1 z.1]; rfl
theorem cellAt_cons (x : Cl) (l : List Cl) (p q : Int) : cellAt (x :: l) p q = if posC x = (p, q) then x else cellAt l p q := by
  unfold cellAt
  rw [List.find?_cons]
  by_cases h : posC x = (p, q)
  · rw [if_pos h, decide_eq_true h]
  · rw [if_neg h, decide_eq_false h]
theorem rcell_loop (l : List Cl) (hl : l.length ≤ 1048576) (p q : Int) (n : Nat) : ∀ (d i m : Nat), i + d = l.length → d < m →
    L_R_cellAt_0 n m l p q 0 0 [] 0 (l.length : Int) (i : Int) = some (ret_R_cellAt (cellAt (l.drop i) p q)) := by
  intro d
  induction d with
  | zero =>
    intro i m hi hm
    obtain ⟨m, rfl⟩ : ∃ q, m = q + 1 := ⟨m - 1, by omega⟩
    obtain rfl : i = l.length := by omega
    rw [L_R_cellAt_0_step, dlt_self, List.drop_length]
    rfl
  | succ d ih =>
    intro i m hi hm
    obtain ⟨m, rfl⟩ : ∃ q, m = q + 1 := ⟨m - 1, by omega⟩
    have h : i < l.length := by omega
    have i1 := ih (i + 1) m (by omega) (by omega)
    rw [L_R_cellAt_0_step, dlt h, bT]
    simp only [if_pos ((inb i l.length).2 h)]
    rw [at_get (e := YCell) l i h, wsucc h (by omega), List.drop_eq_getElem_cons h, cellAt_cons, i1]
    by_cases k1 : c0 l[i] = p
    · rw [show ((l[i].1 : Int) == p) = true from beq_iff_eq.2 k1]
      by_cases k2 : c1 l[i] = q
      · rw [show ((l[i].2.1 : Int) == q) = true from beq_iff_eq.2 k2, if_pos (by unfold posC; rw [k1, k2])]; rfl
      · rw [show ((l[i].2.1 : Int) == q) = false from beq_false_of_ne k2, if_neg fun z => k2 (congrArg (fun p : Int × Int => p.2) z)]; rfl
    · rw [show ((l[i].1 : Int) == p) = false from beq_false_of_ne k1, if_neg fun z => k1 (congrArg (fun p : Int × Int => p.1) z)]; rfl
theorem rcellat_eq (l : List Cl) (hl : l.length ≤ 1048576) (p q : Int) : C_R_cellAt F_R_cellAt l p q = some (ret_R_cellAt (cellAt l p q)) := by
  rw [e_R_cellAt]
  exact rcell_loop l hl p q big l.length 0 big (by omega) (big_ge (n := l.length + 1) (by omega))
end Go.Ev.Doc
