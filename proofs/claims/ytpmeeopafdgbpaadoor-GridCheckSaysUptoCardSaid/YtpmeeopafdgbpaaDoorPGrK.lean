
import Derived.Test.YtpmeeopafdgbpaaDoorPGrG
import Derived.Test.YtpmeeopafdgbpaaDoorGGridC
namespace Go.Ev.Doc
open Go.Ev Go.Ev.Attr Go.Ev.Track Go.Ev.Delta Go.Ev.Axis Go.Ev.Hul Go.Ev.Lex
set_option linter.unusedVariables false
set_option linter.unusedSimpArgs false
set_option maxRecDepth 100000
theorem ghalf_eq (i j : Nat) (h : i + j < 4611686018427387904) : IntKind.i64.wrap (shrI .u64 (IntKind.u64.wrap (IntKind.i64.wrap ((i : Int) + (j : Int)))) 1) = (((i + j) / 2 : Nat) : Int) := by
  rw [w64 (x := (i : Int) + (j : Int)) (by omega) (by omega)]
  have e : IntKind.u64.wrap ((i : Int) + (j : Int)) = ((i + j : Nat) : Int) := by
    simp only [IntKind.wrap, IntKind.signed, IntKind.bits]
    first | omega | (simp; omega)
  have e2 : shrI .u64 ((i + j : Nat) : Int) 1 = ((i + j : Nat) : Int).fdiv 2 := rfl
  rw [e, e2, Int.fdiv_eq_ediv_of_nonneg _ (by decide)]
  exact wnat (by omega) (by omega)
theorem srt_get {l : List Cl} (hs : Lex.Srt posC l) {i j : Nat} (hij : i < j) (hj : j < l.length) : lt2 (posC (l[i]'(by omega))) (posC l[j]) := by
  unfold Lex.Srt at hs
  rw [List.pairwise_iff_getElem] at hs
  exact hs i j (by omega) hj hij
theorem gbs_loop (l : List Cl) (hl : l.length ≤ 1048576) (hs : Lex.Srt posC l) (p q : Int) (n : Nat) : ∀ (s i j m : Nat), j - i ≤ s → s < m → i ≤ j → j ≤ l.length →
    (∀ t, t < i → (ht : t < l.length) → lt2 (posC l[t]) (p, q)) → (∀ t, j ≤ t → (ht : t < l.length) → ¬ lt2 (posC l[t]) (p, q)) →
    ∃ (k : Nat) (b : Bool), L_slices_BinarySearchFunc_Cell_grid_order_0 n m l p q [] 0 [] (l.length : Int) (i : Int) (j : Int) = some (ret_slices_BinarySearchFunc_Cell_grid_order (k : Int) b) ∧
      (b = true → ∃ hk : k < l.length, posC l[k] = (p, q)) ∧ (b = false → ∀ z ∈ l, posC z ≠ (p, q)) := by
  have fin : ∀ (i m : Nat), i ≤ l.length → (∀ t, t < i → (ht : t < l.length) → lt2 (posC l[t]) (p, q)) → (∀ t, i ≤ t → (ht : t < l.length) → ¬ lt2 (posC l[t]) (p, q)) →
      ∃ (k : Nat) (b : Bool), L_slices_BinarySearchFunc_Cell_grid_order_0 n (m + 1) l p q [] 0 [] (l.length : Int) (i : Int) (i : Int) = some (ret_slices_BinarySearchFunc_Cell_grid_order (k : Int) b) ∧
      (b = true → ∃ hk : k < l.length, posC l[k] = (p, q)) ∧ (b = false → ∀ z ∈ l, posC z ≠ (p, q)) := by
    intro i m hi h4 h5
    rw [L_slices_BinarySearchFunc_Cell_grid_order_0_step, dlt_self, bF]
    by_cases h : i < l.length
    · have ho := order_eq l[i] ((p, (q, ([], (0, [])))) : Cl)
      rw [dlt h, if_pos ((inb i l.length).2 h), at_get (e := YCell) l i h, ho]
      refine ⟨i, decide (posC l[i] = (p, q)), ?_, fun hb => ⟨h, of_decide_eq_true hb⟩, fun hb z hz e => ?_⟩
      · rw [Option.bind_some, res_grid_order_0_ret, ord_0]; rfl
      · have hb := of_decide_eq_false hb
        obtain ⟨t, ht, rfl⟩ := List.mem_iff_getElem.1 hz
        rcases Nat.lt_trichotomy t i with h6 | h6 | h6
        · have := h4 t h6 ht; rw [e] at this; exact lt2_irrefl _ this
        · subst h6; exact hb e
        · have h7 := h5 i (Nat.le_refl _) h
          have h8 := srt_get hs h6 ht
          rw [e] at h8
          exact h7 h8
    · refine ⟨i, false, ?_, (fun hb => by cases hb), fun _ z hz e => ?_⟩
      · rw [decide_eq_false (show ¬ ((i : Int) < (l.length : Int)) by omega)]; rfl
      · obtain ⟨t, ht, rfl⟩ := List.mem_iff_getElem.1 hz
        have := h4 t (by omega) ht
        rw [e] at this
        exact lt2_irrefl _ this
  intro s
  induction s with
  | zero =>
    intro i j m h1 hm h2 h3 h4 h5
    obtain ⟨m, rfl⟩ : ∃ q, m = q + 1 := ⟨m - 1, by omega⟩
    obtain rfl : i = j := by omega
    exact fin i m h3 h4 h5
  | succ s ih =>
    intro i j m h1 hm h2 h3 h4 h5
    obtain ⟨m, rfl⟩ : ∃ q, m = q + 1 := ⟨m - 1, by omega⟩
    by_cases hij : i = j
    · subst hij; exact fin i m h3 h4 h5
    · have hlt : i < j := by omega
      obtain ⟨h, hh⟩ : ∃ h, (i + j) / 2 = h := ⟨_, rfl⟩
      have hd : h < l.length := by omega
      have ho := order_eq l[h] ((p, (q, ([], (0, [])))) : Cl)
      rw [L_slices_BinarySearchFunc_Cell_grid_order_0_step, ghalf_eq i j (by omega), hh, dlt hlt, bT, if_pos ((inb h l.length).2 hd), at_get (e := YCell) l h hd, ho]
      simp only [Option.bind_some, ro0]
      rw [ord_lt]
      have ep : posC ((p, (q, ([], (0, [])))) : Cl) = (p, q) := rfl
      rw [ep]
      by_cases hx : lt2 (posC l[h]) (p, q)
      · rw [decide_eq_true hx, bT, wsucc hd (by omega)]
        refine ih (h + 1) j m (by omega) (by omega) (by omega) h3 (fun t ht ht2 => ?_) h5
        by_cases h0 : t = h
        · subst h0; exact hx
        · exact lt2_trans (srt_get hs (by omega) hd) hx
      · rw [decide_eq_false hx, bF]
        refine ih i h m (by omega) (by omega) (by omega) (by omega) h4 (fun t ht ht2 hc => ?_)
        by_cases h0 : t = h
        · subst h0; exact hx hc
        · exact hx (lt2_trans (srt_get hs (by omega) ht2) hc)
theorem at_eq (g : Grid) (hg : Gs g) (hs : Lex.Srt posC (gc g)) (p q : Int) : C_grid_At F_grid_At g p q = some (ret_grid_At (cellAt (gc g) p q)) := by
  obtain ⟨k, b, h1, h2, h3⟩ := gbs_loop (gc g) hg.c hs p q big (gc g).length 0 (gc g).length big (by omega) (big_ge (n := (gc g).length + 1) (by have := hg.c; omega)) (Nat.zero_le _) (Nat.le_refl _) (fun t ht _ => absurd ht (Nat.not_lt_zero _)) (fun t ht ht2 => absurd ht2 (by omega))
  have hf : C_grid_find F_grid_find g.2.2.1 p q = some (ret_grid_find (k : Int) b) := by
    rw [e_grid_find, e_slices_BinarySearchFunc_Cell_grid_order]
    have h1' : L_slices_BinarySearchFunc_Cell_grid_order_0 big big g.2.2.1 p q [] 0 [] (List.length g.2.2.1 : Int) 0 (List.length g.2.2.1 : Int) = _ := h1
    rw [h1']
    rfl
  have q0 : ∀ (a : Int) (b : Bool), res_grid_find_0 (ret_grid_find a b) = a := fun _ _ => id rfl
  have q1 : ∀ (a : Int) (b : Bool), res_grid_find_1 (ret_grid_find a b) = b := fun _ _ => id rfl
  rw [e_grid_At, hf]
  simp only [Option.bind_some, q0, q1]
  cases b
  · rw [Bool.not_false, bT]
    rcases cellAt_cases (gc g) p q with ⟨z, hz, e, _⟩ | ⟨_, e⟩
    · exact absurd e (h3 rfl z hz)
    · rw [e]; rfl
  · obtain ⟨hk, hp⟩ := h2 rfl
    have hk' : k < List.length g.2.2.1 := hk
    have hcl := clone_eq (gc g)[k] (hg.a _ (List.getElem_mem hk)).1
    have ea : at_ (e := YCell) g.2.2.1 (k : Int) = (gc g)[k] := at_get (e := YCell) (gc g) k hk
    rw [Bool.not_true, bF, if_pos ((inb k _).2 hk'), ea, hcl]
    have e1 : c0 (gc g)[k] = p := congrArg (fun p : Int × Int => p.1) hp
    have e2 : c1 (gc g)[k] = q := congrArg (fun p : Int × Int => p.2) hp
    have e3 : cellAt (gc g) p q = (gc g)[k] := by
      have := cellAt_some hs (List.getElem_mem hk)
      exact ((congrArg (fun z => cellAt (gc g) z _) e1).trans (congrArg (fun z => cellAt (gc g) p z) e2)).symm.trans this
    rw [e3]
    rfl
def covIn (p q : Int) (r : Rc) : Bool := decide (r0 r ≤ p) && (decide (p < r0 r + r2 r) && (decide (r1 r ≤ q) && decide (q < r1 r + r3 r)))
def cov (p q : Int) : List Rc → Rc
  | [] => mkR p q 1 1
  | r :: l => bcond (covIn p q r) r (cov p q l)
variable {R C : Int}
theorem cover_loop (hR : R ≤ 2147483647) (hC : C ≤ 2147483647) (l : List Rc) (hl : l.length ≤ 1048576) (hi' : ∀ r ∈ l, lies r R C = true) (p q : Int) (p1 : p < 9223372036854775808) (q1 : q < 9223372036854775808) (n : Nat) : ∀ (d i m : Nat), i + d = l.length → d < m →
    L_grid_Cover_0 n m p q 0 0 0 0 p q 1 1 l (l.length : Int) (i : Int) = some (ret_grid_Cover (cov p q (l.drop i))) := by
  intro d
  induction d with
  | zero =>
    intro i m hi hm
    obtain ⟨m, rfl⟩ : ∃ q, m = q + 1 := ⟨m - 1, by omega⟩
    obtain rfl : i = l.length := by omega
    rw [L_grid_Cover_0_step, dlt_self, List.drop_length]
    rfl
  | succ d ih =>
    intro i m hi hm
    obtain ⟨m, rfl⟩ : ∃ q, m = q + 1 := ⟨m - 1, by omega⟩
    have h : i < l.length := by omega
    obtain ⟨h1, h2, h3, h4, h5, h6, h7, h8⟩ := (liesI l[i] R C).1 (hi' _ (List.getElem_mem h))
    have i1 := ih (i + 1) m (by omega) (by omega)
    rw [L_grid_Cover_0_step, dlt h, bT, if_pos ((inb i l.length).2 h), at_get (e := YRect) l i h, wsucc h (by omega), i1, List.drop_eq_getElem_cons h, cov]
    rw [show (l[i].1 : Int) = r0 l[i] from rfl, show (l[i].2.1 : Int) = r1 l[i] from rfl, show (l[i].2.2.1 : Int) = r2 l[i] from rfl, show (l[i].2.2.2 : Int) = r3 l[i] from rfl]
    unfold covIn
    by_cases k1 : r0 l[i] ≤ p
    · rw [decide_eq_true k1, w64 (x := p - r0 l[i]) (by omega) (by omega)]
      have d2 : decide (p - r0 l[i] < r2 l[i]) = decide (p < r0 l[i] + r2 l[i]) := by
        by_cases z : p < r0 l[i] + r2 l[i]
        · rw [decide_eq_true z, decide_eq_true (by omega)]
        · rw [decide_eq_false z, decide_eq_false (by omega)]
      rw [d2]
      by_cases k3 : r1 l[i] ≤ q
      · rw [decide_eq_true k3, w64 (x := q - r1 l[i]) (by omega) (by omega)]
        have d4 : decide (q - r1 l[i] < r3 l[i]) = decide (q < r1 l[i] + r3 l[i]) := by
          by_cases z : q < r1 l[i] + r3 l[i]
          · rw [decide_eq_true z, decide_eq_true (by omega)]
          · rw [decide_eq_false z, decide_eq_false (by omega)]
        rw [d4]
        cases decide (p < r0 l[i] + r2 l[i]) <;> cases decide (q < r1 l[i] + r3 l[i]) <;> rfl
      · rw [decide_eq_false k3]
        cases decide (p < r0 l[i] + r2 l[i]) <;> rfl
    · rw [decide_eq_false k1]
      rfl
theorem in_walk {p a k : Int} (h0 : 0 ≤ a) (h1 : 1 ≤ k) (h2 : a + k ≤ 2147483648) : C_R_In F_R_In p a (IntKind.i64.wrap (IntKind.i64.wrap (a + k) - 1)) = some (ret_R_In (decide (a ≤ p) && decide (p < a + k))) := by
  rw [w64 (x := a + k) (by omega) (by omega), w64 (x := a + k - 1) (by omega) (by omega), Axis.in_eq]
  have : decide (p ≤ a + k - 1) = decide (p < a + k) := by
    by_cases z : p < a + k
    · rw [decide_eq_true z, decide_eq_true (by omega)]
    · rw [decide_eq_false z, decide_eq_false (by omega)]
  rw [this]
theorem rcover_loop (hR : R ≤ 2147483647) (hC : C ≤ 2147483647) (l : List Rc) (hl : l.length ≤ 1048576) (hi' : ∀ r ∈ l, lies r R C = true) (p q : Int) (a b : Int) (cs : List Cl) (n : Nat) : ∀ (d i m : Nat), i + d = l.length → d < m →
    L_R_Cover_0 n m p q a b cs l 0 0 0 0 (l.length : Int) (i : Int) = some (ret_R_Cover (cov p q (l.drop i))) := by
  intro d
  induction d with
  | zero =>
    intro i m hi hm
    obtain ⟨m, rfl⟩ : ∃ q, m = q + 1 := ⟨m - 1, by omega⟩
    obtain rfl : i = l.length := by omega
    rw [L_R_Cover_0_step, dlt_self, List.drop_length]
    rfl
  | succ d ih =>
    intro i m hi hm
    obtain ⟨m, rfl⟩ : ∃ q, m = q + 1 := ⟨m - 1, by omega⟩
    have h : i < l.length := by omega
    obtain ⟨h1, h2, h3, h4, h5, h6, h7, h8⟩ := (liesI l[i] R C).1 (hi' _ (List.getElem_mem h))
    have i1 := ih (i + 1) m (by omega) (by omega)
    have w1 : C_R_In F_R_In p l[i].1 (IntKind.i64.wrap (IntKind.i64.wrap (l[i].1 + l[i].2.2.1) - 1)) = _ := in_walk (p := p) (a := r0 l[i]) (k := r2 l[i]) h1 h3 (by omega)
    have w2 : C_R_In F_R_In q l[i].2.1 (IntKind.i64.wrap (IntKind.i64.wrap (l[i].2.1 + l[i].2.2.2) - 1)) = _ := in_walk (p := q) (a := r1 l[i]) (k := r3 l[i]) h2 h4 (by omega)
    rw [L_R_Cover_0_step, dlt h, bT, if_pos ((inb i l.length).2 h), at_get (e := YRect) l i h, wsucc h (by omega), i1, w1, w2, List.drop_eq_getElem_cons h, cov]
    simp only [Option.bind_some, res_R_In_0_ret]
    unfold covIn
    cases decide (r0 l[i] ≤ p) <;> cases decide (p < r0 l[i] + r2 l[i]) <;> cases decide (r1 l[i] ≤ q) <;> cases decide (q < r1 l[i] + r3 l[i]) <;> rfl
theorem cover_eq (g : Grid) (hg : Gs g) (h : gridE g = 0) (p q : Int) (p1 : p < 9223372036854775808) (q1 : q < 9223372036854775808) : C_grid_Cover F_grid_Cover g p q = some (ret_grid_Cover (cov p q (gm g))) ∧ C_R_Cover F_R_Cover g p q = some (ret_R_Cover (cov p q (gm g))) := by
  obtain ⟨⟨_, g1⟩, ⟨_, g3⟩, _, g5⟩ := gridE_ok h
  have ha := merges_ok g5
  have b := big_ge (n := (gm g).length + 1) (by have := hg.m; omega)
  rw [e_grid_Cover, e_R_Cover]
  exact ⟨cover_loop g1 g3 (gm g) hg.m ha.in_ p q p1 q1 big (gm g).length 0 big (by omega) (by omega), rcover_loop g1 g3 (gm g) hg.m ha.in_ p q _ _ _ big (gm g).length 0 big (by omega) (by omega)⟩
theorem law_fin (g : Grid) (hg : Gs g) (h : gridE g = 0) (p q : Int) (p1 : p < 9223372036854775808) (q1 : q < 9223372036854775808) (x : Cl) (hx : x = cellAt (gc g) p q) :
    ((C_grid_At F_grid_At g p q).bind fun r1 =>
    ((C_R_SameCell F_R_SameCell (res_grid_At_0 r1) x).bind fun r2 =>
     (bcond ((res_R_SameCell_0 r2) == true)
      ((C_grid_Cover F_grid_Cover g p q).bind fun r3 =>
       ((C_R_Cover F_R_Cover g p q).bind fun r4 =>
        (some (ret_law_GridCheckSays ((((res_grid_Cover_0 r3).1 : Int) == (res_R_Cover_0 r4).1) && ((((res_grid_Cover_0 r3).2.1 : Int) == (res_R_Cover_0 r4).2.1) && ((((res_grid_Cover_0 r3).2.2.1 : Int) == (res_R_Cover_0 r4).2.2.1) && ((((res_grid_Cover_0 r3).2.2.2 : Int) == (res_R_Cover_0 r4).2.2.2) && true))))))))
      (some (ret_law_GridCheckSays false))))) = some (ret_law_GridCheckSays true) := by
  have hc := (cells_ok (gridE_ok h).2.2.1).1
  have hca : (ca (cellAt (gc g) p q)).length ≤ 1048576 := by
    rcases cellAt_cases (gc g) p q with ⟨z, hz, _, e⟩ | ⟨_, e⟩
    · rw [e]; exact (hg.a z hz).1
    · rw [e]; exact Nat.zero_le _
  obtain ⟨c1, c2⟩ := cover_eq g hg h p q p1 q1
  rw [at_eq g hg hc.srt p q, hx]
  simp only [Option.bind_some, res_grid_At_0_ret, rcell_eq _ _ hca, res_R_SameCell_0_ret, eqd_self, c1, c2, res_grid_Cover_0_ret, res_R_Cover_0_ret, beq_self_eq_true, Bool.and_true, bT]
theorem gcl_loop_a (g : Grid) (hg : Gs g) (h : gridE g = 0) (p q : Int) (p1 : p < 9223372036854775808) (q1 : q < 9223372036854775808) (n : Nat) : ∀ (d i m : Nat) (x : Cl), i + d = (gc g).length → d < m → newC ((gc g).drop i) p q x = cellAt (gc g) p q →
    L_law_GridCheckSays_0a n m p q (gR g) (gC g) (gc g) (gm g) x.1 x.2.1 x.2.2.1 x.2.2.2.1 x.2.2.2.2 ((gc g).length : Int) (i : Int) = some (ret_law_GridCheckSays true) := by
  intro d
  have hl := hg.c
  induction d with
  | zero =>
    intro i m x hi hm hx
    obtain ⟨m, rfl⟩ : ∃ q, m = q + 1 := ⟨m - 1, by omega⟩
    obtain rfl : i = (gc g).length := by omega
    rw [List.drop_length] at hx
    rw [L_law_GridCheckSays_0a_step, dlt_self, bF]
    exact law_fin g hg h p q p1 q1 x hx
  | succ d ih =>
    intro i m x hi hm hx
    obtain ⟨m, rfl⟩ : ∃ q, m = q + 1 := ⟨m - 1, by omega⟩
    have hlt : i < (gc g).length := by omega
    rw [List.drop_eq_getElem_cons hlt] at hx
    unfold newC at hx
    rw [List.foldl_cons] at hx
    rw [L_law_GridCheckSays_0a_step, dlt hlt, bT]
    simp only [if_pos ((inb i (gc g).length).2 hlt)]
    rw [at_get (e := YCell) (gc g) i hlt, wsucc hlt (by omega)]
    by_cases k1 : c0 (gc g)[i] = p
    · by_cases k2 : c1 (gc g)[i] = q
      · have e : posC (gc g)[i] = (p, q) := by unfold posC; rw [k1, k2]
        rw [if_pos e] at hx
        rw [show (((gc g)[i].1 : Int) == p) = true from beq_iff_eq.2 k1, show (((gc g)[i].2.1 : Int) == q) = true from beq_iff_eq.2 k2]
        exact ih (i + 1) m (gc g)[i] (by omega) (by omega) hx
      · have e : ¬ posC (gc g)[i] = (p, q) := fun z => k2 (congrArg (fun p : Int × Int => p.2) z)
        rw [if_neg e] at hx
        rw [show (((gc g)[i].1 : Int) == p) = true from beq_iff_eq.2 k1, show (((gc g)[i].2.1 : Int) == q) = false from beq_false_of_ne k2]
        exact ih (i + 1) m x (by omega) (by omega) hx
    · have e : ¬ posC (gc g)[i] = (p, q) := fun z => k1 (congrArg (fun p : Int × Int => p.1) z)
      rw [if_neg e] at hx
      rw [show (((gc g)[i].1 : Int) == p) = false from beq_false_of_ne k1]
      exact ih (i + 1) m x (by omega) (by omega) hx
theorem gcl_loop (g : Grid) (hg : Gs g) (h : gridE g = 0) (p q : Int) (p1 : p < 9223372036854775808) (q1 : q < 9223372036854775808) (n : Nat) : ∀ (d i m : Nat), i + d = (gc g).length → d < m → newC ((gc g).drop i) p q (blank p q) = cellAt (gc g) p q →
    L_law_GridCheckSays_0 n m p q (gR g) (gC g) (gc g) (gm g) p q [] 0 ((gc g).length : Int) (i : Int) = some (ret_law_GridCheckSays true) := by
  intro d
  have hl := hg.c
  induction d with
  | zero =>
    intro i m hi hm hx
    obtain ⟨m, rfl⟩ : ∃ q, m = q + 1 := ⟨m - 1, by omega⟩
    obtain rfl : i = (gc g).length := by omega
    rw [List.drop_length] at hx
    rw [L_law_GridCheckSays_0_step, dlt_self, bF]
    exact law_fin g hg h p q p1 q1 (blank p q) hx
  | succ d ih =>
    intro i m hi hm hx
    obtain ⟨m, rfl⟩ : ∃ q, m = q + 1 := ⟨m - 1, by omega⟩
    have hlt : i < (gc g).length := by omega
    have hx0 := hx
    rw [List.drop_eq_getElem_cons hlt] at hx
    unfold newC at hx
    rw [List.foldl_cons] at hx
    rw [L_law_GridCheckSays_0_step, dlt hlt, bT]
    simp only [if_pos ((inb i (gc g).length).2 hlt)]
    rw [at_get (e := YCell) (gc g) i hlt, wsucc hlt (by omega)]
    by_cases k1 : c0 (gc g)[i] = p
    · by_cases k2 : c1 (gc g)[i] = q
      · have e : posC (gc g)[i] = (p, q) := by unfold posC; rw [k1, k2]
        rw [if_pos e] at hx
        rw [show (((gc g)[i].1 : Int) == p) = true from beq_iff_eq.2 k1, show (((gc g)[i].2.1 : Int) == q) = true from beq_iff_eq.2 k2]
        exact gcl_loop_a g hg h p q p1 q1 n d (i + 1) m (gc g)[i] (by omega) (by omega) hx
      · have e : ¬ posC (gc g)[i] = (p, q) := fun z => k2 (congrArg (fun p : Int × Int => p.2) z)
        rw [if_neg e] at hx
        rw [show (((gc g)[i].1 : Int) == p) = true from beq_iff_eq.2 k1, show (((gc g)[i].2.1 : Int) == q) = false from beq_false_of_ne k2]
        exact ih (i + 1) m (by omega) (by omega) hx
    · have e : ¬ posC (gc g)[i] = (p, q) := fun z => k1 (congrArg (fun p : Int × Int => p.1) z)
      rw [if_neg e] at hx
      rw [show (((gc g)[i].1 : Int) == p) = false from beq_false_of_ne k1]
      exact ih (i + 1) m (by omega) (by omega) hx
theorem want_eq {l : List Cl} (hs : Lex.Srt posC l) (p q : Int) : newC l p q (blank p q) = cellAt l p q := by
  rcases cellAt_cases l p q with ⟨z, hz, e, e2⟩ | ⟨h, e⟩
  · rw [e2]; exact newC_some _ hs z hz e
  · rw [e]; exact newC_none _ h
theorem law_GridCheck (g : Grid) (e : Edit) (p q : Int) (o0 : YGrid.ok g) (o1 : YGridEdit.ok e) (o2 : (Ty.int .i64).ok p) (o3 : (Ty.int .i64).ok q)
    (hb : YGrid.bulk g + YGridEdit.bulk e + (Ty.int .i64).bulk p + (Ty.int .i64).bulk q ≤ 1048576) : F_law_GridCheckSays (g, e, p, q, ()) () = some (ret_law_GridCheckSays true) := by
  show C_law_GridCheckSays F_law_GridCheckSays g e p q = _
  have hg : Gs g := gs_bulk g (by omega)
  have he : Es e := es_bulk e (by omega)
  have rng : ∀ x : Int, (Ty.int .i64).ok x → x < 9223372036854775808 := fun x hx => by
    have hx : (Lit.int .i64 x).wf = true := hx
    have h2 := (Bool.and_eq_true_iff.1 hx).2
    have h3 : x ≤ IntKind.i64.max := of_decide_eq_true h2
    exact Int.lt_of_le_of_lt h3 (by decide)
  obtain ⟨g1, g2⟩ := gridchk_eq g hg
  rw [e_law_GridCheckSays, grids_eq, g1, g2, editchk_eq e he, reditchk_eq e he]
  simp only [Option.bind_some, res_law_grids_0_ret, res_grid_Check_0_ret, res_R_GridError_0_ret, res_grid_CheckEdit_0_ret, res_R_EditError_0_ret, bne_self_eq_false, Bool.not_true, beq_self_eq_true, bT, bF]
  rw [bne_E]
  by_cases h : gridE g = 0
  · rw [decide_eq_true h, Bool.not_true, bF]
    have hc := (cells_ok (gridE_ok h).2.2.1).1
    have := gcl_loop g hg h p q (rng p o2) (rng q o3) big (gc g).length 0 big (by omega) (big_ge (n := (gc g).length + 1) (by have := hg.c; omega)) (by rw [List.drop_zero]; exact want_eq hc.srt p q)
    exact this
  · rw [decide_eq_false h]; rfl
end Go.Ev.Doc
