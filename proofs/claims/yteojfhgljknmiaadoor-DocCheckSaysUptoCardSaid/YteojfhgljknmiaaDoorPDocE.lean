
import Derived.Test.YteojfhgljknmiaaDoorPRepD
import Derived.Test.YteojfhgljknmiaaDoorPDocN
import Derived.Test.YteojfhgljknmiaaDoorGDocR
import Derived.Test.YteojfhgljknmiaaDoorGDocC
namespace Go.Ev.Doc
open Go.Ev Go.Ev.Attr Go.Ev.Track Go.Ev.Delta
set_option linter.unusedVariables false
set_option linter.unusedSimpArgs false
set_option maxRecDepth 100000
def hasT (k : Int) : Bool := (k == 1) || ((k == 3) || ((k == 4) || (k == 12)))
def hasL (k : Int) : Bool := (k == 0) || (k == 7)
def hasG (k : Int) : Bool := (k == 2) || (k == 6)
def hasD (k : Int) : Bool := (k == 8) || ((k == 9) || (k == 10))
theorem texts_eq (k : Int) : C_doc_Texts F_doc_Texts k = some (ret_doc_Texts (hasT k)) := by
  rw [e_doc_Texts]; unfold hasT
  cases ((k : Int) == 1) <;> cases ((k : Int) == 3) <;> cases ((k : Int) == 4) <;> rfl
theorem rtexts_eq (k : Int) : C_R_HasText F_R_HasText k = some (ret_R_HasText (hasT k)) := by
  rw [e_R_HasText]; unfold hasT
  cases ((k : Int) == 1) <;> cases ((k : Int) == 3) <;> cases ((k : Int) == 4) <;> rfl
theorem lists_eq (k : Int) : C_doc_Lists F_doc_Lists k = some (ret_doc_Lists (hasL k)) := by
  rw [e_doc_Lists]; unfold hasL
  cases ((k : Int) == 0) <;> rfl
theorem rlists_eq (k : Int) : C_R_HasList F_R_HasList k = some (ret_R_HasList (hasL k)) := by
  rw [e_R_HasList]; unfold hasL
  cases ((k : Int) == 0) <;> rfl
theorem kgrids_eq (k : Int) : C_doc_Grids F_doc_Grids k = some (ret_doc_Grids (hasG k)) := by
  rw [e_doc_Grids]; unfold hasG
  cases ((k : Int) == 2) <;> rfl
theorem rkgrids_eq (k : Int) : C_R_HasGrid F_R_HasGrid k = some (ret_R_HasGrid (hasG k)) := by
  rw [e_R_HasGrid]; unfold hasG
  cases ((k : Int) == 2) <;> rfl
theorem kdraws_eq (k : Int) : C_doc_Draws F_doc_Draws k = some (ret_doc_Draws (hasD k)) := by
  rw [e_doc_Draws]; unfold hasD
  cases ((k : Int) == 8) <;> cases ((k : Int) == 9) <;> rfl
theorem rkdraws_eq (k : Int) : C_R_HasDraw F_R_HasDraw k = some (ret_R_HasDraw (hasD k)) := by
  rw [e_R_HasDraw]; unfold hasD
  cases ((k : Int) == 8) <;> cases ((k : Int) == 9) <;> rfl
theorem index_loop (l : List Int) (hl : l.length ≤ 1048576) (x : Int) (n : Nat) : ∀ (d i m : Nat), i + d = l.length → d < m →
    ∃ k : Int, L_slices_Index_int_0 n m l x (l.length : Int) i = some (ret_slices_Index_int k) ∧ decide (k ≥ 0) = (l.drop i).any (fun y => x == y) := by
  intro d
  induction d with
  | zero =>
    intro i m hi hm
    cases m with
    | zero => omega
    | succ m =>
    have : i = l.length := by omega
    subst this
    refine ⟨-1, ?_, by rw [List.drop_length]; rfl⟩
    rw [L_slices_Index_int_0_step, dlt_self]; rfl
  | succ d ih =>
    intro i m hi hm
    cases m with
    | zero => omega
    | succ m =>
    have hil : i < l.length := by omega
    rw [L_slices_Index_int_0_step, dlt hil, if_pos ((inb i l.length).2 hil), wsucc hil (by omega), at_int, drop_int l hil]
    generalize l.getD i 0 = y
    cases hq : (x == y)
    · obtain ⟨k, h1, h2⟩ := ih (i + 1) m (by omega) (by omega)
      refine ⟨k, h1, ?_⟩
      rw [h2]
      show _ = ((x == y) || _)
      rw [hq]; rfl
    · refine ⟨i, rfl, ?_⟩
      show _ = ((x == y) || _)
      rw [hq, decide_eq_true (by omega)]; rfl
theorem ri0 (k : Int) : res_slices_Index_int_0 (ret_slices_Index_int k) = k := id rfl
theorem containsi_eq (l : List Int) (hl : l.length ≤ 1048576) (x : Int) : C_slices_Contains_int F_slices_Contains_int l x = some (ret_slices_Contains_int (l.any (fun y => x == y))) := by
  obtain ⟨m, hm⟩ := big_succ (n := 1048577) (by omega)
  obtain ⟨k, h1, h2⟩ := index_loop l hl x big l.length 0 big (by omega) (by omega)
  rw [e_slices_Contains_int, e_slices_Index_int]
  rw [show ((0 : Nat) : Int) = 0 from rfl] at h1
  rw [h1]
  simp only [Option.bind_some, ri0, h2, List.drop_zero]
def perm (a b : Int) : Bool :=
  cond (b == 1) (a == 0) (cond (b == 6) (a == 0) (cond (b == 7) (a == 0) (cond (b == 11) (a == 0) (cond (b == 12) (a == 0)
    (cond (b == 10) ((a == 0) || ((a == 1) || (a == 3))) (cond (b == 2) (a == 1) (cond (b == 4) ((a == 1) || (a == 3)) (cond (b == 5) (hasT a)
      (cond (b == 3) (a == 2) (cond (b == 8) (a == 7) (cond (b == 9) (a == 7) false)))))))))))
theorem rperm_eq (a b : Int) : C_R_Permitted F_R_Permitted a b = some (ret_R_Permitted (perm a b)) := by
  rw [e_R_Permitted, rtexts_eq]
  unfold perm
  simp only [Option.bind_some, res_R_HasText_0_ret]
  cases ((b : Int) == 1) <;> try rfl
  cases ((b : Int) == 6) <;> try rfl
  cases ((b : Int) == 7) <;> try rfl
  cases ((b : Int) == 11) <;> try rfl
  cases ((b : Int) == 12) <;> try rfl
  cases ((b : Int) == 10) <;> try (cases ((a : Int) == 0) <;> cases ((a : Int) == 1) <;> rfl)
  cases ((b : Int) == 2) <;> try rfl
  cases ((b : Int) == 4) <;> try (cases ((a : Int) == 1) <;> rfl)
  cases ((b : Int) == 5) <;> try rfl
  cases ((b : Int) == 3) <;> try rfl
  cases ((b : Int) == 8) <;> try rfl
  cases ((b : Int) == 9) <;> rfl
theorem bne_of {a b : Int} (h : ¬ a = b) : (a == b) = false := by simpa using h
/-- Which numbers are allowed below a kind. -/
def kidsOf (a : Int) : List Int :=
  cond (a == 0) [1, 6, 7, 10, 11, 12] (cond (a == 1) [2, 4, 5, 10] (cond (a == 3) [4, 5, 10] (cond (a == 4) [5] (cond (a == 12) [5] (cond (a == 2) [3] (cond (a == 7) [8, 9] []))))))
theorem kids_perm (a b : Int) : (kidsOf a).any (fun y => b == y) = perm a b := by
  by_cases h : b = 1 ∨ b = 2 ∨ b = 3 ∨ b = 4 ∨ b = 5 ∨ b = 6 ∨ b = 7 ∨ b = 8 ∨ b = 9 ∨ b = 10 ∨ b = 11 ∨ b = 12
  · by_cases g : a = 0 ∨ a = 1 ∨ a = 2 ∨ a = 3 ∨ a = 4 ∨ a = 7 ∨ a = 12
    · rcases h with h | h | h | h | h | h | h | h | h | h | h | h <;> subst h <;> rcases g with g | g | g | g | g | g | g <;> subst g <;> rfl
    · have g1 := bne_of (a := a) (b := 0) (by omega)
      have g2 := bne_of (a := a) (b := 1) (by omega)
      have g3 := bne_of (a := a) (b := 2) (by omega)
      have g4 := bne_of (a := a) (b := 3) (by omega)
      have g5 := bne_of (a := a) (b := 4) (by omega)
      have g6 := bne_of (a := a) (b := 7) (by omega)
      have g7 := bne_of (a := a) (b := 12) (by omega)
      unfold kidsOf perm hasT
      rw [g1, g2, g3, g4, g5, g6, g7]
      rcases h with h | h | h | h | h | h | h | h | h | h | h | h <;> subst h <;> rfl
  · have b1 := bne_of (a := b) (b := 1) (by omega)
    have b2 := bne_of (a := b) (b := 2) (by omega)
    have b3 := bne_of (a := b) (b := 3) (by omega)
    have b4 := bne_of (a := b) (b := 4) (by omega)
    have b5 := bne_of (a := b) (b := 5) (by omega)
    have b6 := bne_of (a := b) (b := 6) (by omega)
    have b7 := bne_of (a := b) (b := 7) (by omega)
    have b8 := bne_of (a := b) (b := 8) (by omega)
    have b9 := bne_of (a := b) (b := 9) (by omega)
    have b10 := bne_of (a := b) (b := 10) (by omega)
    have b11 := bne_of (a := b) (b := 11) (by omega)
    have b12 := bne_of (a := b) (b := 12) (by omega)
    unfold kidsOf perm
    rw [b1, b2, b3, b4, b5, b6, b7, b8, b9, b10, b11, b12]
    cases ((a : Int) == 0) <;> try (simp [*]; done)
    cases ((a : Int) == 1) <;> try (simp [*]; done)
    cases ((a : Int) == 3) <;> try (simp [*]; done)
    cases ((a : Int) == 4) <;> try (simp [*]; done)
    cases ((a : Int) == 12) <;> try (simp [*]; done)
    cases ((a : Int) == 2) <;> try (simp [*]; done)
    cases ((a : Int) == 7) <;> simp [*]
theorem perm_eq (a b : Int) : C_doc_Permitted F_doc_Permitted a b = some (ret_doc_Permitted (perm a b)) := by
  rw [← kids_perm, e_doc_Permitted]
  simp only [containsi_eq _ (show List.length ([] : List Int) ≤ 1048576 by decide), containsi_eq _ (show List.length ([5] : List Int) ≤ 1048576 by decide), containsi_eq _ (show List.length ([3] : List Int) ≤ 1048576 by decide), containsi_eq _ (show List.length ([8, 9] : List Int) ≤ 1048576 by decide), containsi_eq _ (show List.length ([4, 5, 10] : List Int) ≤ 1048576 by decide), containsi_eq _ (show List.length ([2, 4, 5, 10] : List Int) ≤ 1048576 by decide), containsi_eq _ (show List.length ([1, 6, 7, 10, 11, 12] : List Int) ≤ 1048576 by decide), Option.bind_some, res_slices_Contains_int_0_ret]
  unfold kidsOf
  cases ((a : Int) == 0) <;> try rfl
  cases ((a : Int) == 1) <;> try rfl
  cases ((a : Int) == 3) <;> try rfl
  cases ((a : Int) == 4) <;> try rfl
  cases ((a : Int) == 12) <;> try rfl
  cases ((a : Int) == 2) <;> try rfl
  cases ((a : Int) == 7) <;> rfl
def badC (k : Int) (c : YCell.den) : Bool := ((k == 2) && (!((c.2.2.1 : List UInt8) == []) || decide (((c.2.2.2.2 : List YAttr.den).length : Int) > 0))) || ((k == 6) && ((c.2.2.2.1 : Int) != 0))
def ckE (k : Int) (l : List YCell.den) : Int := cond (l.any (badC k)) 4 0
theorem kinds_loop (k : Int) (l : List YCell.den) (hl : l.length ≤ 1048576) (n n' : Nat) : ∀ (d i m m' : Nat), i + d = l.length → d < m → d < m' →
    L_doc_CheckCells_0 n m k l (l.length : Int) i = some (ret_doc_CheckCells (ckE k (l.drop i))) ∧ L_R_CellKinds_0 n' m' k l (l.length : Int) i = some (ret_R_CellKinds (ckE k (l.drop i))) := by
  intro d
  induction d with
  | zero =>
    intro i m m' hi hm hm'
    cases m with
    | zero => omega
    | succ m =>
    cases m' with
    | zero => omega
    | succ m' =>
    have : i = l.length := by omega
    subst this
    rw [L_doc_CheckCells_0_step, L_R_CellKinds_0_step, dlt_self, List.drop_length]
    exact ⟨rfl, rfl⟩
  | succ d ih =>
    intro i m m' hi hm hm'
    cases m with
    | zero => omega
    | succ m =>
    cases m' with
    | zero => omega
    | succ m' =>
    have hil : i < l.length := by omega
    obtain ⟨i1, i2⟩ := ih (i + 1) m m' (by omega) (by omega) (by omega)
    rw [L_doc_CheckCells_0_step, L_R_CellKinds_0_step, dlt hil, at_get l i hil]
    simp only [if_pos ((inb i l.length).2 hil), wsucc hil (show l.length ≤ 4611686018427387903 + 1 by omega), i1, i2, List.drop_eq_getElem_cons hil]
    have e : ckE k (l[i] :: l.drop (i + 1)) = cond (badC k l[i]) 4 (ckE k (l.drop (i + 1))) := by
      unfold ckE; rw [List.any_cons]; cases badC k l[i] <;> rfl
    rw [e]
    unfold badC
    generalize ckE k (l.drop (i + 1)) = r
    generalize ((l[i].2.2.1 : List UInt8) == []) = q1
    generalize decide (((l[i].2.2.2.2 : List YAttr.den).length : Int) > 0) = q2
    generalize ((l[i].2.2.2.1 : Int) != 0) = q3
    cases (k == 2) <;> cases (k == 6) <;> cases q1 <;> cases q2 <;> cases q3 <;> exact ⟨rfl, rfl⟩
theorem kinds_eq (k : Int) (l : List YCell.den) (hl : l.length ≤ 1048576) : C_doc_CheckCells F_doc_CheckCells k l = some (ret_doc_CheckCells (ckE k l)) ∧ C_R_CellKinds F_R_CellKinds k l = some (ret_R_CellKinds (ckE k l)) := by
  obtain ⟨m, hm⟩ := big_succ (n := 1048577) (by omega)
  rw [e_doc_CheckCells, e_R_CellKinds]
  have := kinds_loop k l hl big big l.length 0 big big (by omega) (by omega) (by omega)
  rw [List.drop_zero] at this
  exact this
theorem zgrid_eq (g : Grid) : C_R_zeroGrid F_R_zeroGrid g = some (ret_R_zeroGrid (eqd g z0)) := by
  have l0 : ∀ {α : Type} (l : List α), (((l.length : Int) : Int) == 0) = eqd l [] := fun l => eqd_of (by rw [beq_iff_eq]; cases l with | nil => simp | cons a b => simp; omega)
  rw [e_R_zeroGrid, l0, l0]
  have e : eqd g z0 = (eqd g.1 0 && (eqd g.2.1 0 && (eqd g.2.2.1 [] && eqd g.2.2.2 []))) := by
    rw [eqd_pair g z0, eqd_pair g.2 z0.2, eqd_pair g.2.2 z0.2.2]; rfl
  rw [e, eqd_int, eqd_int]
  cases eqd g.1 0 <;> cases eqd g.2.1 0 <;> cases eqd g.2.2.1 [] <;> rfl
end Go.Ev.Doc
namespace Go.Ev.Doc
open Go.Ev Go.Ev.Attr Go.Ev.Track Go.Ev.Delta
set_option linter.unusedVariables false
set_option linter.unusedSimpArgs false
set_option maxRecDepth 100000
noncomputable def nodeE (n : Node) : Int :=
  cond (decide (ni n < 1)) 2 (cond (decide (ni n > 1073741824)) 2 (cond (decide (nk n < 0)) 8 (cond (decide (nk n ≥ 13)) 8 (cond ((ni n == 1) != (nk n == 0)) 8
    (cond (err false (na n) != 0) (err false (na n))
      (cond ((!(hasT (nk n) || hasL (nk n)) && decide (((nf n).length : Int) > 0)) || ((!(hasG (nk n)) && !(eqd (ng n) z0)) || (!(hasD (nk n)) && decide (((nd n).length : Int) > 0)))) 4
        (cond (hasT (nk n) || hasL (nk n)) (fErr (hasT (nk n)) (nf n)) (cond (hasG (nk n)) (cond (gridE (ng n) != 0) (gridE (ng n)) (ckE (nk n) (gc (ng n)))) (drawE (nd n))))))))))
structure Nt (n : Node) : Prop where
  s : Ns n
  o : Os (nd n)
theorem node_chk (n : Node) (hn : Nt n) : C_doc_CheckNode F_doc_CheckNode n = some (ret_doc_CheckNode (nodeE n)) := by
  have e0 : n.1 = ni n := rfl
  have e1 : n.2.1 = nk n := rfl
  have e2 : n.2.2.1 = na n := rfl
  have e3 : n.2.2.2.1 = nf n := rfl
  have e4 : n.2.2.2.2.1 = ng n := rfl
  have e5 : n.2.2.2.2.2 = nd n := rfl
  have e6 : (ng n).2.2.1 = gc (ng n) := rfl
  have e7 : ((0, (0, ([], []))) : Grid) = z0 := rfl
  rw [e_doc_CheckNode]
  unfold nodeE
  simp only [J_doc_CheckNode_0, e0, e1, e2, e3, e4, e5, e6, check_eq _ hn.s.a, texts_eq, lists_eq, kgrids_eq, kdraws_eq, grid_eq _ _ hn.s.g, (flow_eq _ _ hn.s.f).1, (gridchk_eq _ hn.s.g).1, (kinds_eq _ _ hn.s.g.c).1, (draws_eq _ hn.o hn.s.d).1, Option.bind_some,
    res_attr_Check_0_ret, res_doc_Texts_0_ret, res_doc_Lists_0_ret, res_doc_Grids_0_ret, res_doc_Draws_0_ret, res_grid_Same_0_ret, res_flow_Check_0_ret, res_grid_Check_0_ret, res_doc_CheckCells_0_ret, res_replica_Check_0_ret]
  try rw [e7]
  generalize decide (ni n < 1) = q1
  generalize decide (ni n > 1073741824) = q2
  generalize decide (nk n < 0) = q3
  generalize decide (nk n ≥ 13) = q4
  generalize ((ni n == 1) != (nk n == 0)) = q5
  generalize err false (na n) = v1
  generalize hT : hasT (nk n) = qT
  generalize hasL (nk n) = qL
  generalize hasG (nk n) = qG
  generalize hasD (nk n) = qD
  generalize decide (((nf n).length : Int) > 0) = q6
  generalize decide (((nd n).length : Int) > 0) = q7
  generalize eqd (ng n) z0 = q8
  generalize gridE (ng n) = v2
  generalize ckE (nk n) (gc (ng n)) = v3
  generalize drawE (nd n) = v4
  generalize fErr qT (nf n) = v5
  cases q1 <;> try rfl
  cases q2 <;> try rfl
  cases q3 <;> try rfl
  cases q4 <;> try rfl
  cases q5 <;> try rfl
  generalize (v1 != 0) = q9
  generalize (v2 != 0) = q10
  cases q9 <;> try rfl
  cases qT <;> cases qL <;> cases qG <;> cases qD <;> cases q6 <;> cases q7 <;> cases q8 <;> cases q10 <;> rfl
theorem rnode_chk (n : Node) (hn : Nt n) : C_R_NodeError F_R_NodeError n = some (ret_R_NodeError (nodeE n)) := by
  have e0 : n.1 = ni n := rfl
  have e1 : n.2.1 = nk n := rfl
  have e2 : n.2.2.1 = na n := rfl
  have e3 : n.2.2.2.1 = nf n := rfl
  have e4 : n.2.2.2.2.1 = ng n := rfl
  have e5 : n.2.2.2.2.2 = nd n := rfl
  have e6 : (ng n).2.2.1 = gc (ng n) := rfl
  have e8 : decide (nk n ≥ 13) = decide (nk n > 12) := by
    by_cases h : nk n ≥ 13
    · rw [decide_eq_true h, decide_eq_true (by omega)]
    · rw [decide_eq_false h, decide_eq_false (by omega)]
  rw [e_R_NodeError]
  unfold nodeE
  simp only [e0, e1, e2, e3, e4, e5, e6, e8, in_inB, rerr_eq _ hn.s.a, rtexts_eq, rlists_eq, rkgrids_eq, rkdraws_eq, zgrid_eq, (flow_eq _ _ hn.s.f).2, (gridchk_eq _ hn.s.g).2, (kinds_eq _ _ hn.s.g.c).2, (draws_eq _ hn.o hn.s.d).2, Option.bind_some,
    res_R_In_0_ret, res_R_AttrsError_0_ret, res_R_HasText_0_ret, res_R_HasList_0_ret, res_R_HasGrid_0_ret, res_R_HasDraw_0_ret, res_R_zeroGrid_0_ret, res_R_FlowError_0_ret, res_R_GridError_0_ret, res_R_CellKinds_0_ret, res_R_DrawError_0_ret]
  unfold inB
  simp only [bne]
  generalize decide (ni n < 1) = q1
  generalize decide (ni n > 1073741824) = q2
  generalize decide (nk n < 0) = q3
  generalize decide (nk n > 12) = q4
  generalize (ni n == 1) = q5
  generalize (nk n == 0) = q6
  generalize err false (na n) = v1
  generalize hT : hasT (nk n) = qT
  generalize hasL (nk n) = qL
  generalize hasG (nk n) = qG
  generalize hasD (nk n) = qD
  generalize decide (((nf n).length : Int) > 0) = q16
  generalize decide (((nd n).length : Int) > 0) = q7
  generalize eqd (ng n) z0 = q8
  generalize gridE (ng n) = v2
  generalize ckE (nk n) (gc (ng n)) = v3
  generalize drawE (nd n) = v4
  generalize fErr qT (nf n) = v5
  cases q1 <;> try rfl
  cases q2 <;> try rfl
  cases q3 <;> try rfl
  cases q4 <;> try rfl
  cases q5 <;> cases q6 <;> try rfl
  all_goals
    generalize (v1 == 0) = q9
    generalize (v2 == 0) = q10
    cases q9 <;> try rfl
    cases qT <;> cases qL <;> cases qG <;> cases qD <;> cases q16 <;> cases q7 <;> cases q8 <;> cases q10 <;> rfl
theorem os_bulk (l : List YDrawOp.den) (h : (Ty.list YDrawOp).bulk l ≤ 1048576) : Os l := fun o ho => by
  have := bulk_mem (e := YDrawOp) l o ho
  have e : YDrawOp.bulk o = 1 + (1 + (1 + (1 + (1 + ((o.2.2.2.2.2.1 : List UInt8).length + 1 + ((o.2.2.2.2.2.2.1 : List UInt8).length + 1 + ((o.2.2.2.2.2.2.2 : List UInt8).length + 1))))))) := rfl
  exact ⟨by omega, by omega, by omega⟩
theorem nt_bulk (n : Node) (h : YNode.bulk n ≤ 1048576) : Nt n := ⟨ns_bulk n h, os_bulk _ (by
  have e : YNode.bulk n = 1 + (1 + ((Ty.list YAttr).bulk (na n) + ((Ty.list YElem).bulk (nf n) + ((1 + (1 + ((Ty.list YCell).bulk (gc (ng n)) + (Ty.list YRect).bulk (gm (ng n))))) + (Ty.list YDrawOp).bulk (nd n))))) := rfl
  omega)⟩
end Go.Ev.Doc
namespace Go.Ev.Doc
open Go.Ev Go.Ev.Attr Go.Ev.Track Go.Ev.Delta
set_option linter.unusedVariables false
set_option linter.unusedSimpArgs false
set_option maxRecDepth 100000
def idAt (d : Doc) (i : Nat) : Int := ni (at_ (e := YNode) d (i : Int))
def Asc (d : Doc) : Prop := ∀ i j, i < j → j < d.length → idAt d i < idAt d j
theorem asc_of {d : Doc} (h : ∀ j, 0 < j → j < d.length → idAt d (j - 1) < idAt d j) : Asc d := by
  intro i j hij
  induction j with
  | zero => omega
  | succ j ih =>
    intro hj
    have h1 := h (j + 1) (by omega) hj
    rw [Nat.add_sub_cancel] at h1
    by_cases he : i = j
    · subst he; exact h1
    · have := ih (by omega) (by omega)
      omega
/-- Where a node is. -/
def posO (x : Int) : Doc → Option Nat
  | [] => none
  | n :: l => cond (ni n == x) (some 0) ((posO x l).map (· + 1))
theorem posO_some (x : Int) : ∀ (d : Doc) (k : Nat), k < d.length → idAt d k = x → (∀ t, t < k → idAt d t ≠ x) → posO x d = some k
  | [], k, h, _, _ => absurd h (Nat.not_lt_zero _)
  | n :: l, 0, h, h1, h2 => by
    have : ni n = x := h1
    unfold posO
    rw [show (ni n == x) = true by simpa using this]; rfl
  | n :: l, k + 1, h, h1, h2 => by
    have h0 : ni n ≠ x := h2 0 (by omega)
    have ih := posO_some x l k (by simpa using h) h1 (fun t ht => h2 (t + 1) (by omega))
    unfold posO
    rw [show (ni n == x) = false by simpa using h0, ih]; rfl
theorem posO_none (x : Int) : ∀ (d : Doc), (∀ t, t < d.length → idAt d t ≠ x) → posO x d = none
  | [], _ => rfl
  | n :: l, h => by
    have h0 : ni n ≠ x := h 0 (by simp)
    have ih := posO_none x l (fun t ht => h (t + 1) (by simpa using ht))
    unfold posO
    rw [show (ni n == x) = false by simpa using h0, ih]; rfl
theorem posO_spec (x : Int) : ∀ (d : Doc) (k : Nat), posO x d = some k → k < d.length ∧ idAt d k = x
  | [], k, h => by cases h
  | n :: l, k, h => by
    unfold posO at h
    cases hq : (ni n == x)
    · rw [hq, cond_false] at h
      cases hp : posO x l with
      | none => rw [hp] at h; cases h
      | some j =>
        rw [hp] at h
        obtain rfl : j + 1 = k := by simpa using h
        have ih := posO_spec x l j hp
        exact ⟨by simpa using ih.1, ih.2⟩
    · rw [hq, cond_true] at h
      obtain rfl : 0 = k := by simpa using h
      exact ⟨by simp, (show ni n = x by simpa using hq)⟩
def posI (x : Int) (d : Doc) : Int := match posO x d with
  | none => -1
  | some k => k
theorem rfind_loop (d : Doc) (hl : d.length ≤ 1048576) (x : Int) (n : Nat) : ∀ (r i m : Nat), i + r = d.length → r < m →
    L_R_Find_0 n m x d (d.length : Int) (i : Int) = some (ret_R_Find (match posO x (d.drop i) with | none => -1 | some k => ((i + k : Nat) : Int))) := by
  intro r
  induction r with
  | zero =>
    intro i m hi hm
    obtain ⟨m, rfl⟩ : ∃ q, m = q + 1 := ⟨m - 1, by omega⟩
    obtain rfl : i = d.length := by omega
    rw [L_R_Find_0_step, dlt_self, List.drop_length]
    rfl
  | succ r ih =>
    intro i m hi hm
    obtain ⟨m, rfl⟩ : ∃ q, m = q + 1 := ⟨m - 1, by omega⟩
    have h1 : i < d.length := by omega
    have e : (d[i] : Node).1 = ni d[i] := rfl
    rw [L_R_Find_0_step, dlt h1, bT, if_pos ((inb i d.length).2 h1), at_get (e := YNode) d i h1, wsucc h1 (by omega), ih (i + 1) m (by omega) (by omega), List.drop_eq_getElem_cons h1, posO, e]
    cases hq : (ni d[i] == x)
    · rw [bF, cond_false]
      cases posO x (d.drop (i + 1)) with
      | none => rfl
      | some k =>
        show some (ret_R_Find ((i + 1 + k : Nat) : Int)) = some (ret_R_Find ((i + (k + 1) : Nat) : Int))
        rw [show i + 1 + k = i + (k + 1) by omega]
    · rfl
theorem rfind_eq (d : Doc) (hl : d.length ≤ 1048576) (x : Int) : C_R_Find F_R_Find d x = some (ret_R_Find (posI x d)) := by
  obtain ⟨m, hm⟩ := big_succ (n := 1048577) (by omega)
  have := rfind_loop d hl x big d.length 0 big (by omega) (by omega)
  rw [e_R_Find]
  rw [show ((0 : Nat) : Int) = 0 from rfl, List.drop_zero] at this
  rw [this]
  unfold posI
  cases posO x d with
  | none => rfl
  | some k => simp
theorem half_eq (i j : Nat) (h : i + j < 4611686018427387904) : IntKind.i64.wrap (shrI .u64 (IntKind.u64.wrap (IntKind.i64.wrap ((i : Int) + (j : Int)))) 1) = (((i + j) / 2 : Nat) : Int) := by
  rw [w64 (x := (i : Int) + (j : Int)) (by omega) (by omega)]
  have e : IntKind.u64.wrap ((i : Int) + (j : Int)) = ((i + j : Nat) : Int) := by
    simp only [IntKind.wrap, IntKind.signed, IntKind.bits]
    first | omega | (simp; omega)
  have e2 : shrI .u64 ((i + j : Nat) : Int) 1 = ((i + j : Nat) : Int).fdiv 2 := rfl
  rw [e, e2, Int.fdiv_eq_ediv_of_nonneg _ (by decide)]
  exact wnat (by omega) (by omega)
theorem c1_eq (n : Node) (x : Int) : ∃ k : Int, C_doc_find_c1 F_doc_find_c1 n x = some (ret_doc_find_c1 k) ∧ (decide (k < 0) = decide (ni n < x)) ∧ ((k == 0) = (ni n == x)) := by
  have e : n.1 = ni n := rfl
  rw [e_doc_find_c1, e]
  by_cases h1 : ni n < x
  · exact ⟨-1, by rw [decide_eq_true h1]; rfl, by rw [decide_eq_true h1]; rfl, by rw [show (ni n == x) = false by simp; omega]; rfl⟩
  · by_cases h2 : ni n > x
    · exact ⟨1, by rw [decide_eq_false h1, decide_eq_true h2]; rfl, by rw [decide_eq_false h1]; rfl, by rw [show (ni n == x) = false by simp; omega]; rfl⟩
    · exact ⟨0, by rw [decide_eq_false h1, decide_eq_false h2]; rfl, by rw [decide_eq_false h1]; rfl, by rw [show (ni n == x) = true by simp; omega]; rfl⟩
theorem rc0 (k : Int) : res_doc_find_c1_0 (ret_doc_find_c1 k) = k := id rfl
theorem bs_loop (d : Doc) (hl : d.length ≤ 1048576) (ha : Asc d) (x : Int) (n : Nat) : ∀ (s i j m : Nat), j - i ≤ s → s < m → i ≤ j → j ≤ d.length →
    (∀ t, t < i → idAt d t < x) → (∀ t, j ≤ t → t < d.length → x ≤ idAt d t) →
    ∃ k : Nat, L_slices_BinarySearchFunc_Node_doc_find_c1_0 n m d x (d.length : Int) (i : Int) (j : Int) = some (ret_slices_BinarySearchFunc_Node_doc_find_c1 (k : Int) (decide (k < d.length) && (idAt d k == x))) ∧
      (∀ t, t < k → idAt d t < x) ∧ (∀ t, k ≤ t → t < d.length → x ≤ idAt d t) := by
  intro s
  induction s with
  | zero =>
    intro i j m h1 hm h2 h3 h4 h5
    obtain ⟨m, rfl⟩ : ∃ q, m = q + 1 := ⟨m - 1, by omega⟩
    obtain rfl : i = j := by omega
    refine ⟨i, ?_, h4, h5⟩
    rw [L_slices_BinarySearchFunc_Node_doc_find_c1_0_step, dlt_self, bF]
    by_cases hi : i < d.length
    · obtain ⟨k, k1, k2, k3⟩ := c1_eq (at_ (e := YNode) d (i : Int)) x
      rw [dlt hi, if_pos ((inb i d.length).2 hi), k1, decide_eq_true hi]
      simp only [Option.bind_some, rc0, k3]
      rfl
    · rw [decide_eq_false (show ¬ ((i : Int) < (d.length : Int)) by omega), decide_eq_false hi]; rfl
  | succ s ih =>
    intro i j m h1 hm h2 h3 h4 h5
    by_cases hij : i = j
    · subst hij
      obtain ⟨m, rfl⟩ : ∃ q, m = q + 1 := ⟨m - 1, by omega⟩
      refine ⟨i, ?_, h4, h5⟩
      rw [L_slices_BinarySearchFunc_Node_doc_find_c1_0_step, dlt_self, bF]
      by_cases hi : i < d.length
      · obtain ⟨k, k1, k2, k3⟩ := c1_eq (at_ (e := YNode) d (i : Int)) x
        rw [dlt hi, if_pos ((inb i d.length).2 hi), k1, decide_eq_true hi]
        simp only [Option.bind_some, rc0, k3]
        rfl
      · rw [decide_eq_false (show ¬ ((i : Int) < (d.length : Int)) by omega), decide_eq_false hi]; rfl
    · obtain ⟨m, rfl⟩ : ∃ q, m = q + 1 := ⟨m - 1, by omega⟩
      have hlt : i < j := by omega
      obtain ⟨h, hh⟩ : ∃ h, (i + j) / 2 = h := ⟨_, rfl⟩
      have hd : h < d.length := by omega
      obtain ⟨k, k1, k2, k3⟩ := c1_eq (at_ (e := YNode) d (h : Int)) x
      have e : ni (at_ (e := YNode) d (h : Int)) = idAt d h := rfl
      rw [L_slices_BinarySearchFunc_Node_doc_find_c1_0_step, half_eq i j (by omega), hh, dlt hlt, bT, if_pos ((inb h d.length).2 hd), k1]
      simp only [Option.bind_some, rc0, k2, e]
      by_cases hx : idAt d h < x
      · rw [decide_eq_true hx, bT, wsucc hd (by omega)]
        refine ih (h + 1) j m (by omega) (by omega) (by omega) h3 ?_ h5
        intro t ht
        by_cases h0 : t = h
        · subst h0; exact hx
        · have := ha t h (by omega) hd
          omega
      · rw [decide_eq_false hx, bF]
        refine ih i h m (by omega) (by omega) (by omega) (by omega) h4 ?_
        intro t ht ht2
        by_cases h0 : t = h
        · subst h0; omega
        · have := ha h t (by omega) ht2
          omega
theorem find_eq (d : Doc) (hl : d.length ≤ 1048576) (ha : Asc d) (x : Int) :
    (∃ k : Nat, posO x d = some k ∧ C_doc_find F_doc_find d x = some (ret_doc_find (k : Int) true)) ∨ (∃ k : Nat, posO x d = none ∧ C_doc_find F_doc_find d x = some (ret_doc_find (k : Int) false)) := by
  obtain ⟨m, hm⟩ := big_succ (n := 1048577) (by omega)
  obtain ⟨k, h1, h2, h3⟩ := bs_loop d hl ha x big d.length 0 d.length big (by omega) (by omega) (by omega) (by omega) (fun t ht => by omega) (fun t h1 h2 => by omega)
  rw [show ((0 : Nat) : Int) = 0 from rfl] at h1
  have e : C_doc_find F_doc_find d x = some (ret_doc_find (k : Int) (decide (k < d.length) && (idAt d k == x))) := by
    rw [e_doc_find, e_slices_BinarySearchFunc_Node_doc_find_c1, h1]; rfl
  by_cases hk : k < d.length
  · by_cases hx : idAt d k = x
    · left
      refine ⟨k, posO_some x d k hk hx (fun t ht => by have := h2 t ht; omega), ?_⟩
      rw [e, decide_eq_true hk, show (idAt d k == x) = true by simpa using hx]; rfl
    · right
      refine ⟨k, posO_none x d (fun t ht => ?_), ?_⟩
      · by_cases h0 : t < k
        · have := h2 t h0; omega
        · have q := h3 k (Nat.le_refl _) hk
          by_cases h4 : t = k
          · subst h4; exact hx
          · have := ha k t (by omega) ht
            omega
      · rw [e, decide_eq_true hk, show (idAt d k == x) = false by simpa using hx]; rfl
  · right
    refine ⟨k, posO_none x d (fun t ht => by have := h2 t (by omega); omega), ?_⟩
    rw [e, decide_eq_false hk]; rfl
end Go.Ev.Doc
namespace Go.Ev.Doc
open Go.Ev Go.Ev.Attr Go.Ev.Track Go.Ev.Delta
set_option linter.unusedVariables false
set_option linter.unusedSimpArgs false
set_option maxRecDepth 100000
/-- The kind of the i-th node. -/
def kAt (d : Doc) (i : Nat) : Int := nk (at_ (e := YNode) d (i : Int))
/-- What is wrong with references. -/
def refsE (d : Doc) (kind : Int) : List Int → Int
  | [] => 0
  | r :: l => match posO r d with
    | none => 7
    | some k => cond (perm kind (kAt d k)) (refsE d kind l) 8
theorem rf0 (k : Int) : res_R_Find_0 (ret_R_Find k) = k := id rfl
theorem df0 (k : Int) (b : Bool) : res_doc_find_0 (ret_doc_find k b) = k := id rfl
theorem rrefs_loop (d : Doc) (hl : d.length ≤ 1048576) (kind : Int) (l : List Int) (hr : l.length ≤ 4194304) (n : Nat) : ∀ (r i m : Nat), i + r = l.length → r < m →
    L_R_RefsError_0 n m kind l d (l.length : Int) (i : Int) = some (ret_R_RefsError (refsE d kind (l.drop i))) := by
  intro r
  induction r with
  | zero =>
    intro i m hi hm
    obtain ⟨m, rfl⟩ : ∃ q, m = q + 1 := ⟨m - 1, by omega⟩
    obtain rfl : i = l.length := by omega
    rw [L_R_RefsError_0_step, dlt_self, List.drop_length]; rfl
  | succ r ih =>
    intro i m hi hm
    obtain ⟨m, rfl⟩ : ∃ q, m = q + 1 := ⟨m - 1, by omega⟩
    have h1 : i < l.length := by omega
    rw [L_R_RefsError_0_step, dlt h1, bT, if_pos ((inb i l.length).2 h1), wsucc h1 (by omega), ih (i + 1) m (by omega) (by omega), at_int, drop_int l h1]
    generalize l.getD i 0 = x
    rw [rfind_eq d hl x, refsE]
    unfold posI
    cases hp : posO x d with
    | none => rfl
    | some k =>
      have hk := (posO_spec x d k hp).1
      have c1 : decide (((k : Nat) : Int) < 0) = false := decide_eq_false (by omega)
      have e : (at_ (e := YNode) d (k : Int)).2.1 = kAt d k := rfl
      simp only [Option.bind_some, rf0, c1, bF, if_pos ((inb k d.length).2 hk), rperm_eq, res_R_Permitted_0_ret, e]
      cases perm kind (kAt d k) <;> rfl
theorem rrefs_eq (d : Doc) (hl : d.length ≤ 1048576) (kind : Int) (l : List Int) (hr : l.length ≤ 4194304) : C_R_RefsError F_R_RefsError d kind l = some (ret_R_RefsError (refsE d kind l)) := by
  obtain ⟨m, hm⟩ := big_succ (n := 4194305) (by omega)
  have := rrefs_loop d hl kind l hr big l.length 0 big (by omega) (by omega)
  rw [e_R_RefsError]
  exact this
theorem drefs_loop (d : Doc) (hl : d.length ≤ 1048576) (ha : Asc d) (kind : Int) (l : List Int) (hr : l.length ≤ 4194304) (n : Nat) : ∀ (r i m : Nat), i + r = l.length → r < m →
    L_doc_CheckRefs_0 n m kind d l (l.length : Int) (i : Int) = some (ret_doc_CheckRefs (refsE d kind (l.drop i))) := by
  intro r
  induction r with
  | zero =>
    intro i m hi hm
    obtain ⟨m, rfl⟩ : ∃ q, m = q + 1 := ⟨m - 1, by omega⟩
    obtain rfl : i = l.length := by omega
    rw [L_doc_CheckRefs_0_step, dlt_self, List.drop_length]; rfl
  | succ r ih =>
    intro i m hi hm
    obtain ⟨m, rfl⟩ : ∃ q, m = q + 1 := ⟨m - 1, by omega⟩
    have h1 : i < l.length := by omega
    rw [L_doc_CheckRefs_0_step, dlt h1, bT, if_pos ((inb i l.length).2 h1), wsucc h1 (by omega), ih (i + 1) m (by omega) (by omega), at_int, drop_int l h1]
    generalize l.getD i 0 = x
    rw [refsE]
    rcases find_eq d hl ha x with ⟨k, hp, hf⟩ | ⟨k, hp, hf⟩
    · have hk := (posO_spec x d k hp).1
      have e : (at_ (e := YNode) d (k : Int)).2.1 = kAt d k := rfl
      rw [hf, hp]
      simp only [Option.bind_some, df0, res_doc_find_1_ret, Bool.not_true, bF, if_pos ((inb k d.length).2 hk), perm_eq, res_doc_Permitted_0_ret, e]
      cases perm kind (kAt d k) <;> rfl
    · rw [hf, hp]; rfl
theorem drefs_eq (d : Doc) (hl : d.length ≤ 1048576) (ha : Asc d) (kind : Int) (l : List Int) (hr : l.length ≤ 4194304) : C_doc_CheckRefs F_doc_CheckRefs d kind l = some (ret_doc_CheckRefs (refsE d kind l)) := by
  obtain ⟨m, hm⟩ := big_succ (n := 4194305) (by omega)
  have := drefs_loop d hl ha kind l hr big l.length 0 big (by omega) (by omega)
  rw [e_doc_CheckRefs]
  exact this
def cref1 (s : List Int) (c : YCell.den) : List Int := cond ((c.2.2.2.1 : Int) != 0) (s ++ [(c.2.2.2.1 : Int)]) s
def refsN (n : Node) : List Int := (gc (ng n)).foldl cref1 (Utf.refs (nf n))
theorem cref1_len (s : List Int) (c : YCell.den) : (cref1 s c).length ≤ s.length + 1 := by
  unfold cref1; cases ((c.2.2.2.1 : Int) != 0) <;> simp
theorem crefs_len : ∀ (l : List YCell.den) (s : List Int), (l.foldl cref1 s).length ≤ s.length + l.length
  | [], s => by simp
  | c :: l, s => by
    have h1 := cref1_len s c
    have h2 := crefs_len l (cref1 s c)
    simp only [List.foldl_cons, List.length_cons]
    omega
theorem refsN_len (n : Node) (hn : Ns n) : (refsN n).length ≤ 2097152 := by
  have h1 := crefs_len (gc (ng n)) (Utf.refs (nf n))
  have h2 := Utf.refs_len (nf n) []
  have h3 := hn.f.1
  have h4 := hn.g.c
  have e : Utf.refs (nf n) = (nf n).foldl Utf.ref1 [] := rfl
  rw [← e] at h2
  unfold refsN
  simp at h2
  omega
theorem cells_refs (l : List YCell.den) (hl : l.length ≤ 1048576) (n : Nat) : ∀ (r i m : Nat) (s : List Int), i + r = l.length → r < m → s.length ≤ 1048576 + i →
    L_doc_Refs_0 n m s l (l.length : Int) (i : Int) = some (ret_doc_Refs ((l.drop i).foldl cref1 s)) := by
  intro r
  induction r with
  | zero =>
    intro i m s hi hm hs
    obtain ⟨m, rfl⟩ : ∃ q, m = q + 1 := ⟨m - 1, by omega⟩
    obtain rfl : i = l.length := by omega
    rw [L_doc_Refs_0_step, dlt_self, List.drop_length]; rfl
  | succ r ih =>
    intro i m s hi hm hs
    obtain ⟨m, rfl⟩ : ∃ q, m = q + 1 := ⟨m - 1, by omega⟩
    have h1 : i < l.length := by omega
    have h2 := cref1_len s l[i]
    have ih := ih (i + 1) m (cref1 s l[i]) (by omega) (by omega) (by omega)
    rw [L_doc_Refs_0_step, dlt h1, bT, if_pos ((inb i l.length).2 h1), wsucc h1 (by omega), at_get (e := YCell) l i h1, List.drop_eq_getElem_cons h1, List.foldl_cons, ← ih]
    unfold cref1
    have hle : (List.length (s : List Int) + List.length ([(l[i].2.2.2.1 : Int)] : List Int)) * 8 ≤ 140737488355328 := by
      simp only [List.length_singleton]; omega
    rw [if_pos hle]
    cases ((l[i].2.2.2.1 : Int) != 0) <;> rfl
theorem drefsN_eq (n : Node) (hn : Ns n) : C_doc_Refs F_doc_Refs n = some (ret_doc_Refs (refsN n)) := by
  have e3 : n.2.2.2.1 = nf n := rfl
  have e6 : n.2.2.2.2.1.2.2.1 = gc (ng n) := rfl
  obtain ⟨m, hm⟩ := big_succ (n := 1048577) (by omega)
  have hs : (Utf.refs (nf n)).length ≤ 1048576 + 0 := by
    have h2 := Utf.refs_len (nf n) []
    have h3 := hn.f.1
    have e : Utf.refs (nf n) = (nf n).foldl Utf.ref1 [] := rfl
    rw [← e] at h2
    simp at h2
    omega
  have h4 := hn.g.c
  have := cells_refs (gc (ng n)) hn.g.c big (gc (ng n)).length 0 big (Utf.refs (nf n)) (by omega) (by omega) hs
  rw [e_doc_Refs, e3, e6, Utf.refs_eq _ hn.f.1, Option.bind_some, res_flow_Refs_0_ret]
  exact this
theorem rcells_refs (a b : Int) (c : List YAttr.den) (f : Flow) (p q : Int) (v : List YRect.den) (w : List YDrawOp.den) (l : List YCell.den) (hl : l.length ≤ 1048576) (n : Nat) : ∀ (r i m : Nat) (s : List Int), i + r = l.length → r < m → s.length ≤ 1048576 + i →
    L_R_RefsOf_1 n m a b c f p q l v w s (l.length : Int) (i : Int) = some (ret_R_RefsOf ((l.drop i).foldl cref1 s)) := by
  intro r
  induction r with
  | zero =>
    intro i m s hi hm hs
    obtain ⟨m, rfl⟩ : ∃ q, m = q + 1 := ⟨m - 1, by omega⟩
    obtain rfl : i = l.length := by omega
    rw [L_R_RefsOf_1_step, dlt_self, List.drop_length]; rfl
  | succ r ih =>
    intro i m s hi hm hs
    obtain ⟨m, rfl⟩ : ∃ q, m = q + 1 := ⟨m - 1, by omega⟩
    have h1 : i < l.length := by omega
    have h2 := cref1_len s l[i]
    have ih := ih (i + 1) m (cref1 s l[i]) (by omega) (by omega) (by omega)
    have hle : (List.length (s : List Int) + List.length ([(l[i].2.2.2.1 : Int)] : List Int)) * 8 ≤ 140737488355328 := by
      simp only [List.length_singleton]; omega
    rw [L_R_RefsOf_1_step, dlt h1, bT, at_get (e := YCell) l i h1, List.drop_eq_getElem_cons h1, List.foldl_cons, ← ih]
    simp only [if_pos ((inb i l.length).2 h1), wsucc h1 (show l.length ≤ 4611686018427387904 by omega), if_pos hle]
    unfold cref1
    cases ((l[i].2.2.2.1 : Int) != 0) <;> rfl
theorem rflow_refs (a b : Int) (c : List YAttr.den) (f : Flow) (hf : f.length ≤ 1048576) (p q : Int) (v : List YRect.den) (w : List YDrawOp.den) (l : List YCell.den) (hl : l.length ≤ 1048576) : ∀ (r i m : Nat) (s : List Int), i + r = f.length → r < m → s.length ≤ i →
    L_R_RefsOf_0 big m a b c f p q l v w s (f.length : Int) (i : Int) = some (ret_R_RefsOf (l.foldl cref1 ((f.drop i).foldl Utf.ref1 s))) := by
  intro r
  induction r with
  | zero =>
    intro i m s hi hm hs
    obtain ⟨m, rfl⟩ : ∃ q, m = q + 1 := ⟨m - 1, by omega⟩
    obtain rfl : i = f.length := by omega
    obtain ⟨m2, hm2⟩ := big_succ (n := 1048577) (by omega)
    have := rcells_refs a b c f p q v w l hl big l.length 0 big s (by omega) (by omega) (by omega)
    rw [L_R_RefsOf_0_step, dlt_self, List.drop_length, bF]
    exact this
  | succ r ih =>
    intro i m s hi hm hs
    obtain ⟨m, rfl⟩ : ∃ q, m = q + 1 := ⟨m - 1, by omega⟩
    have h1 : i < f.length := by omega
    have h2 := Utf.ref1_len s f[i]
    have ih := ih (i + 1) m (Utf.ref1 s f[i]) (by omega) (by omega) (by omega)
    have hle : (List.length (s : List Int) + List.length ([(f[i].2.1 : Int)] : List Int)) * 8 ≤ 140737488355328 := by
      simp only [List.length_singleton]; omega
    rw [L_R_RefsOf_0_step, dlt h1, bT, at_get (e := YElem) f i h1, List.drop_eq_getElem_cons h1, List.foldl_cons, ← ih]
    simp only [if_pos ((inb i f.length).2 h1), wsucc h1 (show f.length ≤ 4611686018427387904 by omega), if_pos hle]
    have e : er f[i] = (f[i].2.1 : Int) := rfl
    rw [Utf.ref_step, e]
    cases ((f[i].2.1 : Int) != 0) <;> rfl
theorem rrefsN_eq (n : Node) (hn : Ns n) : C_R_RefsOf F_R_RefsOf n = some (ret_R_RefsOf (refsN n)) := by
  obtain ⟨m, hm⟩ := big_succ (n := 1048577) (by omega)
  have h3 := hn.f.1
  have := rflow_refs n.1 n.2.1 n.2.2.1 (nf n) hn.f.1 n.2.2.2.2.1.1 n.2.2.2.2.1.2.1 n.2.2.2.2.1.2.2.2 n.2.2.2.2.2 (gc (ng n)) hn.g.c (nf n).length 0 big [] (by omega) (by omega) (by simp)
  rw [e_R_RefsOf]
  exact this
end Go.Ev.Doc
namespace Go.Ev.Doc
open Go.Ev Go.Ev.Attr Go.Ev.Track Go.Ev.Delta
set_option linter.unusedVariables false
set_option linter.unusedSimpArgs false
set_option maxRecDepth 100000
def nAt (d : Doc) (i : Nat) : Node := at_ (e := YNode) d (i : Int)
def rE (d : Doc) : Nat → Nat → Int
  | 0, _ => 0
  | r + 1, i => cond (refsE d (kAt d i) (refsN (nAt d i)) != 0) (refsE d (kAt d i) (refsN (nAt d i))) (rE d r (i + 1))
def badO (d : Doc) (i : Nat) : Bool := cond (decide (i = 0)) (idAt d i != 1) (decide (idAt d i ≤ idAt d (i - 1)))
noncomputable def dE (d : Doc) : Nat → Nat → Int
  | 0, _ => rE d d.length 0
  | r + 1, i => cond (nodeE (nAt d i) != 0) (nodeE (nAt d i)) (cond (badO d i) 5 (dE d r (i + 1)))
/-- What is wrong with a document. -/
noncomputable def docE (d : Doc) : Int := cond (decide (d.length = 0)) 11 (dE d d.length 0)
theorem nAt_get (d : Doc) (i : Nat) (h : i < d.length) : nAt d i = d[i] := at_get (e := YNode) d i h
theorem rE_loop (d : Doc) (hl : d.length ≤ 1048576) (hd : ∀ n ∈ d, Nt n) (n : Nat) : ∀ (r i m : Nat), i + r = d.length → r < m →
    L_R_DocError_1 n m d (d.length : Int) (i : Int) = some (ret_R_DocError (rE d r i)) := by
  intro r
  induction r with
  | zero =>
    intro i m hi hm
    obtain ⟨m, rfl⟩ : ∃ q, m = q + 1 := ⟨m - 1, by omega⟩
    obtain rfl : i = d.length := by omega
    rw [L_R_DocError_1_step, dlt_self]; rfl
  | succ r ih =>
    intro i m hi hm
    obtain ⟨m, rfl⟩ : ∃ q, m = q + 1 := ⟨m - 1, by omega⟩
    have h1 : i < d.length := by omega
    have hn : Nt (nAt d i) := by rw [nAt_get d i h1]; exact hd _ (List.getElem_mem h1)
    have e : at_ (e := YNode) d (i : Int) = nAt d i := rfl
    have e2 : (nAt d i).2.1 = kAt d i := rfl
    rw [L_R_DocError_1_step, dlt h1, bT, e, rrefsN_eq _ hn.s, e2]
    simp only [if_pos ((inb i d.length).2 h1), wsucc h1 (show d.length ≤ 4611686018427387904 by omega), ih (i + 1) m (by omega) (by omega), Option.bind_some, res_R_RefsOf_0_ret, rrefs_eq d hl _ _ (Nat.le_trans (refsN_len _ hn.s) (by decide)), res_R_RefsError_0_ret]
    rw [rE]
    cases (refsE d (kAt d i) (refsN (nAt d i)) != 0) <;> rfl
theorem dE_loop1 (d : Doc) (hl : d.length ≤ 1048576) (ha : Asc d) (hd : ∀ n ∈ d, Nt n) (n : Nat) : ∀ (r i m : Nat), i + r = d.length → r < m →
    L_doc_Check_1 n m d d (d.length : Int) (i : Int) = some (ret_doc_Check (rE d r i)) := by
  intro r
  induction r with
  | zero =>
    intro i m hi hm
    obtain ⟨m, rfl⟩ : ∃ q, m = q + 1 := ⟨m - 1, by omega⟩
    obtain rfl : i = d.length := by omega
    rw [L_doc_Check_1_step, dlt_self]; rfl
  | succ r ih =>
    intro i m hi hm
    obtain ⟨m, rfl⟩ : ∃ q, m = q + 1 := ⟨m - 1, by omega⟩
    have h1 : i < d.length := by omega
    have hn : Nt (nAt d i) := by rw [nAt_get d i h1]; exact hd _ (List.getElem_mem h1)
    have e : at_ (e := YNode) d (i : Int) = nAt d i := rfl
    have e2 : (nAt d i).2.1 = kAt d i := rfl
    rw [L_doc_Check_1_step, dlt h1, bT, e, drefsN_eq _ hn.s, e2]
    simp only [if_pos ((inb i d.length).2 h1), wsucc h1 (show d.length ≤ 4611686018427387904 by omega), ih (i + 1) m (by omega) (by omega), Option.bind_some, res_doc_Refs_0_ret, drefs_eq d hl ha _ _ (Nat.le_trans (refsN_len _ hn.s) (by decide)), res_doc_CheckRefs_0_ret]
    rw [rE]
    cases (refsE d (kAt d i) (refsN (nAt d i)) != 0) <;> rfl
theorem dE_loop (d : Doc) (hl : d.length ≤ 1048576) (hd : ∀ n ∈ d, Nt n) : ∀ (r i m m' : Nat), i + r = d.length → r < m → r < m' → (∀ j, 0 < j → j < i → idAt d (j - 1) < idAt d j) →
    L_doc_Check_0 big m d d (d.length : Int) (i : Int) = some (ret_doc_Check (dE d r i)) ∧ L_R_DocError_0 big m' d (d.length : Int) (i : Int) = some (ret_R_DocError (dE d r i)) := by
  obtain ⟨mb, hmb⟩ := big_succ (n := 1048577) (by omega)
  intro r
  induction r with
  | zero =>
    intro i m m' hi hm hm' hA
    obtain ⟨m, rfl⟩ : ∃ q, m = q + 1 := ⟨m - 1, by omega⟩
    obtain ⟨m', rfl⟩ : ∃ q, m' = q + 1 := ⟨m' - 1, by omega⟩
    obtain rfl : i = d.length := by omega
    rw [L_doc_Check_0_step, L_R_DocError_0_step, dlt_self, bF, bF]
    exact ⟨dE_loop1 d hl (asc_of hA) hd big d.length 0 big (by omega) (by omega), rE_loop d hl hd big d.length 0 big (by omega) (by omega)⟩
  | succ r ih =>
    intro i m m' hi hm hm' hA
    obtain ⟨m, rfl⟩ : ∃ q, m = q + 1 := ⟨m - 1, by omega⟩
    obtain ⟨m', rfl⟩ : ∃ q, m' = q + 1 := ⟨m' - 1, by omega⟩
    have h1 : i < d.length := by omega
    have hn : Nt (nAt d i) := by rw [nAt_get d i h1]; exact hd _ (List.getElem_mem h1)
    have e : at_ (e := YNode) d (i : Int) = nAt d i := rfl
    have e2 : ((nAt d i).1 : Int) = idAt d i := rfl
    rw [L_doc_Check_0_step, L_R_DocError_0_step, dlt h1, bT, bT, e, node_chk _ hn, rnode_chk _ hn, e2, dE]
    simp only [if_pos ((inb i d.length).2 h1), wsucc h1 (show d.length ≤ 4611686018427387904 by omega), Option.bind_some, res_doc_CheckNode_0_ret, res_R_NodeError_0_ret]
    cases hq : (nodeE (nAt d i) != 0)
    · simp only [bF, cond_false]
      by_cases h0 : i = 0
      · subst h0
        have e3 : ((at_ (e := YNode) d 0).1 : Int) = idAt d 0 := rfl
        have c0 : (((0 : Nat) : Int) == 0) = true := rfl
        have c1 : decide (((0 : Nat) : Int) > 0) = false := rfl
        have p0 : (0 : Int) ≤ 0 ∧ (0 : Int) < (d.length : Int) := by omega
        have e4 : badO d 0 = (idAt d 0 != 1) := rfl
        rw [c0, c1, e3, if_pos p0, e4]
        obtain ⟨i1, i2⟩ := ih 1 m m' (by omega) (by omega) (by omega) (fun j h2 h3 => by omega)
        cases (idAt d 0 != 1)
        · exact ⟨i1, i2⟩
        · exact ⟨rfl, rfl⟩
      · have c0 : (((i : Nat) : Int) == 0) = false := by simpa using h0
        have c1 : decide (((i : Nat) : Int) > 0) = true := decide_eq_true (by omega)
        have w2 : IntKind.i64.wrap ((i : Int) - 1) = ((i - 1 : Nat) : Int) := wpred (by omega) h1 (by omega)
        have p1 : 0 ≤ ((i - 1 : Nat) : Int) ∧ ((i - 1 : Nat) : Int) < (d.length : Int) := (inb (i - 1) d.length).2 (by omega)
        have e3 : ((at_ (e := YNode) d ((i - 1 : Nat) : Int)).1 : Int) = idAt d (i - 1) := rfl
        have e4 : badO d i = decide (idAt d i ≤ idAt d (i - 1)) := by unfold badO; rw [decide_eq_false h0]; rfl
        rw [c0, c1, w2, if_pos p1, if_pos p1, e3, e4]
        by_cases hb : idAt d i ≤ idAt d (i - 1)
        · rw [decide_eq_true hb]; exact ⟨rfl, rfl⟩
        · obtain ⟨i1, i2⟩ := ih (i + 1) m m' (by omega) (by omega) (by omega) (fun j h2 h3 => by
            by_cases hj : j = i
            · subst hj; omega
            · exact hA j h2 (by omega))
          rw [decide_eq_false hb]; exact ⟨i1, i2⟩
    · exact ⟨rfl, rfl⟩
theorem docchk_eq (d : Doc) (hl : d.length ≤ 1048576) (hd : ∀ n ∈ d, Nt n) : C_doc_Check F_doc_Check d = some (ret_doc_Check (docE d)) ∧ C_R_DocError F_R_DocError d = some (ret_R_DocError (docE d)) := by
  obtain ⟨mb, hmb⟩ := big_succ (n := 1048577) (by omega)
  obtain ⟨h1, h2⟩ := dE_loop d hl hd d.length 0 big big (by omega) (by omega) (by omega) (fun j h2 h3 => by omega)
  rw [show ((0 : Nat) : Int) = 0 from rfl] at h1 h2
  rw [e_doc_Check, e_R_DocError, h1, h2]
  unfold docE
  by_cases h0 : d.length = 0
  · rw [decide_eq_true h0, h0]; exact ⟨rfl, rfl⟩
  · rw [decide_eq_false h0, show (((d.length : Int) : Int) == 0) = false by rw [beq_eq_false_iff_ne]; omega]; exact ⟨rfl, rfl⟩
theorem doc_nt (d : Doc) (h : (Ty.list YNode).bulk d ≤ 1048576) : d.length ≤ 1048576 ∧ ∀ n ∈ d, Nt n := by
  have h1 := bulk_len (e := YNode) d
  exact ⟨by omega, fun n hn => nt_bulk n (by have := bulk_mem (e := YNode) d n hn; omega)⟩
theorem lawchk_loop (d : Doc) (hl : d.length ≤ 1048576) (hd : ∀ n ∈ d, Nt n) (n : Nat) : ∀ (r i m : Nat), i + r = d.length → r < m →
    L_law_DocCheckSays_0 n m d (d.length : Int) (i : Int) = some (ret_law_DocCheckSays true) := by
  intro r
  induction r with
  | zero =>
    intro i m hi hm
    obtain ⟨m, rfl⟩ : ∃ q, m = q + 1 := ⟨m - 1, by omega⟩
    obtain rfl : i = d.length := by omega
    rw [L_law_DocCheckSays_0_step, dlt_self]; rfl
  | succ r ih =>
    intro i m hi hm
    obtain ⟨m, rfl⟩ : ∃ q, m = q + 1 := ⟨m - 1, by omega⟩
    have h1 : i < d.length := by omega
    have hn : Nt (nAt d i) := by rw [nAt_get d i h1]; exact hd _ (List.getElem_mem h1)
    have e : at_ (e := YNode) d (i : Int) = nAt d i := rfl
    rw [L_law_DocCheckSays_0_step, dlt h1, bT, e, node_chk _ hn, rnode_chk _ hn]
    simp only [if_pos ((inb i d.length).2 h1), wsucc h1 (show d.length ≤ 4611686018427387904 by omega), ih (i + 1) m (by omega) (by omega), Option.bind_some, res_doc_CheckNode_0_ret, res_R_NodeError_0_ret, bne_self_eq_false, bF]
theorem law_DocCheck (d : Doc) (a b : Int) (o0 : YDoc.ok d) (o1 : (Ty.int .i64).ok a) (o2 : (Ty.int .i64).ok b)
    (hb : YDoc.bulk d + (Ty.int .i64).bulk a + (Ty.int .i64).bulk b ≤ 1048576) : F_law_DocCheckSays (d, a, b, ()) () = some (ret_law_DocCheckSays true) := by
  show C_law_DocCheckSays F_law_DocCheckSays d a b = _
  obtain ⟨hl, hd⟩ := doc_nt d (by have : YDoc.bulk d = (Ty.list YNode).bulk d := rfl; omega)
  obtain ⟨mb, hmb⟩ := big_succ (n := 1048577) (by omega)
  have h := lawchk_loop d hl hd big d.length 0 big (by omega) (by omega)
  rw [show ((0 : Nat) : Int) = 0 from rfl] at h
  obtain ⟨c1, c2⟩ := docchk_eq d hl hd
  rw [e_law_DocCheckSays, docs_eq, perm_eq, rperm_eq, c1, c2, h]
  simp only [Option.bind_some, res_law_docs_0_ret, res_doc_Permitted_0_ret, res_R_Permitted_0_ret, res_doc_Check_0_ret, res_R_DocError_0_ret, bne_self_eq_false, Bool.not_true, beq_self_eq_true, bT, bF]
end Go.Ev.Doc
