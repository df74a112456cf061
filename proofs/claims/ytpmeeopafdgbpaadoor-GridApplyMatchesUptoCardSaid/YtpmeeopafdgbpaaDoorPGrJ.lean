
import Derived.Test.YtpmeeopafdgbpaaDoorPGrI
import Derived.Test.YtpmeeopafdgbpaaDoorGGridP
namespace Go.Ev.Doc
open Go.Ev Go.Ev.Attr Go.Ev.Track Go.Ev.Delta Go.Ev.Axis Go.Ev.Hul Go.Ev.Lex
set_option linter.unusedVariables false
set_option linter.unusedSimpArgs false
set_option maxRecDepth 100000
def smallG (g : Grid) (e : Edit) : Bool := decide (gR g ≤ 30) && (decide (gC g ≤ 30) && (decide (Axis.sumN (er e) ≤ 60) && decide (Axis.sumN (el e) ≤ 60)))
theorem small_eq (g : Grid) (e : Edit) (he : Es e) (E1 : Axis.E (er e) = 0) (E2 : Axis.E (el e) = 0) : C_R_SmallGrid F_R_SmallGrid g e = some (ret_R_SmallGrid (smallG g e)) := by
  have s1 : C_R_AxisSize F_R_AxisSize e.1 = some (ret_R_AxisSize (Axis.sumN (er e))) := Axis.size_eq (er e) he.r E1
  have s2 : C_R_AxisSize F_R_AxisSize e.2.1 = some (ret_R_AxisSize (Axis.sumN (el e))) := Axis.size_eq (el e) he.l E2
  have t0 : ∀ a : Int, res_R_AxisSize_0 (ret_R_AxisSize a) = a := fun _ => id rfl
  rw [e_R_SmallGrid, s1, s2]
  simp only [Option.bind_some, t0, show (g.1 : Int) = gR g from rfl, show (g.2.1 : Int) = gC g from rfl]
  unfold smallG
  cases decide (gR g ≤ 30) <;> cases decide (gC g ≤ 30) <;> cases decide (Axis.sumN (er e) ≤ 60) <;> rfl
theorem join_len : ∀ (ms l : List Rc), (joinR l ms).length ≤ l.length + ms.length := by
  intro ms
  induction ms with
  | nil => intro l; exact Nat.le_refl _
  | cons r ms ih =>
    intro l
    rw [join_cons]
    have h1 := ih (l.filter (fun q => !(mts q r)) ++ [r])
    have h2 := List.length_filter_le (fun q => !(mts q r)) l
    rw [List.length_append, List.length_singleton] at h1
    rw [List.length_cons]
    omega
theorem raw_gs {g : Grid} {e : Edit} (hg : Gs g) (he : Es e) (h : Fits g e) (h1 : (gc g).length + (ec e).length ≤ 1048576) (h2 : (gm g).length + (em e).length ≤ 1048576) : Gs (rawG g e) := by
  have a1 := put_len (k := posC) (em := emc) (ec e) (movedC (er e) (el e) (gc g))
  have a2 := moved_len (er e) (el e) (gc g)
  have a3 := join_len (em e) (stayR (er e) (el e) (es e) (gm g))
  have a4 := stay_len (er e) (el e) (es e) (gm g)
  have a5 : (sorted cfR (joinR (stayR (er e) (el e) (es e) (gm g)) (em e))).length = (joinR (stayR (er e) (el e) (es e) (gm g)) (em e)).length := (List.mergeSort_perm _ _).length_eq
  have mo := moved_ok h.r h.l h.c
  have key : ∀ c ∈ gc (rawG g e), Sh (ca c) ∧ (c.2.2.1 : List UInt8).length ≤ 1048576 := fun c hc => by
    have hc : c ∈ putL posC emc (movedC (er e) (el e) (gc g)) (ec e) := hc
    rcases (mem_put mo.srt h.n.srt c).1 hc with ⟨h3, _⟩ | ⟨h3, _⟩
    · exact he.a c h3
    · obtain ⟨z, hz, _, _, rfl⟩ := (mem_moved c).1 h3
      exact ⟨hg.a z hz, hg.t z hz⟩
  exact ⟨show (putL posC emc (movedC (er e) (el e) (gc g)) (ec e)).length ≤ 1048576 by omega, show (sorted cfR (joinR (stayR (er e) (el e) (es e) (gm g)) (em e))).length ≤ 1048576 by omega, fun c hc => (key c hc).1, fun c hc => (key c hc).2⟩
theorem gs0 : Gs grid0 := ⟨Nat.zero_le _, Nat.zero_le _, fun c hc => (by cases hc), fun c hc => (by cases hc)⟩
theorem J_grid (g : Grid) (e : Edit) (hg : Gs g) (he : Es e) (h1 : (gc g).length + (ec e).length ≤ 1048576) (h2 : (gm g).length + (em e).length ≤ 1048576) (n : Nat) (r : sig_grid_Apply.Out) (hr : r = if allE g e = 0 then ret_grid_Apply (rawG g e) 0 else ret_grid_Apply grid0 (allE g e)) :
    J_law_GridApplyMatches_0 n g e (res_grid_Apply_0 r) (res_grid_Apply_1 r) (allE g e) = some (ret_law_GridApplyMatches true) := by
  have q0 : ∀ (v : Grid) (e : Int), res_grid_Apply_0 (ret_grid_Apply v e) = v := fun _ _ => id rfl
  have q1 : ∀ (v : Grid) (e : Int), res_grid_Apply_1 (ret_grid_Apply v e) = e := fun _ _ => id rfl
  subst hr
  unfold J_law_GridApplyMatches_0
  by_cases h : allE g e = 0
  · rw [if_pos h, q0, q1, h]
    have hf := fits_ok h
    rw [show ((0 : Int) != 0) = false from rfl, bF, show ((0 : Int) == 0) = true from rfl, small_eq g e he hf.er0 hf.el0]
    simp only [Option.bind_some, res_R_SmallGrid_0_ret]
    cases hs : smallG g e
    · rfl
    · unfold smallG at hs
      rw [Bool.and_eq_true, Bool.and_eq_true, Bool.and_eq_true] at hs
      obtain ⟨s1, s2, s3, s4⟩ := hs
      rw [redited_eq hg he hf (of_decide_eq_true s1) (of_decide_eq_true s2) (of_decide_eq_true s3) (of_decide_eq_true s4)]
      simp only [Option.bind_some, res_R_Edited_0_ret]
      rw [rgrid_eq _ _ (raw_gs hg he hf h1 h2), eqd_self]
      rfl
  · rw [if_neg h, q0, q1, bne_E, decide_eq_false h]
    have e0 : C_R_SameGrid F_R_SameGrid grid0 (0, (0, ([], []))) = some (ret_R_SameGrid true) := by
      have := rgrid_eq grid0 grid0 gs0
      rw [eqd_self] at this
      exact this
    rw [e0, beq_self_eq_true]
    rfl
theorem law_GridApply (g : Grid) (e : Edit) (o0 : YGrid.ok g) (o1 : YGridEdit.ok e) (hb : YGrid.bulk g + YGridEdit.bulk e ≤ 1048576) : F_law_GridApplyMatches (g, e, ()) () = some (ret_law_GridApplyMatches true) := by
  show C_law_GridApplyMatches F_law_GridApplyMatches g e = _
  have hg : Gs g := gs_bulk g (by omega)
  have he : Es e := es_bulk e (by omega)
  have b1 : YGrid.bulk g = 1 + (1 + ((Ty.list YCell).bulk (gc g) + (Ty.list YRect).bulk (gm g))) := rfl
  have b2 : YGridEdit.bulk e = (Ty.list YSpan).bulk (er e) + ((Ty.list YSpan).bulk (el e) + ((Ty.list YCell).bulk (ec e) + ((Ty.list YRect).bulk (es e) + (Ty.list YRect).bulk (em e)))) := rfl
  have l1 := bulk_len (e := YCell) (gc g)
  have l2 := bulk_len (e := YRect) (gm g)
  have l3 := bulk_len (e := YCell) (ec e)
  have l4 := bulk_len (e := YRect) (em e)
  have J := J_grid g e hg he (by omega) (by omega) big _ rfl
  rw [e_law_GridApplyMatches, grids_eq, gapply_eq g e hg he, (gridchk_eq g hg).2, reditchk_eq e he]
  simp only [Option.bind_some, res_law_grids_0_ret, Bool.not_true, bF]
  have t0 : ∀ a : Int, res_R_GridError_0 (ret_R_GridError a) = a := fun _ => id rfl
  have t1 : ∀ a : Int, res_R_EditError_0 (ret_R_EditError a) = a := fun _ => id rfl
  rw [t0, t1]
  by_cases k1 : gridE g = 0
  · rw [show (gridE g == 0) = true from beq_iff_eq.2 k1, bT]
    by_cases k2 : editE e = 0
    · rw [show (editE e == 0) = true from beq_iff_eq.2 k2, bT, rfit_eq g e he k1 k2]
      have ea : allE g e = fitE g e := by unfold allE; rw [orE_eq _ k1, orE_eq _ k2]
      rw [← ea]
      exact J
    · rw [show (editE e == 0) = false from beq_false_of_ne k2, bF]
      have ea : allE g e = editE e := by unfold allE; rw [orE_eq _ k1, orE_ne _ k2]
      rw [← ea]
      exact J
  · rw [show (gridE g == 0) = false from beq_false_of_ne k1, bF, bF]
    have ea : allE g e = gridE g := by unfold allE; rw [orE_ne _ k1]
    rw [← ea]
    exact J
end Go.Ev.Doc
