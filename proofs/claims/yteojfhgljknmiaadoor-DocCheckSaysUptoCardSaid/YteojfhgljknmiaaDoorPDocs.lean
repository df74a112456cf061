
import Derived.Test.YteojfhgljknmiaaDoorPEqs
import Derived.Test.YteojfhgljknmiaaDoorPFlowB
import Derived.Test.YteojfhgljknmiaaDoorPRefs
import Derived.Test.YteojfhgljknmiaaDoorGDocK
namespace Go.Ev.Doc
open Go.Ev Go.Ev.Attr Go.Ev.Track Go.Ev.Delta
set_option linter.unusedVariables false
set_option linter.unusedSimpArgs false
set_option maxRecDepth 100000
def z0 : Grid := (0, (0, ([], [])))
def n1 : Node := (1, (0, ([], ([mkE 0 2 []], (z0, [])))))
def n2 : Node := (2, (1, ([], ([mkE 10 0 []], (z0, [])))))
def d0 : Doc := [n1, n2]
theorem gs_z0 : Gs z0 := ⟨by decide, by decide, fun c h => by simp [gc, z0] at h, fun c h => by simp [gc, z0] at h⟩
theorem fs_one (x : YElem.den) (h : ea x = []) : Fs [x] := fs_of (by simp) (fun y hy => by
  have : y = x := by simpa using hy
  rw [this, h]; exact sh_nil)
theorem ns_n1 : Ns n1 := ⟨sh_nil, fs_one _ rfl, gs_z0, by decide⟩
theorem ns_n2 : Ns n2 := ⟨sh_nil, fs_one _ rfl, gs_z0, by decide⟩
theorem ns_d0 : ∀ n ∈ d0, Ns n := fun n h => by
  have : n = n1 ∨ n = n2 := by simpa [d0] using h
  rcases this with rfl | rfl
  · exact ns_n1
  · exact ns_n2
theorem same_z0 : C_grid_Same F_grid_Same z0 (0, (0, ([], []))) = some (ret_grid_Same true) := by
  rw [grid_eq z0 _ gs_z0, (eqd_iff z0 (0, (0, ([], [])))).2 rfl]
theorem chk_n1 : C_doc_CheckNode F_doc_CheckNode n1 = some (ret_doc_CheckNode 0) := by
  have hA : C_attr_Check F_attr_Check n1.2.2.1 = some (ret_attr_Check 0) := check_eq [] sh_nil
  have hT : C_doc_Texts F_doc_Texts n1.2.1 = some (ret_doc_Texts false) := by rw [e_doc_Texts]; rfl
  have hL : C_doc_Lists F_doc_Lists n1.2.1 = some (ret_doc_Lists true) := by rw [e_doc_Lists]; rfl
  have hG : C_doc_Grids F_doc_Grids n1.2.1 = some (ret_doc_Grids false) := by rw [e_doc_Grids]; rfl
  have hD : C_doc_Draws F_doc_Draws n1.2.1 = some (ret_doc_Draws false) := by rw [e_doc_Draws]; rfl
  have hF : C_flow_Check F_flow_Check n1.2.2.2.1 false = some (ret_flow_Check 0) := (flow_eq _ false (fs_one (mkE 0 2 []) rfl)).1
  have hS : C_grid_Same F_grid_Same n1.2.2.2.2.1 (0, (0, ([], []))) = some (ret_grid_Same true) := same_z0
  have q1 : decide (n1.1 < 1) = false := rfl
  have q2 : decide (n1.1 > 1073741824) = false := rfl
  have q3 : decide (n1.2.1 < 0) = false := rfl
  have q4 : decide (n1.2.1 ≥ 13) = false := rfl
  have q5 : ((((n1.1 : Int) == 1) : Bool) != ((n1.2.1 : Int) == 0)) = false := rfl
  have q6 : decide ((n1.2.2.2.2.2.length : Int) > 0) = false := rfl
  rw [e_doc_CheckNode, hA, hT, hL, hG, q1, q2, q3, q4, q5]
  simp only [Option.bind_some, res_attr_Check_0_ret, res_doc_Texts_0_ret, res_doc_Lists_0_ret, res_doc_Grids_0_ret, bT, bF, beq_self_eq_true, bne_self_eq_false]
  unfold J_doc_CheckNode_0
  rw [hS, hD, hT]
  simp only [Option.bind_some, res_grid_Same_0_ret, res_doc_Draws_0_ret, res_doc_Texts_0_ret, hF, q6]
  rfl
theorem chk_n2 : C_doc_CheckNode F_doc_CheckNode n2 = some (ret_doc_CheckNode 0) := by
  have hA : C_attr_Check F_attr_Check n2.2.2.1 = some (ret_attr_Check 0) := check_eq [] sh_nil
  have hT : C_doc_Texts F_doc_Texts n2.2.1 = some (ret_doc_Texts true) := by rw [e_doc_Texts]; rfl
  have hG : C_doc_Grids F_doc_Grids n2.2.1 = some (ret_doc_Grids false) := by rw [e_doc_Grids]; rfl
  have hD : C_doc_Draws F_doc_Draws n2.2.1 = some (ret_doc_Draws false) := by rw [e_doc_Draws]; rfl
  have hF : C_flow_Check F_flow_Check n2.2.2.2.1 true = some (ret_flow_Check 0) := (flow_eq _ true (fs_one (mkE 10 0 []) rfl)).1
  have hS : C_grid_Same F_grid_Same n2.2.2.2.2.1 (0, (0, ([], []))) = some (ret_grid_Same true) := same_z0
  have q1 : decide (n2.1 < 1) = false := rfl
  have q2 : decide (n2.1 > 1073741824) = false := rfl
  have q3 : decide (n2.2.1 < 0) = false := rfl
  have q4 : decide (n2.2.1 ≥ 13) = false := rfl
  have q5 : ((((n2.1 : Int) == 1) : Bool) != ((n2.2.1 : Int) == 0)) = false := rfl
  have q6 : decide ((n2.2.2.2.2.2.length : Int) > 0) = false := rfl
  rw [e_doc_CheckNode, hA, hT, hG, q1, q2, q3, q4, q5]
  simp only [Option.bind_some, res_attr_Check_0_ret, res_doc_Texts_0_ret, res_doc_Grids_0_ret, bT, bF, beq_self_eq_true, bne_self_eq_false]
  unfold J_doc_CheckNode_0
  rw [hS, hD, hT]
  simp only [Option.bind_some, res_grid_Same_0_ret, res_doc_Draws_0_ret, res_doc_Texts_0_ret, hF, q6]
  rfl
theorem find_2 : C_doc_find F_doc_find d0 2 = some (ret_doc_find 1 true) := by
  have c1 : ∀ k : Int, k = 1 → C_doc_find_c1 F_doc_find_c1 (at_ (e := YNode) d0 k) 2 = some (ret_doc_find_c1 0) := fun k h => by subst h; rw [e_doc_find_c1]; rfl
  have c0 : C_doc_find_c1 F_doc_find_c1 (at_ (e := YNode) d0 0) 2 = some (ret_doc_find_c1 (-1)) := by rw [e_doc_find_c1]; rfl
  have w1 : IntKind.i64.wrap (shrI .u64 (IntKind.u64.wrap (IntKind.i64.wrap (0 + 2))) 1) = 1 := by rfl
  have w0 : IntKind.i64.wrap (shrI .u64 (IntKind.u64.wrap (IntKind.i64.wrap (0 + 1))) 1) = 0 := by rfl
  have w2 : IntKind.i64.wrap (0 + 1) = 1 := by rfl
  have hl : (List.length d0 : Int) = 2 := rfl
  have p1 : 0 ≤ (1 : Int) ∧ (1 : Int) < 2 := by decide
  have p0 : 0 ≤ (0 : Int) ∧ (0 : Int) < 2 := by decide
  have key : ∀ n m, L_slices_BinarySearchFunc_Node_doc_find_c1_0 n (m + 1 + 1 + 1) d0 2 2 0 2 = some (ret_slices_BinarySearchFunc_Node_doc_find_c1 1 true) := fun n m => by
    have q02 : decide ((0 : Int) < 2) = true := rfl
    have q01 : decide ((0 : Int) < 1) = true := rfl
    have q11 : decide ((1 : Int) < 1) = false := rfl
    have q12 : decide ((1 : Int) < 2) = true := rfl
    have hz0 : decide (res_doc_find_c1_0 (ret_doc_find_c1 0) < 0) = false := rfl
    have hz1 : decide (res_doc_find_c1_0 (ret_doc_find_c1 (-1)) < 0) = true := rfl
    rw [L_slices_BinarySearchFunc_Node_doc_find_c1_0_step, w1, hl, if_pos p1, c1 1 rfl, q02, bT, Option.bind_some, hz0, bF]
    rw [L_slices_BinarySearchFunc_Node_doc_find_c1_0_step, w0, hl, if_pos p0, c0, q01, bT, Option.bind_some, hz1, bT, w2]
    rw [L_slices_BinarySearchFunc_Node_doc_find_c1_0_step, q11, bF, q12, hl, if_pos p1, c1 1 rfl, Option.bind_some]
    rfl
  obtain ⟨m, hm⟩ := big_succ (n := 2) (by omega)
  have hb : big = m + 1 + 1 + 1 := by omega
  have := key big m
  rw [← hb] at this
  rw [e_doc_find, e_slices_BinarySearchFunc_Node_doc_find_c1, hl, this]
  rfl
theorem perm_01 : C_doc_Permitted F_doc_Permitted 0 1 = some (ret_doc_Permitted true) := by
  have key : ∀ n m, L_slices_Index_int_0 n (m + 1) [1, 6, 7, 10, 11, 12] 1 6 0 = some (ret_slices_Index_int 0) := fun n m => by
    rw [L_slices_Index_int_0_step]; rfl
  obtain ⟨m, hm⟩ := big_succ (n := 0) (by omega)
  have hb : big = m + 1 := by omega
  have := key big m
  rw [← hb] at this
  have h2 : C_slices_Contains_int F_slices_Contains_int [1, 6, 7, 10, 11, 12] 1 = some (ret_slices_Contains_int true) := by
    rw [e_slices_Contains_int, e_slices_Index_int]
    show (L_slices_Index_int_0 big big [1, 6, 7, 10, 11, 12] 1 6 0).bind _ = _
    rw [this]; rfl
  rw [e_doc_Permitted, h2]
  rfl
theorem refs_n1 : C_doc_Refs F_doc_Refs n1 = some (ret_doc_Refs [2]) := by
  have h := Utf.refs_eq [mkE 0 2 []] (by decide)
  have key : ∀ n m, L_doc_Refs_0 n (m + 1) [2] [] 0 0 = some (ret_doc_Refs [2]) := fun n m => by rw [L_doc_Refs_0_step]; rfl
  obtain ⟨m, hm⟩ := big_succ (n := 0) (by omega)
  have hb : big = m + 1 := by omega
  have := key big m
  rw [← hb] at this
  have h' : C_flow_Refs F_flow_Refs n1.2.2.2.1 = some (ret_flow_Refs [2]) := h
  rw [e_doc_Refs, h']
  exact this
theorem refs_n2 : C_doc_Refs F_doc_Refs n2 = some (ret_doc_Refs []) := by
  have h := Utf.refs_eq [mkE 10 0 []] (by decide)
  have key : ∀ n m, L_doc_Refs_0 n (m + 1) [] [] 0 0 = some (ret_doc_Refs []) := fun n m => by rw [L_doc_Refs_0_step]; rfl
  obtain ⟨m, hm⟩ := big_succ (n := 0) (by omega)
  have hb : big = m + 1 := by omega
  have := key big m
  rw [← hb] at this
  have h' : C_flow_Refs F_flow_Refs n2.2.2.2.1 = some (ret_flow_Refs []) := h
  rw [e_doc_Refs, h']
  exact this
theorem crefs_1 : C_doc_CheckRefs F_doc_CheckRefs d0 0 [2] = some (ret_doc_CheckRefs 0) := by
  have key : ∀ n m, L_doc_CheckRefs_0 n (m + 1 + 1) 0 d0 [2] 1 0 = some (ret_doc_CheckRefs 0) := fun n m => by
    have e1 : (at_ (e := .int .i64) [2] 0) = (2 : Int) := rfl
    have p0 : 0 ≤ (0 : Int) ∧ (0 : Int) < (([2] : List Int).length : Int) := by decide
    have p1 : 0 ≤ (1 : Int) ∧ (1 : Int) < (List.length d0 : Int) := by decide
    have hP : C_doc_Permitted F_doc_Permitted 0 (at_ (e := YNode) d0 1).2.1 = some (ret_doc_Permitted true) := perm_01
    rw [L_doc_CheckRefs_0_step, if_pos p0, e1, find_2]
    simp only [Option.bind_some, res_doc_find_0_ret, res_doc_find_1_ret, if_pos p1, hP, res_doc_Permitted_0_ret]
    show L_doc_CheckRefs_0 n (m + 1) 0 d0 [2] 1 1 = _
    rw [L_doc_CheckRefs_0_step]; rfl
  obtain ⟨m, hm⟩ := big_succ (n := 1) (by omega)
  have hb : big = m + 1 + 1 := by omega
  have := key big m
  rw [← hb] at this
  rw [e_doc_CheckRefs]
  exact this
theorem crefs_2 : C_doc_CheckRefs F_doc_CheckRefs d0 1 [] = some (ret_doc_CheckRefs 0) := by
  have key : ∀ n m, L_doc_CheckRefs_0 n (m + 1) 1 d0 [] 0 0 = some (ret_doc_CheckRefs 0) := fun n m => by rw [L_doc_CheckRefs_0_step]; rfl
  obtain ⟨m, hm⟩ := big_succ (n := 0) (by omega)
  have hb : big = m + 1 := by omega
  have := key big m
  rw [← hb] at this
  rw [e_doc_CheckRefs]
  exact this
theorem chk_d0 : C_doc_Check F_doc_Check d0 = some (ret_doc_Check 0) := by
  have a0 : at_ (e := YNode) d0 0 = n1 := rfl
  have a1 : at_ (e := YNode) d0 1 = n2 := rfl
  have hl : (List.length d0 : Int) = 2 := rfl
  have p1 : 0 ≤ (1 : Int) ∧ (1 : Int) < 2 := by decide
  have p0 : 0 ≤ (0 : Int) ∧ (0 : Int) < 2 := by decide
  have w0 : IntKind.i64.wrap (1 - 1) = 0 := rfl
  have k1 : ∀ n m, L_doc_Check_1 n (m + 1 + 1 + 1) d0 d0 2 0 = some (ret_doc_Check 0) := fun n m => by
    have r1 : C_doc_CheckRefs F_doc_CheckRefs d0 n1.2.1 [2] = some (ret_doc_CheckRefs 0) := crefs_1
    have r2 : C_doc_CheckRefs F_doc_CheckRefs d0 n2.2.1 [] = some (ret_doc_CheckRefs 0) := crefs_2
    rw [L_doc_Check_1_step, hl, if_pos p0, a0, refs_n1]
    simp only [Option.bind_some, res_doc_Refs_0_ret, r1, res_doc_CheckRefs_0_ret]
    show L_doc_Check_1 n (m + 1 + 1) d0 d0 2 1 = _
    rw [L_doc_Check_1_step, hl, if_pos p1, a1, refs_n2]
    simp only [Option.bind_some, res_doc_Refs_0_ret, r2, res_doc_CheckRefs_0_ret]
    show L_doc_Check_1 n (m + 1) d0 d0 2 2 = _
    rw [L_doc_Check_1_step]; rfl
  obtain ⟨m, hm⟩ := big_succ (n := 2) (by omega)
  have hb : big = m + 1 + 1 + 1 := by omega
  have k1 := k1 big m
  rw [← hb] at k1
  have k0 : ∀ m, L_doc_Check_0 big (m + 1 + 1 + 1) d0 d0 2 0 = some (ret_doc_Check 0) := fun m => by
    rw [L_doc_Check_0_step, hl, if_pos p0, a0, chk_n1]
    simp only [Option.bind_some, res_doc_CheckNode_0_ret]
    show L_doc_Check_0 big (m + 1 + 1) d0 d0 2 1 = _
    rw [L_doc_Check_0_step, hl, if_pos p1, a1, chk_n2, w0, if_pos p0, a0]
    simp only [Option.bind_some, res_doc_CheckNode_0_ret]
    show L_doc_Check_0 big (m + 1) d0 d0 2 2 = _
    rw [L_doc_Check_0_step, hl]
    show L_doc_Check_1 big big d0 d0 2 0 = _
    exact k1
  have k0 := k0 m
  rw [← hb] at k0
  rw [e_doc_Check]
  exact k0
theorem docs_eq : C_law_docs F_law_docs = some (ret_law_docs true) := by
  have hF : C_doc_First F_doc_First = some (ret_doc_First d0) := e_doc_First
  have hE : C_law_end F_law_end = some (ret_law_end (mkE 10 0 [])) := e_law_end
  have hS : C_law_simple F_law_simple [mkE 10 0 []] = some (ret_law_simple d0) := e_law_simple _
  have h := rdoc_eq d0 d0 (by decide) ns_d0
  rw [eqd_self] at h
  rw [e_law_docs, hF, hE]
  simp only [Option.bind_some, res_doc_First_0_ret, res_law_end_0_ret, chk_d0, res_doc_Check_0_ret, hS, res_law_simple_0_ret, h, res_R_SameDoc_0_ret]
  rfl
end Go.Ev.Doc
