
import Derived.Test.YteojfhgljknmiaaDoorPDocs
import Derived.Test.YteojfhgljknmiaaDoorGDocN
namespace Go.Ev.Doc
open Go.Ev Go.Ev.Attr Go.Ev.Track Go.Ev.Delta
set_option linter.unusedVariables false
set_option linter.unusedSimpArgs false
theorem ns_bulk (n : Node) (h : YNode.bulk n ≤ 1048576) : Ns n := by
  have e : YNode.bulk n = 1 + (1 + ((Ty.list YAttr).bulk (na n) + ((Ty.list YElem).bulk (nf n) + ((1 + (1 + ((Ty.list YCell).bulk (gc (ng n)) + (Ty.list YRect).bulk (gm (ng n))))) + (Ty.list YDrawOp).bulk (nd n))))) := rfl
  have h1 := bulk_len (e := YCell) (gc (ng n))
  have h2 := bulk_len (e := YRect) (gm (ng n))
  have h3 := bulk_len (e := YDrawOp) (nd n)
  have hc : ∀ c ∈ gc (ng n), Sh (ca c) ∧ (c.2.2.1 : List UInt8).length ≤ 1048576 := fun c hc => by
    have := bulk_mem (e := YCell) (gc (ng n)) c hc
    have e2 : YCell.bulk c = 1 + (1 + ((c.2.2.1 : List UInt8).length + 1 + (1 + (Ty.list YAttr).bulk (ca c)))) := rfl
    exact ⟨sh_of _ (by omega), by omega⟩
  exact ⟨sh_of _ (by omega), fs_bulk (by omega), ⟨by omega, by omega, fun c h => (hc c h).1, fun c h => (hc c h).2⟩, by omega⟩
theorem doc_bulk (d : Doc) (h : (Ty.list YNode).bulk d ≤ 1048576) : d.length ≤ 1048576 ∧ ∀ n ∈ d, Ns n := by
  have h1 := bulk_len (e := YNode) d
  exact ⟨by omega, fun n hn => ns_bulk n (by have := bulk_mem (e := YNode) d n hn; omega)⟩
theorem set_same {e : Ty} (l : List e.den) {i : Nat} (h : i < l.length) : List.set l i (at_ l (i : Int)) = l := by
  rw [at_get l i h]
  exact List.set_getElem_self h
theorem copyn_eq (n : Node) (hn : Ns n) : C_doc_CopyNode F_doc_CopyNode n = some (ret_doc_CopyNode n) := by
  have e1 : n.2.2.1 = na n := rfl
  have e2 : n.2.2.2.1 = nf n := rfl
  have e3 : n.2.2.2.2.1.2.2.1 = gc (ng n) := rfl
  have e4 : n.2.2.2.2.1.2.2.2 = gm (ng n) := rfl
  have e5 : n.2.2.2.2.2 = nd n := rfl
  have b1 : List.length (na n : List YAttr.den) * 32 ≤ 140737488355328 := by have := hn.a.1; omega
  have b2 : List.length (nd n : List YDrawOp.den) * 88 ≤ 140737488355328 := by have := hn.d; omega
  have b3 : List.length (gm (ng n) : List YRect.den) * 32 ≤ 140737488355328 := by have := hn.g.m; omega
  have b4 : List.length (gc (ng n) : List YCell.den) * 64 ≤ 140737488355328 := by have := hn.g.c; omega
  have hl := hn.g.c
  rw [e_doc_CopyNode, e1, e2, e3, e4, e5, if_pos b1, copy_eq _ hn.f.1 (fun i => (hn.f.2 i).1), Option.bind_some, if_pos b2, if_pos b3, if_pos b4, res_flow_Copy_0_ret]
  have q := range_all (gc (ng n)) (by omega) (fun m (s : Unit) i => L_doc_CopyNode_0 big m n.1 n.2.1 (na n) (nf n) n.2.2.2.2.1.1 n.2.2.2.2.1.2.1 (gc (ng n)) (gm (ng n)) (nd n) 0 0 0 0 n.2.2.2.2.1.1 n.2.2.2.2.1.2.1 (gc (ng n)) (gm (ng n)) ((gc (ng n)).length : Int) (i : Int)) (fun s _ => .inl ()) (fun _ => ret_doc_CopyNode n) (fun _ _ => True)
    (fun m i s hi _ => by
      rw [hop_inl]
      have hc : ∀ k : Int, k = (i : Int) → List.length ((at_ (e := YCell) (gc (ng n)) k).2.2.2.2 : List YAttr.den) * 32 ≤ 140737488355328 := fun k hk => by
        subst hk
        have := (hn.g.a (at_ (e := YCell) (gc (ng n)) (i : Int)) (by rw [at_get (e := YCell) _ i hi]; exact List.getElem_mem hi)).1
        have e : (at_ (e := YCell) (gc (ng n)) (i : Int)).2.2.2.2 = ca (at_ (e := YCell) (gc (ng n)) (i : Int)) := rfl
        rw [e]; omega
      refine ⟨trivial, ?_⟩
      rw [L_doc_CopyNode_0_step, dlt hi, bT, if_pos ((inb i _).2 hi), if_pos (hc _ rfl), if_pos ((inb i _).2 hi), Int.toNat_natCast, set_same (e := YCell) _ hi, wsucc hi (by omega)])
    (fun m s _ => by
      show L_doc_CopyNode_0 big (m + 1) n.1 n.2.1 (na n) (nf n) n.2.2.2.2.1.1 n.2.2.2.2.1.2.1 (gc (ng n)) (gm (ng n)) (nd n) 0 0 0 0 n.2.2.2.2.1.1 n.2.2.2.2.1.2.1 (gc (ng n)) (gm (ng n)) ((gc (ng n)).length : Int) ((gc (ng n)).length : Int) = _
      rw [L_doc_CopyNode_0_step, dlt_self]
      rfl) () trivial
  have q2 : foldO (S := Unit) (α := YCell.den) (fun _ _ => .inl ()) (fun _ => ret_doc_CopyNode n) () (gc (ng n)) = ret_doc_CopyNode n := by
    generalize gc (ng n) = l
    induction l with
    | nil => rfl
    | cons x l ih => rw [foldO]; exact ih
  rw [q2] at q
  exact q
def nz : Node := (0, (0, ([], ([], (z0, [])))))
theorem find_both (d : Doc) (hl : d.length ≤ 1048576) (hd : ∀ n ∈ d, Ns n) (id : Int) (n : Nat) : ∀ (r i m : Nat), i + r = d.length → r < m →
    (L_R_Find_0 n m id d (d.length : Int) (i : Int) = some (ret_R_Find (-1)) ∧ L_doc_Node_0 n m id 0 0 0 0 d (d.length : Int) (i : Int) = some (ret_doc_Node nz false)) ∨
    (∃ k, ∃ h : k < d.length, L_R_Find_0 n m id d (d.length : Int) (i : Int) = some (ret_R_Find (k : Int)) ∧ L_doc_Node_0 n m id 0 0 0 0 d (d.length : Int) (i : Int) = some (ret_doc_Node d[k] true)) := by
  intro r
  induction r with
  | zero =>
    intro i m hi hm
    obtain ⟨m, rfl⟩ : ∃ q, m = q + 1 := ⟨m - 1, by omega⟩
    obtain rfl : i = d.length := by omega
    left
    rw [L_R_Find_0_step, L_doc_Node_0_step, dlt_self]
    exact ⟨rfl, rfl⟩
  | succ r ih =>
    intro i m hi hm
    obtain ⟨m, rfl⟩ : ∃ q, m = q + 1 := ⟨m - 1, by omega⟩
    have h1 : i < d.length := by omega
    have p := (inb i d.length).2 h1
    rw [L_R_Find_0_step, L_doc_Node_0_step, dlt h1, bT, bT, if_pos p, if_pos p, at_get (e := YNode) d i h1, wsucc h1 (by omega), copyn_eq _ (hd _ (List.getElem_mem h1))]
    cases hq : ((d[i] : Node).1 == id)
    · simp only [bF]
      exact ih (i + 1) m (by omega) (by omega)
    · right
      exact ⟨i, h1, rfl, rfl⟩
theorem site_eq (id : Int) (h0 : 0 ≤ id) (h1 : id < 9223372036854775808) : shrI .i64 id 16 = IntKind.i64.wrap (Int.tdiv id 65536) := by
  have e : shrI .i64 id 16 = id.fdiv 65536 := rfl
  rw [e, Int.fdiv_eq_ediv_of_nonneg id (by decide), Int.tdiv_eq_ediv_of_nonneg h0, w64 (by omega) (by omega)]
theorem law_DocNode (d o : Doc) (id : Int) (o0 : YDoc.ok d) (o1 : YDoc.ok o) (o2 : (Ty.int .i64).ok id)
    (hb : YDoc.bulk d + YDoc.bulk o + (Ty.int .i64).bulk id ≤ 1048576) : F_law_DocNodeMatches (d, o, id, ()) () = some (ret_law_DocNodeMatches true) := by
  show C_law_DocNodeMatches F_law_DocNodeMatches d o id = _
  obtain ⟨hl, hd⟩ := doc_bulk d (by have : YDoc.bulk d = (Ty.list YNode).bulk d := rfl; omega)
  obtain ⟨i1, i2⟩ := ok_int o2
  have key : ∀ s : Bool, s = decide (id < 0) → (bcond (s == false) ((C_doc_Site F_doc_Site id).bind fun r7 => if (65536 : Int) = 0 then none else some (ret_law_DocNodeMatches (((res_doc_Site_0 r7) : Int) == (IntKind.i64.wrap (Int.tdiv id 65536))))) (some (ret_law_DocNodeMatches true))) = some (ret_law_DocNodeMatches true) := fun s hs => by
    cases s with
    | true => rfl
    | false =>
      have : 0 ≤ id := by
        have := of_decide_eq_false hs.symm
        omega
      rw [e_doc_Site, Option.bind_some, res_doc_Site_0_ret, if_neg (by decide), site_eq id this i2]
      simp [bcond]
  rw [e_law_DocNodeMatches, docs_eq, doc_eq d o hl hd, rdoc_eq d o hl hd, e_doc_Node, e_R_Find]
  simp only [Option.bind_some, res_law_docs_0_ret, res_doc_Same_0_ret, res_R_SameDoc_0_ret, bne_self_eq_false, Bool.not_true, beq_self_eq_true, bT, bF]
  rcases find_both d hl hd id big d.length 0 big (by omega) (big_ge (n := d.length + 1) (by omega)) with ⟨h1, h2⟩ | ⟨k, hk, h1, h2⟩
  · have h1' : L_R_Find_0 big big id d (d.length : Int) 0 = _ := h1
    have h2' : L_doc_Node_0 big big id 0 0 0 0 d (d.length : Int) 0 = _ := h2
    have hs : C_R_SameNode F_R_SameNode nz (0, (0, ([], ([], ((0, (0, ([], []))), []))))) = some (ret_R_SameNode true) := by
      rw [rnode_eq nz _ ⟨sh_nil, fs_nil, gs_z0, by decide⟩, (eqd_iff nz (0, (0, ([], ([], ((0, (0, ([], []))), [])))))).2 rfl]
    rw [h1', h2']
    simp only [Option.bind_some, res_doc_Node_0_ret, res_doc_Node_1_ret, hs, res_R_SameNode_0_ret, beq_self_eq_true, bT, bF, Bool.not_true]
    have q : decide (res_R_Find_0 (ret_R_Find (-1)) < 0) = true := rfl
    rw [q, bT]
    exact key _ rfl
  · have h1' : L_R_Find_0 big big id d (d.length : Int) 0 = _ := h1
    have h2' : L_doc_Node_0 big big id 0 0 0 0 d (d.length : Int) 0 = _ := h2
    have hs : C_R_SameNode F_R_SameNode d[k] d[k] = some (ret_R_SameNode true) := by
      rw [rnode_eq _ _ (hd _ (List.getElem_mem hk)), eqd_self]
    have q : decide (res_R_Find_0 (ret_R_Find (k : Int)) < 0) = false := decide_eq_false (by rw [res_R_Find_0_ret]; omega)
    rw [h1', h2']
    simp only [Option.bind_some, res_doc_Node_0_ret, res_doc_Node_1_ret, q, bF, Bool.not_true, beq_self_eq_true, bT, res_R_Find_0_ret, if_pos ((inb k d.length).2 hk), at_get (e := YNode) d k hk, hs, res_R_SameNode_0_ret]
    exact key _ rfl
end Go.Ev.Doc
