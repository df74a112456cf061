/- Operations, part B: moves, new boxes, loads. -/
import Derived.Test.YtphlkpahfcainaaEvOpA
namespace Go.Ev
set_option linter.unusedVariables false
set_option linter.unusedSimpArgs false

theorem addr_add (b o j : Nat) : (⟨b, o, none⟩ : Addr).add j = ⟨b, o + j, none⟩ := by unfold Addr.add; split <;> simp_all

theorem LR_int {σ : St} {w : World} {g : Gh} {k : IntKind} {x : Int} {v : Value} (h : LR σ w g (.val (.int k) x) v) : v = .int k x := by
  simpa [LR, rel] using h
theorem LR_bool {σ : St} {w : World} {g : Gh} {x : Bool} {v : Value} (h : LR σ w g (.val .bool x) v) : v = .bool x := by
  simpa [LR, rel] using h
theorem LR_str {σ : St} {w : World} {g : Gh} {x : List UInt8} {v : Value} (h : LR σ w g (.val .str x) v) : v = .string ⟨x.toArray⟩ := by
  simpa [LR, rel] using h
theorem LR_mkInt (σ : St) (w : World) (g : Gh) (k : IntKind) (x : Int) : LR σ w g (.val (.int k) x) (.int k x) := rfl
theorem LR_mkBool (σ : St) (w : World) (g : Gh) (x : Bool) : LR σ w g (.val .bool x) (.bool x) := rfl
theorem LR_mkStr (σ : St) (w : World) (g : Gh) (x : List UInt8) : LR σ w g (.val .str x) (.string ⟨x.toArray⟩) := rfl

theorem lget_append (ls ms : List Leaf) (i : Nat) : lget (ls ++ ms) i = if i < ls.length then lget ls i else lget ms (i - ls.length) := by
  simp only [lget_eq_getElem?, List.getElem?_append]
  split <;> rfl
theorem getD_append (cs ds : List Value) (i : Nat) : (cs ++ ds).getD i undef = if i < cs.length then cs.getD i undef else ds.getD (i - cs.length) undef := by
  simp only [List.getD_eq_getElem?_getD, List.getElem?_append]
  split <;> rfl
theorem length_explode : ∀ (t : Ty) (x : t.den), (explode t x).length = t.sz
  | .int _, _ => rfl
  | .bool, _ => rfl
  | .str, _ => rfl
  | .list _, _ => rfl
  | .pair a b, x => by simp [explode, Ty.sz, length_explode a x.1, length_explode b x.2]
theorem length_zcells : ∀ (t : Ty), (zcells t).length = t.sz
  | .int _ => rfl
  | .bool => rfl
  | .str => rfl
  | .list _ => rfl
  | .pair a b => by simp [zcells, Ty.sz, length_zcells a, length_zcells b]

/-- The leaves of a plain value tell its cells. -/
theorem LR_explode (σ : St) {w : World} {g : Gh} : ∀ {t : Ty} {x : t.den} {cs : List Value}, rel w g.S t x cs → ∀ i, LR σ w g (lget (explode t x) i) (cs.getD i undef)
  | .int k, x, cs, h, i => by
    simp only [rel] at h; subst h
    cases i <;> first | rfl | trivial
  | .bool, x, cs, h, i => by
    simp only [rel] at h; subst h
    cases i <;> first | rfl | trivial
  | .str, x, cs, h, i => by
    simp only [rel] at h; subst h
    cases i <;> first | rfl | trivial
  | .list e, x, cs, h, i => by
    have hl := rel_len h
    obtain ⟨v, rfl⟩ := List.length_eq_one_iff.1 (show cs.length = 1 from hl)
    cases i with
    | zero => exact h
    | succ i => trivial
  | .pair a b, x, cs, h, i => by
    simp only [rel] at h
    obtain ⟨c1, c2, rfl, h1, h2⟩ := h
    simp only [explode]
    rw [lget_append, getD_append, length_explode, rel_len h1]
    split
    · exact LR_explode σ h1 i
    · exact LR_explode σ h2 _
theorem explode_own (t : Ty) (x : t.den) (i : Nat) : (lget (explode t x) i).isOwn = false := by
  induction t generalizing i with
  | pair a b iha ihb =>
    simp only [explode]
    rw [lget_append]
    split
    · exact iha _ _
    · exact ihb _ _
  | _ => cases i <;> rfl

theorem zeroL_get (σ : St) (w : World) (g : Gh) : ∀ (t : Ty) (i : Nat), LR σ w g (lget (zeroL t) i) ((zcells t).getD i undef) ∧ (lget (zeroL t) i).isOwn = false
  | .int k, i => by cases i <;> exact ⟨by first | rfl | trivial, rfl⟩
  | .bool, i => by cases i <;> exact ⟨by first | rfl | trivial, rfl⟩
  | .str, i => by cases i <;> exact ⟨by first | rfl | trivial, rfl⟩
  | .list e, i => by cases i <;> exact ⟨by first | rfl | trivial, rfl⟩
  | .pair a b, i => by
    have e : zeroL (.pair a b) = zeroL a ++ zeroL b := by simp [zeroL, explode, Ty.zero]
    have l : (zeroL a).length = (zcells a).length := by simp [zeroL, length_explode, length_zcells]
    rw [e, lget_append, show zcells (.pair a b) = zcells a ++ zcells b from rfl, getD_append, l]
    split
    · exact zeroL_get σ w g a i
    · exact zeroL_get σ w g b _
theorem length_zeroL (t : Ty) : (zeroL t).length = t.sz := by simp [zeroL, length_explode]

section
variable {P : Program} {T : TypeId → Option TI} {env : Env} {X : Ctx} {σ : St} {a : Act} {w : World} {g : Gh} {A : Type} {r : A} {k : St → Option A} {K : Act → World → Prop} {Q : Exit → Act → World → Prop}
  {d : Option Tmp} {ty : TypeId} {pos : String} {aft : Array Edge} {gd : Option (Nat × Bool)}

theorem op_move {x : Operand} (h : Rel X σ a w g) (hN : X.N ≤ σ.length) (ho : OpIn X.N ⟨d, .move x, ty, pos, aft, gd⟩) (hk : opK T env ⟨d, .move x, ty, pos, aft, gd⟩ σ k = some r) (hK : Nx X σ.length k r K) :
    Oper.wpS P ⟨d, .move x, ty, pos, aft, gd⟩ a w K := by
  have plain : rdS σ x = .cs (rd σ x).1 (rd σ x).2 → Oper.wpS P ⟨d, .move x, ty, pos, aft, gd⟩ a w K := by
    intro e
    simp only [opK, e] at hk
    exact resA h hN ho (fun _ => rfl) (rd_ok h hN x (ho.ops x (by simp [Op.operands]))) hk hK
  cases x with
  | tmp t =>
    cases hg : gs σ t with
    | tup ks ls =>
      have ht : t < X.N := ho.ops (.tmp t) (by simp [Op.operands]) t rfl
      have hsh := h.sh t (Nat.lt_of_lt_of_le ht hN)
      have hview := fun j => LR_view h t j
      rw [hg] at hsh
      simp only [hg] at hview
      obtain ⟨vs, h1, h2⟩ := hsh
      simp only [opK, rdS, hg] at hk
      refine resS h hN ho (v := a.tmps.getD t undef) (s := .tup ks (view t 0 ls)) (cs := cellsL g t ls.length) (fun _ => rfl) (by simp [cellsL, Slot.leaves]) ?_ rfl (fun i => ?_) (fun i => view_own _ _ _ _) hk hK
      · exact ⟨by simp [cellsL], vs, h1, h2⟩
      · by_cases hi : i < ls.length
        · rw [cellsL_getD _ _ _ _ hi, show (Slot.tup ks (view t 0 ls)).leaves = view t 0 ls from rfl, lget_view]; have := hview i; simp only [Slot.leaves, Nat.zero_add] at this ⊢; exact this
        · rw [show lget (Slot.tup ks (view t 0 ls)).leaves i = .und from lget_of_le (by simpa [Slot.leaves] using hi)]; trivial
    | cs ag ls => exact plain (by simp [rdS, hg])
    | box ls => exact plain (by simp [rdS, hg])
  | _ => exact plain rfl

theorem op_assign {x : Operand} (h : Rel X σ a w g) (hN : X.N ≤ σ.length) (ho : OpIn X.N ⟨d, .assign x, ty, pos, aft, gd⟩) (hk : opK T env ⟨d, .assign x, ty, pos, aft, gd⟩ σ k = some r) (hK : Nx X σ.length k r K) :
    Oper.wpS P ⟨d, .assign x, ty, pos, aft, gd⟩ a w K :=
  resT h hN ho (fun _ => rfl) (rd_ok h hN x (ho.ops x (by simp [Op.operands]))) hk hK

theorem op_pick {c x y : Operand} (h : Rel X σ a w g) (hN : X.N ≤ σ.length) (ho : OpIn X.N ⟨d, .pick c x y, ty, pos, aft, gd⟩) (hk : opK T env ⟨d, .pick c x y, ty, pos, aft, gd⟩ σ k = some r) (hK : Nx X σ.length k r K) :
    Oper.wpS P ⟨d, .pick c x y, ty, pos, aft, gd⟩ a w K := by
  have hc := rd1_ok h hN c (ho.ops c (by simp [Op.operands]))
  have hx := rd1_ok h hN x (ho.ops x (by simp [Op.operands]))
  have hy := rd1_ok h hN y (ho.ops y (by simp [Op.operands]))
  have ox := rd1_own h hN x (ho.ops x (by simp [Op.operands]))
  have oy := rd1_own h hN y (ho.ops y (by simp [Op.operands]))
  simp only [opK] at hk
  split at hk
  · rename_i b hb
    rw [hb] at hc
    have hcv := LR_bool hc
    cases b with
    | true => exact resL h hN ho (by simp [execOp, hcv, asBool]) hx ox hk hK
    | false => exact resL h hN ho (by simp [execOp, hcv, asBool]) hy oy hk hK
  · cases hk

/-- A new box. -/
theorem resBox {o : Oper} (h : Rel X σ a w g) (hN : X.N ≤ σ.length) (ho : OpIn X.N o) {te : TypeId} {cs : List Value} (hrun : (execOp a.eval o).run P w = .ok (.value (.pointer (some ⟨w.heap.size, 0, none⟩))) (w.alloc (.cells cs.toArray te)))
    {ls : List Leaf} (hlen : cs.length = ls.length) (hlf : ∀ i, LR σ w g (lget ls i) (cs.getD i undef)) (hown : ∀ i, (lget ls i).isOwn = false) (hk : k (Ev.wr σ o.dst (.box ls)) = some r) (hK : Nx X σ.length k r K) : o.wp P a w K Q := by
  unfold Oper.wp
  rw [hrun]
  show K (a.put o.dst _) _
  have hb : Go.RowKit.Below w.heap.size w (w.alloc (.cells cs.toArray te)) := (Go.RowKit.Below.refl _ _).alloc (Nat.le_refl _) _
  have h1 := h.below hb
  cases hd : o.dst with
  | none => rw [hd] at hk; exact hK σ a _ g h1 rfl hk
  | some d =>
    rw [hd] at hk
    refine hK _ _ _ _ (h1.wr (ho.dst d hd) hN (s := .box ls) (cs := cs) (nb := w.heap.size) hlen ⟨hlen.symm, rfl, te, heap_alloc_new w _⟩ (fun i => ?_) (fun o1 o2 b e1 e2 => ?_) (fun o' b e1 => ?_)) (by simp) hk
    · exact LR_world (fun b hS => hb.block b (h.sb b hS).1) (fun hx => by have hx' : (lget ls i).isOwn = true := hx; rw [hown i] at hx'; cases hx') (hlf i)
    · have key : ∀ o, nob (.box ls) w.heap.size cs o = some b → o = none := by
        intro o he
        cases o with
        | none => rfl
        | some i => simp only [nob, Slot.leaves, hown i] at he; cases he
      rw [key o1 e1, key o2 e2]
    · cases o' with
      | some i => simp only [nob, Slot.leaves, hown i] at e1; cases e1
      | none =>
        simp [nob, Slot.shp, Shp.isBox] at e1
        subst e1
        refine ⟨fun hs => Nat.lt_irrefl _ (h.sb _ hs).1, by simp, .inl h.grow, fun o' he => ?_⟩
        exact Nat.lt_irrefl _ (h.fr o' _ he).2.1

theorem run_newVar (t : TypeId) (v : Value) : (newVar t v).run P w = .ok ⟨w.heap.size, 0, none⟩ (w.alloc (.cells v.cells t)) := by
  rfl

theorem op_alloc {t : TypeId} (hT : TOk P T) (h : Rel X σ a w g) (hN : X.N ≤ σ.length) (ho : OpIn X.N ⟨d, .alloc t, ty, pos, aft, gd⟩) (hk : opK T env ⟨d, .alloc t, ty, pos, aft, gd⟩ σ k = some r) (hK : Nx X σ.length k r K) :
    Oper.wp P ⟨d, .alloc t, ty, pos, aft, gd⟩ a w K Q := by
  simp only [opK] at hk
  split at hk
  · rename_i ti hti
    obtain ⟨i, z, hi, h1, h2, h3, h4, h5⟩ := hT.info t ti hti
    refine resBox h hN ho (te := t) (cs := zcells ti.ty) ?_ (by rw [length_zcells, length_zeroL]) (fun i => (zeroL_get σ w g ti.ty i).1) (fun i => (zeroL_get σ w g ti.ty i).2) hk hK
    rw [← h4]
    simp [execOp, Instr.alloc, zeroValue, typeInfo, hi, h3, run_newVar]
  · cases hk

theorem LR_one {l : Leaf} {v : Value} (h : LR σ w g l v) (hown : l.isOwn = false) (hk : l.known = true) (hc : ∀ q, l = .al q → (g.c q).oneCell' = true) : v.oneCell' = true := by
  cases l with
  | val t x => exact rel_one h v (by simp)
  | own te e xs => cases hown
  | al q => rw [h.1]; exact hc q rfl
  | nils => rw [h]; rfl
  | ptr b o => rw [h.1]; rfl
  | ept q e i o =>
    obtain ⟨_, gb, n, cap, _, hv⟩ := h
    rw [hv]; rfl
  | vpt t x =>
    obtain ⟨b, o, cs, hv, _⟩ := h
    rw [hv]; rfl
  | clo f bs => rw [h.1]; rfl
  | cst u => rw [h.1]; exact h.2
  | no => cases hk
  | und => cases hk

theorem ownR_one {te : TypeId} {e : Ty} {xs : List e.den} {v : Value} {S : Nat → Prop} (h : ownR w S te e xs v) : v.oneCell' = true := by
  rcases ownR_form h with ⟨rfl, _⟩ | ⟨_, _, _, rfl, _⟩ <;> rfl

/-- A known leaf's value is one cell. -/
theorem Rel.one (h : Rel X σ a w g) {l : Leaf} {v : Value} (hl : LR σ w g l v) (hown : l.isOwn = false) (hk : l.known = true) : v.oneCell' = true :=
  LR_one hl hown hk (fun q e => by
    subst e
    obtain ⟨te, e, xs, hx⟩ := isOwn_iff.1 hl.2
    have := h.lf q
    rw [hx] at this
    exact ownR_one this)

theorem known_all {ls : List Leaf} (h : ls.all Leaf.known = true) {i : Nat} (hi : i < ls.length) : (lget ls i).known = true := by
  rw [lget_eq_getElem?, List.getElem?_eq_getElem hi]
  exact List.all_eq_true.1 h _ (List.getElem_mem hi)

/-- The cells of a known value. -/
theorem Rel.cells (h : Rel X σ a w g) {q : Bool × List Leaf} {v : Value} (hq : ArgR σ w g q v) (hk : q.2.all Leaf.known = true) :
    ∃ cs : List Value, v.cells.toList = cs ∧ cs.length = q.2.length ∧ (∀ i, LR σ w g (lget q.2 i) (cs.getD i undef)) ∧ ∀ u ∈ cs, u.oneCell' = true := by
  obtain ⟨b, ls⟩ := q
  have fin : ∀ cs : List Value, cs.length = ls.length → (∀ i, LR σ w g (lget ls i) (cs.getD i undef)) → ∀ u ∈ cs, u.oneCell' = true := by
    intro cs hl hc u hu
    obtain ⟨i, hi, rfl⟩ := List.getElem_of_mem hu
    have := h.one (hc i) (hq.2.2 i) (known_all (ls := ls) hk (by omega))
    simpa [List.getD_eq_getElem?_getD, hi] using this
  cases b with
  | true =>
    obtain ⟨cs, rfl, h2, h3⟩ := hq.2.1 rfl
    exact ⟨cs, by simp [Value.cells], h2, h3, fin cs h2 h3⟩
  | false =>
    obtain ⟨l, h1, h2⟩ := hq.1 rfl
    simp only at h1
    subst h1
    have h1 := h.one h2 (hq.2.2 0) (known_all hk (i := 0) (by simp))
    have e : v.cells = #[v] := by
      cases v with
      | agg cs => cases h1
      | _ => rfl
    have h3 : ∀ i, LR σ w g (lget [l] i) ([v].getD i undef) := fun i => by
      cases i with
      | zero => exact h2
      | succ i => trivial
    exact ⟨[v], by rw [e], rfl, h3, fin [v] rfl h3⟩

theorem op_box {t : TypeId} {x : Operand} (hT : TOk P T) (h : Rel X σ a w g) (hN : X.N ≤ σ.length) (ho : OpIn X.N ⟨d, .box t x, ty, pos, aft, gd⟩) (hk : opK T env ⟨d, .box t x, ty, pos, aft, gd⟩ σ k = some r) (hK : Nx X σ.length k r K) :
    Oper.wp P ⟨d, .box t x, ty, pos, aft, gd⟩ a w K Q := by
  simp only [opK] at hk
  split at hk
  · rename_i ti hti
    split at hk
    · rename_i hc
      have hq := rd_ok h hN x (ho.ops x (by simp [Op.operands]))
      obtain ⟨cs, h1, h2, h3, _⟩ := h.cells hq hc.2.2
      have hrun : (execOp a.eval ⟨d, .box t x, ty, pos, aft, gd⟩).run P w = .ok (.value (.pointer (some ⟨w.heap.size, 0, none⟩))) (w.alloc (.cells cs.toArray t)) := by
        rw [← h1]
        simp [execOp, Instr.box, run_newVar]
      cases hd : d with
      | none =>
        subst hd
        exact resBox h hN ho hrun h2 h3 hq.2.2 hk hK
      | some d' =>
        subst hd
        exact resBox (k := fun σ1 => k (xfers σ1 d' 0 (rd σ x).2.length)) h hN ho hrun h2 h3 hq.2.2 hk (fun σ' a' w' g' hr hl hk' => hK _ a' w' g' (hr.xfers d' _ _) (by simpa using hl) hk')
    · cases hk
  · cases hk

end
end Go.Ev
