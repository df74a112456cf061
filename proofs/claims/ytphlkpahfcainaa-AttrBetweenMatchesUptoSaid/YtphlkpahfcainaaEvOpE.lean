/- Operations, part E: stores. -/
import Derived.Test.YtphlkpahfcainaaEvOpD
namespace Go.Ev
set_option linter.unusedVariables false
set_option linter.unusedSimpArgs false

theorem LRw_wrP {X : Ctx} {σ : St} {a : Act} {w w' : World} {g : Gh} (h : Rel X σ a w g) {p : Pl} (hp : Vp σ p) (l : Leaf) {u : Value} (hS : ∀ b, g.S b → w'.heap[b]? = w.heap[b]?)
    {l' : Leaf} {v : Value} (hl : LRw σ w g l' v) : LRw (xfer (wrP σ p l) p) w' (wrPG g p u) (killP p l') v := by
  have hbox : ∀ b, isBox σ b → isBox (xfer (wrP σ p l) p) b := fun b hb => by unfold isBox; rw [xfer_shp, wrP_shp]; exact hb
  cases l' with
  | al q =>
    by_cases e : q = p
    · simp [killP, e, LRw, LR]
    · simp only [killP, e, if_false]
      show _ = _
      simp [wrPG, e]; exact hl
  | ptr b o => exact ⟨hl.1, hbox b hl.2⟩
  | ept q e' i o =>
    by_cases e : q = p
    · simp [killP, e, LRw, LR]
    · simp only [killP, e, if_false]; trivial
  | clo f bs => exact ⟨hl.1, fun b hb => hbox b (hl.2 b hb)⟩
  | val t x => exact rel_mono (fun _ h => h) hS hl
  | own te e xs => trivial
  | nils => exact hl
  | vpt t x =>
    obtain ⟨b, o, cs, h1, h2, h3, h4⟩ := hl
    exact ⟨b, o, cs, h1, h2, rel_mono (fun _ h => h) hS h3, fun j u hu => by rw [← h4 j u hu]; exact World.cell?_of_block (hS b h2)⟩
  | cst u => exact hl
  | no => exact hl
  | und => trivial

theorem san_ok {σ : St} {w : World} {g : Gh} {l : Leaf} {v : Value} (h : LRw σ w g l v) (ho : l.isOwn = false) : LR σ w g (san σ l) v ∧ (san σ l).isOwn = false := by
  cases l with
  | al q =>
    simp only [san]
    split
    · rename_i hq; exact ⟨⟨h, hq⟩, rfl⟩
    · exact ⟨trivial, rfl⟩
  | own te e xs => cases ho
  | ept => exact ⟨trivial, rfl⟩
  | _ => exact ⟨h, rfl⟩

section
variable {P : Program} {T : TypeId → Option TI} {env : Env} {X : Ctx} {σ : St} {a : Act} {w : World} {g : Gh} {A : Type} {r : A} {k : St → Option A} {K : Act → World → Prop} {Q : Exit → Act → World → Prop}
  {d : Option Tmp} {ty : TypeId} {pos : String} {aft : Array Edge} {gd : Option (Nat × Bool)}

theorem stL_ok (b : Nat) : ∀ (n : Nat) (ls : List Leaf) (us : List Value) (o j : Nat) {σ : St} {w : World} {g : Gh}, Rel X σ a w g → isBox σ b → o + j + ls.length ≤ (gs σ b).leaves.length → us.length = ls.length → ls.length ≤ n →
    (∀ i, LRw σ w g (lget ls i) (us.getD i undef)) → (∀ i, (lget ls i).isOwn = false) → (∀ u ∈ us, u.oneCell' = true) →
    ∃ w' g', (storeCells ⟨g.blk b, o, none⟩ us j).run P w = .ok () w' ∧ Rel X (stL b n (o + j) ls σ) a w' g' ∧ (stL b n (o + j) ls σ).length = σ.length
  | 0, ls, us, o, j, σ, w, g, h, hb, hlen, hul, hn, hl, ho, h1 => by
    have : ls = [] := List.eq_nil_of_length_eq_zero (by omega)
    subst this
    have : us = [] := List.eq_nil_of_length_eq_zero (by simpa using hul)
    subst this
    exact ⟨w, g, rfl, h, rfl⟩
  | n + 1, [], us, o, j, σ, w, g, h, hb, hlen, hul, hn, hl, ho, h1 => by
    have : us = [] := List.eq_nil_of_length_eq_zero (by simpa using hul)
    subst this
    exact ⟨w, g, rfl, h, rfl⟩
  | n + 1, l :: ls, [], o, j, σ, w, g, h, hb, hlen, hul, hn, hl, ho, h1 => by simp at hul
  | n + 1, l :: ls, u :: us, o, j, σ, w, g, h, hb, hlen, hul, hn, hl, ho, h1 => by
    have hp : Vp σ ⟨b, o + j⟩ := ⟨isBox_lt hb, by simp at hlen ⊢; omega⟩
    obtain ⟨s1, s2⟩ := san_ok (hl 0) (ho 0)
    have hr := h.wrP hp (show isBox σ (Pl.mk b (o + j)).t from hb) (l := san σ l) (u := u) s1 s2
    have hr2 := hr.xfer ⟨b, o + j⟩
    have hcell := box_cell h hb (isBox_lt hb) (i := o + j) hp.2
    have hst : (store ((⟨g.blk b, o, none⟩ : Addr).add j) u).run P w = .ok () (w.setCell ⟨g.blk b, o + j, none⟩ u) := by
      rw [addr_add, run_store P w _ u _ (h1 u (by simp))]
      have hb' : (gs σ b).shp.isBox = true := hb
      have hsh := h.sh b (isBox_lt hb)
      have hfz : w.frozen? ⟨g.blk b, o + j, none⟩ = false := by
        revert hsh hb'
        cases (gs σ b).shp with
        | cs ag n => intro hx _; cases hx
        | tup ks n => intro hx _; cases hx
        | box n =>
          rintro _ ⟨_, te, h2⟩
          exact frozen_of_row w _ _ _ te h2
      simp [hcell, hfz]
    have hbox2 : isBox (xfer (wrP σ ⟨b, o + j⟩ (san σ l)) ⟨b, o + j⟩) b := by unfold isBox; rw [xfer_shp, wrP_shp]; exact hb
    have hS : ∀ b', g.S b' → (w.setCell ⟨g.blk b, o + j, none⟩ u).heap[b']? = w.heap[b']? := fun b' hs => heap_setCell_other w _ b' u (fun e => (h.fr _ _ (box_blk (g := g) hb)).1 (by have e' : b' = g.blk b := e; rw [← e']; exact hs))
    obtain ⟨w', g', r1, r2, r3⟩ := stL_ok b n (ls.map (killP ⟨b, o + j⟩)) us o (j + 1) hr2 hbox2
      (by rw [leaves_len, xfer_shp, wrP_shp, ← leaves_len]; simp at hlen ⊢; omega) (by simpa using hul) (by simp at hn ⊢; omega)
      (fun i => by
        rw [lget_map _ rfl]
        exact LRw_wrP h hp _ hS (hl (i + 1)))
      (fun i => by rw [lget_map _ rfl, isOwn_killP]; exact ho (i + 1)) (fun v hv => h1 v (by simp [hv]))
    refine ⟨w', g', ?_, ?_, ?_⟩
    · simp only [storeCells, Sem.run_bind, hst, Result.andThen_ok]
      exact r1
    · exact r2
    · exact r3.trans (by simp)

theorem lget_setAt : ∀ (xs ls : List Leaf) (o i : Nat), o + xs.length ≤ ls.length → lget (setAt ls o xs) i = if o ≤ i ∧ i < o + xs.length then lget xs (i - o) else lget ls i
  | [], ls, o, i, _ => by
    simp only [setAt, List.length_nil, Nat.add_zero]
    rw [if_neg (by omega)]
  | x :: xs, ls, o, i, h => by
    simp only [setAt, List.length_cons] at h ⊢
    rw [lget_setAt xs (lset ls o x) (o + 1) i (by simp; omega)]
    by_cases h1 : o + 1 ≤ i ∧ i < o + 1 + xs.length
    · rw [if_pos h1, if_pos (by omega), show i - o = (i - (o + 1)) + 1 from by omega]
      rfl
    · rw [if_neg h1, lget_lset]
      by_cases h2 : o = i
      · subst h2
        rw [if_pos ⟨rfl, by omega⟩, if_pos (by omega), Nat.sub_self]
        rfl
      · rw [if_neg (by intro e; exact h2 e.1), if_neg (by omega)]
@[simp] theorem length_setAt : ∀ (xs ls : List Leaf) (o : Nat), (setAt ls o xs).length = ls.length
  | [], _, _ => rfl
  | x :: xs, ls, o => by rw [setAt, length_setAt xs]; simp

/-- An element with some leaves replaced. -/
theorem upd_ok {S : Nat → Prop} {e : Ty} {x v : e.den} {o : Nat} {ls : List Leaf} {c us : List Value} (h : upd e x o ls = some v) (hc : rel w S e x c) (hlen : o + ls.length ≤ e.sz) (hul : us.length = ls.length) (hl : ∀ i, LRz w S (lget ls i) (us.getD i undef)) :
    rel w S e v (c.take o ++ us ++ c.drop (o + us.length)) := by
  have hcl := rel_len hc
  refine implode_ok h (by simp; omega) (fun i hi => ?_)
  rw [lget_setAt ls _ o i (by rw [length_explode]; omega)]
  have he : LRz w S (lget (explode e x) i) (c.getD i undef) := by
    have := LR_explode (σ := []) (w := w) (g := ⟨S, fun _ => undef, fun _ => 0⟩) hc i
    exact LRz_of (LRw_of this)
  by_cases h1 : o ≤ i ∧ i < o + ls.length
  · rw [if_pos h1]
    have := hl (i - o)
    have e1 : (c.take o ++ us ++ c.drop (o + us.length)).getD i undef = us.getD (i - o) undef := by
      simp only [List.getD_eq_getElem?_getD]
      rw [List.append_assoc, List.getElem?_append_right (by simp; omega), List.getElem?_append_left (by simp; omega)]
      congr 2
      simp; omega
    rw [e1]; exact this
  · rw [if_neg h1]
    have e1 : (c.take o ++ us ++ c.drop (o + us.length)).getD i undef = c.getD i undef := by
      simp only [List.getD_eq_getElem?_getD]
      by_cases h2 : i < o
      · rw [List.append_assoc, List.getElem?_append_left (by simp; omega), List.getElem?_take, if_pos h2]
      · rw [List.getElem?_append_right (by simp; omega), List.getElem?_drop]
        congr 2
        simp; omega
    rw [e1]; exact he

theorem seg (L c us : List Value) (I s o N : Nat) (hc : ∀ j, j < s → L[I + j]? = c[j]?) (hcl : c.length = s) (ho : o + us.length ≤ s) (h1 : I + s ≤ N) (h2 : N ≤ L.length) :
    (L.take (I + o) ++ us ++ L.drop (I + o + us.length)).take N = (L.take N).take I ++ (c.take o ++ us ++ c.drop (o + us.length)) ++ (L.take N).drop (I + s) := by
  have ec : c = (L.drop I).take s := by
    apply List.ext_getElem?
    intro j
    rw [List.getElem?_take, List.getElem?_drop]
    split
    · rename_i hj; exact (hc j hj).symm
    · rw [List.getElem?_eq_none (by omega)]
  subst ec
  have a1 : L.take (I + o) = L.take I ++ (L.drop I).take o := List.take_add
  have a2 : (L.take N).take I = L.take I := by rw [List.take_take]; congr 1; omega
  have a3 : ((L.drop I).take s).take o = (L.drop I).take o := by rw [List.take_take]; congr 1; omega
  have a4 : ((L.drop I).take s).drop (o + us.length) = (L.drop (I + o + us.length)).take (s - (o + us.length)) := by
    rw [List.drop_take, List.drop_drop]; congr 2; omega
  have a5 : (L.take N).drop (I + s) = (L.drop (I + s)).take (N - (I + s)) := by rw [List.drop_take]
  have a6 : (L.drop (I + o + us.length)).take (N - (I + o + us.length)) = (L.drop (I + o + us.length)).take (s - (o + us.length)) ++ (L.drop (I + s)).take (N - (I + s)) := by
    rw [show N - (I + o + us.length) = (s - (o + us.length)) + (N - (I + s)) from by omega, List.take_add, List.drop_drop]
    congr 3; omega
  rw [a2, a3, a4, a5, List.take_append, List.take_of_length_le (by simp; omega), a1]
  have hl : (L.take I ++ (L.drop I).take o ++ us).length = I + o + us.length := by simp; omega
  rw [hl, a6]
  simp

theorem op_store {t : TypeId} {x y : Operand} (hT : TOk P T) (h : Rel X σ a w g) (hN : X.N ≤ σ.length) (ho : OpIn X.N ⟨d, .store t x y, ty, pos, aft, gd⟩) (hk : opK T env ⟨d, .store t x y, ty, pos, aft, gd⟩ σ k = some r) (hK : Nx X σ.length k r K) :
    Oper.wp P ⟨d, .store t x y, ty, pos, aft, gd⟩ a w K Q := by
  have hx := rd1_ok h hN x (ho.ops x (by simp [Op.operands]))
  have hy := rd_ok h hN y (ho.ops y (by simp [Op.operands]))
  simp only [opK] at hk
  cases d with
  | some d' => cases hk
  | none =>
  simp only [Option.isSome, if_false, Bool.false_eq_true] at hk
  cases hti : T t with
  | none => rw [hti] at hk; cases hk
  | some ti =>
  rw [hti] at hk
  simp only at hk
  have fin : ∀ w' σ' g', (execOp a.eval ⟨none, .store t x y, ty, pos, aft, gd⟩).run P w = .ok .skip w' → Rel X σ' a w' g' → σ'.length = σ.length → k σ' = some r → Oper.wp P ⟨none, .store t x y, ty, pos, aft, gd⟩ a w K Q := by
    intro w' σ' g' hrun hr hl hk'
    unfold Oper.wp
    rw [hrun]
    exact hK σ' a w' g' hr hl hk'
  have run : ∀ (b o : Nat) (us : List Value) w', a.eval x = .pointer (some ⟨b, o, none⟩) → (a.eval y).cells.toList = us → us.length = ti.ty.sz → (storeCells ⟨b, o, none⟩ us 0).run P w = .ok () w' →
      (execOp a.eval ⟨none, .store t x y, ty, pos, aft, gd⟩).run P w = .ok .skip w' := by
    intro b o us w' hv hu hl hs
    have hsz : (a.eval y).cells.size = ti.ty.sz := by rw [← hl, ← hu]; simp
    have e1 : (storeVar t ⟨b, o, none⟩ (a.eval y)).run P w = .ok () w' := by
      simp only [storeVar, Sem.run_bind, hT.sizeOf hti, Result.andThen_ok, hsz, ne_eq, not_true_eq_false, if_false, hu]
      exact hs
    simp [execOp, Instr.storeAt, hv, Instr.sureAddr, e1]
  generalize rd1 σ x = l at hx hk
  cases l with
  | ptr b o =>
    simp only at hk
    split at hk
    · rename_i hc
      obtain ⟨c1, c2, c3, c4⟩ := hc
      obtain ⟨us, u1, u2, u3, u4⟩ := h.cells hy c3
      obtain ⟨hv, hb⟩ := hx
      obtain ⟨w', g', r1, r2, r3⟩ := stL_ok (P := P) b (rd σ y).2.length (rd σ y).2 us o 0 h hb (by omega) u2 (Nat.le_refl _) (fun i => LRw_of (u3 i)) hy.2.2 u4
      exact fin w' _ g' (run _ _ us w' hv u1 (by omega) r1) r2 r3 hk
    · cases hk
  | ept p e i o =>
    simp only at hk
    split at hk
    · rename_i hc
      obtain ⟨c1, c2, c3, c4⟩ := hc
      obtain ⟨us, u1, u2, u3, u4⟩ := h.cells hy c3
      obtain ⟨g1, f1, z1, z2⟩ := freezeL_ok (rd σ y).2 (fun i => us.getD i undef) h (fun i => LRw_of (u3 i))
      split at hk
      rotate_left
      · cases hk
      rename_i te e' xs hg
      split at hk
      rotate_left
      · cases hk
      rename_i he
      subst he
      split at hk
      rotate_left
      · cases hk
      rename_i v hv
      simp only at hv hk
      obtain ⟨⟨te0, xs0, x1, x2, x3⟩, gb, n, cap, x4, x5⟩ := hx
      have hg0 := f1.own _ _ _ _ hg
      rw [x1] at hg0
      injection hg0 with _ _ hg0
      subst hg0
      have hp := f1.rel.lf p
      rw [hg, f1.c, x4] at hp
      rcases ownR_form hp with ⟨hz, _⟩ | ⟨g', cap', cur, hz, y1, y2, y3, y4, y5⟩
      · cases hz
      simp only [Value.slice.injEq, Option.some.injEq, Addr.mk.injEq, and_true] at hz
      obtain ⟨rfl, rfl, rfl⟩ := hz
      have hi : i.toNat < xs0.length := by omega
      obtain ⟨c, b1, b2⟩ := rows_get y5 i.toNat (at_ xs0 i) (by simp [at_, List.getD_eq_getElem?_getD, hi])
      have hcl := rel_len b1
      have hu := upd_ok hv b1 (by omega) (by omega) z1
      have hset := rows_set y5 i.toNat v _ hi hu
      have hfit : i.toNat * e'.sz + e'.sz ≤ xs0.length * e'.sz := by
        have := Nat.mul_le_mul_right e'.sz (show i.toNat + 1 ≤ xs0.length from hi)
        rw [Nat.add_mul] at this; omega
      have hcap : xs0.length * e'.sz ≤ cap * e'.sz := Nat.mul_le_mul_right _ y2
      have hst := run_storeCells_at P gb (i.toNat * e'.sz + o) te us 0 cur w y1 (by omega) u4
      simp only [Nat.add_zero] at hst
      have hvs : ∀ j, j < xs0.length * e'.sz → (cur.toList.take (xs0.length * e'.sz))[j]? = cur.toList[j]? := fun j hj => by rw [List.getElem?_take, if_pos hj]
      have hcc : ∀ j, j < e'.sz → cur.toList[i.toNat * e'.sz + j]? = c[j]? := fun j hj => by
        have := b2 j (c[j]'(by omega)) (List.getElem?_eq_getElem (by omega))
        rw [hvs _ (by omega)] at this
        rw [this, List.getElem?_eq_getElem (by omega)]
      refine fin _ _ g1 (run _ _ us _ x5 u1 (by omega) hst) (f1.rel.setOwn (te' := te) (xs' := xs0.set i.toNat v) hg (by simp) (fun k' hk' => setRow_other w gb k' _ (fun e1 => hk' (by rw [f1.c, x4]; simp [Value.ownBlock, e1]))) rfl rfl rfl (by simp) ?_) (by simpa using f1.len) hk
      rw [f1.c, x4]
      have hS : ∀ b, g1.S b → (w.setRow gb (cur.toList.take (i.toNat * e'.sz + o) ++ us ++ cur.toList.drop (i.toNat * e'.sz + o + us.length)).toArray).heap[b]? = w.heap[b]? := fun b hb => setRow_other w gb b _ (fun e1 => by
        subst e1
        exact (f1.rel.fr _ _ (ownBlock_blk (p := p) (by rw [hg]; rfl) (show (g1.c p).ownBlock = some b by rw [f1.c, x4]; rfl))).1 hb)
      refine ⟨_, rows_mono (fun _ h => h) hS hset, ?_⟩
      rw [List.length_set]
      refine ⟨by simp; omega, .inr ⟨gb, cap, _, rfl, Nat.zero_le _, setRow_heap w gb cur _ te _ y1, y2, y3, by simp; omega, ?_⟩⟩
      have := seg cur.toList c us (i.toNat * e'.sz) e'.sz o (xs0.length * e'.sz) hcc hcl (by omega) hfit (by simp; omega)
      simpa using this
    · cases hk
  | _ => cases hk

end
end Go.Ev
