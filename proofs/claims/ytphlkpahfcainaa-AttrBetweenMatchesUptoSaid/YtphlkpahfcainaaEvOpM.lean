/- Operations, part M: a row is made longer. -/
import Derived.Test.YtphlkpahfcainaaEvOpL
import Derived.Maps.AppendAt
namespace Go.Ev
set_option linter.unusedVariables false
set_option linter.unusedSimpArgs false

section
variable {P : Program} {T : TypeId → Option TI} {env : Env} {X : Ctx} {σ : St} {a : Act} {w : World} {g : Gh} {A : Type} {r : A} {k : St → Option A} {K : Act → World → Prop} {Q : Exit → Act → World → Prop}
  {d : Option Tmp} {ty : TypeId} {pos : String} {aft : Array Edge} {gd : Option (Nat × Bool)}

/-- A row that can be read: its cells. -/
def srcR (w : World) (S : Nat → Prop) (e : Ty) (ys : List e.den) (v : Value) : Prop :=
  ∃ A c, v = .slice A ys.length c ∧ ∃ us, rows w S e ys us ∧ (ys = [] ∨ ∃ b o, A = some ⟨b, o, none⟩ ∧ ∀ j u, us[j]? = some u → w.cell? ⟨b, o + j, none⟩ = some u)

theorem rows_of_cells {S : Nat → Prop} {e : Ty} {b : Nat} : ∀ (xs : List e.den) (o : Nat), (∀ (i : Nat) (x : e.den), xs[i]? = some x → ∃ c, rel w S e x c ∧ ∀ j u, c[j]? = some u → w.cell? ⟨b, o + (i * e.sz + j), none⟩ = some u) →
    ∃ us, rows w S e xs us ∧ ∀ j u, us[j]? = some u → w.cell? ⟨b, o + j, none⟩ = some u
  | [], o, _ => ⟨[], rfl, fun j u h => by simp at h⟩
  | x :: xs, o, h => by
    obtain ⟨c, c1, c2⟩ := h 0 x rfl
    obtain ⟨us, u1, u2⟩ := rows_of_cells xs (o + e.sz) (fun i y hy => by
      obtain ⟨c, c1, c2⟩ := h (i + 1) y hy
      refine ⟨c, c1, fun j u hu => ?_⟩
      have := c2 j u hu
      rw [Nat.add_mul] at this
      rw [← this]
      congr 2
      omega)
    refine ⟨c ++ us, ⟨c, us, rfl, c1, u1⟩, fun j u hu => ?_⟩
    by_cases hj : j < c.length
    · rw [List.getElem?_append_left hj] at hu
      have := c2 j u hu
      simpa using this
    · rw [List.getElem?_append_right (by omega)] at hu
      have := u2 _ u hu
      rw [rel_len c1] at this
      rw [← this]
      congr 2
      rw [rel_len c1] at hj
      omega

theorem rowOf_ok (h : Rel X σ a w g) {e : Ty} {l : Leaf} {ys : List e.den} (hr : rowOf σ e l = some ys) {v : Value} (hl : LR σ w g l v) : srcR w g.S e ys v := by
  cases l with
  | val t x =>
    cases t with
    | list e' =>
      simp only [rowOf] at hr
      split at hr
      · rename_i he
        subst he
        injection hr with hr
        subst hr
        simp only [LR, rel] at hl
        obtain ⟨A, cap, hv, hc, hx⟩ := hl
        injection hv with hv _
        by_cases h0 : x = []
        · subst h0
          exact ⟨A, cap, hv, [], rfl, .inl rfl⟩
        · obtain ⟨b, o, hA, _, hcell⟩ := hx.resolve_left h0
          obtain ⟨us, u1, u2⟩ := rows_of_cells x o hcell
          exact ⟨A, cap, hv, us, u1, .inr ⟨b, o, hA, u2⟩⟩
      · cases hr
    | _ => simp [rowOf] at hr
  | nils =>
    simp only [rowOf, Option.some.injEq] at hr
    subst hr
    exact ⟨none, 0, hl, [], rfl, .inl rfl⟩
  | al p =>
    simp only [rowOf] at hr
    split at hr
    rotate_left
    · cases hr
    rename_i te e' xs hg
    split at hr
    rotate_left
    · cases hr
    rename_i he
    subst he
    injection hr with hr
    subst hr
    have hp := h.lf p
    rw [hg] at hp
    rw [hl.1]
    rcases ownR_form hp with ⟨hv, rfl⟩ | ⟨gb, cap, cur, hv, y1, y2, y3, y4, y5⟩
    · exact ⟨none, 0, hv, [], rfl, .inl rfl⟩
    · refine ⟨_, _, hv, _, y5, .inr ⟨gb, 0, rfl, fun j u hu => ?_⟩⟩
      rw [List.getElem?_take] at hu
      split at hu
      · rw [Nat.zero_add, cell_of_row w gb _ cur te (0, 0) y1]
        simpa using hu
      · cases hu
  | _ => simp [rowOf] at hr

theorem run_append_empty (t ty e : TypeId) (i : TypeInfo) (size : Nat) (ht : P.underlying t = some (.slice e)) (hi : P.info? e = some i)
    (v : Value) (n : Nat) (xs : List Value) (hown : w.ownsRow 0 e size v n xs) (c : Nat) :
    (Builtin.append_ #[t, t] ty #[v, .slice none 0 c]).run P w = .ok v w := by
  rcases hown.2 with ⟨rfl, rfl⟩ | ⟨g, cap, cur, rfl, _, _, hnc, _⟩
  · simp [Builtin.append_, run_underlying ht, sizeOf, typeInfo, hi, Builtin.lenOf, Builtin.firstCells]
  · simp [Builtin.append_, run_underlying ht, sizeOf, typeInfo, hi, Builtin.lenOf, Builtin.firstCells, hnc, storeCells]

theorem append_ok (hT : TOk P T) {S : Nat → Prop} {t : TypeId} {ti ei : TI} (hu : P.underlying t = some (.slice ti.el)) (hei : T ti.el = some ei) (hby : 0 < ei.bytes) {v y : Value} {xs ys : List ei.ty.den} (hx : ownR w S ti.el ei.ty xs v) (hy : srcR w S ei.ty ys y)
    (hS : ∀ b, S b → v.ownBlock ≠ some b ∧ b < w.heap.size) (hlen : (xs.length + ys.length) * ei.bytes ≤ 140737488355328) :
    ∃ v' w', (Builtin.append_ #[t, t] ty #[v, y]).run P w = .ok v' w' ∧ w.grownBy w' v.ownBlock ∧ ownR w' S ti.el ei.ty (xs ++ ys) v' ∧ (v'.ownBlock = v.ownBlock ∨ v'.ownBlock = some w.heap.size) := by
  obtain ⟨i, z, hi, q1, q2, q3, q4, q5⟩ := hT.info ti.el ei hei
  have hp := sz_pos ei.ty
  obtain ⟨vs, r1, hown⟩ := hx
  obtain ⟨A, c, rfl, us, u1, u2⟩ := hy
  have hzs : z.cells.size = ei.ty.sz := by
    have : z.cells.toList.length = ei.ty.sz := by rw [q4, length_zcells]
    simpa using this
  have hm : xs.length + ys.length ≤ maxLen := by
    have : xs.length + ys.length ≤ (xs.length + ys.length) * ei.bytes := Nat.le_mul_of_pos_right _ hby
    simp only [maxLen]; omega
  have hcell : A = none ∧ ys = [] ∨ ∃ a0, A = some a0 ∧ ∀ j u, us[j]? = some u → w.cell? (a0.add j) = some u := by
    rcases u2 with h0 | ⟨b, o, rfl, hc⟩
    · subst h0
      simp only [rows] at u1
      subst u1
      cases A with
      | none => exact .inl ⟨rfl, rfl⟩
      | some a0 => exact .inr ⟨a0, rfl, fun j u hu => by simp at hu⟩
    · exact .inr ⟨_, rfl, fun j u hu => by rw [addr_add]; exact hc j u hu⟩
  rcases hcell with ⟨rfl, rfl⟩ | ⟨a0, rfl, hc⟩
  · refine ⟨v, w, run_append_empty t ty ti.el i _ hu hi v _ vs hown c, ⟨rfl, rfl, rfl, Nat.le_refl _, fun _ _ _ => rfl⟩, ?_, .inl rfl⟩
    rw [List.append_nil]
    exact ⟨vs, r1, hown⟩
  · obtain ⟨v', w', e1, e2, e3, _, e5⟩ := run_append_own_at (P := P) w 0 t ty ti.el i z ei.ty.sz ei.bytes hu hi q3 q1 q2 hzs hp v xs.length vs hown a0 ys.length c us (rows_len u1) hc (rows_one u1) hm hlen (Nat.zero_le _)
    have hSw : ∀ b, S b → w'.heap[b]? = w.heap[b]? := fun b hb => e3.block b (hS b hb).2 (fun e => (hS b hb).1 e.symm)
    refine ⟨v', w', e1, e3, ⟨vs ++ us, rows_append (rows_mono (fun _ h => h) hSw r1) (rows_mono (fun _ h => h) hSw u1), ?_⟩, e5⟩
    rw [List.length_append]
    exact e2

/-- The row is made longer, and lies in the slot. -/
theorem app_fin (hT : TOk P T) {o : Oper} (h : Rel X σ a w g) (hN : X.N ≤ σ.length) (ho : OpIn X.N o) {t ty : TypeId} {ti ei : TI} (hu : P.underlying t = some (.slice ti.el)) (hei : T ti.el = some ei) (hby : 0 < ei.bytes) {v y : Value} {xs ys : List ei.ty.den}
    (hx : ownR w g.S ti.el ei.ty xs v) (hy : srcR w g.S ei.ty ys y) (hv : ∀ b, v.ownBlock = some b → ¬ g.S b ∧ (X.w0.heap.size ≤ b ∨ X.M b) ∧ ∀ o, ob σ g o ≠ some b) (hlen : (xs.length + ys.length) * ei.bytes ≤ 140737488355328)
    (hrun : ∀ v' w', (Builtin.append_ #[t, t] ty #[v, y]).run P w = .ok v' w' → (execOp a.eval o).run P w = .ok (.value v') w') (hk : k (Ev.wr σ o.dst (.cs false [.own ti.el ei.ty (xs ++ ys)])) = some r) (hK : Nx X σ.length k r K) : o.wp P a w K Q := by
  obtain ⟨v', w', e1, e2, e3, e4⟩ := append_ok (ty := ty) hT hu hei hby hx hy (fun b hb => ⟨fun e => (hv b e).1 hb, (h.sb b hb).1⟩) hlen
  have h1 : Rel X σ a w' g := h.world (fun b hb => e2.block b (by
      rcases hb with hb | ⟨o', hb⟩
      · exact (h.sb b hb).1
      · exact (h.fr o' b hb).2.1) (fun e => by
      rcases hb with hb | ⟨o', hb⟩
      · exact (hv b e.symm).1 hb
      · exact (hv b e.symm).2.2 o' hb)) e2.os e2.tape e2.output e2.size (fun b h1 h2 => e2.block b (Nat.lt_of_lt_of_le h1 h.grow) (fun e => by
      rcases (hv b e.symm).2.1 with h3 | h3
      · omega
      · exact h2 h3))
  unfold Oper.wp
  rw [hrun v' w' e1]
  show K (a.put o.dst v') w'
  cases hd : o.dst with
  | none => rw [hd] at hk; exact hK σ a w' g h1 rfl hk
  | some d =>
    rw [hd] at hk
    obtain ⟨g', hr', _⟩ := h1.wrOwn (ho.dst d hd) hN (te := ti.el) (xs := xs ++ ys) e3 (fun b hb' => by
      rcases e4 with e4 | e4
      · rw [e4] at hb'; exact hv b hb'
      · rw [e4] at hb'
        injection hb' with hb'
        subst hb'
        exact ⟨fun hs => Nat.lt_irrefl _ (h.sb _ hs).1, .inl h.grow, fun o' he => Nat.lt_irrefl _ (h.fr o' _ he).2.1⟩)
    exact hK _ _ _ _ hr' (by simp) hk

theorem op_append {c : Call} (hT : TOk P T) (hb : c.callee = .builtin .append) (h : Rel X σ a w g) (hN : X.N ≤ σ.length) (ho : OpIn X.N ⟨d, .call c, ty, pos, aft, gd⟩) (hk : opK T env ⟨d, .call c, ty, pos, aft, gd⟩ σ k = some r) (hK : Nx X σ.length k r K) :
    Oper.wp P ⟨d, .call c, ty, pos, aft, gd⟩ a w K Q := by
  obtain ⟨cal, args, ats⟩ := c
  simp only at hb
  subst hb
  obtain ⟨args⟩ := args
  obtain ⟨ats⟩ := ats
  simp only [opK] at hk
  split at hk
  rotate_left
  · cases hk
  rename_i x y t t'
  have hx := rd1_ok h hN x (ho.ops x (by simp [Op.operands, Call.operands]))
  have hy := rd1_ok h hN y (ho.ops y (by simp [Op.operands, Call.operands]))
  split at hk
  rotate_left
  · cases hk
  rename_i ti hti
  split at hk
  rotate_left
  · cases hk
  rename_i ei hei
  split at hk
  rotate_left
  · cases hk
  rename_i hc
  obtain ⟨rfl, hag, hty, hby⟩ := hc
  have hsc := hT.sca t' ti hti hag
  rw [hty] at hsc
  split at hk
  rotate_left
  · cases hk
  rename_i ys hys
  have hsrc := rowOf_ok h hys hy
  have hrun : ∀ v' w', (Builtin.append_ #[t', t'] ty #[a.eval x, a.eval y]).run P w = .ok v' w' → (execOp a.eval ⟨d, .call ⟨.builtin .append, ⟨[x, y]⟩, ⟨[t', t']⟩⟩, ty, pos, aft, gd⟩).run P w = .ok (.value v') w' := by
    intro v' w' hr
    simp [execOp, resolve, invoke, builtin, hr]
  split at hk
  · rename_i p hp
    rw [hp] at hx
    split at hk
    · cases hk
    rename_i hal
    split at hk
    rotate_left
    · cases hk
    rename_i te e xs hg
    split at hk
    rotate_left
    · cases hk
    rename_i hte
    subst hte
    split at hk
    rotate_left
    · cases hk
    rename_i he
    subst he
    split at hk
    rotate_left
    · cases hk
    rename_i hlen
    simp only at hlen hk
    have hv := vp_of_ne (σ := σ) (p := p) (by rw [hg]; simp)
    have hpr := h.lf p
    rw [hg] at hpr
    have hpo : (gl σ p).isOwn = true := by rw [hg]; rfl
    have hd := h.drop hv
    refine app_fin (σ := sl (mapL (killP p) σ) p .und) hT hd (by simpa using hN) ho hsc.1 hei hby (v := a.eval x) (xs := xs) (by rw [hx.1]; exact hpr) hsrc (fun b hb => ?_) hlen hrun hk (by simpa using hK)
    rw [hx.1] at hb
    have hbo := ownBlock_blk (g := g) hpo hb
    obtain ⟨f1, f2, f3⟩ := h.fr _ _ hbo
    refine ⟨f1, f3, fun o he => ?_⟩
    have hv1 := vp_mapL (f := killP p) rfl hv
    cases o with
    | inl t =>
      have : ob σ g (.inl t) = some b := by simpa [ob, shp_sl, shp_mapL (killP p) rfl] using he
      have := h.inj _ _ _ this hbo
      cases this
    | inr q =>
      simp only [ob] at he
      rw [gl_sl q _ hv1, gl_mapL _ rfl] at he
      split at he
      · cases he
      · rename_i hne
        rw [isOwn_killP] at he
        have := h.inj (.inr q) _ _ he hbo
        injection this with this
        exact hne this.symm
  · rename_i hp
    rw [hp] at hx
    split at hk
    rotate_left
    · cases hk
    rename_i hlen
    refine app_fin (xs := []) hT h hN ho hsc.1 hei hby (v := a.eval x) (by rw [show a.eval x = .slice none 0 0 from hx]; exact ownR_nil _ _ _ _) hsrc (fun b hb => ?_) (by simpa using hlen) hrun hk hK
    rw [show a.eval x = .slice none 0 0 from hx] at hb
    cases hb
  · cases hk

end
end Go.Ev
