/- Operations, part K: new rows; lengths; append. -/
import Derived.Test.YtphlkpahfcainaaEvOpJ
namespace Go.Ev
set_option linter.unusedVariables false
set_option linter.unusedSimpArgs false

section
variable {P : Program} {T : TypeId → Option TI} {env : Env} {X : Ctx} {σ : St} {a : Act} {w : World} {g : Gh} {A : Type} {r : A} {k : St → Option A} {K : Act → World → Prop} {Q : Exit → Act → World → Prop}
  {d : Option Tmp} {ty : TypeId} {pos : String} {aft : Array Edge} {gd : Option (Nat × Bool)}

theorem rel_zero (w : World) (S : Nat → Prop) : ∀ t : Ty, rel w S t t.zero (zcells t)
  | .int k => rfl
  | .bool => rfl
  | .str => rfl
  | .list e => by simp only [rel, zcells, Ty.zero]; exact ⟨none, 0, rfl, Nat.le_refl _, .inl trivial⟩
  | .pair a b => by simp only [rel, zcells, Ty.zero]; exact ⟨_, _, rfl, rel_zero w S a, rel_zero w S b⟩

theorem rows_zero (w : World) (S : Nat → Prop) (e : Ty) : ∀ n, rows w S e (List.replicate n e.zero) ((List.replicate n (zcells e)).flatten)
  | 0 => rfl
  | n + 1 => by
    simp only [List.replicate_succ, rows, List.flatten_cons]
    exact ⟨_, _, rfl, rel_zero w S e, rows_zero w S e n⟩

theorem flatten_get (c : List Value) : ∀ (n i : Nat), 0 < c.length → ((List.replicate n c).flatten)[i]? = if i < n * c.length then c[i % c.length]? else none
  | 0, i, _ => by simp
  | n + 1, i, hc => by
    rw [List.replicate_succ, List.flatten_cons]
    by_cases hi : i < c.length
    · rw [List.getElem?_append_left hi, if_pos (by rw [Nat.add_mul]; omega), Nat.mod_eq_of_lt hi]
    · rw [List.getElem?_append_right (by omega), flatten_get c n _ hc]
      rw [Nat.add_mul, Nat.one_mul]
      have : i % c.length = (i - c.length) % c.length := Nat.mod_eq_sub_mod (by omega)
      rw [this]
      by_cases h2 : i - c.length < n * c.length
      · rw [if_pos h2, if_pos (by omega)]
      · rw [if_neg h2, if_neg (by omega)]

theorem made_eq (z : List Value) (n : Nat) (hz : 0 < z.length) : (madeCells z.toArray (n * z.length)).toList = (List.replicate n z).flatten := by
  apply List.ext_getElem?
  intro i
  rw [flatten_get z n i hz]
  by_cases hi : i < n * z.length
  · rw [if_pos hi]
    have hm : i % z.length < z.length := Nat.mod_lt _ hz
    simp [madeCells, hi, hm]
  · rw [if_neg hi]
    simp [madeCells]; omega

/-- A new row comes out. -/
theorem resRow {o : Oper} (h : Rel X σ a w g) (hN : X.N ≤ σ.length) (ho : OpIn X.N o) {te : TypeId} {e : Ty} {xs : List e.den} {v : Value} {w' : World} (hrun : (execOp a.eval o).run P w = .ok (.value v) w') (hb : Go.RowKit.Below w.heap.size w w')
    (hv : ∀ b, v.ownBlock = some b → w.heap.size ≤ b) (hr : ownR w' g.S te e xs v) (hk : k (Ev.wr σ o.dst (.cs false [.own te e xs])) = some r) (hK : Nx X σ.length k r K) : o.wp P a w K Q := by
  unfold Oper.wp
  rw [hrun]
  show K (a.put o.dst v) w'
  have h1 := h.below hb
  cases hd : o.dst with
  | none => rw [hd] at hk; exact hK σ a w' g h1 rfl hk
  | some d =>
    rw [hd] at hk
    obtain ⟨g', hr', _⟩ := h1.wrOwn (ho.dst d hd) hN (te := te) (xs := xs) hr (fun b hb' => by
      have hge := hv b hb'
      refine ⟨fun hs => ?_, .inl (Nat.le_trans h.grow hge), fun o' he => ?_⟩
      · have := (h.sb b hs).1; omega
      · have he' : ob σ g o' = some b := he
        have := (h.fr o' b he').2.1; omega)
    exact hK _ _ _ _ hr' (by simp) hk

theorem make_ok (hT : TOk P T) {t : TypeId} {ti ei : TI} (hu : P.underlying t = some (.slice ti.el)) (hei : T ti.el = some ei) (w : World) (S : Nat → Prop) (k1 k2 : IntKind) (n : Int) (c1 : 0 ≤ n) (c3 : n * (ei.bytes : Int) ≤ 140737488355328) (c4 : n ≤ 140737488355328) :
    ∃ w', (Instr.makeSlice t (.int k1 n) (.int k2 n)).run P w = .ok (.slice (some ⟨w.heap.size, 0, none⟩) n.toNat n.toNat) w' ∧ Go.RowKit.Below w.heap.size w w' ∧
      ownR w' S ti.el ei.ty (List.replicate n.toNat ei.ty.zero) (.slice (some ⟨w.heap.size, 0, none⟩) n.toNat n.toNat) := by
  obtain ⟨N, rfl⟩ := Int.eq_ofNat_of_zero_le c1
  obtain ⟨i, z, hi, q1, q2, q3, q4, q5⟩ := hT.info ti.el ei hei
  have hp := sz_pos ei.ty
  have hNb : N * ei.bytes ≤ 140737488355328 := by
    have e1 : ((N * ei.bytes : Nat) : Int) ≤ 140737488355328 := by rw [Int.natCast_mul]; exact c3
    omega
  have hNm : N ≤ maxLen := by simp only [maxLen]; omega
  have hb2 : i.bytes * N ≤ 281474976710656 := by rw [q2, Nat.mul_comm]; omega
  obtain ⟨w', r1, r2, r3⟩ := run_make_full (P := P) w 0 t ti.el i z ei.ty.sz hu hi q3 q1 k1 k2 N hb2 hNm (Nat.zero_le _)
  have hz : z.cells = (zcells ei.ty).toArray := by rw [← q4]
  simp only [Int.toNat_natCast]
  refine ⟨w', r1, ⟨r3.os, r3.tape, r3.output, r3.size, fun b hb => r3.block b hb (by simp)⟩, _, rows_zero w' S ei.ty N, ?_⟩
  rw [List.length_replicate]
  rw [hz, show N * ei.ty.sz = N * (zcells ei.ty).length from by rw [length_zcells], made_eq _ _ (by rw [length_zcells]; exact hp)] at r2
  exact r2

theorem op_makeSlice {t : TypeId} {x y : Operand} (hT : TOk P T) (h : Rel X σ a w g) (hN : X.N ≤ σ.length) (ho : OpIn X.N ⟨d, .makeSlice t x y, ty, pos, aft, gd⟩) (hk : opK T env ⟨d, .makeSlice t x y, ty, pos, aft, gd⟩ σ k = some r) (hK : Nx X σ.length k r K) :
    Oper.wp P ⟨d, .makeSlice t x y, ty, pos, aft, gd⟩ a w K Q := by
  have hx := rd1_ok h hN x (ho.ops x (by simp [Op.operands]))
  have hy := rd1_ok h hN y (ho.ops y (by simp [Op.operands]))
  simp only [opK] at hk
  cases hti : T t with
  | none => rw [hti] at hk; cases hk
  | some ti =>
  rw [hti] at hk
  simp only at hk
  split at hk
  · cases hk
  rename_i hag
  have hag : ti.agg = false := by simpa using hag
  have hsc := hT.sca t ti hti hag
  split at hk
  rotate_left
  · cases hk
  rename_i et hty
  rw [hty] at hsc
  cases hei : T ti.el with
  | none => rw [hei] at hk; cases hk
  | some ei =>
  rw [hei] at hk
  simp only at hk
  split at hk
  rotate_left
  · cases hk
  rename_i k1 n k2 m e1 e2
  rw [e1] at hx
  rw [e2] at hy
  have v1 := LR_int hx
  have v2 := LR_int hy
  split at hk
  rotate_left
  · cases hk
  rename_i hc
  obtain ⟨c1, c2, c3, c4⟩ := hc
  subst c2
  obtain ⟨w', r1, r2, r3⟩ := make_ok hT hsc.1 hei w g.S k1 k2 n c1 c3 c4
  exact resRow (te := ti.el) (e := ei.ty) (xs := List.replicate (Int.toNat n) ei.ty.zero) h hN ho (by simp only [execOp, v1, v2, Sem.run_bind, r1, Result.andThen_ok, Sem.run_pure]) r2 (fun b hb => by simp [Value.ownBlock] at hb; omega) r3 hk hK

end
end Go.Ev
