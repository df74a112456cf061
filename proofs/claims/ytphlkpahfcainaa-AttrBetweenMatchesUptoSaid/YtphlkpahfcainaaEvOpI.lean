/- Operations, part I: operators on two values; lengths; cuts. -/
import Derived.Test.YtphlkpahfcainaaEvOpH
namespace Go.Ev
set_option linter.unusedVariables false
set_option linter.unusedSimpArgs false

section
variable {P : Program} {T : TypeId → Option TI} {env : Env} {X : Ctx} {σ : St} {a : Act} {w : World} {g : Gh} {A : Type} {r : A} {k : St → Option A} {K : Act → World → Prop} {Q : Exit → Act → World → Prop}
  {d : Option Tmp} {ty : TypeId} {pos : String} {aft : Array Edge} {gd : Option (Nat × Bool)}

theorem binInt_ok {op : BinOp} {kk : IntKind} {x y : Int} {l : Leaf} (h : binInt op kk x y = some l) (t : TypeId) (w : World) : ∃ v, (∀ w', (binOp op t (.int kk x) (.int kk y)).run P w' = .ok v w') ∧ LR σ w g l v ∧ l.isOwn = false := by
  cases op <;> simp only [binInt, Option.some.injEq, reduceCtorEq] at h <;> subst h
  · exact ⟨.int kk (kk.wrap (x + y)), by simp [binOp, Op.intArith], rfl, rfl⟩
  · exact ⟨.int kk (kk.wrap (x - y)), by simp [binOp, Op.intArith], rfl, rfl⟩
  · exact ⟨.int kk (kk.wrap (x * y)), by simp [binOp, Op.intArith], rfl, rfl⟩
  · exact ⟨.bool (x == y), by simp [binOp, Op.intCmp], rfl, rfl⟩
  · exact ⟨.bool (x != y), by simp [binOp, Op.intCmp], rfl, rfl⟩
  · exact ⟨.bool (decide (x < y)), by simp [binOp, Op.intCmp], rfl, rfl⟩
  · exact ⟨.bool (decide (x ≤ y)), by simp [binOp, Op.intCmp], rfl, rfl⟩
  · exact ⟨.bool (decide (x > y)), by simp [binOp, Op.intCmp], rfl, rfl⟩
  · exact ⟨.bool (decide (x ≥ y)), by simp [binOp, Op.intCmp], rfl, rfl⟩

theorem binStr_ok {op : BinOp} {x y : List UInt8} {l : Leaf} (h : binStr op x y = some l) (t : TypeId) (w : World) : ∃ v, (∀ w', (binOp op t (.string ⟨x.toArray⟩) (.string ⟨y.toArray⟩)).run P w' = .ok v w') ∧ LR σ w g l v ∧ l.isOwn = false := by
  cases op <;> simp only [binStr, Option.some.injEq, reduceCtorEq] at h <;> subst h
  · exact ⟨.bool (x == y), by simp [binOp, Op.stringOp], rfl, rfl⟩
  · exact ⟨.bool (!(x == y)), by simp [binOp, Op.stringOp], rfl, rfl⟩
  · exact ⟨.bool (strLess x y), by simp [binOp, Op.stringOp, strLess], rfl, rfl⟩
  · exact ⟨.bool (strLess x y || x == y), by simp [binOp, Op.stringOp, strLess], rfl, rfl⟩
  · exact ⟨.bool (!(strLess x y || x == y)), by simp [binOp, Op.stringOp, strLess], rfl, rfl⟩
  · exact ⟨.bool (!strLess x y), by simp [binOp, Op.stringOp, strLess], rfl, rfl⟩

theorem argR_eq {q : Bool × List Leaf} {v : Value} {ls : List Leaf} (hq : ArgR σ w g q v) (h : q = (true, ls)) : ∃ cs : List Value, v = .agg cs.toArray ∧ cs.length = ls.length ∧ ∀ j, LRz w (fun _ => True) (lget ls j) (cs.getD j undef) := by
  subst h
  obtain ⟨cs, h1, h2, h3⟩ := hq.2.1 rfl
  exact ⟨cs, h1, h2, fun j => LRz_mono (fun _ _ => trivial) (LRz_of (LRw_of (h3 j)))⟩
theorem argR_one {q : Bool × List Leaf} {v : Value} {l : Leaf} (hq : ArgR σ w g q v) (h : q = (false, [l])) : LR σ w g l v := by
  subst h
  obtain ⟨l', h1, h2⟩ := hq.1 rfl
  injection h1 with h1
  subst h1
  exact h2

theorem op_binOp {op : BinOp} {t t' : TypeId} {x y : Operand} (hT : TOk P T) (h : Rel X σ a w g) (hN : X.N ≤ σ.length) (ho : OpIn X.N ⟨d, .binOp op t x y t', ty, pos, aft, gd⟩) (hk : opK T env ⟨d, .binOp op t x y t', ty, pos, aft, gd⟩ σ k = some r) (hK : Nx X σ.length k r K) :
    Oper.wpS P ⟨d, .binOp op t x y t', ty, pos, aft, gd⟩ a w K := by
  have hx := rd_ok h hN x (ho.ops x (by simp [Op.operands]))
  have hy := rd_ok h hN y (ho.ops y (by simp [Op.operands]))
  simp only [opK] at hk
  have fin : ∀ (u v z : Value), a.eval x = u → a.eval y = v → (∀ w', (eqGuard op t x y u v).run P w' = .ok () w') → (∀ w', (binOp op t u v).run P w' = .ok z w') → ∀ l, LR σ w g l z → l.isOwn = false → k (Ev.wr σ d (.cs false [l])) = some r →
      Oper.wpS P ⟨d, .binOp op t x y t', ty, pos, aft, gd⟩ a w K := by
    intro u v z hu hv hg hb l hl hown hk'
    exact resL h hN ho (by simp [execOp, hu, hv, hg, hb]) hl hown hk' hK
  split at hk
  · rename_i kk i kk' j e1 e2
    have v1 := LR_int (argR_one hx e1)
    have v2 := LR_int (argR_one hy e2)
    split at hk
    · rename_i ek
      subst ek
      have hg : ∀ w', (eqGuard op t x y (.int kk i) (.int kk j)).run P w' = .ok () w' := fun w' => eqGuard_run op t x y (fun cs e => by cases e) (fun e => by cases e)
      split at hk
      · split at hk
        · cases hk
        · rename_i hz
          have hz' : ¬ (j = (0 : Int)) := hz
          exact fin _ _ (.int kk (kk.wrap (Int.tdiv i j))) v1 v2 hg (by simp [binOp, Op.intDiv, hz']) (.val (.int kk) (kk.wrap (Int.tdiv i j))) rfl rfl hk
      · split at hk
        · cases hk
        · rename_i hz
          have hz' : ¬ (j = (0 : Int)) := hz
          exact fin _ _ (.int kk (Int.tmod i j)) v1 v2 hg (by simp [binOp, Op.intDiv, hz']) (.val (.int kk) (Int.tmod i j)) rfl rfl hk
      · split at hk
        · rename_i l hl
          obtain ⟨z, z1, z2, z3⟩ := binInt_ok (P := P) (σ := σ) (g := g) hl t w
          exact fin _ _ z v1 v2 hg z1 l z2 z3 hk
        · cases hk
    · cases hk
  · rename_i s u e1 e2
    have v1 := LR_str (argR_one hx e1)
    have v2 := LR_str (argR_one hy e2)
    have hg : ∀ w', (eqGuard op t x y (.string ⟨List.toArray s⟩) (.string ⟨List.toArray u⟩)).run P w' = .ok () w' := fun w' => eqGuard_run op t x y (fun cs e => by cases e) (fun e => by cases e)
    split at hk
    · split at hk
      · rename_i hlen
        refine fin _ _ (.string ⟨(List.append s u).toArray⟩) v1 v2 hg ?_ (.val .str (List.append s u)) rfl rfl hk
        have hsz : ¬ (((⟨List.toArray s⟩ : ByteArray).size + (⟨List.toArray u⟩ : ByteArray).size : Nat) : Int) > IntKind.i64.max := by
          have : (⟨List.toArray s⟩ : ByteArray).size + (⟨List.toArray u⟩ : ByteArray).size = List.length s + List.length u := by simp [ByteArray.size]
          rw [this, show IntKind.i64.max = 9223372036854775807 from rfl]
          omega
        have happ : (⟨List.toArray s⟩ : ByteArray) ++ (⟨List.toArray u⟩ : ByteArray) = ⟨(List.append s u).toArray⟩ := by
          apply ByteArray.ext
          simp [ByteArray.data_append]
        intro w'
        simp only [binOp, Op.stringOp, hsz, if_false, happ]
        rfl
      · cases hk
    · split at hk
      · rename_i l hl
        obtain ⟨z, z1, z2, z3⟩ := binStr_ok (P := P) (σ := σ) (g := g) hl t w
        exact fin _ _ z v1 v2 hg z1 l z2 z3 hk
      · cases hk
  · rename_i b1 b2 e1 e2
    have v1 := LR_bool (argR_one hx e1)
    have v2 := LR_bool (argR_one hy e2)
    split at hk
    · cases hk
    rename_i hty
    obtain ⟨ti, _, _, _, _, hB, _⟩ := isTy_ok hT (t := t) (ty := .bool) (by simpa using hty)
    have hu := hB rfl
    have hg : ∀ w', (eqGuard op t x y (.bool b1) (.bool b2)).run P w' = .ok () w' := fun w' => eqGuard_run op t x y (fun cs e => by cases e) (fun e => by cases e)
    have heq : ∀ w', (Op.equal t (.bool b1) (.bool b2)).run P w' = .ok (b1 == b2) w' := fun w' => run_equalIn_bool' w' 9999 t b1 b2 hu
    split at hk
    · exact fin _ _ (.bool (b1 == b2)) v1 v2 hg (by simp [binOp, heq]) (.val .bool (b1 == b2)) rfl rfl hk
    · exact fin _ _ (.bool (b1 != b2)) v1 v2 hg (by intro w'; simp only [binOp, Sem.run_bind, heq, Result.andThen_ok, Sem.run_pure]; rfl) (.val .bool (b1 != b2)) rfl rfl hk
    · cases hk
  · rename_i ls ms e1 e2
    obtain ⟨xs, x1, x2, x3⟩ := argR_eq hx e1
    obtain ⟨ys, y1, y2, y3⟩ := argR_eq hy e2
    split at hk
    · cases hk
    rename_i ts hts
    have hg : ∀ w', (eqGuard op t x y (.agg xs.toArray) (.agg ys.toArray)).run P w' = .ok () w' := by
      intro w'
      obtain ⟨ti, h1, h2, _⟩ := flat_ok hT hts
      exact run_eqGuard_agg w' op t x y _ _ (hT.cmp t ti h1 h2).2.1
    split at hk
    · rename_i b hb
      refine fin _ _ (.bool b) x1 y1 hg ?_ (.val .bool b) rfl rfl hk
      intro w'
      rw [run_eql_struct, eql_ok hT hts hb x2 y2 x3 y3]
      rfl
    · rename_i b hb
      refine fin _ _ (.bool (!b)) x1 y1 hg ?_ (.val .bool (!b)) rfl rfl hk
      intro w'
      rw [run_neq_struct, eql_ok hT hts hb x2 y2 x3 y3]
      rfl
    · cases hk
  · cases hk


theorem natAt_ok (h : Rel X σ a w g) (hN : X.N ≤ σ.length) {x : Option Operand} {n : Nat} {i : Int} (hx : ∀ y, x = some y → ∀ t, y = .tmp t → t < X.N) (hi : natAt σ x n = some i) :
    (x = none ∧ i = n) ∨ ∃ y kk, x = some y ∧ a.eval y = .int kk i := by
  cases x with
  | none => simp [natAt] at hi; exact .inl ⟨rfl, hi.symm⟩
  | some y =>
    have hy := rd1_ok h hN y (hx y rfl)
    simp only [natAt] at hi
    split at hi
    · rename_i kk j hj
      injection hi with hi
      subst hi
      rw [hj] at hy
      exact .inr ⟨y, kk, rfl, LR_int hy⟩
    · cases hi

/-- The bounds of a cut. -/
theorem sliceBounds_ok {isSlice : Bool} {len cap : Nat} {lo hi : Option Operand} {l u : Int} (ev : Operand → Value) (hlo : (lo = none ∧ l = 0) ∨ ∃ y kk, lo = some y ∧ ev y = .int kk l) (hhi : (hi = none ∧ u = len) ∨ ∃ y kk, hi = some y ∧ ev y = .int kk u)
    (h0 : 0 ≤ u) (h1 : u ≤ (len : Int)) (h2 : 0 ≤ l) (h3 : l ≤ u) (hc : len ≤ cap) (w : World) : (Instr.sliceBounds isSlice len cap (lo.map ev) (hi.map ev) none).run P w = .ok (l.toNat, u.toNat, cap) w := by
  have hu : ∀ code kk, (Instr.sliceBound (.int kk u) cap code).run P w = .ok u.toNat w := fun code kk => run_sliceBound w kk u cap code h0 (by omega)
  have hl : ∀ code kk, (Instr.sliceBound (.int kk l) u.toNat code).run P w = .ok l.toNat w := fun code kk => run_sliceBound w kk l _ code h2 (by omega)
  rcases hlo with ⟨rfl, rfl⟩ | ⟨y, kk, rfl, hy⟩ <;> rcases hhi with ⟨rfl, rfl⟩ | ⟨z, kk', rfl, hz⟩
  · simp [Instr.sliceBounds]
  · simp [Instr.sliceBounds, hz, hu]
  · have hl' : ∀ code, (Instr.sliceBound (.int kk l) len code).run P w = .ok l.toNat w := fun code => by have := hl code kk; simpa using this
    simp [Instr.sliceBounds, hy, hl']
  · simp [Instr.sliceBounds, hy, hz, hu, hl]

theorem op_slice {t : TypeId} {x : Operand} {lo hi mx : Option Operand} (hT : TOk P T) (h : Rel X σ a w g) (hN : X.N ≤ σ.length) (ho : OpIn X.N ⟨d, .slice t x lo hi mx, ty, pos, aft, gd⟩) (hk : opK T env ⟨d, .slice t x lo hi mx, ty, pos, aft, gd⟩ σ k = some r) (hK : Nx X σ.length k r K) :
    Oper.wpS P ⟨d, .slice t x lo hi mx, ty, pos, aft, gd⟩ a w K := by
  cases mx with
  | some m => simp [opK] at hk
  | none =>
  have hx := rd1_ok h hN x (ho.ops x (by simp [Op.operands]))
  have hlo : ∀ y, lo = some y → ∀ t, y = .tmp t → t < X.N := fun y hy => ho.ops y (by subst hy; simp [Op.operands])
  have hhi : ∀ y, hi = some y → ∀ t, y = .tmp t → t < X.N := fun y hy => ho.ops y (by subst hy; simp [Op.operands])
  simp only [opK] at hk
  cases hti : T t with
  | none => rw [hti] at hk; cases hk
  | some ti =>
  rw [hti] at hk
  simp only at hk
  split at hk
  · cases hk
  rename_i hag
  have hag : ti.agg = false := by simpa using hag
  have hsc := hT.sca t ti hti hag
  split at hk
  · rename_i hty
    rw [hty] at hsc
    split at hk
    rotate_left
    · cases hk
    rename_i s hs
    rw [hs] at hx
    have hv := LR_str hx
    split at hk
    rotate_left
    · cases hk
    rename_i l u hl hu
    split at hk
    rotate_left
    · cases hk
    rename_i hb
    obtain ⟨b1, b2, b3, b4⟩ := hb
    have hsz : (⟨List.toArray s⟩ : ByteArray).size = List.length s := by simp [ByteArray.size]
    have hbd := sliceBounds_ok (P := P) (isSlice := false) (len := List.length s) (cap := List.length s) a.eval (natAt_ok h hN hlo hl) (natAt_ok h hN hhi hu) b1 b2 b3 b4 (Nat.le_refl _)
    refine resL (l := .val .str ((List.take u.toNat s).drop l.toNat)) (v := .string ⟨((List.take u.toNat s).drop l.toNat).toArray⟩) h hN ho ?_ rfl rfl hk hK
    have hext : (⟨List.toArray s⟩ : ByteArray).extract l.toNat u.toNat = ⟨((List.take u.toNat s).drop l.toNat).toArray⟩ := by
      apply ByteArray.ext
      simp [ByteArray.data_extract, List.extract_eq_take_drop, List.drop_take]
    simp [execOp, Instr.sliceAt, run_underlying hsc, hv, Instr.slice, hsz, hbd, hext]
  · rename_i e hty
    rw [hty] at hsc
    obtain ⟨g1, f1, z1, z2⟩ := freezeL_ok [rd1 σ x] (fun i => if i = 0 then a.eval x else undef) h (fun i => by
      cases i with
      | zero => exact LRw_of hx
      | succ i => trivial)
    split at hk
    · cases hk
    rename_i hel
    cases hei : T ti.el with
    | none => rw [hei] at hel; simp at hel
    | some ei =>
    have hee : ei.ty = e := hsc.2 ei hei
    have hsz := hT.sizeOf hei
    rw [hee] at hsz
    split at hk
    rotate_left
    · cases hk
    rename_i e' xs hl0
    have hz := z1 0
    rw [hl0] at hz
    split at hk
    rotate_left
    · cases hk
    rename_i he
    subst he
    split at hk
    rotate_left
    · cases hk
    rename_i l u hl hu
    split at hk
    rotate_left
    · cases hk
    rename_i hb
    obtain ⟨b1, b2, b3, b4⟩ := hb
    simp only [LRz, rel, if_true] at hz
    obtain ⟨A0, cap, hv, hcap, hcells⟩ := hz
    injection hv with hv _
    have hbd := sliceBounds_ok (P := P) (isSlice := true) (len := List.length xs) (cap := cap) a.eval (natAt_ok h hN hlo hl) (natAt_ok h hN hhi hu) b1 b2 b3 b4 hcap
    obtain ⟨L, rfl⟩ := Int.eq_ofNat_of_zero_le b3
    obtain ⟨U, rfl⟩ := Int.eq_ofNat_of_zero_le b1
    simp only [Int.toNat_natCast] at hbd hk
    have n1 : L ≤ U := by omega
    have n2 : U ≤ List.length xs := by omega
    have hlen : ((List.take U xs).drop L).length = U - L := by simp; omega
    have hrun : ∀ w', (execOp a.eval ⟨d, .slice t x lo hi none, ty, pos, aft, gd⟩).run P w' = .ok (.value (.slice (if cap = L then A0 else A0.map (·.add (L * e'.sz))) (U - L) (cap - L))) w' := by
      intro w'
      simp [execOp, Instr.sliceAt, run_underlying hsc.1, hv, Instr.slice, hbd, hsz]
    refine resL (σ := (freezeL [rd1 σ x] σ).1) (l := .val (.list e') ((List.take U xs).drop L)) f1.rel (by rw [f1.len]; exact hN) ho hrun ?_ rfl hk (by rw [f1.len]; exact hK)
    simp only [LR, rel]
    refine ⟨_, cap - L, by rw [hlen], by rw [hlen]; omega, ?_⟩
    by_cases hn : U = L
    · exact .inl (List.eq_nil_of_length_eq_zero (by rw [hlen]; omega))
    · have hne : xs ≠ [] := by
        intro e0
        have : List.length xs = 0 := by rw [e0]; rfl
        omega
      obtain ⟨b, o, rfl, hS, hc⟩ := hcells.resolve_left hne
      refine .inr ⟨b, o + L * e'.sz, by rw [if_neg (by omega)]; simp [addr_add], hS, fun i y hy => ?_⟩
      have hi : i < U - L := by rw [← hlen]; exact (List.getElem?_eq_some_iff.1 hy).1
      rw [List.getElem?_drop, List.getElem?_take, if_pos (by omega)] at hy
      obtain ⟨c, c1, c2⟩ := hc (L + i) y hy
      refine ⟨c, c1, fun j v hv2 => ?_⟩
      have := c2 j v hv2
      rw [Nat.add_mul] at this
      rw [← this]
      congr 2
      omega
  · cases hk

end
end Go.Ev
