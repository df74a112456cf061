/- Operations are sound, second part. -/
import Derived.Test.YtpmeeopafdgbpaaDoorEvMb
import Derived.Laws.StructEq
import Derived.Laws.Small
import Derived.Maps.AppendAt
namespace Go.Ev
set_option linter.unusedVariables false
set_option linter.unusedSimpArgs false
section
variable {P : Program} {T : TypeId → Option TI} {env : Env} {X : Ctx} {σ : St} {a : Act} {w : World} {g : Gh} {A : Type} {r : A} {k : St → Option A} {K : Act → World → Prop} {Q : Exit → Act → World → Prop}
  {d : Option Tmp} {ty : TypeId} {pos : String} {aft : Array Edge} {gd : Option (Nat × Bool)}
theorem isTy_ok (hT : TOk P T) {t : TypeId} {ty : Ty} (h : isTy T t ty = true) : ∃ ti, T t = some ti ∧ ti.agg = false ∧ ti.ty = ty ∧ (∀ k, ty = .int k → P.underlying t = some (.int k)) ∧ (ty = .bool → P.underlying t = some .bool) ∧ (ty = .str → P.underlying t = some .string) := by
  unfold isTy at h
  split at h
  · rename_i ti hti
    simp at h
    have hs := hT.sca t ti hti h.2
    rw [h.1] at hs
    refine ⟨ti, hti, h.2, h.1, fun k e => ?_, fun e => ?_, fun e => ?_⟩ <;> (subst e; exact hs)
  · cases h
theorem eqLeaves_cons {t : Ty} {ts : List Ty} {ls ms : List Leaf} {b : Bool} (h : eqLeaves (t :: ts) ls ms = some b) : ∃ l ls' m ms' b', ls = l :: ls' ∧ ms = m :: ms' ∧ eqLeaves ts ls' ms' = some b' ∧
    ((∃ (k : IntKind) (x y : Int), t = .int k ∧ l = .val (.int k) x ∧ m = .val (.int k) y ∧ b = (x == y && b')) ∨ (∃ (x y : Bool), t = .bool ∧ l = .val .bool x ∧ m = .val .bool y ∧ b = (x == y && b')) ∨
      ∃ (x y : List UInt8), t = .str ∧ l = .val .str x ∧ m = .val .str y ∧ b = (x == y && b')) := by
  generalize e : t :: ts = tt at h
  unfold eqLeaves at h
  split at h
  · cases e
  · injection e with e1 e2
    subst e1 e2
    split at h
    · rename_i hk
      obtain ⟨rfl, rfl⟩ := hk
      obtain ⟨b', hb1, rfl⟩ := Option.map_eq_some_iff.1 h
      exact ⟨_, _, _, _, b', rfl, rfl, hb1, .inl ⟨_, _, _, rfl, rfl, rfl, rfl⟩⟩
    · cases h
  · injection e with e1 e2
    subst e1 e2
    obtain ⟨b', hb1, rfl⟩ := Option.map_eq_some_iff.1 h
    exact ⟨_, _, _, _, b', rfl, rfl, hb1, .inr (.inl ⟨_, _, rfl, rfl, rfl, rfl⟩)⟩
  · injection e with e1 e2
    subst e1 e2
    obtain ⟨b', hb1, rfl⟩ := Option.map_eq_some_iff.1 h
    exact ⟨_, _, _, _, b', rfl, rfl, hb1, .inr (.inr ⟨_, _, rfl, rfl, rfl, rfl⟩)⟩
  · cases h
/-- The fields of a flat struct, one by one. -/
theorem eqFields_ok {w0 : World} (hT : TOk P T) (D : Nat) (w : World) (xs ys : List Value) : ∀ (fs : List Field) (ts : List (Nat × TypeId)) (tys : List Ty) (ls ms : List Leaf) (i : Nat) (b : Bool),
    fs.length = ts.length → (∀ (j o : Nat) (ft : TypeId), ts[j]? = some (o, ft) → ∃ f : Field, fs[j]? = some f ∧ f.offset = o ∧ f.type = ft) → (∀ f ∈ fs, f.name ≠ "_") → flatF T i ts tys = true →
    eqLeaves tys ls ms = some b →
    (∀ j, j < ts.length → LRz w0 (fun _ => True) (lget ls j) (xs.getD (i + j) undef) ∧ LRz w0 (fun _ => True) (lget ms j) (ys.getD (i + j) undef) ∧ i + j < xs.length ∧ i + j < ys.length) →
    (Op.eqFields (D + 1) xs.toArray ys.toArray fs).run P w = .ok b w
  | [], [], tys, ls, ms, i, b, _, _, _, h4, hb, _ => by
    cases tys with
    | nil =>
      cases ls <;> cases ms <;> simp only [eqLeaves, Option.some.injEq, reduceCtorEq] at hb
      subst hb
      rfl
    | cons => simp [flatF] at h4
  | f :: fs, (o, ft) :: ts, [], ls, ms, i, b, h1, h2, h3, h4, hb, h7 => by simp [flatF] at h4
  | f :: fs, (o, ft) :: ts, t :: tys, ls, ms, i, b, h1, h2, h3, h4, hb, h7 => by
    simp only [flatF, Bool.and_eq_true, beq_iff_eq] at h4
    obtain ⟨⟨ho, hft⟩, hrest⟩ := h4
    obtain ⟨f', e1, e2, e3⟩ := h2 0 o ft rfl
    simp only [List.getElem?_cons_zero, Option.some.injEq] at e1
    subst e1
    have hname := h3 f (by simp)
    obtain ⟨fi, hfi, hag, hty, hI, hB, hS⟩ := isTy_ok hT hft
    have hagr : ∀ w, (isAgg ft).run P w = .ok fi.agg w := hT.isAgg hfi
    obtain ⟨c1, c2, c3, c4⟩ := h7 0 (by simp)
    simp only [Nat.add_zero] at c1 c2 c3 c4
    have px : (part ft xs.toArray i).run P w = .ok (xs.getD i undef) w := by
      simp [part, Sem.run_bind, hagr, hag, c3, List.getD_eq_getElem?_getD]
    have py : (part ft ys.toArray i).run P w = .ok (ys.getD i undef) w := by
      simp [part, Sem.run_bind, hagr, hag, c4, List.getD_eq_getElem?_getD]
    have fin : ∀ (c b' : Bool) (ls' ms' : List Leaf), (Op.equalIn (D + 1) ft (xs.getD i undef) (ys.getD i undef)).run P w = .ok c w → eqLeaves tys ls' ms' = some b' → (∀ j, lget ls (j + 1) = lget ls' j) → (∀ j, lget ms (j + 1) = lget ms' j) →
        (Op.eqFields (D + 1) xs.toArray ys.toArray (f :: fs)).run P w = .ok (c && b') w := by
      intro c b' ls' ms' hc hb' hl hm
      have ih := eqFields_ok hT D w xs ys fs ts tys ls' ms' (i + 1) b' (by simpa using h1) (fun j o ft hj => by
        have := h2 (j + 1) o ft (by simpa using hj)
        simpa using this) (fun f hf => h3 f (by simp [hf])) hrest hb' (fun j hj => by
        have := h7 (j + 1) (by simpa using hj)
        rw [show i + (j + 1) = i + 1 + j from by omega, hl j, hm j] at this
        exact this)
      subst ho
      simp only [Op.eqFields, hname, ne_eq, not_false_eq_true, if_true, Sem.run_bind, e2, e3, px, Result.andThen_ok, py, hc]
      cases c
      · rfl
      · simpa using ih
    obtain ⟨l, ls', m, ms', b', rfl, rfl, hb1, hc⟩ := eqLeaves_cons hb
    rcases hc with ⟨kk, x, y, rfl, rfl, rfl, rfl⟩ | ⟨x, y, rfl, rfl, rfl, rfl⟩ | ⟨x, y, rfl, rfl, rfl, rfl⟩
    · have v1 : xs.getD i undef = .int kk x := by simpa [LRz, rel, lget] using c1
      have v2 : ys.getD i undef = .int kk y := by simpa [LRz, rel, lget] using c2
      exact fin _ b' ls' ms' (by rw [v1, v2]; exact run_equalIn_int w D ft kk kk x y (hI kk rfl)) hb1 (fun j => rfl) (fun j => rfl)
    · have v1 : xs.getD i undef = .bool x := by simpa [LRz, rel, lget] using c1
      have v2 : ys.getD i undef = .bool y := by simpa [LRz, rel, lget] using c2
      exact fin _ b' ls' ms' (by rw [v1, v2]; exact run_equalIn_bool' w D ft x y (hB rfl)) hb1 (fun j => rfl) (fun j => rfl)
    · have v1 : xs.getD i undef = .string ⟨List.toArray x⟩ := by simpa [LRz, rel, lget] using c1
      have v2 : ys.getD i undef = .string ⟨List.toArray y⟩ := by simpa [LRz, rel, lget] using c2
      exact fin _ b' ls' ms' (by rw [v1, v2]; rw [run_equalIn_string w D ft _ _ (hS rfl)]; simp) hb1 (fun j => rfl) (fun j => rfl)
  | [], _ :: _, _, _, _, _, _, h, _, _, _, _, _ => by simp at h
  | _ :: _, [], _, _, _, _, _, h, _, _, _, _, _ => by simp at h
theorem eqGuard_run (op : BinOp) (t : TypeId) (x y : Operand) {u v : Value} (hu : (∀ cs, u ≠ .agg cs)) (hn : u ≠ .nilIface) : (eqGuard op t x y u v).run P w = .ok () w := by
  cases u <;> first | exact absurd rfl (hu _) | exact absurd rfl hn | (cases op <;> cases v <;> rfl)
theorem flat_ok (hT : TOk P T) {t : TypeId} {ts : List Ty} (h : flat T t = some ts) : ∃ ti, T t = some ti ∧ ti.cmp = true ∧ ti.agg = true ∧ flatF T 0 ti.fs ts = true ∧ ts = ti.ty.leaves := by
  unfold flat at h
  split at h
  · rename_i ti hti
    split at h
    · rename_i hc
      injection h with h
      subst h
      exact ⟨ti, hti, hc.1, hc.2.1, hc.2.2, rfl⟩
    · cases h
  · cases h
theorem flatF_len : ∀ {i : Nat} {fs : List (Nat × TypeId)} {ts : List Ty}, flatF T i fs ts = true → fs.length = ts.length
  | _, [], [], _ => rfl
  | _, (_, _) :: _, _ :: _, h => by
    simp only [flatF, Bool.and_eq_true] at h
    simp [flatF_len h.2]
  | _, [], _ :: _, h => by simp [flatF] at h
  | _, (_, _) :: _, [], h => by simp [flatF] at h
theorem eqLeaves_len : ∀ {ts : List Ty} {ls ms : List Leaf} {b : Bool}, eqLeaves ts ls ms = some b → ls.length = ts.length ∧ ms.length = ts.length
  | [], ls, ms, b, h => by
    cases ls <;> cases ms <;> simp [eqLeaves] at h ⊢
  | t :: ts, ls, ms, b, h => by
    obtain ⟨l, ls', m, ms', b', rfl, rfl, h1, _⟩ := eqLeaves_cons h
    have := eqLeaves_len h1
    simp [this]
theorem leaves_pos : ∀ t : Ty, 0 < t.leaves.length
  | .pair a b => by have := leaves_pos a; simp only [Ty.leaves, List.length_append]; omega
  | .int _ => Nat.one_pos
  | .bool => Nat.one_pos
  | .str => Nat.one_pos
  | .list _ => Nat.one_pos
/-- Two structs are compared. -/
theorem eql_ok {w0 : World} (hT : TOk P T) {t : TypeId} {ts : List Ty} (hf : flat T t = some ts) {xs ys : List Value} {ls ms : List Leaf} {b : Bool} (hb : eqLeaves ts ls ms = some b) (hx : xs.length = ls.length) (hy : ys.length = ms.length)
    (hl : ∀ j, LRz w0 (fun _ => True) (lget ls j) (xs.getD j undef)) (hm : ∀ j, LRz w0 (fun _ => True) (lget ms j) (ys.getD j undef)) : (Op.equalIn 10000 t (.agg xs.toArray) (.agg ys.toArray)).run P w = .ok b w := by
  obtain ⟨ti, h1, h2, h3, h4, rfl⟩ := flat_ok hT hf
  have hr : ti.arr = 0 := by
    cases hr : ti.arr with
    | zero => rfl
    | succ n =>
      obtain ⟨_, hf0, _⟩ := hT.arr t ti n h1 hr
      rw [hf0] at h4
      have hp := leaves_pos ti.ty
      revert h4
      cases hL : ti.ty.leaves with
      | nil => rw [hL] at hp; simp at hp
      | cons x xs => intro h4; simp [flatF] at h4
  obtain ⟨fs, h5, h6, h7⟩ := hT.agg t ti h1 h3 hr
  obtain ⟨c1, c2, c3⟩ := hT.cmp t ti h1 h2
  have hfo : P.fieldsOf t = fs := by simp [Program.fieldsOf, h5]
  obtain ⟨l1, l2⟩ := eqLeaves_len hb
  have l3 := flatF_len h4
  rw [run_equalIn_struct w 9999 t xs.toArray ys.toArray (by rw [hfo]; exact h5) c1, hfo]
  refine eqFields_ok (w0 := w0) hT 9998 w xs ys fs.toList ti.fs ti.ty.leaves ls ms 0 b (by simpa using h7) (fun j o ft hj => ?_) (c3 fs h5) h4 hb (fun j hj => ?_)
  · obtain ⟨f, f1, f2⟩ := h6 j o ft hj
    exact ⟨f, by simpa using f1, f2⟩
  · rw [Nat.zero_add]
    exact ⟨hl j, hm j, by omega, by omega⟩
end
end Go.Ev
namespace Go.Ev
set_option linter.unusedVariables false
set_option linter.unusedSimpArgs false
section
variable {P : Program} {T : TypeId → Option TI} {env : Env} {X : Ctx} {σ : St} {a : Act} {w : World} {g : Gh} {A : Type} {r : A} {k : St → Option A} {K : Act → World → Prop} {Q : Exit → Act → World → Prop}
  {d : Option Tmp} {ty : TypeId} {pos : String} {aft : Array Edge} {gd : Option (Nat × Bool)}
theorem binInt_ok {op : BinOp} {kk kk' : IntKind} {x y : Int} {l : Leaf} (h : binInt op kk x y = some l) (ho : okk op kk kk' = true) (t : TypeId) (w : World) : ∃ v, (∀ w', (binOp op t (.int kk x) (.int kk' y)).run P w' = .ok v w') ∧ LR σ w g l v ∧ l.isOwn = false := by
  cases op <;> simp only [binInt, Option.some.injEq, reduceCtorEq] at h <;> try subst h
  all_goals try (simp only [okk, decide_eq_true_eq] at ho; subst ho)
  · exact ⟨.int kk (kk.wrap (x + y)), by simp [binOp, Op.intArith], rfl, rfl⟩
  · exact ⟨.int kk (kk.wrap (x - y)), by simp [binOp, Op.intArith], rfl, rfl⟩
  · exact ⟨.int kk (kk.wrap (x * y)), by simp [binOp, Op.intArith], rfl, rfl⟩
  · exact ⟨.int kk (andI kk x y), by simp [binOp, Op.intBits, andI], rfl, rfl⟩
  · exact ⟨.int kk (orI kk x y), by simp [binOp, Op.intBits, orI], rfl, rfl⟩
  · exact ⟨.int kk (xorI kk x y), by simp [binOp, Op.intBits, xorI], rfl, rfl⟩
  · split at h
    · cases h
    rename_i hy
    injection h with h; subst h
    exact ⟨.int kk (shlI kk x y), by simp [binOp, Op.shift, shlI, hy], rfl, rfl⟩
  · split at h
    · cases h
    rename_i hy
    injection h with h; subst h
    exact ⟨.int kk (shrI kk x y), by simp [binOp, Op.shift, shrI, hy], rfl, rfl⟩
  · exact ⟨.int kk (clrI kk x y), by simp [binOp, Op.intBits, clrI], rfl, rfl⟩
  · exact ⟨.bool (x == y), by simp [binOp, Op.intCmp], rfl, rfl⟩
  · exact ⟨.bool (x != y), by simp [binOp, Op.intCmp], rfl, rfl⟩
  · exact ⟨.bool (decide (x < y)), by simp [binOp, Op.intCmp], rfl, rfl⟩
  · exact ⟨.bool (decide (x ≤ y)), by simp [binOp, Op.intCmp], rfl, rfl⟩
  · exact ⟨.bool (decide (x > y)), by simp [binOp, Op.intCmp], rfl, rfl⟩
  · exact ⟨.bool (decide (x ≥ y)), by simp [binOp, Op.intCmp], rfl, rfl⟩
theorem binStr_ok {op : BinOp} {x y : List UInt8} {l : Leaf} (h : binStr op x y = some l) (t : TypeId) (w : World) : ∃ v, (∀ w', (binOp op t (.string ⟨x.toArray⟩) (.string ⟨y.toArray⟩)).run P w' = .ok v w') ∧ LR σ w g l v ∧ l.isOwn = false := by
  cases op <;> simp only [binStr, Option.some.injEq, reduceCtorEq] at h <;> subst h
  · exact ⟨.bool (x == y), by simp [binOp, Op.stringOp], rfl, rfl⟩
  · exact ⟨.bool (!(x == y)), by simp [binOp, Op.stringOp], rfl, rfl⟩
  · exact ⟨.bool (strLess x y), by simp [binOp, Op.stringOp, strLess], rfl, rfl⟩
  · exact ⟨.bool (strLess x y || x == y), by simp [binOp, Op.stringOp, strLess], rfl, rfl⟩
  · exact ⟨.bool (!(strLess x y || x == y)), by simp [binOp, Op.stringOp, strLess], rfl, rfl⟩
  · exact ⟨.bool (!strLess x y), by simp [binOp, Op.stringOp, strLess], rfl, rfl⟩
theorem argR_eq {q : Bool × List Leaf} {v : Value} {ls : List Leaf} (hq : ArgR σ w g q v) (h : q = (true, ls)) : ∃ cs : List Value, v = .agg cs.toArray ∧ cs.length = ls.length ∧ ∀ j, LRz w (fun _ => True) (lget ls j) (cs.getD j undef) := by
  subst h
  obtain ⟨cs, h1, h2, h3⟩ := hq.2.1 rfl
  exact ⟨cs, h1, h2, fun j => LRz_mono (fun _ _ => trivial) (LRz_of (LRw_of (h3 j)))⟩
theorem argR_one {q : Bool × List Leaf} {v : Value} {l : Leaf} (hq : ArgR σ w g q v) (h : q = (false, [l])) : LR σ w g l v := by
  subst h
  obtain ⟨l', h1, h2⟩ := hq.1 rfl
  injection h1 with h1
  subst h1
  exact h2
theorem op_binOp {op : BinOp} {t t' : TypeId} {x y : Operand} (hT : TOk P T) (h : Rel X σ a w g) (hN : X.N ≤ σ.length) (ho : OpIn X.N ⟨d, .binOp op t x y t', ty, pos, aft, gd⟩) (hk : opK0 T env ⟨d, .binOp op t x y t', ty, pos, aft, gd⟩ σ k = some r) (hK : Nx X σ.length k r K) :
    Oper.wpS P ⟨d, .binOp op t x y t', ty, pos, aft, gd⟩ a w K := by
  have hx := rd_ok h hN x (ho.ops x (by simp [Op.operands]))
  have hy := rd_ok h hN y (ho.ops y (by simp [Op.operands]))
  simp only [opK0] at hk
  have fin : ∀ (u v z : Value), a.eval x = u → a.eval y = v → (∀ w', (eqGuard op t x y u v).run P w' = .ok () w') → (∀ w', (binOp op t u v).run P w' = .ok z w') → ∀ l, LR σ w g l z → l.isOwn = false → k (Ev.wr σ d (.cs false [l])) = some r →
      Oper.wpS P ⟨d, .binOp op t x y t', ty, pos, aft, gd⟩ a w K := by
    intro u v z hu hv hg hb l hl hown hk'
    exact resL h hN ho (by simp [execOp, hu, hv, hg, hb]) hl hown hk' hK
  split at hk
  · rename_i kk i kk' j e1 e2
    have v1 := LR_int (argR_one hx e1)
    have v2 := LR_int (argR_one hy e2)
    split at hk
    · rename_i ek
      have hg : ∀ w', (eqGuard op t x y (.int kk i) (.int kk' j)).run P w' = .ok () w' := fun w' => eqGuard_run op t x y (fun cs e => by cases e) (fun e => by cases e)
      split at hk
      · split at hk
        · cases hk
        · rename_i hz
          have hz' : ¬ (j = (0 : Int)) := hz
          simp only [okk, decide_eq_true_eq] at ek
          subst ek
          exact fin _ _ (.int kk (kk.wrap (Int.tdiv i j))) v1 v2 hg (by simp [binOp, Op.intDiv, hz']) (.val (.int kk) (kk.wrap (Int.tdiv i j))) rfl rfl hk
      · split at hk
        · cases hk
        · rename_i hz
          have hz' : ¬ (j = (0 : Int)) := hz
          simp only [okk, decide_eq_true_eq] at ek
          subst ek
          exact fin _ _ (.int kk (Int.tmod i j)) v1 v2 hg (by simp [binOp, Op.intDiv, hz']) (.val (.int kk) (Int.tmod i j)) rfl rfl hk
      · split at hk
        · cases hk
        · rename_i hz
          have hz' : ¬ (j < (0 : Int)) := hz
          obtain ⟨z, z1, z2, z3⟩ := binInt_ok (P := P) (σ := σ) (g := g) (op := .shl) (l := .val (.int kk) (shlI kk i j)) (show binInt .shl kk i j = some _ by simp only [binInt]; rw [if_neg hz']) ek t w
          exact fin _ _ z v1 v2 hg z1 _ z2 z3 hk
      · split at hk
        · cases hk
        · rename_i hz
          have hz' : ¬ (j < (0 : Int)) := hz
          obtain ⟨z, z1, z2, z3⟩ := binInt_ok (P := P) (σ := σ) (g := g) (op := .shr) (l := .val (.int kk) (shrI kk i j)) (show binInt .shr kk i j = some _ by simp only [binInt]; rw [if_neg hz']) ek t w
          exact fin _ _ z v1 v2 hg z1 _ z2 z3 hk
      · split at hk
        · rename_i l hl
          obtain ⟨z, z1, z2, z3⟩ := binInt_ok (P := P) (σ := σ) (g := g) hl ek t w
          exact fin _ _ z v1 v2 hg z1 l z2 z3 hk
        · cases hk
    · cases hk
  · rename_i s u e1 e2
    have v1 := LR_str (argR_one hx e1)
    have v2 := LR_str (argR_one hy e2)
    have hg : ∀ w', (eqGuard op t x y (.string ⟨List.toArray s⟩) (.string ⟨List.toArray u⟩)).run P w' = .ok () w' := fun w' => eqGuard_run op t x y (fun cs e => by cases e) (fun e => by cases e)
    split at hk
    · split at hk
      · rename_i hlen
        refine fin _ _ (.string ⟨(List.append s u).toArray⟩) v1 v2 hg ?_ (.val .str (List.append s u)) rfl rfl hk
        have hsz : ¬ (((⟨List.toArray s⟩ : ByteArray).size + (⟨List.toArray u⟩ : ByteArray).size : Nat) : Int) > IntKind.i64.max := by
          have : (⟨List.toArray s⟩ : ByteArray).size + (⟨List.toArray u⟩ : ByteArray).size = List.length s + List.length u := by simp [ByteArray.size]
          rw [this, show IntKind.i64.max = 9223372036854775807 from rfl]
          omega
        have happ : (⟨List.toArray s⟩ : ByteArray) ++ (⟨List.toArray u⟩ : ByteArray) = ⟨(List.append s u).toArray⟩ := by
          apply ByteArray.ext
          simp [ByteArray.data_append]
        intro w'
        simp only [binOp, Op.stringOp, hsz, if_false, happ]
        rfl
      · cases hk
    · split at hk
      · rename_i l hl
        obtain ⟨z, z1, z2, z3⟩ := binStr_ok (P := P) (σ := σ) (g := g) hl t w
        exact fin _ _ z v1 v2 hg z1 l z2 z3 hk
      · cases hk
  · rename_i b1 b2 e1 e2
    have v1 := LR_bool (argR_one hx e1)
    have v2 := LR_bool (argR_one hy e2)
    split at hk
    · cases hk
    rename_i hty
    obtain ⟨ti, _, _, _, _, hB, _⟩ := isTy_ok hT (t := t) (ty := .bool) (by simpa using hty)
    have hu := hB rfl
    have hg : ∀ w', (eqGuard op t x y (.bool b1) (.bool b2)).run P w' = .ok () w' := fun w' => eqGuard_run op t x y (fun cs e => by cases e) (fun e => by cases e)
    have heq : ∀ w', (Op.equal t (.bool b1) (.bool b2)).run P w' = .ok (b1 == b2) w' := fun w' => run_equalIn_bool' w' 9999 t b1 b2 hu
    split at hk
    · exact fin _ _ (.bool (b1 == b2)) v1 v2 hg (by simp [binOp, heq]) (.val .bool (b1 == b2)) rfl rfl hk
    · exact fin _ _ (.bool (b1 != b2)) v1 v2 hg (by intro w'; simp only [binOp, Sem.run_bind, heq, Result.andThen_ok, Sem.run_pure]; rfl) (.val .bool (b1 != b2)) rfl rfl hk
    · cases hk
  · rename_i ls ms e1 e2
    obtain ⟨xs, x1, x2, x3⟩ := argR_eq hx e1
    obtain ⟨ys, y1, y2, y3⟩ := argR_eq hy e2
    split at hk
    · cases hk
    rename_i ts hts
    have hg : ∀ w', (eqGuard op t x y (.agg xs.toArray) (.agg ys.toArray)).run P w' = .ok () w' := by
      intro w'
      obtain ⟨ti, h1, h2, _⟩ := flat_ok hT hts
      exact run_eqGuard_agg w' op t x y _ _ (hT.cmp t ti h1 h2).2.1
    split at hk
    · rename_i b hb
      refine fin _ _ (.bool b) x1 y1 hg ?_ (.val .bool b) rfl rfl hk
      intro w'
      rw [run_eql_struct, eql_ok hT hts hb x2 y2 x3 y3]
      rfl
    · rename_i b hb
      refine fin _ _ (.bool (!b)) x1 y1 hg ?_ (.val .bool (!b)) rfl rfl hk
      intro w'
      rw [run_neq_struct, eql_ok hT hts hb x2 y2 x3 y3]
      rfl
    · cases hk
  · cases hk
theorem natAt_ok (h : Rel X σ a w g) (hN : X.N ≤ σ.length) {x : Option Operand} {n : Nat} {i : Int} (hx : ∀ y, x = some y → ∀ t, y = .tmp t → t < X.N) (hi : natAt σ x n = some i) :
    (x = none ∧ i = n) ∨ ∃ y kk, x = some y ∧ a.eval y = .int kk i := by
  cases x with
  | none => simp [natAt] at hi; exact .inl ⟨rfl, hi.symm⟩
  | some y =>
    have hy := rd1_ok h hN y (hx y rfl)
    simp only [natAt] at hi
    split at hi
    · rename_i kk j hj
      injection hi with hi
      subst hi
      rw [hj] at hy
      exact .inr ⟨y, kk, rfl, LR_int hy⟩
    · cases hi
/-- The bounds of a cut. -/
theorem sliceBounds_ok {isSlice : Bool} {len cap : Nat} {lo hi : Option Operand} {l u : Int} (ev : Operand → Value) (hlo : (lo = none ∧ l = 0) ∨ ∃ y kk, lo = some y ∧ ev y = .int kk l) (hhi : (hi = none ∧ u = len) ∨ ∃ y kk, hi = some y ∧ ev y = .int kk u)
    (h0 : 0 ≤ u) (h1 : u ≤ (len : Int)) (h2 : 0 ≤ l) (h3 : l ≤ u) (hc : len ≤ cap) (w : World) : (Instr.sliceBounds isSlice len cap (lo.map ev) (hi.map ev) none).run P w = .ok (l.toNat, u.toNat, cap) w := by
  have hu : ∀ code kk, (Instr.sliceBound (.int kk u) cap code).run P w = .ok u.toNat w := fun code kk => run_sliceBound w kk u cap code h0 (by omega)
  have hl : ∀ code kk, (Instr.sliceBound (.int kk l) u.toNat code).run P w = .ok l.toNat w := fun code kk => run_sliceBound w kk l _ code h2 (by omega)
  rcases hlo with ⟨rfl, rfl⟩ | ⟨y, kk, rfl, hy⟩ <;> rcases hhi with ⟨rfl, rfl⟩ | ⟨z, kk', rfl, hz⟩
  · simp [Instr.sliceBounds]
  · simp [Instr.sliceBounds, hz, hu]
  · have hl' : ∀ code, (Instr.sliceBound (.int kk l) len code).run P w = .ok l.toNat w := fun code => by have := hl code kk; simpa using this
    simp [Instr.sliceBounds, hy, hl']
  · simp [Instr.sliceBounds, hy, hz, hu, hl]
theorem op_slice {t : TypeId} {x : Operand} {lo hi mx : Option Operand} (hT : TOk P T) (h : Rel X σ a w g) (hN : X.N ≤ σ.length) (ho : OpIn X.N ⟨d, .slice t x lo hi mx, ty, pos, aft, gd⟩) (hk : opK0 T env ⟨d, .slice t x lo hi mx, ty, pos, aft, gd⟩ σ k = some r) (hK : Nx X σ.length k r K) :
    Oper.wpS P ⟨d, .slice t x lo hi mx, ty, pos, aft, gd⟩ a w K := by
  cases mx with
  | some m => simp [opK0] at hk
  | none =>
  have hx := rd1_ok h hN x (ho.ops x (by simp [Op.operands]))
  have hlo : ∀ y, lo = some y → ∀ t, y = .tmp t → t < X.N := fun y hy => ho.ops y (by subst hy; simp [Op.operands])
  have hhi : ∀ y, hi = some y → ∀ t, y = .tmp t → t < X.N := fun y hy => ho.ops y (by subst hy; simp [Op.operands])
  simp only [opK0] at hk
  cases hti : T t with
  | none => rw [hti] at hk; cases hk
  | some ti =>
  rw [hti] at hk
  simp only at hk
  split at hk
  · cases hk
  rename_i hag
  have hag : ti.agg = false := by simpa using hag
  have hsc := hT.sca t ti hti hag
  split at hk
  · rename_i hty
    rw [hty] at hsc
    split at hk
    rotate_left
    · cases hk
    rename_i s hs
    rw [hs] at hx
    have hv := LR_str hx
    split at hk
    rotate_left
    · cases hk
    rename_i l u hl hu
    split at hk
    rotate_left
    · cases hk
    rename_i hb
    obtain ⟨b1, b2, b3, b4⟩ := hb
    have hsz : (⟨List.toArray s⟩ : ByteArray).size = List.length s := by simp [ByteArray.size]
    have hbd := sliceBounds_ok (P := P) (isSlice := false) (len := List.length s) (cap := List.length s) a.eval (natAt_ok h hN hlo hl) (natAt_ok h hN hhi hu) b1 b2 b3 b4 (Nat.le_refl _)
    refine resL (l := .val .str ((List.take u.toNat s).drop l.toNat)) (v := .string ⟨((List.take u.toNat s).drop l.toNat).toArray⟩) h hN ho ?_ rfl rfl hk hK
    have hext : (⟨List.toArray s⟩ : ByteArray).extract l.toNat u.toNat = ⟨((List.take u.toNat s).drop l.toNat).toArray⟩ := by
      apply ByteArray.ext
      simp [ByteArray.data_extract, List.extract_eq_take_drop, List.drop_take]
    simp [execOp, Instr.sliceAt, run_underlying hsc, hv, Instr.slice, hsz, hbd, hext]
  · rename_i e hty
    rw [hty] at hsc
    obtain ⟨g1, f1, z1, z2⟩ := freezeL_ok [rd1 σ x] (fun i => if i = 0 then a.eval x else undef) h (fun i => by
      cases i with
      | zero => exact LRw_of hx
      | succ i => trivial)
    split at hk
    · cases hk
    rename_i hel
    cases hei : T ti.el with
    | none => rw [hei] at hel; simp at hel
    | some ei =>
    have hee : ei.ty = e := hsc.2 ei hei
    have hsz := hT.sizeOf hei
    rw [hee] at hsz
    split at hk
    rotate_left
    · cases hk
    rename_i e' xs hl0
    have hz := z1 0
    rw [hl0] at hz
    split at hk
    rotate_left
    · cases hk
    rename_i he
    subst he
    split at hk
    rotate_left
    · cases hk
    rename_i l u hl hu
    split at hk
    rotate_left
    · cases hk
    rename_i hb
    obtain ⟨b1, b2, b3, b4⟩ := hb
    simp only [LRz, rel, if_true] at hz
    obtain ⟨A0, cap, hv, hcap, hcells⟩ := hz
    injection hv with hv _
    have hbd := sliceBounds_ok (P := P) (isSlice := true) (len := List.length xs) (cap := cap) a.eval (natAt_ok h hN hlo hl) (natAt_ok h hN hhi hu) b1 b2 b3 b4 hcap
    obtain ⟨L, rfl⟩ := Int.eq_ofNat_of_zero_le b3
    obtain ⟨U, rfl⟩ := Int.eq_ofNat_of_zero_le b1
    simp only [Int.toNat_natCast] at hbd hk
    have n1 : L ≤ U := by omega
    have n2 : U ≤ List.length xs := by omega
    have hlen : ((List.take U xs).drop L).length = U - L := by simp; omega
    have hrun : ∀ w', (execOp a.eval ⟨d, .slice t x lo hi none, ty, pos, aft, gd⟩).run P w' = .ok (.value (.slice (if cap = L then A0 else A0.map (·.add (L * e'.sz))) (U - L) (cap - L))) w' := by
      intro w'
      simp [execOp, Instr.sliceAt, run_underlying hsc.1, hv, Instr.slice, hbd, hsz]
    refine resL (σ := (freezeL [rd1 σ x] σ).1) (l := .val (.list e') ((List.take U xs).drop L)) f1.rel (by rw [f1.len]; exact hN) ho hrun ?_ rfl hk (by rw [f1.len]; exact hK)
    simp only [LR, rel]
    refine ⟨_, cap - L, by rw [hlen], by rw [hlen]; omega, ?_⟩
    by_cases hn : U = L
    · exact .inl (List.eq_nil_of_length_eq_zero (by rw [hlen]; omega))
    · have hne : xs ≠ [] := by
        intro e0
        have : List.length xs = 0 := by rw [e0]; rfl
        omega
      obtain ⟨b, o, rfl, hS, hc⟩ := hcells.resolve_left hne
      refine .inr ⟨b, o + L * e'.sz, by rw [if_neg (by omega)]; simp [addr_add], hS, fun i y hy => ?_⟩
      have hi : i < U - L := by rw [← hlen]; exact (List.getElem?_eq_some_iff.1 hy).1
      rw [List.getElem?_drop, List.getElem?_take, if_pos (by omega)] at hy
      obtain ⟨c, c1, c2⟩ := hc (L + i) y hy
      refine ⟨c, c1, fun j v hv2 => ?_⟩
      have := c2 j v hv2
      rw [Nat.add_mul] at this
      rw [← this]
      congr 2
      omega
  · cases hk
end
end Go.Ev
namespace Go.Ev
set_option linter.unusedVariables false
set_option linter.unusedSimpArgs false
/-- Cells put in place of others. -/
def putC (cs : List Value) (o : Nat) (us : List Value) : List Value := cs.take o ++ us ++ cs.drop (o + us.length)
theorem length_putC {cs us : List Value} {o : Nat} (h : o + us.length ≤ cs.length) : (putC cs o us).length = cs.length := by simp [putC]; omega
theorem getD_putC {cs us : List Value} {o : Nat} (h : o + us.length ≤ cs.length) (i : Nat) : (putC cs o us).getD i undef = if o ≤ i ∧ i < o + us.length then us.getD (i - o) undef else cs.getD i undef := by
  simp only [putC, List.getD_eq_getElem?_getD]
  by_cases h1 : o ≤ i ∧ i < o + us.length
  · rw [if_pos h1, List.append_assoc, List.getElem?_append_right (by simp; omega), List.getElem?_append_left (by simp; omega)]
    congr 2
    simp; omega
  · rw [if_neg h1]
    by_cases h2 : i < o
    · rw [List.append_assoc, List.getElem?_append_left (by simp; omega), List.getElem?_take, if_pos h2]
    · rw [List.getElem?_append_right (by simp; omega), List.getElem?_drop]
      congr 2
      simp; omega
theorem fold_put : ∀ (us : List Value) (cs : List Value) (o j : Nat), o + j + us.length ≤ cs.length →
    (us.zipIdx j).foldl (fun (acc : Array Value) (x : Value × Nat) => acc.setIfInBounds (o + x.2) x.1) cs.toArray = (putC cs (o + j) us).toArray
  | [], cs, o, j, _ => by simp [putC]
  | u :: us, cs, o, j, h => by
    simp only [List.zipIdx_cons, List.foldl_cons, List.setIfInBounds_toArray]
    simp only [List.length_cons] at h
    rw [fold_put us (cs.set (o + j) u) o (j + 1) (by simp; omega)]
    congr 1
    simp only [putC, List.length_cons]
    rw [List.take_set, List.drop_set_of_lt (by omega)]
    have e1 : List.take (o + (j + 1)) cs = List.take (o + j) cs ++ [cs[o + j]'(by omega)] := by
      rw [show o + (j + 1) = (o + j) + 1 from by omega, List.take_succ_eq_append_getElem (by omega)]
    rw [e1, List.set_append, if_neg (by simp; omega)]
    have e2 : (o + j) - (List.take (o + j) cs).length = 0 := by simp; omega
    rw [e2]
    simp only [List.set_cons_zero, List.append_assoc, List.singleton_append, List.cons_append, List.nil_append]
    rw [show o + (j + 1) + us.length = o + j + (us.length + 1) from by omega]
section
variable {P : Program} {T : TypeId → Option TI} {env : Env} {X : Ctx} {σ : St} {a : Act} {w : World} {g : Gh} {A : Type} {r : A} {k : St → Option A} {K : Act → World → Prop} {Q : Exit → Act → World → Prop}
  {d : Option Tmp} {ty : TypeId} {pos : String} {aft : Array Edge} {gd : Option (Nat × Bool)}
/-- One part is filled in. -/
theorem fill_cons {place : Nat → Option (Nat × Nat)} {cs us : List Value} {i o : Nat} {v : Value} {rest : List (Nat × Value)} (hp : place i = some (o, us.length)) (hv : v.cells.toList = us) (h : o + us.length ≤ cs.length) :
    Instr.fill place cs.toArray ((i, v) :: rest) = Instr.fill place (putC cs o us).toArray rest := by
  have hs : v.cells.size = us.length := by rw [← hv]; simp
  simp only [Instr.fill, hp, hs]
  rw [if_neg (by simp; omega)]
  congr 1
  have := fold_put us cs o 0 (by simpa using h)
  simp only [Nat.add_zero] at this
  rw [← this, ← hv, ← Array.foldl_toList, Array.toList_zipIdx]
theorem getD_cells {cs us : List Value} {ls ms : List Leaf} {o : Nat} (h1 : cs.length = ls.length) (h2 : us.length = ms.length) (h3 : o + ms.length ≤ ls.length) (hl : ∀ i, LR σ w g (lget ls i) (cs.getD i undef)) (hm : ∀ i, LR σ w g (lget ms i) (us.getD i undef)) (i : Nat) :
    LR σ w g (lget (setAt ls o ms) i) ((putC cs o us).getD i undef) := by
  rw [lget_setAt ms ls o i h3, getD_putC (by omega), h2]
  split
  · exact hm _
  · exact hl _
theorem fillS_ok (hT : TOk P T) (h : Rel X σ a w g) (hN : X.N ≤ σ.length) {fs : List (Nat × TypeId)} {place : Nat → Option (Nat × Nat)} (hp : ∀ (i o : Nat) (ft : TypeId) fi, fs[i]? = some (o, ft) → T ft = some fi → place i = some (o, fi.ty.sz)) :
    ∀ (ps : List (Nat × Operand)) (ls ls' : List Leaf) (cs : List Value), (∀ q ∈ ps, ∀ t, q.2 = .tmp t → t < X.N) → fillS T fs σ ps ls = some ls' → cs.length = ls.length → (∀ i, LR σ w g (lget ls i) (cs.getD i undef)) → (∀ i, (lget ls i).isOwn = false) →
      ∃ cs' : List Value, Instr.fill place cs.toArray (ps.map fun q => (q.1, a.eval q.2)) = some cs'.toArray ∧ cs'.length = ls'.length ∧ ls'.length = ls.length ∧ (∀ i, LR σ w g (lget ls' i) (cs'.getD i undef)) ∧ ∀ i, (lget ls' i).isOwn = false
  | [], ls, ls', cs, _, hf, hl, hc, ho => by
    simp only [fillS, Option.some.injEq] at hf
    subst hf
    exact ⟨cs, rfl, hl, rfl, hc, ho⟩
  | (i, x) :: ps, ls, ls', cs, hin, hf, hl, hc, ho => by
    simp only [fillS] at hf
    split at hf
    rotate_left
    · cases hf
    rename_i o ft hfs
    split at hf
    rotate_left
    · cases hf
    rename_i fi hfi
    split at hf
    rotate_left
    · cases hf
    rename_i hcond
    obtain ⟨c1, c2, c3, c4⟩ := hcond
    have hq := rd_ok h hN x (hin (i, x) (by simp))
    obtain ⟨us, u1, u2, u3, _⟩ := h.cells hq c3
    have hput := fill_cons (place := place) (cs := cs) (us := us) (i := i) (o := o) (v := a.eval x) (rest := ps.map fun q => (q.1, a.eval q.2)) (by rw [hp i o ft fi hfs hfi, u2, c2]) u1 (by omega)
    obtain ⟨cs', e1, e2, e3, e4, e5⟩ := fillS_ok hT h hN hp ps (setAt ls o (rd σ x).2) ls' (putC cs o us) (fun q hq => hin q (by simp [hq])) hf (by rw [length_putC (by omega)]; simpa using hl)
      (getD_cells hl u2 (by omega) hc u3) (fun j => by
        rw [lget_setAt _ ls o j (by omega)]
        split
        · exact hq.2.2 _
        · exact ho j)
    refine ⟨cs', ?_, e2, by simpa using e3, e4, e5⟩
    simp only [List.map_cons]
    rw [hput]; exact e1
theorem op_build {t : TypeId} {parts : Array (Nat × Operand)} (hT : TOk P T) (h : Rel X σ a w g) (hN : X.N ≤ σ.length) (ho : OpIn X.N ⟨d, .build t parts, ty, pos, aft, gd⟩) (hk : opK0 T env ⟨d, .build t parts, ty, pos, aft, gd⟩ σ k = some r) (hK : Nx X σ.length k r K) :
    Oper.wpS P ⟨d, .build t parts, ty, pos, aft, gd⟩ a w K := by
  simp only [opK0] at hk
  cases hti : T t with
  | none => rw [hti] at hk; cases hk
  | some ti =>
  rw [hti] at hk
  simp only at hk
  split at hk
  · cases hk
  rename_i hag
  have hag : ti.agg = true := by simpa using hag
  cases hr : ti.arr with
  | succ n =>
    rw [hr] at hk
    simp only at hk
    split at hk
    rotate_left
    · cases hk
    rename_i ei hei
    split at hk
    rotate_left
    · cases hk
    rename_i ls hls
    obtain ⟨_, _, h1⟩ := hT.arr t ti n hti hr
    obtain ⟨i, z, hi, q1, q2, q3, q4, q5⟩ := hT.info t ti hti
    obtain ⟨ie, ze, hie, r1, _⟩ := hT.info ti.el ei hei
    have hplace : ∀ (i o : Nat) (ft : TypeId) fi, ((List.range (n + 1)).map fun i => (i * ei.ty.sz, ti.el))[i]? = some (o, ft) → T ft = some fi → (fun i => some (i * ie.size, ie.size)) i = some (o, fi.ty.sz) := by
      intro i o ft fi hf hfi
      obtain ⟨j, hj, he⟩ := Option.map_eq_some_iff.1 (by simpa only [List.getElem?_map] using hf)
      obtain ⟨hj1, hj2⟩ := List.getElem?_eq_some_iff.1 hj
      simp only [List.getElem_range] at hj2
      subst hj2
      simp only [Prod.mk.injEq] at he
      obtain ⟨rfl, rfl⟩ := he
      rw [hei] at hfi
      injection hfi with hfi
      subst hfi
      rw [r1]
    obtain ⟨cs', e1, e2, e3, e4, e5⟩ := fillS_ok hT h hN (place := fun i => some (i * ie.size, ie.size)) hplace parts.toList (zeroL ti.ty) ls (zcells ti.ty) (fun q hq t ht => ho.ops q.2 (by
        simp only [Op.operands]
        have : q.2 ∈ (parts.toList.map (·.2)) := List.mem_map_of_mem hq
        simpa using this) t ht) hls (by rw [length_zcells, length_zeroL]) (fun i => (zeroL_get σ w g ti.ty i).1) (fun i => (zeroL_get σ w g ti.ty i).2)
    have hbuilt : P.built t (parts.map fun (i, x) => (i, a.eval x)).toList = some cs'.toArray := by
      unfold Program.built
      rw [hi, h1]
      simp only [q3, hie]
      have e0 : z.cells = (zcells ti.ty).toArray := by rw [← q4]
      rw [e0]
      have em : (parts.map fun (i, x) => (i, a.eval x)).toList = parts.toList.map fun q => (q.1, a.eval q.2) := by simp
      rw [em, e1]
    have hrun : ∀ w', (execOp a.eval ⟨d, .build t parts, ty, pos, aft, gd⟩).run P w' = .ok (.value (.agg cs'.toArray)) w' := by
      intro w'
      have := run_build (P := P) w' t _ cs'.toArray hbuilt
      simp only [execOp, Sem.run_bind, this, Result.andThen_ok, Sem.run_pure]
    exact resT h hN ho hrun (q := (true, ls)) ⟨fun hf => by simp at hf, fun _ => ⟨cs', rfl, e2, e4⟩, e5⟩ hk hK
  | zero =>
    rw [hr] at hk
    simp only at hk
    split at hk
    rotate_left
    · cases hk
    rename_i ls hls
    obtain ⟨fs, h1, h2, h3⟩ := hT.agg t ti hti hag hr
    obtain ⟨places, hpl⟩ := hT.pls t ti hti hag fs h1
    obtain ⟨i, z, hi, q1, q2, q3, q4, q5⟩ := hT.info t ti hti
    have hplace : ∀ (i o : Nat) (ft : TypeId) fi, ti.fs[i]? = some (o, ft) → T ft = some fi → places.toArray[i]? = some (o, fi.ty.sz) := by
      intro i o ft fi hf hfi
      obtain ⟨f, f1, f2, f3⟩ := h2 i o ft hf
      obtain ⟨inf, z', hi', s1, _⟩ := hT.info ft fi hfi
      have := mapM_some_get hpl i f (by simpa using f1)
      rw [f3, hi'] at this
      simp at this
      simp [← this, f2, s1]
    obtain ⟨cs', e1, e2, e3, e4, e5⟩ := fillS_ok hT h hN (place := (places.toArray[·]?)) hplace parts.toList (zeroL ti.ty) ls (zcells ti.ty) (fun q hq t ht => ho.ops q.2 (by
        simp only [Op.operands]
        have : q.2 ∈ (parts.toList.map (·.2)) := List.mem_map_of_mem hq
        simpa using this) t ht) hls (by rw [length_zcells, length_zeroL]) (fun i => (zeroL_get σ w g ti.ty i).1) (fun i => (zeroL_get σ w g ti.ty i).2)
    have hbuilt : P.built t (parts.map fun (i, x) => (i, a.eval x)).toList = some cs'.toArray := by
      unfold Program.built
      rw [hi, h1]
      simp only [q3, hpl]
      have e0 : z.cells = (zcells ti.ty).toArray := by rw [← q4]
      rw [e0]
      have em : (parts.map fun (i, x) => (i, a.eval x)).toList = parts.toList.map fun q => (q.1, a.eval q.2) := by simp
      rw [em, e1]
    have hrun : ∀ w', (execOp a.eval ⟨d, .build t parts, ty, pos, aft, gd⟩).run P w' = .ok (.value (.agg cs'.toArray)) w' := by
      intro w'
      have := run_build (P := P) w' t _ cs'.toArray hbuilt
      simp only [execOp, Sem.run_bind, this, Result.andThen_ok, Sem.run_pure]
    exact resT h hN ho hrun (q := (true, ls)) ⟨fun hf => by simp at hf, fun _ => ⟨cs', rfl, e2, e4⟩, e5⟩ hk hK
theorem op_field {t : TypeId} {x : Operand} {i : Nat} (hT : TOk P T) (h : Rel X σ a w g) (hN : X.N ≤ σ.length) (ho : OpIn X.N ⟨d, .field t x i, ty, pos, aft, gd⟩) (hk : opK0 T env ⟨d, .field t x i, ty, pos, aft, gd⟩ σ k = some r) (hK : Nx X σ.length k r K) :
    Oper.wpS P ⟨d, .field t x i, ty, pos, aft, gd⟩ a w K := by
  simp only [opK0] at hk
  cases hf : field? T t i with
  | none => rw [hf] at hk; cases hk
  | some ff =>
  obtain ⟨f, fi⟩ := ff
  rw [hf] at hk
  simp only at hk
  obtain ⟨fs, fd, ti, h1, h2, h3, h4, _⟩ := field?_ok hT hf
  cases x with
  | tmp s =>
    have hs : s < X.N := ho.ops (.tmp s) (by simp [Op.operands]) s rfl
    simp only at hk
    have hsh := h.sh s (Nat.lt_of_lt_of_le hs hN)
    have hview := fun j => LR_view h s j
    cases hg : gs σ s with
    | cs ag ls =>
      rw [hg] at hk hsh
      simp only [hg] at hview
      cases ag with
      | false => cases hk
      | true =>
        simp only at hk
        split at hk
        rotate_left
        · cases hk
        rename_i hlen
        have hv : a.tmps.getD s undef = .agg (cellsL g s ls.length).toArray := hsh
        refine resVp h hN ho (ag := fi.agg) (cs := (List.range fi.ty.sz).map fun j => g.c ⟨s, f + j⟩) ?_ (by simp [length_ltake, length_ldrop, leaves_len, Slot.leaves] at *; omega) (fun ha => by simp [hT.sz1 h4 ha]) (fun j => ?_) (fun j => view_own _ _ _ _) hk hK
        · intro w'
          have hagr := hT.isAgg h4 w'
          have hszr := hT.sizeOf h4 w'
          have hpart : (part fd.type (cellsL g s ls.length).toArray f).run P w' = .ok (mkV fi.agg ((List.range fi.ty.sz).map fun j => g.c ⟨s, f + j⟩)) w' := by
            cases ha : fi.agg with
            | true =>
              simp only [part, Sem.run_bind, hagr, ha, Result.andThen_ok, if_true, hszr, Sem.run_pure, mkV]
              congr 2
              apply Array.ext'
              apply List.ext_getElem?
              intro j
              simp only [List.extract_toArray, List.extract_eq_take_drop, List.getElem?_take, List.getElem?_drop, List.getElem?_map, cellsL]
              by_cases hj : j < fi.ty.sz
              · rw [if_pos (by omega)]
                have : f + j < ls.length := by omega
                simp [hj, this]
              · rw [if_neg (by omega)]
                simp [hj]
            | false =>
              have s1 := hT.sz1 h4 ha
              have : f < ls.length := by omega
              simp [part, Sem.run_bind, hagr, ha, mkV, s1, cellsL, this]
          simp [execOp, Act.eval, hv, Instr.field, run_underlying h1, h2, asAgg, h3, hpart]
        · rw [lget_view, lget_ltake]
          by_cases hj : j < fi.ty.sz
          · rw [if_pos hj, lget_ldrop]
            have := hview (f + j)
            simp only [Slot.leaves] at this
            simpa [List.getD_eq_getElem?_getD, hj] using this
          · rw [if_neg hj]; trivial
    | _ => rw [hg] at hk; cases hk
  | _ => cases hk
end
end Go.Ev
namespace Go.Ev
set_option linter.unusedVariables false
set_option linter.unusedSimpArgs false
section
variable {P : Program} {T : TypeId → Option TI} {env : Env} {X : Ctx} {σ : St} {a : Act} {w : World} {g : Gh} {A : Type} {r : A} {k : St → Option A} {K : Act → World → Prop} {Q : Exit → Act → World → Prop}
  {d : Option Tmp} {ty : TypeId} {pos : String} {aft : Array Edge} {gd : Option (Nat × Bool)}
theorem rel_zero (w : World) (S : Nat → Prop) : ∀ t : Ty, rel w S t t.zero (zcells t)
  | .int k => rfl
  | .bool => rfl
  | .str => rfl
  | .list e => by simp only [rel, zcells, Ty.zero]; exact ⟨none, 0, rfl, Nat.le_refl _, .inl trivial⟩
  | .pair a b => by simp only [rel, zcells, Ty.zero]; exact ⟨_, _, rfl, rel_zero w S a, rel_zero w S b⟩
theorem rows_zero (w : World) (S : Nat → Prop) (e : Ty) : ∀ n, rows w S e (List.replicate n e.zero) ((List.replicate n (zcells e)).flatten)
  | 0 => rfl
  | n + 1 => by
    simp only [List.replicate_succ, rows, List.flatten_cons]
    exact ⟨_, _, rfl, rel_zero w S e, rows_zero w S e n⟩
theorem flatten_get (c : List Value) : ∀ (n i : Nat), 0 < c.length → ((List.replicate n c).flatten)[i]? = if i < n * c.length then c[i % c.length]? else none
  | 0, i, _ => by simp
  | n + 1, i, hc => by
    rw [List.replicate_succ, List.flatten_cons]
    by_cases hi : i < c.length
    · rw [List.getElem?_append_left hi, if_pos (by rw [Nat.add_mul]; omega), Nat.mod_eq_of_lt hi]
    · rw [List.getElem?_append_right (by omega), flatten_get c n _ hc]
      rw [Nat.add_mul, Nat.one_mul]
      have : i % c.length = (i - c.length) % c.length := Nat.mod_eq_sub_mod (by omega)
      rw [this]
      by_cases h2 : i - c.length < n * c.length
      · rw [if_pos h2, if_pos (by omega)]
      · rw [if_neg h2, if_neg (by omega)]
theorem made_eq (z : List Value) (n : Nat) (hz : 0 < z.length) : (madeCells z.toArray (n * z.length)).toList = (List.replicate n z).flatten := by
  apply List.ext_getElem?
  intro i
  rw [flatten_get z n i hz]
  by_cases hi : i < n * z.length
  · rw [if_pos hi]
    have hm : i % z.length < z.length := Nat.mod_lt _ hz
    simp [madeCells, hi, hm]
  · rw [if_neg hi]
    simp [madeCells]; omega
/-- A new row comes out. -/
theorem resRow {o : Oper} (h : Rel X σ a w g) (hN : X.N ≤ σ.length) (ho : OpIn X.N o) {te : TypeId} {e : Ty} {xs : List e.den} {v : Value} {w' : World} (hrun : (execOp a.eval o).run P w = .ok (.value v) w') (hb : Go.RowKit.Below w.heap.size w w')
    (hv : ∀ b, v.ownBlock = some b → w.heap.size ≤ b) (hr : ownR w' g.S te e xs v) (hk : k (Ev.wr σ o.dst (.cs false [.own te e xs])) = some r) (hK : Nx X σ.length k r K) : o.wp P a w K Q := by
  unfold Oper.wp
  rw [hrun]
  show K (a.put o.dst v) w'
  have h1 := h.below hb (drawn_le hrun)
  cases hd : o.dst with
  | none => rw [hd] at hk; exact hK σ a w' g h1 rfl hk
  | some d =>
    rw [hd] at hk
    obtain ⟨g', hr', _⟩ := h1.wrOwn (ho.dst d hd) hN (te := te) (xs := xs) hr (fun b hb' => by
      have hge := hv b hb'
      refine ⟨fun hs => ?_, .inl (Nat.le_trans h.grow hge), fun o' he => ?_⟩
      · have := (h.sb b hs).1; omega
      · have he' : ob σ g o' = some b := he
        have := (h.fr o' b he').2.1; omega)
    exact hK _ _ _ _ hr' (by simp) hk
theorem make_ok (hT : TOk P T) {t : TypeId} {ti ei : TI} (hu : P.underlying t = some (.slice ti.el)) (hei : T ti.el = some ei) (w : World) (S : Nat → Prop) (k1 k2 : IntKind) (n : Int) (c1 : 0 ≤ n) (c3 : n * (ei.bytes : Int) ≤ 140737488355328) (c4 : n ≤ 140737488355328) :
    ∃ w', (Instr.makeSlice t (.int k1 n) (.int k2 n)).run P w = .ok (.slice (some ⟨w.heap.size, 0, none⟩) n.toNat n.toNat) w' ∧ Go.RowKit.Below w.heap.size w w' ∧
      ownR w' S ti.el ei.ty (List.replicate n.toNat ei.ty.zero) (.slice (some ⟨w.heap.size, 0, none⟩) n.toNat n.toNat) := by
  obtain ⟨N, rfl⟩ := Int.eq_ofNat_of_zero_le c1
  obtain ⟨i, z, hi, q1, q2, q3, q4, q5⟩ := hT.info ti.el ei hei
  have hp := sz_pos ei.ty
  have hNb : N * ei.bytes ≤ 140737488355328 := by
    have e1 : ((N * ei.bytes : Nat) : Int) ≤ 140737488355328 := by rw [Int.natCast_mul]; exact c3
    omega
  have hNm : N ≤ maxLen := by simp only [maxLen]; omega
  have hb2 : i.bytes * N ≤ 281474976710656 := by rw [q2, Nat.mul_comm]; omega
  obtain ⟨w', r1, r2, r3⟩ := run_make_full (P := P) w 0 t ti.el i z ei.ty.sz hu hi q3 q1 k1 k2 N hb2 hNm (Nat.zero_le _)
  have hz : z.cells = (zcells ei.ty).toArray := by rw [← q4]
  simp only [Int.toNat_natCast]
  refine ⟨w', r1, ⟨r3.os, r3.tape, r3.output, r3.size, fun b hb => r3.block b hb (by simp)⟩, _, rows_zero w' S ei.ty N, ?_⟩
  rw [List.length_replicate]
  rw [hz, show N * ei.ty.sz = N * (zcells ei.ty).length from by rw [length_zcells], made_eq _ _ (by rw [length_zcells]; exact hp)] at r2
  exact r2
theorem op_makeSlice {t : TypeId} {x y : Operand} (hT : TOk P T) (h : Rel X σ a w g) (hN : X.N ≤ σ.length) (ho : OpIn X.N ⟨d, .makeSlice t x y, ty, pos, aft, gd⟩) (hk : opK0 T env ⟨d, .makeSlice t x y, ty, pos, aft, gd⟩ σ k = some r) (hK : Nx X σ.length k r K) :
    Oper.wp P ⟨d, .makeSlice t x y, ty, pos, aft, gd⟩ a w K Q := by
  have hx := rd1_ok h hN x (ho.ops x (by simp [Op.operands]))
  have hy := rd1_ok h hN y (ho.ops y (by simp [Op.operands]))
  simp only [opK0] at hk
  cases hti : T t with
  | none => rw [hti] at hk; cases hk
  | some ti =>
  rw [hti] at hk
  simp only at hk
  split at hk
  · cases hk
  rename_i hag
  have hag : ti.agg = false := by simpa using hag
  have hsc := hT.sca t ti hti hag
  split at hk
  rotate_left
  · cases hk
  rename_i et hty
  rw [hty] at hsc
  cases hei : T ti.el with
  | none => rw [hei] at hk; cases hk
  | some ei =>
  rw [hei] at hk
  simp only at hk
  split at hk
  rotate_left
  · cases hk
  rename_i k1 n k2 m e1 e2
  rw [e1] at hx
  rw [e2] at hy
  have v1 := LR_int hx
  have v2 := LR_int hy
  split at hk
  rotate_left
  · cases hk
  rename_i hc
  obtain ⟨c1, c2, c3, c4⟩ := hc
  subst c2
  obtain ⟨w', r1, r2, r3⟩ := make_ok hT hsc.1 hei w g.S k1 k2 n c1 c3 c4
  exact resRow (te := ti.el) (e := ei.ty) (xs := List.replicate (Int.toNat n) ei.ty.zero) h hN ho (by simp only [execOp, v1, v2, Sem.run_bind, r1, Result.andThen_ok, Sem.run_pure]) r2 (fun b hb => by simp [Value.ownBlock] at hb; omega) r3 hk hK
end
end Go.Ev
namespace Go.Ev
set_option linter.unusedVariables false
set_option linter.unusedSimpArgs false
section
variable {P : Program} {T : TypeId → Option TI} {env : Env} {X : Ctx} {σ : St} {a : Act} {w : World} {g : Gh} {A : Type} {r : A} {k : St → Option A} {K : Act → World → Prop} {Q : Exit → Act → World → Prop}
  {d : Option Tmp} {ty : TypeId} {pos : String} {aft : Array Edge} {gd : Option (Nat × Bool)}
/-- A part of a new row: its value, and what is told of it. -/
def PR (w : World) (S : Nat → Prop) (n : Nat) (q : Nat × Value) (p : Nat × List Leaf) : Prop :=
  p.1 = q.1 ∧ (p.2.length = n → n ≠ 0 → ∃ us : List Value, q.2.cells.toList = us ∧ us.length = n ∧ ∀ i, LRz w S (lget p.2 i) (us.getD i undef))
inductive PRs (w : World) (S : Nat → Prop) (n : Nat) : List (Nat × Value) → List (Nat × List Leaf) → Prop
  | nil : PRs w S n [] []
  | cons {q p qs ps} : PR w S n q p → PRs w S n qs ps → PRs w S n (q :: qs) (p :: ps)
theorem frParts_ok (ag : Bool) (n : Nat) : ∀ (ps : List (Nat × Operand)) {σ : St} {g : Gh}, Rel X σ a w g → X.N ≤ σ.length → (∀ q ∈ ps, ∀ t, q.2 = .tmp t → t < X.N) →
    ∃ g', Fz X a w σ (frParts ag ps σ).1 g g' ∧ PRs w g'.S n (ps.map fun q => (q.1, a.eval q.2)) (frParts ag ps σ).2
  | [], σ, g, h, _, _ => ⟨g, .refl h, .nil⟩
  | (i, x) :: ps, σ, g, h, hN, hin => by
    have hq := rd_ok h hN x (hin (i, x) (by simp))
    by_cases hc : (rd σ x).1 = ag ∧ (rd σ x).2.all Leaf.known = true
    · obtain ⟨us, u1, u2, u3, u4⟩ := h.cells hq hc.2
      obtain ⟨g1, f1, z1, z2⟩ := freezeL_ok (rd σ x).2 (fun i => us.getD i undef) h (fun i => LRw_of (u3 i))
      obtain ⟨g2, f2, p2⟩ := frParts_ok ag n ps f1.rel (by rw [f1.len]; exact hN) (fun q hq => hin q (by simp [hq]))
      refine ⟨g2, f1.trans f2, ?_⟩
      simp only [frParts, List.map_cons]
      refine .cons ⟨rfl, ?_⟩ p2
      rw [if_pos hc]
      intro hn h0
      have hn' : (freezeL (rd σ x).2 σ).2.length = n := hn
      exact ⟨us, u1, by omega, fun i => LRz_mono f2.S (z1 i)⟩
    · obtain ⟨b, ls, hbl⟩ : ∃ b ls, rd σ x = (b, ls) := ⟨_, _, rfl⟩
      have hl : ∃ vs : Nat → Value, ∀ i, LRw σ w g (lget ls i) (vs i) := by
        rw [hbl] at hq
        cases b with
        | false =>
          obtain ⟨l, h1, h2⟩ := hq.1 rfl
          simp only at h1
          subst h1
          exact ⟨fun _ => a.eval x, fun i => by
            cases i with
            | zero => exact LRw_of h2
            | succ i => trivial⟩
        | true =>
          obtain ⟨cs, h1, h2, h3⟩ := hq.2.1 rfl
          exact ⟨fun i => cs.getD i undef, fun i => LRw_of (h3 i)⟩
      obtain ⟨vs, hvs⟩ := hl
      obtain ⟨g1, f1, z1, z2⟩ := freezeL_ok ls vs h hvs
      obtain ⟨g2, f2, p2⟩ := frParts_ok ag n ps f1.rel (by rw [f1.len]; exact hN) (fun q hq => hin q (by simp [hq]))
      simp only [frParts, List.map_cons, hbl]
      rw [hbl] at hc
      refine ⟨g2, f1.trans f2, .cons ⟨rfl, ?_⟩ p2⟩
      rw [if_neg hc]
      intro hn h0
      exact absurd hn.symm h0
theorem fillE_ok {S : Nat → Prop} {e : Ty} {te : TypeId} : ∀ {qs : List (Nat × Value)} {ps : List (Nat × List Leaf)}, PRs w S e.sz qs ps → ∀ {xs xs' : List e.den} {vs : List Value}, fillE e ps xs = some xs' → rows w S e xs vs →
    ∃ vs' : List Value, Instr.fill (fun i => some (i * e.sz, e.sz)) vs.toArray qs = some vs'.toArray ∧ rows w S e xs' vs' ∧ xs'.length = xs.length := by
  intro qs ps h
  induction h with
  | nil =>
    intro xs xs' vs hf hr
    simp only [fillE, Option.some.injEq] at hf
    subst hf
    exact ⟨vs, rfl, hr, rfl⟩
  | @cons q p qs ps h1 _ ih =>
    intro xs xs' vs hf hr
    obtain ⟨i, ls⟩ := p
    obtain ⟨j, v⟩ := q
    simp only [fillE] at hf
    split at hf
    rotate_left
    · cases hf
    rename_i hc
    split at hf
    rotate_left
    · cases hf
    rename_i x hx
    have hp := sz_pos e
    obtain ⟨hij, h2⟩ := h1
    simp only at hij h2
    subst hij
    obtain ⟨us, u1, u2, u3⟩ := h2 hc.2 (by omega)
    have hrel := implode_ok hx u2 (fun i _ => u3 i)
    have hset := rows_set hr i x us hc.1 hrel
    have hfit : i * e.sz + e.sz ≤ xs.length * e.sz := by
      have := Nat.mul_le_mul_right e.sz (show i + 1 ≤ xs.length from hc.1)
      rw [Nat.add_mul] at this; omega
    have hvl := rows_len hr
    obtain ⟨vs', e1, e2, e3⟩ := ih hf hset
    refine ⟨vs', ?_, e2, by simpa using e3⟩
    rw [fill_cons (us := us) (o := i * e.sz) (by rw [u2]) u1 (by omega)]
    rw [← e1]
    simp only [putC, u2]
theorem init_eq (z : List Value) (n : Nat) (hz : 0 < z.length) : (Array.range (n * z.length)).map (fun i => z.toArray[i % z.toArray.size]!) = ((List.replicate n z).flatten).toArray := by
  apply Array.ext'
  apply List.ext_getElem?
  intro i
  simp only [Array.toList_map, Array.toList_range, List.getElem?_map]
  rw [flatten_get z n i hz]
  by_cases hi : i < n * z.length
  · rw [if_pos hi]
    have hm : i % z.length < z.length := Nat.mod_lt _ hz
    simp [hi, hm]
  · rw [if_neg hi]
    simp; omega
theorem op_buildSlice {t : TypeId} {len : Nat} {parts : Array (Nat × Operand)} (hT : TOk P T) (h : Rel X σ a w g) (hN : X.N ≤ σ.length) (ho : OpIn X.N ⟨d, .buildSlice t len parts, ty, pos, aft, gd⟩) (hk : opK0 T env ⟨d, .buildSlice t len parts, ty, pos, aft, gd⟩ σ k = some r) (hK : Nx X σ.length k r K) :
    Oper.wp P ⟨d, .buildSlice t len parts, ty, pos, aft, gd⟩ a w K Q := by
  simp only [opK0] at hk
  cases hti : T t with
  | none => rw [hti] at hk; cases hk
  | some ti =>
  rw [hti] at hk
  simp only at hk
  cases hei : T ti.el with
  | none => rw [hei] at hk; cases hk
  | some ei =>
  rw [hei] at hk
  simp only at hk
  split at hk
  · cases hk
  rename_i hc
  have hag : ti.agg = false := by
    cases hx : ti.agg with
    | false => rfl
    | true => exact absurd (.inl hx) hc
  have hty : ti.ty = .list ei.ty := Classical.not_not.1 (fun hx => hc (.inr (.inl hx)))
  have hlen : len * ei.ty.sz ≤ 16777216 := Nat.le_of_not_lt (fun hx => hc (.inr (.inr hx)))
  split at hk
  rotate_left
  · cases hk
  rename_i xs hxs
  have hsc := hT.sca t ti hti hag
  rw [hty] at hsc
  obtain ⟨i, z, hi, q1, q2, q3, q4, q5⟩ := hT.info ti.el ei hei
  have hp := sz_pos ei.ty
  obtain ⟨g1, f1, p1⟩ := frParts_ok ei.agg ei.ty.sz parts.toList h hN (fun q hq t ht => ho.ops q.2 (by
      simp only [Op.operands]
      have : q.2 ∈ (parts.toList.map (·.2)) := List.mem_map_of_mem hq
      simpa using this) t ht)
  obtain ⟨vs, e1, e2, e3⟩ := fillE_ok (te := ti.el) p1 hxs (rows_zero w g1.S ei.ty len)
  rw [List.length_replicate] at e3
  have hz : z.cells = (zcells ei.ty).toArray := by rw [← q4]
  have hl : len ≤ maxLen := by
    have : len ≤ len * ei.ty.sz := Nat.le_mul_of_pos_right _ hp
    simp only [maxLen]; omega
  have hinit : ((Array.range (len * ei.ty.sz)).map fun j => (if len * ei.ty.sz = 0 then #[] else z.cells)[j % (if len * ei.ty.sz = 0 then #[] else z.cells).size]!) = ((List.replicate len (zcells ei.ty)).flatten).toArray := by
    by_cases h0 : len * ei.ty.sz = 0
    · rcases Nat.mul_eq_zero.1 h0 with h1 | h1
      · subst h1; simp
      · omega
    · rw [if_neg h0, hz, ← init_eq _ _ (by rw [length_zcells]; exact hp), length_zcells]
  have hrun : (execOp a.eval ⟨d, .buildSlice t len parts, ty, pos, aft, gd⟩).run P w = .ok (.value (.slice (some ⟨w.heap.size, 0, none⟩) len len)) (w.alloc (.cells vs.toArray ti.el)) := by
    have em : (parts.map fun (i, x) => (i, a.eval x)).toList = parts.toList.map fun q => (q.1, a.eval q.2) := by simp
    have hfl : Instr.fill (fun i => some (i * ei.ty.sz, ei.ty.sz)) ((Array.range (len * ei.ty.sz)).map fun j => (if len * ei.ty.sz = 0 then #[] else z.cells)[j % (if len * ei.ty.sz = 0 then #[] else z.cells).size]!) (parts.map fun (i, x) => (i, a.eval x)).toList = some vs.toArray := by
      rw [hinit, em]; exact e1
    have hnr : ∀ cs, (newRow ti.el cs).run P w = .ok ⟨w.heap.size, 0, none⟩ (w.alloc (.cells cs ti.el)) := fun cs => rfl
    have hbs : (Instr.buildSlice t len (parts.map fun (i, x) => (i, a.eval x))).run P w = .ok (.slice (some ⟨w.heap.size, 0, none⟩) len len) (w.alloc (.cells vs.toArray ti.el)) := by
      have em2 : (Array.map (fun x => (x.fst, a.eval x.snd)) parts).toList = parts.toList.map fun q => (q.1, a.eval q.2) := by simp
      rw [em] at hfl
      by_cases h0 : len * ei.ty.sz = 0
      · simp only [if_pos h0] at hfl
        simp only [Instr.buildSlice, Sem.run_bind, run_underlying hsc.1, Result.andThen_ok, hT.sizeOf hei, if_neg (Nat.not_lt.2 hlen), if_pos h0, Sem.run_pure, em2, hfl, hnr]
      · simp only [if_neg h0] at hfl
        have hzv : (zeroValue ti.el).run P w = .ok z w := by simp [zeroValue, typeInfo, hi, q3]
        simp only [Instr.buildSlice, Sem.run_bind, run_underlying hsc.1, Result.andThen_ok, hT.sizeOf hei, if_neg (Nat.not_lt.2 hlen), if_neg h0, hzv, Sem.run_pure, em2, hfl, hnr]
    simp only [execOp, Sem.run_bind, hbs, Result.andThen_ok, Sem.run_pure]
  have hb : Go.RowKit.Below w.heap.size w (w.alloc (.cells vs.toArray ti.el)) := (Go.RowKit.Below.refl _ _).alloc (Nat.le_refl _) _
  refine resRow (te := ti.el) (e := ei.ty) (xs := xs) f1.rel (by rw [f1.len]; exact hN) ho hrun hb (fun b hb => by simp [Value.ownBlock] at hb; omega) ?_ hk (by rw [f1.len]; exact hK)
  have hvl := rows_len e2
  have := World.ownsRow_lit (base := 0) (e := ti.el) (size := ei.ty.sz) w vs.toArray len (Nat.zero_le _) hl (by simp [hvl, e3])
  refine ⟨vs, rows_mono (fun _ h => h) (fun b hS => hb.block b (f1.rel.sb b hS).1) e2, ?_⟩
  rw [e3]
  simpa using this
theorem map_two {α β : Type} {f : α → β} {l : List α} {x y : β} (h : l.map f = [x, y]) : ∃ p q, l = [p, q] ∧ f p = x ∧ f q = y := by
  cases l with
  | nil => cases h
  | cons p l => cases l with
    | nil => simp at h
    | cons q l => cases l with
      | nil => exact ⟨p, q, rfl, by simpa using h⟩
      | cons r l => simp at h
theorem op_len {c : Call} (hT : TOk P T) (hb : c.callee = .builtin .len) (h : Rel X σ a w g) (hN : X.N ≤ σ.length) (ho : OpIn X.N ⟨d, .call c, ty, pos, aft, gd⟩) (hk : opK0 T env ⟨d, .call c, ty, pos, aft, gd⟩ σ k = some r) (hK : Nx X σ.length k r K) :
    Oper.wpS P ⟨d, .call c, ty, pos, aft, gd⟩ a w K := by
  obtain ⟨cal, args, ats⟩ := c
  simp only at hb
  subst hb
  obtain ⟨args⟩ := args
  obtain ⟨ats⟩ := ats
  simp only [opK0] at hk
  split at hk
  rotate_left
  · cases hk
  rename_i x t
  have hx := rd1_ok h hN x (ho.ops x (by simp [Op.operands, Call.operands]))
  split at hk
  · cases hk
  rename_i ti hti
  split at hk
  · cases hk
  rename_i hag
  have hag : ti.agg = false := by simpa using hag
  have hsc := hT.sca t ti hti hag
  have fin : ∀ n : Nat, (∀ w', (Builtin.len_ #[t] ty #[a.eval x]).run P w' = .ok (goInt n) w') → k (Ev.wr σ d (.cs false [.val (.int .i64) (n : Int)])) = some r → Oper.wpS P ⟨d, .call ⟨.builtin .len, #[x], #[t]⟩, ty, pos, aft, gd⟩ a w K := by
    intro n hrun hk'
    exact resL (l := .val (.int .i64) (n : Int)) (v := goInt n) h hN ho (by simp [execOp, resolve, invoke, builtin, hrun]) rfl rfl hk' hK
  split at hk
  · rename_i hty
    rw [hty] at hsc
    split at hk
    rotate_left
    · cases hk
    rename_i s hs
    rw [hs] at hx
    refine fin (List.length s) ?_ hk
    rw [LR_str hx]
    have hsz : (⟨List.toArray s⟩ : ByteArray).size = List.length s := rfl
    intro w'
    simp only [run_len_string (P := P) w' t ty _ hsc, hsz]
  · rename_i e hty
    rw [hty] at hsc
    split at hk
    · rename_i e' xs hs
      rw [hs] at hx
      simp only [LR, rel] at hx
      obtain ⟨A, cap, hv, _⟩ := hx
      injection hv with hv _
      refine fin (List.length xs) ?_ hk
      simp [Builtin.len_, run_underlying hsc.1, hv]
    · rename_i hs
      rw [hs] at hx
      refine fin 0 ?_ hk
      rw [show a.eval x = .slice none 0 0 from hx]
      simp [Builtin.len_, run_underlying hsc.1]
    · rename_i p hs
      rw [hs] at hx
      split at hk
      rotate_left
      · cases hk
      rename_i te e' xs hg
      have hl := h.lf p
      rw [hg] at hl
      refine fin (List.length xs) ?_ hk
      rw [hx.1]
      rcases ownR_form hl with ⟨hv, rfl⟩ | ⟨gb, cap, cur, hv, _⟩
      · simp [Builtin.len_, run_underlying hsc.1, hv]
      · simp [Builtin.len_, run_underlying hsc.1, hv]
    · cases hk
  · cases hk
theorem op_min {c : Call} (hb : c.callee = .builtin .min) (h : Rel X σ a w g) (hN : X.N ≤ σ.length) (ho : OpIn X.N ⟨d, .call c, ty, pos, aft, gd⟩) (hk : opK0 T env ⟨d, .call c, ty, pos, aft, gd⟩ σ k = some r) (hK : Nx X σ.length k r K) :
    Oper.wpS P ⟨d, .call c, ty, pos, aft, gd⟩ a w K := by
  obtain ⟨cal, args, ats⟩ := c
  simp only at hb
  subst hb
  obtain ⟨args⟩ := args
  simp only [opK0] at hk
  split at hk
  rotate_left
  · cases hk
  rename_i k1 x k2 y he
  obtain ⟨p, q, rfl, e1, e2⟩ := map_two he
  have hp := rd1_ok h hN p (ho.ops p (by simp [Op.operands, Call.operands]))
  have hq := rd1_ok h hN q (ho.ops q (by simp [Op.operands, Call.operands]))
  rw [e1] at hp
  rw [e2] at hq
  refine resL (l := .val (.int k1) (if (y : Int) < x then y else x)) (v := .int k1 (if (y : Int) < x then y else x)) h hN ho ?_ rfl rfl hk hK
  simp [execOp, resolve, invoke, builtin, LR_int hp, LR_int hq, run_min_int2]
theorem op_max {c : Call} (hb : c.callee = .builtin .max) (h : Rel X σ a w g) (hN : X.N ≤ σ.length) (ho : OpIn X.N ⟨d, .call c, ty, pos, aft, gd⟩) (hk : opK0 T env ⟨d, .call c, ty, pos, aft, gd⟩ σ k = some r) (hK : Nx X σ.length k r K) :
    Oper.wpS P ⟨d, .call c, ty, pos, aft, gd⟩ a w K := by
  obtain ⟨cal, args, ats⟩ := c
  simp only at hb
  subst hb
  obtain ⟨args⟩ := args
  simp only [opK0] at hk
  split at hk
  rotate_left
  · cases hk
  rename_i k1 x k2 y he
  obtain ⟨p, q, rfl, e1, e2⟩ := map_two he
  have hp := rd1_ok h hN p (ho.ops p (by simp [Op.operands, Call.operands]))
  have hq := rd1_ok h hN q (ho.ops q (by simp [Op.operands, Call.operands]))
  rw [e1] at hp
  rw [e2] at hq
  refine resL (l := .val (.int k1) (if (y : Int) > x then y else x)) (v := .int k1 (if (y : Int) > x then y else x)) h hN ho ?_ rfl rfl hk hK
  simp [execOp, resolve, invoke, builtin, LR_int hp, LR_int hq, run_max_int2]
end
end Go.Ev
namespace Go.Ev
set_option linter.unusedVariables false
set_option linter.unusedSimpArgs false
section
variable {P : Program} {T : TypeId → Option TI} {env : Env} {X : Ctx} {σ : St} {a : Act} {w : World} {g : Gh} {A : Type} {r : A} {k : St → Option A} {K : Act → World → Prop} {Q : Exit → Act → World → Prop}
  {d : Option Tmp} {ty : TypeId} {pos : String} {aft : Array Edge} {gd : Option (Nat × Bool)}
/-- A row that can be read: its cells. -/
def srcR (w : World) (S : Nat → Prop) (e : Ty) (ys : List e.den) (v : Value) : Prop :=
  ∃ A c, v = .slice A ys.length c ∧ ∃ us, rows w S e ys us ∧ (ys = [] ∨ ∃ b o, A = some ⟨b, o, none⟩ ∧ ∀ j u, us[j]? = some u → w.cell? ⟨b, o + j, none⟩ = some u)
theorem rows_of_cells {S : Nat → Prop} {e : Ty} {b : Nat} : ∀ (xs : List e.den) (o : Nat), (∀ (i : Nat) (x : e.den), xs[i]? = some x → ∃ c, rel w S e x c ∧ ∀ j u, c[j]? = some u → w.cell? ⟨b, o + (i * e.sz + j), none⟩ = some u) →
    ∃ us, rows w S e xs us ∧ ∀ j u, us[j]? = some u → w.cell? ⟨b, o + j, none⟩ = some u
  | [], o, _ => ⟨[], rfl, fun j u h => by simp at h⟩
  | x :: xs, o, h => by
    obtain ⟨c, c1, c2⟩ := h 0 x rfl
    obtain ⟨us, u1, u2⟩ := rows_of_cells xs (o + e.sz) (fun i y hy => by
      obtain ⟨c, c1, c2⟩ := h (i + 1) y hy
      refine ⟨c, c1, fun j u hu => ?_⟩
      have := c2 j u hu
      rw [Nat.add_mul] at this
      rw [← this]
      congr 2
      omega)
    refine ⟨c ++ us, ⟨c, us, rfl, c1, u1⟩, fun j u hu => ?_⟩
    by_cases hj : j < c.length
    · rw [List.getElem?_append_left hj] at hu
      have := c2 j u hu
      simpa using this
    · rw [List.getElem?_append_right (by omega)] at hu
      have := u2 _ u hu
      rw [rel_len c1] at this
      rw [← this]
      congr 2
      rw [rel_len c1] at hj
      omega
theorem rowOf_ok (h : Rel X σ a w g) {e : Ty} {l : Leaf} {ys : List e.den} (hr : rowOf σ e l = some ys) {v : Value} (hl : LR σ w g l v) : srcR w g.S e ys v := by
  cases l with
  | val t x =>
    cases t with
    | list e' =>
      simp only [rowOf] at hr
      split at hr
      · rename_i he
        subst he
        injection hr with hr
        subst hr
        simp only [LR, rel] at hl
        obtain ⟨A, cap, hv, hc, hx⟩ := hl
        injection hv with hv _
        by_cases h0 : x = []
        · subst h0
          exact ⟨A, cap, hv, [], rfl, .inl rfl⟩
        · obtain ⟨b, o, hA, _, hcell⟩ := hx.resolve_left h0
          obtain ⟨us, u1, u2⟩ := rows_of_cells x o hcell
          exact ⟨A, cap, hv, us, u1, .inr ⟨b, o, hA, u2⟩⟩
      · cases hr
    | _ => simp [rowOf] at hr
  | nils =>
    simp only [rowOf, Option.some.injEq] at hr
    subst hr
    exact ⟨none, 0, hl, [], rfl, .inl rfl⟩
  | al p =>
    simp only [rowOf] at hr
    split at hr
    rotate_left
    · cases hr
    rename_i te e' xs hg
    split at hr
    rotate_left
    · cases hr
    rename_i he
    subst he
    injection hr with hr
    subst hr
    have hp := h.lf p
    rw [hg] at hp
    rw [hl.1]
    rcases ownR_form hp with ⟨hv, rfl⟩ | ⟨gb, cap, cur, hv, y1, y2, y3, y4, y5⟩
    · exact ⟨none, 0, hv, [], rfl, .inl rfl⟩
    · refine ⟨_, _, hv, _, y5, .inr ⟨gb, 0, rfl, fun j u hu => ?_⟩⟩
      rw [List.getElem?_take] at hu
      split at hu
      · rw [Nat.zero_add, cell_of_row w gb _ cur te (0, 0) y1]
        simpa using hu
      · cases hu
  | _ => simp [rowOf] at hr
theorem op_convert {t t' : TypeId} {x : Operand} (hT : TOk P T) (h : Rel X σ a w g) (hN : X.N ≤ σ.length) (ho : OpIn X.N ⟨d, .convert t t' x, ty, pos, aft, gd⟩) (hk : opK0 T env ⟨d, .convert t t' x, ty, pos, aft, gd⟩ σ k = some r) (hK : Nx X σ.length k r K) :
    (t' ≠ strId → Oper.wpS P ⟨d, .convert t t' x, ty, pos, aft, gd⟩ a w K) ∧ Oper.wpE P ⟨d, .convert t t' x, ty, pos, aft, gd⟩ a w K := by
  have hx := rd1_ok h hN x (ho.ops x (by simp [Op.operands]))
  simp only [opK0] at hk
  have both : Oper.wpS P ⟨d, .convert t t' x, ty, pos, aft, gd⟩ a w K → (t' ≠ strId → Oper.wpS P ⟨d, .convert t t' x, ty, pos, aft, gd⟩ a w K) ∧ Oper.wpE P ⟨d, .convert t t' x, ty, pos, aft, gd⟩ a w K := fun h => ⟨fun _ => h, Oper.wpE_of_S h⟩
  split at hk
  rotate_left
  · cases hk
  rename_i si ti hsi hti
  split at hk
  · rename_i k1 k2 i e1 e2 hl
    split at hk
    · cases hk
    rename_i hag
    have ha1 : ti.agg = false := by cases hh : ti.agg <;> simp_all
    have ha2 : si.agg = false := by cases hh : si.agg <;> simp_all
    have h1 := hT.sca _ _ hsi ha2
    have h2 := hT.sca _ _ hti ha1
    rw [e1] at h1
    rw [e2] at h2
    rw [hl] at hx
    have hv := LR_int hx
    refine both ?_
    exact resL (l := .val (.int k1) (k1.wrap i)) (v := .int k1 (k1.wrap i)) h hN ho (by simp [execOp, hv, convert, run_underlying h1, run_underlying h2, Conv.intToInt]) rfl rfl hk hK
  · rename_i s e1 e2 hl
    split at hk
    · cases hk
    rename_i hag
    have ha1 : ti.agg = false := by cases hh : ti.agg <;> simp_all
    have ha2 : si.agg = false := by cases hh : si.agg <;> simp_all
    have h1 := hT.sca _ _ hsi ha2
    have h2 := hT.sca _ _ hti ha1
    rw [e1] at h1
    rw [e2] at h2
    rw [hl] at hx
    have hv := LR_str hx
    refine both ?_
    exact resL (l := .val .str s) h hN ho (by simp [execOp, hv, convert, run_underlying h1, run_underlying h2]) rfl rfl hk hK
  · rename_i e1 e2 
    split at hk
    · cases hk
    rename_i hag
    simp only [not_or] at hag
    have ha1 : ti.agg = false := by cases hh : ti.agg <;> simp_all
    have ha2 : si.agg = false := by cases hh : si.agg <;> simp_all
    have h1 := hT.sca _ _ hsi ha2
    have h2 := hT.sca _ _ hti ha1
    rw [e1] at h1
    rw [e2] at h2
    split at hk
    rotate_left
    · cases hk
    rename_i xs hxs
    obtain ⟨ei, hei, hea, het, _⟩ := isTy_ok hT (t := si.el) (ty := .int .u8) (by simpa using hag.2.2.1)
    have h3 := hT.sca _ _ hei hea
    rw [het] at h3
    obtain ⟨A, c, hv, us, hus, hc⟩ := rowOf_ok h hxs hx
    have hu : us = xs.map (Value.int .u8) := by
      clear hc hv hxs hk
      induction xs generalizing us with
      | nil => exact hus
      | cons x xs ih => obtain ⟨c, r, rfl, h1, h2⟩ := hus; rw [ih r h2]; simp only [rel] at h1; subst h1; rfl
    have hrun : ∀ w', ExtW w w' → (convert t t' (.slice A xs.length c)).run P w' = .ok (.string ⟨(xs.map byte).toArray⟩) w' := by
      intro w' he
      rw [run_convert_bytes_string w' t t' si.el A xs.length c h1.1 h3 h2]
      cases A with
      | none =>
        have : xs = [] := by
          rcases hc with hc | ⟨b, o, hA, _⟩
          · exact hc
          · cases hA
        subst this
        simp [Conv.bytesToString]; rfl
      | some ad =>
        have hl : (loadCells ad xs.length).run P w' = .ok (xs.map (Value.int .u8)).toArray w' := by
          have := run_loadCells_list (P := P) w' ad (xs.map (Value.int .u8)) (fun j v hj => by
            rcases hc with hc | ⟨b, o, hA, hc⟩
            · subst hc; simp at hj
            · injection hA with hA; subst hA
              rw [addr_add]
              have hw := hc j v (by rw [hu]; exact hj)
              rw [← hw]
              refine World.cell?_of_block (he b ?_)
              apply Classical.byContradiction
              intro hlt
              simp [World.cell?, Array.getElem?_eq_none (Nat.le_of_not_lt hlt)] at hw)
          simpa using this
        rw [run_bytesToString w' ad xs.length c xs hl, foldl_push_bytes]
        congr 2
        apply ByteArray.ext
        simp [ByteArray.empty, ByteArray.emptyWithCapacity]
        rfl
    refine ⟨fun hne => absurd hne hag.2.2.2, ?_⟩
    refine resSw h hN ho (v := .string ⟨(xs.map byte).toArray⟩) (fun w' he => ?_) (s := .cs false [.val .str (List.map byte xs)]) (cs := [.string ⟨(xs.map byte).toArray⟩]) rfl ⟨rfl, rfl⟩ rfl (fun i => ?_) (fun i => ?_) hk hK
    · simp only [execOp, hv]
      simp [hrun w' he]
    · cases i with
      | zero => rfl
      | succ i => trivial
    · cases i with
      | zero => rfl
      | succ i => rfl
  · cases hk
theorem run_append_empty (t ty e : TypeId) (i : TypeInfo) (size : Nat) (ht : P.underlying t = some (.slice e)) (hi : P.info? e = some i)
    (v : Value) (n : Nat) (xs : List Value) (hown : w.ownsRow 0 e size v n xs) (c : Nat) :
    (Builtin.append_ #[t, t] ty #[v, .slice none 0 c]).run P w = .ok v w := by
  rcases hown.2 with ⟨rfl, rfl⟩ | ⟨g, cap, cur, rfl, _, _, hnc, _⟩
  · simp [Builtin.append_, run_underlying ht, sizeOf, typeInfo, hi, Builtin.lenOf, Builtin.firstCells]
  · simp [Builtin.append_, run_underlying ht, sizeOf, typeInfo, hi, Builtin.lenOf, Builtin.firstCells, hnc, storeCells]
theorem append_ok (hT : TOk P T) {S : Nat → Prop} {t : TypeId} {ti ei : TI} (hu : P.underlying t = some (.slice ti.el)) (hei : T ti.el = some ei) (hby : 0 < ei.bytes) {v y : Value} {xs ys : List ei.ty.den} (hx : ownR w S ti.el ei.ty xs v) (hy : srcR w S ei.ty ys y)
    (hS : ∀ b, S b → v.ownBlock ≠ some b ∧ b < w.heap.size) (hlen : (xs.length + ys.length) * ei.bytes ≤ 140737488355328) :
    ∃ v' w', (Builtin.append_ #[t, t] ty #[v, y]).run P w = .ok v' w' ∧ w.grownBy w' v.ownBlock ∧ ownR w' S ti.el ei.ty (xs ++ ys) v' ∧ (v'.ownBlock = v.ownBlock ∨ v'.ownBlock = some w.heap.size) := by
  obtain ⟨i, z, hi, q1, q2, q3, q4, q5⟩ := hT.info ti.el ei hei
  have hp := sz_pos ei.ty
  obtain ⟨vs, r1, hown⟩ := hx
  obtain ⟨A, c, rfl, us, u1, u2⟩ := hy
  have hzs : z.cells.size = ei.ty.sz := by
    have : z.cells.toList.length = ei.ty.sz := by rw [q4, length_zcells]
    simpa using this
  have hm : xs.length + ys.length ≤ maxLen := by
    have : xs.length + ys.length ≤ (xs.length + ys.length) * ei.bytes := Nat.le_mul_of_pos_right _ hby
    simp only [maxLen]; omega
  have hcell : A = none ∧ ys = [] ∨ ∃ a0, A = some a0 ∧ ∀ j u, us[j]? = some u → w.cell? (a0.add j) = some u := by
    rcases u2 with h0 | ⟨b, o, rfl, hc⟩
    · subst h0
      simp only [rows] at u1
      subst u1
      cases A with
      | none => exact .inl ⟨rfl, rfl⟩
      | some a0 => exact .inr ⟨a0, rfl, fun j u hu => by simp at hu⟩
    · exact .inr ⟨_, rfl, fun j u hu => by rw [addr_add]; exact hc j u hu⟩
  rcases hcell with ⟨rfl, rfl⟩ | ⟨a0, rfl, hc⟩
  · refine ⟨v, w, run_append_empty t ty ti.el i _ hu hi v _ vs hown c, ⟨rfl, rfl, rfl, Nat.le_refl _, fun _ _ _ => rfl⟩, ?_, .inl rfl⟩
    rw [List.append_nil]
    exact ⟨vs, r1, hown⟩
  · obtain ⟨v', w', e1, e2, e3, _, e5⟩ := run_append_own_at (P := P) w 0 t ty ti.el i z ei.ty.sz ei.bytes hu hi q3 q1 q2 hzs hp v xs.length vs hown a0 ys.length c us (rows_len u1) hc (rows_one u1) hm hlen (Nat.zero_le _)
    have hSw : ∀ b, S b → w'.heap[b]? = w.heap[b]? := fun b hb => e3.block b (hS b hb).2 (fun e => (hS b hb).1 e.symm)
    refine ⟨v', w', e1, e3, ⟨vs ++ us, rows_append (rows_mono (fun _ h => h) hSw r1) (rows_mono (fun _ h => h) hSw u1), ?_⟩, e5⟩
    rw [List.length_append]
    exact e2
/-- The row is made longer, and lies in the slot. -/
theorem app_fin (hT : TOk P T) {o : Oper} (h : Rel X σ a w g) (hN : X.N ≤ σ.length) (ho : OpIn X.N o) {t ty : TypeId} {ti ei : TI} (hu : P.underlying t = some (.slice ti.el)) (hei : T ti.el = some ei) (hby : 0 < ei.bytes) {v y : Value} {xs ys : List ei.ty.den}
    (hx : ownR w g.S ti.el ei.ty xs v) (hy : srcR w g.S ei.ty ys y) (hv : ∀ b, v.ownBlock = some b → ¬ g.S b ∧ (X.w0.heap.size ≤ b ∨ X.M b) ∧ ∀ o, ob σ g o ≠ some b) (hlen : (xs.length + ys.length) * ei.bytes ≤ 140737488355328)
    (hrun : ∀ v' w', (Builtin.append_ #[t, t] ty #[v, y]).run P w = .ok v' w' → (execOp a.eval o).run P w = .ok (.value v') w') (hk : k (Ev.wr σ o.dst (.cs false [.own ti.el ei.ty (xs ++ ys)])) = some r) (hK : Nx X σ.length k r K) : o.wp P a w K Q := by
  obtain ⟨v', w', e1, e2, e3, e4⟩ := append_ok (ty := ty) hT hu hei hby hx hy (fun b hb => ⟨fun e => (hv b e).1 hb, (h.sb b hb).1⟩) hlen
  have h1 : Rel X σ a w' g := h.world (fun b hb => e2.block b (by
      rcases hb with hb | ⟨o', hb⟩
      · exact (h.sb b hb).1
      · exact (h.fr o' b hb).2.1) (fun e => by
      rcases hb with hb | ⟨o', hb⟩
      · exact (hv b e.symm).1 hb
      · exact (hv b e.symm).2.2 o' hb)) e2.os e2.tape e2.output e2.size (fun b h1 h2 => e2.block b (Nat.lt_of_lt_of_le h1 h.grow) (fun e => by
      rcases (hv b e.symm).2.1 with h3 | h3
      · omega
      · exact h2 h3)) (drawn_le e1)
  unfold Oper.wp
  rw [hrun v' w' e1]
  show K (a.put o.dst v') w'
  cases hd : o.dst with
  | none => rw [hd] at hk; exact hK σ a w' g h1 rfl hk
  | some d =>
    rw [hd] at hk
    obtain ⟨g', hr', _⟩ := h1.wrOwn (ho.dst d hd) hN (te := ti.el) (xs := xs ++ ys) e3 (fun b hb' => by
      rcases e4 with e4 | e4
      · rw [e4] at hb'; exact hv b hb'
      · rw [e4] at hb'
        injection hb' with hb'
        subst hb'
        exact ⟨fun hs => Nat.lt_irrefl _ (h.sb _ hs).1, .inl h.grow, fun o' he => Nat.lt_irrefl _ (h.fr o' _ he).2.1⟩)
    exact hK _ _ _ _ hr' (by simp) hk
theorem op_append {c : Call} (hT : TOk P T) (hb : c.callee = .builtin .append) (h : Rel X σ a w g) (hN : X.N ≤ σ.length) (ho : OpIn X.N ⟨d, .call c, ty, pos, aft, gd⟩) (hk : opK0 T env ⟨d, .call c, ty, pos, aft, gd⟩ σ k = some r) (hK : Nx X σ.length k r K) :
    Oper.wp P ⟨d, .call c, ty, pos, aft, gd⟩ a w K Q := by
  obtain ⟨cal, args, ats⟩ := c
  simp only at hb
  subst hb
  obtain ⟨args⟩ := args
  obtain ⟨ats⟩ := ats
  simp only [opK0] at hk
  split at hk
  rotate_left
  · cases hk
  rename_i x y t t'
  have hx := rd1_ok h hN x (ho.ops x (by simp [Op.operands, Call.operands]))
  have hy := rd1_ok h hN y (ho.ops y (by simp [Op.operands, Call.operands]))
  split at hk
  rotate_left
  · cases hk
  rename_i ti hti
  split at hk
  rotate_left
  · cases hk
  rename_i ei hei
  split at hk
  rotate_left
  · cases hk
  rename_i hc
  obtain ⟨rfl, hag, hty, hby⟩ := hc
  have hsc := hT.sca t' ti hti hag
  rw [hty] at hsc
  split at hk
  rotate_left
  · cases hk
  rename_i ys hys
  have hsrc := rowOf_ok h hys hy
  have hrun : ∀ v' w', (Builtin.append_ #[t', t'] ty #[a.eval x, a.eval y]).run P w = .ok v' w' → (execOp a.eval ⟨d, .call ⟨.builtin .append, ⟨[x, y]⟩, ⟨[t', t']⟩⟩, ty, pos, aft, gd⟩).run P w = .ok (.value v') w' := by
    intro v' w' hr
    simp [execOp, resolve, invoke, builtin, hr]
  split at hk
  · rename_i p hp
    rw [hp] at hx
    split at hk
    · cases hk
    rename_i hal
    split at hk
    rotate_left
    · cases hk
    rename_i te e xs hg
    split at hk
    rotate_left
    · cases hk
    rename_i hte
    subst hte
    split at hk
    rotate_left
    · cases hk
    rename_i he
    subst he
    split at hk
    rotate_left
    · cases hk
    rename_i hlen
    simp only at hlen hk
    have hv := vp_of_ne (σ := σ) (p := p) (by rw [hg]; simp)
    have hpr := h.lf p
    rw [hg] at hpr
    have hpo : (gl σ p).isOwn = true := by rw [hg]; rfl
    have hd := h.drop hv
    refine app_fin (σ := sl (mapL (killP p) σ) p .und) hT hd (by simpa using hN) ho hsc.1 hei hby (v := a.eval x) (xs := xs) (by rw [hx.1]; exact hpr) hsrc (fun b hb => ?_) hlen hrun hk (by simpa using hK)
    rw [hx.1] at hb
    have hbo := ownBlock_blk (g := g) hpo hb
    obtain ⟨f1, f2, f3⟩ := h.fr _ _ hbo
    refine ⟨f1, f3, fun o he => ?_⟩
    have hv1 := vp_mapL (f := killP p) rfl hv
    cases o with
    | inl t =>
      have : ob σ g (.inl t) = some b := by simpa [ob, shp_sl, shp_mapL (killP p) rfl] using he
      have := h.inj _ _ _ this hbo
      cases this
    | inr q =>
      simp only [ob] at he
      rw [gl_sl q _ hv1, gl_mapL _ rfl] at he
      split at he
      · cases he
      · rename_i hne
        rw [isOwn_killP] at he
        have := h.inj (.inr q) _ _ he hbo
        injection this with this
        exact hne this.symm
  · rename_i hp
    rw [hp] at hx
    split at hk
    rotate_left
    · cases hk
    rename_i hlen
    refine app_fin (xs := []) hT h hN ho hsc.1 hei hby (v := a.eval x) (by rw [show a.eval x = .slice none 0 0 from hx]; exact ownR_nil _ _ _ _) hsrc (fun b hb => ?_) (by simpa using hlen) hrun hk hK
    rw [show a.eval x = .slice none 0 0 from hx] at hb
    cases hb
  · cases hk
end
end Go.Ev
