/- Functions, part C: what comes back; functions, whole. -/
import Derived.Test.YtphlkpahfcainaaEvFunB
namespace Go.Ev
set_option linter.unusedVariables false
set_option linter.unusedSimpArgs false

theorem implode_len : ∀ (t : Ty) (ls : List Leaf) (x : t.den), implode t ls = some x → t.sz ≤ ls.length
  | .pair a b, ls, x, h => by
    simp only [implode] at h
    split at h
    · rename_i x1 x2 h1 h2
      have l1 := implode_len a _ _ h1
      have l2 := implode_len b _ _ h2
      rw [length_ltake] at l1
      rw [length_ldrop] at l2
      have := sz_pos b
      simp only [Ty.sz]; omega
    · cases h
  | .int k, ls, x, h => by cases ls with
    | nil => simp [implode, lget, Leaf.as] at h
    | cons l ls => simp [Ty.sz]
  | .bool, ls, x, h => by cases ls with
    | nil => simp [implode, lget, Leaf.as] at h
    | cons l ls => simp [Ty.sz]
  | .str, ls, x, h => by cases ls with
    | nil => simp [implode, lget, Leaf.as] at h
    | cons l ls => simp [Ty.sz]
  | .list e, ls, x, h => by cases ls with
    | nil => simp [implode, lget, Leaf.as] at h
    | cons l ls => simp [Ty.sz]

section
variable {P : Program} {T : TypeId → Option TI} {env : Env} {X : Ctx} {a : Act} {w : World}

/-- A result's leaves. -/
theorem retL_ok : ∀ (ks : List LK) (ls : List Leaf) (cs : List Value) {σ σ' : St} {g : Gh} {x : HL ks}, Rel X σ a w g → cs.length = ls.length → (∀ i, LRw σ w g (lget ls i) (cs.getD i undef)) → retL ks ls σ = some (σ', x) →
    ∃ g', Tk X a w σ σ' g g' (outL ks x) cs
  | [], ls, cs, σ, σ', g, x, h, hl, hc, hr => by
    cases ls with
    | cons l ls => simp [retL] at hr
    | nil =>
      simp only [retL, Option.some.injEq, Prod.mk.injEq] at hr
      obtain ⟨rfl, _⟩ := hr
      have : cs = [] := List.eq_nil_of_length_eq_zero (by simpa using hl)
      subst this
      exact ⟨g, .nil h⟩
  | .fr t :: ks, ls, cs, σ, σ', g, x, h, hl, hc, hr => by
    simp only [retL] at hr
    split at hr
    rotate_left
    · cases hr
    rename_i y hy
    split at hr
    rotate_left
    · cases hr
    rename_i σ2 xs hxs
    simp only [Option.some.injEq, Prod.mk.injEq] at hr
    obtain ⟨rfl, rfl⟩ := hr
    obtain ⟨g1, f1, z1, z2⟩ := freezeL_ok (ltake t.sz ls) (fun i => (cs.take t.sz).getD i undef) h (fun i => by
      rw [lget_ltake]
      split
      · rename_i hi
        have := hc i
        simpa [List.getD_eq_getElem?_getD, List.getElem?_take, hi] using this
      · trivial)
    have hlen := implode_len _ _ _ hy
    rw [z2, length_ltake] at hlen
    have hlen2 : (cs.take t.sz).length = t.sz := by simp; omega
    have r1 : rel w g1.S t y (cs.take t.sz) := implode_ok hy hlen2 (fun i _ => z1 i)
    obtain ⟨g2, t2⟩ := retL_ok ks (ldrop t.sz ls) (cs.drop t.sz) f1.rel (by rw [length_ldrop]; simp; omega) (fun i => by
      rw [lget_ldrop]
      have := LRw_mono f1.S f1.c f1.blk f1.box (hc (t.sz + i))
      simpa [List.getD_eq_getElem?_getD] using this) hxs
    refine ⟨g2, ?_⟩
    have := (Tk.val f1 r1).append t2
    rw [List.take_append_drop] at this
    exact this
  | .ow te e :: ks, ls, cs, σ, σ', g, x, h, hl, hc, hr => by
    simp only [retL] at hr
    split at hr
    rotate_left
    · cases hr
    rename_i σ1 y hy
    split at hr
    rotate_left
    · cases hr
    rename_i σ2 xs hxs
    simp only [Option.some.injEq, Prod.mk.injEq] at hr
    obtain ⟨rfl, rfl⟩ := hr
    have t1 := takeOwn_ok h hy (hc 0)
    have hne : cs ≠ [] := by
      intro e0
      subst e0
      have : ls = [] := List.eq_nil_of_length_eq_zero (by simpa using hl.symm)
      subst this
      simp [lget, takeOwn] at hy
    obtain ⟨v, cs, rfl⟩ := List.exists_cons_of_ne_nil hne
    obtain ⟨g2, t2⟩ := retL_ok ks (ldrop 1 ls) cs t1.fz.rel (by rw [length_ldrop]; simp at hl; omega) (fun i => by
      rw [lget_ldrop]
      have := LRw_mono t1.fz.S t1.fz.c t1.fz.blk t1.fz.box (hc (1 + i))
      rw [show 1 + i = i + 1 from by omega] at this
      rw [show 1 + i = i + 1 from by omega]
      exact this) hxs
    exact ⟨g2, t1.append t2⟩

def resSem (tmps : Array Value) : ResultVar → Sem Value
  | .tmp t => pure (tmps.getD t undef)
  | .cell a t => do loadVar t (← asAddr (tmps.getD a undef))
/-- The results' variables. -/
def resV1 : ResultVar → Nat
  | .tmp t => t
  | .cell t _ => t
def resOk (fn : Func) : Bool := fn.results.toList.all fun v => decide (resV1 v < fn.ntmps)

theorem retR_ok (hT : TOk P T) : ∀ (rs : List (Bool × List LK)) (vars : List ResultVar) {σ σ' : St} {g : Gh} {x : BL (rs.map (·.2))}, (∀ v ∈ vars, resV1 v < X.N) → Rel X σ a w g → X.N ≤ σ.length → retR T rs vars σ = some (σ', x) →
    ∃ g' cs vals, Tk X a w σ σ' g g' (outR rs x).2 cs ∧ vals.length = vars.length ∧ vars.length = rs.length ∧ (∀ (i : Nat) (v : ResultVar), vars[i]? = some v → ∃ u, vals[i]? = some u ∧ (resSem a.tmps v).run P w = .ok u w) ∧ tupR (outR rs x).1 vals cs
  | [], [], σ, σ', g, x, hv, h, hN, hr => by
    simp only [retR, Option.some.injEq, Prod.mk.injEq] at hr
    obtain ⟨rfl, _⟩ := hr
    exact ⟨g, [], [], .nil h, rfl, rfl, fun i t hi => by simp at hi, rfl, rfl⟩
  | (ag, ks) :: rs, .tmp t :: vars, σ, σ', g, x, hv, h, hN, hr => by
    simp only [retR] at hr
    split at hr
    rotate_left
    · cases hr
    rename_i hag
    split at hr
    rotate_left
    · cases hr
    rename_i σ1 y hy
    split at hr
    rotate_left
    · cases hr
    rename_i σ2 xs hxs
    simp only [Option.some.injEq, Prod.mk.injEq] at hr
    obtain ⟨rfl, rfl⟩ := hr
    have ht : t < X.N := hv (.tmp t) (by simp)
    have hq := rd_ok h hN (.tmp t) (fun u hu => by injection hu with hu; subst hu; exact ht)
    have key : ∃ c : List Value, c.length = (rd σ (.tmp t)).2.length ∧ (ag = true ∧ a.tmps.getD t undef = .agg c.toArray ∨ ag = false ∧ c = [a.tmps.getD t undef]) ∧ ∀ i, LRw σ w g (lget (rd σ (.tmp t)).2 i) (c.getD i undef) := by
      cases ag with
      | false =>
        obtain ⟨l, e1, e2⟩ := hq.1 hag
        refine ⟨[a.tmps.getD t undef], by rw [e1]; rfl, .inr ⟨rfl, rfl⟩, fun i => ?_⟩
        rw [e1]
        cases i with
        | zero => exact LRw_of e2
        | succ i => trivial
      | true =>
        obtain ⟨cs, e1, e2, e3⟩ := hq.2.1 hag
        exact ⟨cs, e2, .inl ⟨rfl, e1⟩, fun i => LRw_of (e3 i)⟩
    obtain ⟨c, c1, c2, c3⟩ := key
    obtain ⟨g1, t1⟩ := retL_ok ks _ c h c1 c3 hy
    obtain ⟨g2, cs, vals, t2, l1, l2, v2, tr⟩ := retR_ok hT rs vars (fun v hm => hv v (by simp [hm])) t1.fz.rel (by rw [t1.fz.len]; exact hN) hxs
    refine ⟨g2, c ++ cs, a.tmps.getD t undef :: vals, t1.append t2, by simp [l1], by simp [l2], fun i u hi => ?_, ?_⟩
    · cases i with
      | zero =>
        simp only [List.getElem?_cons_zero, Option.some.injEq] at hi
        subst hi
        exact ⟨_, rfl, rfl⟩
      | succ i => exact v2 i u (by simpa using hi)
    · exact ⟨_, _, c, cs, rfl, rfl, t1.len, c2, tr⟩
  | (ag, ks) :: rs, .cell t ty :: vars, σ, σ', g, x, hv, h, hN, hr => by
    simp only [retR] at hr
    cases hti : T ty with
    | none => rw [hti] at hr; cases hr
    | some ti =>
    rw [hti] at hr
    simp only at hr
    split at hr
    rotate_left
    · cases hr
    rename_i hc
    obtain ⟨hbx, hag, hlen⟩ := hc
    split at hr
    rotate_left
    · cases hr
    rename_i σ1 y hy
    split at hr
    rotate_left
    · cases hr
    rename_i σ2 xs hxs
    simp only [Option.some.injEq, Prod.mk.injEq] at hr
    obtain ⟨rfl, rfl⟩ := hr
    have ht : t < X.N := hv (.cell t ty) (by simp)
    have hb : isBox σ t := by
      revert hbx
      unfold isBox
      cases gs σ t <;> intro hx <;> first | rfl | cases hx
    have hval : a.tmps.getD t undef = .pointer (some ⟨g.blk t, 0, none⟩) := by
      have := h.sh t (isBox_lt hb)
      revert this hb
      unfold isBox
      cases gs σ t <;> intro h1 h2 <;> first | (exact h2.1 ht) | (exact h1.1 ht) | (cases h1; done) | (cases h2; done)
    have c1 : (cellsL g t ti.ty.sz).length = (view t 0 (gs σ t).leaves).length := by simp [cellsL, hlen]
    obtain ⟨g1, t1⟩ := retL_ok ks _ (cellsL g t ti.ty.sz) h c1 (fun i => by
      by_cases hi : i < ti.ty.sz
      · rw [cellsL_getD _ _ _ _ hi]; rw [lget_view]; have := LRw_of (LR_view h t i); simp only [Nat.zero_add] at this ⊢; exact this
      · rw [lget_of_le (by simp [hlen]; omega)]; trivial) hy
    have hrun : (resSem a.tmps (.cell t ty)).run P w = .ok (mkV ti.agg (cellsL g t ti.ty.sz)) w := by
      simp only [resSem, hval, asAddr, Sem.run_bind, Sem.run_pure, Result.andThen_ok]
      exact run_loadVar hT hti w _ _ _ (by simp [cellsL]) (fun j u hu => by
        simp only [cellsL, List.getElem?_map, Option.map_eq_some_iff] at hu
        obtain ⟨i, hi, rfl⟩ := hu
        obtain ⟨hi2, rfl⟩ := List.getElem?_eq_some_iff.1 hi
        simp only [List.getElem_range, List.length_range] at hi2 ⊢
        rw [Nat.zero_add]
        exact box_cell h hb (isBox_lt hb) (by omega))
    have hcs : ag = true ∧ mkV ti.agg (cellsL g t ti.ty.sz) = .agg (cellsL g t ti.ty.sz).toArray ∨ ag = false ∧ cellsL g t ti.ty.sz = [mkV ti.agg (cellsL g t ti.ty.sz)] := by
      subst hag
      cases ha : ti.agg with
      | true => exact .inl ⟨rfl, by simp [mkV]⟩
      | false =>
        refine .inr ⟨rfl, ?_⟩
        have h1 := hT.sz1 hti ha
        obtain ⟨u, hu⟩ := List.length_eq_one_iff.1 (show (cellsL g t ti.ty.sz).length = 1 by simp [cellsL, h1])
        rw [hu]
        simp [mkV]
    obtain ⟨g2, cs, vals, t2, l1, l2, v2, tr⟩ := retR_ok hT rs vars (fun v hm => hv v (by simp [hm])) t1.fz.rel (by rw [t1.fz.len]; exact hN) hxs
    refine ⟨g2, cellsL g t ti.ty.sz ++ cs, mkV ti.agg (cellsL g t ti.ty.sz) :: vals, t1.append t2, by simp [l1], by simp [l2], fun i u hi => ?_, ?_⟩
    · cases i with
      | zero =>
        simp only [List.getElem?_cons_zero, Option.some.injEq] at hi
        subst hi
        exact ⟨_, rfl, hrun⟩
      | succ i => exact v2 i u (by simpa using hi)
    · exact ⟨_, _, _, cs, rfl, rfl, t1.len, hcs, tr⟩
  | [], _ :: _, σ, σ', g, x, hv, h, hN, hr => by simp [retR] at hr
  | _ :: _, [], σ, σ', g, x, hv, h, hN, hr => by simp [retR] at hr

theorem outR_len1 : ∀ (rs : List (Bool × List LK)) (x : BL (rs.map (·.2))), (outR rs x).1.length = rs.length
  | [], _ => rfl
  | (a, ks) :: rs, x => by simp [outR, outR_len1 rs x.2]

theorem boxMap_lookup (n : Nat) : ∀ (bs : List (List LK)) (i j : Nat), j < bs.length → (boxMap n i bs).lookup (i + j) = some (n + (i + j))
  | [], i, j, h => by simp at h
  | b :: bs, i, 0, h => by simp [boxMap]
  | b :: bs, i, j + 1, h => by
    have := boxMap_lookup n bs (i + 1) j (by simpa using h)
    rw [show i + 1 + j = i + (j + 1) from by omega] at this
    have hne : (i + (j + 1) == i) = false := by simp
    simp only [boxMap, List.lookup, hne]
    exact this
theorem boxMap_mem (n : Nat) : ∀ (bs : List (List LK)) (i b t : Nat), (b, t) ∈ boxMap n i bs → t = n + b
  | [], i, b, t, h => by simp [boxMap] at h
  | _ :: bs, i, b, t, h => by
    simp only [boxMap, List.mem_cons, Prod.mk.injEq] at h
    rcases h with ⟨rfl, rfl⟩ | h
    · rfl
    · exact boxMap_mem n bs (i + 1) b t h

theorem results_eq (fn : Func) (tmps : Array Value) : results fn tmps = (do
    let vs ← fn.results.mapM (resSem tmps)
    pure (if h : vs.size = 1 then vs[0] else .tuple vs)) := by
  unfold results
  first | done | (congr 1; first | done | (congr 1; funext v; cases v <;> rfl))

theorem mapM_res (tmps : Array Value) : ∀ (vars : List ResultVar) (vals : List Value) (w : World), vals.length = vars.length → (∀ (i : Nat) (v : ResultVar), vars[i]? = some v → ∃ u, vals[i]? = some u ∧ (resSem tmps v).run P w = .ok u w) →
    (vars.mapM (resSem tmps)).run P w = .ok vals w
  | [], vals, w, hl, _ => by
    have : vals = [] := List.eq_nil_of_length_eq_zero hl
    subst this
    rfl
  | v :: vars, [], w, hl, _ => by simp at hl
  | v :: vars, u :: vals, w, hl, hi => by
    obtain ⟨u', h0, h1⟩ := hi 0 v rfl
    simp only [List.getElem?_cons_zero, Option.some.injEq] at h0
    subst h0
    rw [List.mapM_cons]
    simp only [Sem.run_bind, h1, Sem.run_pure, Result.andThen_ok, mapM_res tmps vars vals w (by simpa using hl) (fun i t h => by simpa using hi (i + 1) t (by simpa using h))]

theorem retK_ok (hT : TOk P T) {s : Sig} {fn : Func} (hs : sigOk s fn = true) (hf : resOk fn = true) {w0 : World} {S M : Nat → Prop} {bk : Nat → Nat} {σ : St} {g : Gh} {out : s.Out} (h : Rel (ctx w0 S M fn.ntmps bk) σ a w g) (hN : fn.ntmps ≤ σ.length) (hr : retK T s fn σ = some out) :
    ∃ v, (results fn a.tmps).run P w = .ok v w ∧ Back s w0 w S M bk v out := by
  simp only [sigOk, Bool.and_eq_true, decide_eq_true_eq] at hs
  obtain ⟨⟨⟨⟨s1, s2⟩, s3⟩, s4⟩, s5⟩ := hs
  simp only [retK] at hr
  split at hr
  rotate_left
  · cases hr
  rename_i hall
  split at hr
  rotate_left
  · cases hr
  rename_i σ1 x hx
  split at hr
  rotate_left
  · cases hr
  rename_i σ2 y hy
  injection hr with hr
  subst hr
  have hvars : ∀ v ∈ fn.results.toList, resV1 v < fn.ntmps := fun v hv => by
    have := List.all_eq_true.1 hf v hv
    simpa using this
  obtain ⟨g1, cs, vals, t1, l1, l2, v2, tr⟩ := retR_ok hT s.rs fn.results.toList hvars h hN hx
  have hmok : MOk σ (boxMap fn.ntmps 0 s.bs) := ⟨fun b t hm => by
    have := List.all_eq_true.1 hall _ hm
    revert this
    unfold isBox
    simp only
    (cases gs σ t <;> intro hx <;> first | rfl | cases hx), fun b1 b2 t h1 h2 => by
    have := boxMap_mem _ _ _ _ _ h1
    have := boxMap_mem _ _ _ _ _ h2
    omega⟩
  have hone : ∀ ks ∈ s.bs, ∀ k ∈ ks, LK.one k = true := fun ks hk k hm => List.all_eq_true.1 (List.all_eq_true.1 s4 ks hk) k hm
  obtain ⟨g2, f2, hh, hb2, _, hM⟩ := hand_ok (bs := s.bs) (ls := (outR s.rs x).2) h t1 hmok hone hy
  have htk : ∀ j, j < s.bs.length → tk (boxMap fn.ntmps 0 s.bs) j = fn.ntmps + j := fun j hj => by
    have := boxMap_lookup fn.ntmps s.bs 0 j hj
    rw [Nat.zero_add] at this
    exact tk_of this
  have hbk : ∀ j, j < s.bs.length → g.blk (tk (boxMap fn.ntmps 0 s.bs) j) = bk j := fun j hj => by
    rw [htk j hj, h.bx (fn.ntmps + j) (Nat.le_add_right _ _)]
    simp [ctx]
  have hpob : ∀ o, pob (outR s.rs x).2 cs s.bs.length (boxLs s.bs y) (fun j => cellsL g (tk (boxMap fn.ntmps 0 s.bs) j) (boxLs s.bs y j).length) bk o = pob (outR s.rs x).2 cs s.bs.length (boxLs s.bs y) (fun j => cellsL g (tk (boxMap fn.ntmps 0 s.bs) j) (boxLs s.bs y j).length) (fun j => g.blk (tk (boxMap fn.ntmps 0 s.bs) j)) o := fun o => by
    cases o with
    | arg j => rfl
    | leaf i j => rfl
    | box i =>
      simp only [pob]
      split
      · rename_i hi; rw [hbk i hi]
      · rfl
  have hh2 : Hand w g2.S (outR s.rs x).2 cs s.bs.length (boxLs s.bs y) (fun j => cellsL g (tk (boxMap fn.ntmps 0 s.bs) j) (boxLs s.bs y j).length) bk :=
    ⟨hh.len, hh.rel, fun i hi => by
      obtain ⟨b1, b2, b3⟩ := hh.box i hi
      refine ⟨?_, b2, b3⟩
      rw [← hbk i hi]; exact b1, fun o1 o2 b e1 e2 => hh.inj o1 o2 b (by rw [← hpob]; exact e1) (by rw [← hpob]; exact e2), fun o b e => hh.fr o b (by rw [← hpob]; exact e), hh.sb⟩
  have hres : (results fn a.tmps).run P w = .ok (if hz : vals.toArray.size = 1 then vals.toArray[0] else .tuple vals.toArray) w := by
    have hm := mapM_res (P := P) a.tmps fn.results.toList vals w l1 v2
    have hm2 : (fn.results.mapM (resSem a.tmps)).run P w = .ok vals.toArray w := by
      rw [Array.mapM_eq_mapM_toList]
      have e : (List.toArray <$> List.mapM (resSem a.tmps) fn.results.toList : Sem (Array Value)) = List.mapM (resSem a.tmps) fn.results.toList >>= fun l => pure l.toArray := rfl
      rw [e, Sem.run_bind, hm]
      rfl
    rw [results_eq, Sem.run_bind, hm2]
    rfl
  refine ⟨_, hres, ⟨g2.S, cs, (fun j => cellsL g (tk (boxMap fn.ntmps 0 s.bs) j) (boxLs s.bs y j).length), ?_, ?_, fun b hb => f2.S b (h.s0 b hb), fun b hb => ?_, fun o b hb => ?_⟩, h.os, h.tape, h.output, h.grow, h.frame⟩
  · rw [outSlot_leaves]; exact hh2
  · have hl := t1.len
    have hlen : (outR s.rs x).1.length = vals.length := by rw [l1, l2]; exact outR_len1 s.rs x
    have V1 : ∀ v, vals = [v] → (if hz : vals.toArray.size = 1 then vals.toArray[0] else .tuple vals.toArray) = v := by
      intro v e
      subst e
      rfl
    have V2 : vals.length ≠ 1 → (if hz : vals.toArray.size = 1 then vals.toArray[0] else .tuple vals.toArray) = .tuple vals.toArray := by
      intro e
      rw [dif_neg (by simpa using e)]
    generalize (if hz : vals.toArray.size = 1 then vals.toArray[0] else .tuple vals.toArray) = V at V1 V2
    unfold outSlot
    split
    · rename_i ag n ls he
      rw [he] at tr hl hlen
      obtain ⟨v, vs', c, cs', e1, e2, e3, e4, e5, e6⟩ := tr
      subst e1 e2 e5 e6
      simp only [List.append_nil] at hl ⊢
      rcases e4 with ⟨rfl, rfl⟩ | ⟨rfl, rfl⟩
      · exact ⟨hl.symm, V1 _ rfl⟩
      · exact ⟨hl.symm, by rw [V1 _ rfl]⟩
    · rename_i ks ls hne he
      rw [he] at tr hl hlen
      refine ⟨hl.symm, vals, ?_, tr⟩
      refine V2 ?_
      intro h1
      rw [h1] at hlen
      obtain ⟨⟨ag, n⟩, hk⟩ := List.length_eq_one_iff.1 hlen
      simp only at hk
      subst hk
      exact hne ag n rfl
  · obtain ⟨_, q⟩ := f2.rel.sb b hb
    exact q
  · rw [outSlot_leaves] at hb
    obtain ⟨⟨o', ho'⟩, _⟩ := hM o b (by rw [← hpob]; exact hb)
    exact (h.fr _ _ ho').2.2.symm

end

/-- A function does what its code tells. -/
theorem fun_sound {P : Program} {T : TypeId → Option TI} {env : Env} {f : FuncId} {F : Fun} {fn : Func} {c : Code} {os : List (Nat × Ord)} {hs : List Keep} (hT : TOk P T) (hE : EnvOk P env) (hm : P.follows .mixedOrders = true)
    (hfn : P.funcs[f]? = some fn) (hb : fn.body = some c) (h1 : sigOk F.s fn = true) (h2 : resOk fn = true) (h3 : codeOk os fn.ntmps c = true)
    (hF : ∀ x y out, F.F x y = some out → ∃ n, run T env os F.s fn hs n x y = some out) : Sound P f F := by
  have h1' := h1
  simp only [sigOk, Bool.and_eq_true, decide_eq_true_eq, Bool.not_eq_true'] at h1'
  obtain ⟨⟨⟨⟨s1, s2⟩, s3⟩, s4⟩, s5⟩ := h1'
  refine ⟨s3, fun ks hk k hm => List.all_eq_true.1 (List.all_eq_true.1 s4 ks hk) k hm, ⟨fn, hfn, by rw [hb]; rfl, s5⟩, fun x y out ho w S vs cs bc bk hh ha => ?_⟩
  obtain ⟨n, hn⟩ := hF x y out ho
  simp only [run, hb] at hn
  obtain ⟨g, hr, hlen⟩ := start_ok (fn := fn) h1 hh ha
  refine calls_of_wp hfn hb (exec_ok hT hE hm c hs h3 hr (by rw [hlen]; exact Nat.le_add_right _ _) hn (fun σ' a' w' g' e1 e2 e3 => ?_) (fun i σ' a' w' g' e1 e2 e3 => by cases e3) (fun σ' a' w' g' e1 e2 e3 => ?_))
  · obtain ⟨v, v1, v2⟩ := retK_ok hT h1 h2 e1 (by omega) e3
    exact ⟨e1.defers, v, v1, v, rfl, v2⟩
  · obtain ⟨v, v1, v2⟩ := retK_ok hT h1 h2 e1 (by omega) e3
    exact ⟨e1.defers, v, v1, v, rfl, v2⟩

end Go.Ev
