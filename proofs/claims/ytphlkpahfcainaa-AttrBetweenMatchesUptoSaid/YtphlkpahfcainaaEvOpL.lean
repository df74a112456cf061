/- Operations, part L: rows from parts; lengths; the least and the greatest. -/
import Derived.Test.YtphlkpahfcainaaEvOpK
import Derived.Laws.Small
namespace Go.Ev
set_option linter.unusedVariables false
set_option linter.unusedSimpArgs false

section
variable {P : Program} {T : TypeId → Option TI} {env : Env} {X : Ctx} {σ : St} {a : Act} {w : World} {g : Gh} {A : Type} {r : A} {k : St → Option A} {K : Act → World → Prop} {Q : Exit → Act → World → Prop}
  {d : Option Tmp} {ty : TypeId} {pos : String} {aft : Array Edge} {gd : Option (Nat × Bool)}

/-- A part of a new row: its value, and what is told of it. -/
def PR (w : World) (S : Nat → Prop) (n : Nat) (q : Nat × Value) (p : Nat × List Leaf) : Prop :=
  p.1 = q.1 ∧ (p.2.length = n → n ≠ 0 → ∃ us : List Value, q.2.cells.toList = us ∧ us.length = n ∧ ∀ i, LRz w S (lget p.2 i) (us.getD i undef))

theorem PR_mono {w : World} {S S' : Nat → Prop} (hS : ∀ b, S b → S' b) {n : Nat} {q : Nat × Value} {p : Nat × List Leaf} (h : PR w S n q p) : PR w S' n q p :=
  ⟨h.1, fun hn h0 => by
    obtain ⟨us, h1, h2, h3⟩ := h.2 hn h0
    exact ⟨us, h1, h2, fun i => LRz_mono hS (h3 i)⟩⟩

inductive PRs (w : World) (S : Nat → Prop) (n : Nat) : List (Nat × Value) → List (Nat × List Leaf) → Prop
  | nil : PRs w S n [] []
  | cons {q p qs ps} : PR w S n q p → PRs w S n qs ps → PRs w S n (q :: qs) (p :: ps)
theorem PRs_mono {w : World} {S S' : Nat → Prop} (hS : ∀ b, S b → S' b) {n : Nat} {qs : List (Nat × Value)} {ps : List (Nat × List Leaf)} (h : PRs w S n qs ps) : PRs w S' n qs ps := by
  induction h with
  | nil => exact .nil
  | cons h1 _ ih => exact .cons (PR_mono hS h1) ih

theorem frParts_ok (ag : Bool) (n : Nat) : ∀ (ps : List (Nat × Operand)) {σ : St} {g : Gh}, Rel X σ a w g → X.N ≤ σ.length → (∀ q ∈ ps, ∀ t, q.2 = .tmp t → t < X.N) →
    ∃ g', Fz X a w σ (frParts ag ps σ).1 g g' ∧ PRs w g'.S n (ps.map fun q => (q.1, a.eval q.2)) (frParts ag ps σ).2
  | [], σ, g, h, _, _ => ⟨g, .refl h, .nil⟩
  | (i, x) :: ps, σ, g, h, hN, hin => by
    have hq := rd_ok h hN x (hin (i, x) (by simp))
    by_cases hc : (rd σ x).1 = ag ∧ (rd σ x).2.all Leaf.known = true
    · obtain ⟨us, u1, u2, u3, u4⟩ := h.cells hq hc.2
      obtain ⟨g1, f1, z1, z2⟩ := freezeL_ok (rd σ x).2 (fun i => us.getD i undef) h (fun i => LRw_of (u3 i))
      obtain ⟨g2, f2, p2⟩ := frParts_ok ag n ps f1.rel (by rw [f1.len]; exact hN) (fun q hq => hin q (by simp [hq]))
      refine ⟨g2, f1.trans f2, ?_⟩
      simp only [frParts, List.map_cons]
      refine .cons ⟨rfl, ?_⟩ p2
      rw [if_pos hc]
      intro hn h0
      have hn' : (freezeL (rd σ x).2 σ).2.length = n := hn
      exact ⟨us, u1, by omega, fun i => LRz_mono f2.S (z1 i)⟩
    · obtain ⟨b, ls, hbl⟩ : ∃ b ls, rd σ x = (b, ls) := ⟨_, _, rfl⟩
      have hl : ∃ vs : Nat → Value, ∀ i, LRw σ w g (lget ls i) (vs i) := by
        rw [hbl] at hq
        cases b with
        | false =>
          obtain ⟨l, h1, h2⟩ := hq.1 rfl
          simp only at h1
          subst h1
          exact ⟨fun _ => a.eval x, fun i => by
            cases i with
            | zero => exact LRw_of h2
            | succ i => trivial⟩
        | true =>
          obtain ⟨cs, h1, h2, h3⟩ := hq.2.1 rfl
          exact ⟨fun i => cs.getD i undef, fun i => LRw_of (h3 i)⟩
      obtain ⟨vs, hvs⟩ := hl
      obtain ⟨g1, f1, z1, z2⟩ := freezeL_ok ls vs h hvs
      obtain ⟨g2, f2, p2⟩ := frParts_ok ag n ps f1.rel (by rw [f1.len]; exact hN) (fun q hq => hin q (by simp [hq]))
      simp only [frParts, List.map_cons, hbl]
      rw [hbl] at hc
      refine ⟨g2, f1.trans f2, .cons ⟨rfl, ?_⟩ p2⟩
      rw [if_neg hc]
      intro hn h0
      exact absurd hn.symm h0

theorem fillE_ok {S : Nat → Prop} {e : Ty} {te : TypeId} : ∀ {qs : List (Nat × Value)} {ps : List (Nat × List Leaf)}, PRs w S e.sz qs ps → ∀ {xs xs' : List e.den} {vs : List Value}, fillE e ps xs = some xs' → rows w S e xs vs →
    ∃ vs' : List Value, Instr.fill (fun i => some (i * e.sz, e.sz)) vs.toArray qs = some vs'.toArray ∧ rows w S e xs' vs' ∧ xs'.length = xs.length := by
  intro qs ps h
  induction h with
  | nil =>
    intro xs xs' vs hf hr
    simp only [fillE, Option.some.injEq] at hf
    subst hf
    exact ⟨vs, rfl, hr, rfl⟩
  | @cons q p qs ps h1 _ ih =>
    intro xs xs' vs hf hr
    obtain ⟨i, ls⟩ := p
    obtain ⟨j, v⟩ := q
    simp only [fillE] at hf
    split at hf
    rotate_left
    · cases hf
    rename_i hc
    split at hf
    rotate_left
    · cases hf
    rename_i x hx
    have hp := sz_pos e
    obtain ⟨hij, h2⟩ := h1
    simp only at hij h2
    subst hij
    obtain ⟨us, u1, u2, u3⟩ := h2 hc.2 (by omega)
    have hrel := implode_ok hx u2 (fun i _ => u3 i)
    have hset := rows_set hr i x us hc.1 hrel
    have hfit : i * e.sz + e.sz ≤ xs.length * e.sz := by
      have := Nat.mul_le_mul_right e.sz (show i + 1 ≤ xs.length from hc.1)
      rw [Nat.add_mul] at this; omega
    have hvl := rows_len hr
    obtain ⟨vs', e1, e2, e3⟩ := ih hf hset
    refine ⟨vs', ?_, e2, by simpa using e3⟩
    rw [fill_cons (us := us) (o := i * e.sz) (by rw [u2]) u1 (by omega)]
    rw [← e1]
    simp only [putC, u2]

theorem init_eq (z : List Value) (n : Nat) (hz : 0 < z.length) : (Array.range (n * z.length)).map (fun i => z.toArray[i % z.toArray.size]!) = ((List.replicate n z).flatten).toArray := by
  apply Array.ext'
  apply List.ext_getElem?
  intro i
  simp only [Array.toList_map, Array.toList_range, List.getElem?_map]
  rw [flatten_get z n i hz]
  by_cases hi : i < n * z.length
  · rw [if_pos hi]
    have hm : i % z.length < z.length := Nat.mod_lt _ hz
    simp [hi, hm]
  · rw [if_neg hi]
    simp; omega

theorem op_buildSlice {t : TypeId} {len : Nat} {parts : Array (Nat × Operand)} (hT : TOk P T) (h : Rel X σ a w g) (hN : X.N ≤ σ.length) (ho : OpIn X.N ⟨d, .buildSlice t len parts, ty, pos, aft, gd⟩) (hk : opK T env ⟨d, .buildSlice t len parts, ty, pos, aft, gd⟩ σ k = some r) (hK : Nx X σ.length k r K) :
    Oper.wp P ⟨d, .buildSlice t len parts, ty, pos, aft, gd⟩ a w K Q := by
  simp only [opK] at hk
  cases hti : T t with
  | none => rw [hti] at hk; cases hk
  | some ti =>
  rw [hti] at hk
  simp only at hk
  cases hei : T ti.el with
  | none => rw [hei] at hk; cases hk
  | some ei =>
  rw [hei] at hk
  simp only at hk
  split at hk
  · cases hk
  rename_i hc
  have hag : ti.agg = false := by
    cases hx : ti.agg with
    | false => rfl
    | true => exact absurd (.inl hx) hc
  have hty : ti.ty = .list ei.ty := Classical.not_not.1 (fun hx => hc (.inr (.inl hx)))
  have hlen : len * ei.ty.sz ≤ 16777216 := Nat.le_of_not_lt (fun hx => hc (.inr (.inr hx)))
  split at hk
  rotate_left
  · cases hk
  rename_i xs hxs
  have hsc := hT.sca t ti hti hag
  rw [hty] at hsc
  obtain ⟨i, z, hi, q1, q2, q3, q4, q5⟩ := hT.info ti.el ei hei
  have hp := sz_pos ei.ty
  obtain ⟨g1, f1, p1⟩ := frParts_ok ei.agg ei.ty.sz parts.toList h hN (fun q hq t ht => ho.ops q.2 (by
      simp only [Op.operands]
      have : q.2 ∈ (parts.toList.map (·.2)) := List.mem_map_of_mem hq
      simpa using this) t ht)
  obtain ⟨vs, e1, e2, e3⟩ := fillE_ok (te := ti.el) p1 hxs (rows_zero w g1.S ei.ty len)
  rw [List.length_replicate] at e3
  have hz : z.cells = (zcells ei.ty).toArray := by rw [← q4]
  have hl : len ≤ maxLen := by
    have : len ≤ len * ei.ty.sz := Nat.le_mul_of_pos_right _ hp
    simp only [maxLen]; omega
  have hinit : ((Array.range (len * ei.ty.sz)).map fun j => (if len * ei.ty.sz = 0 then #[] else z.cells)[j % (if len * ei.ty.sz = 0 then #[] else z.cells).size]!) = ((List.replicate len (zcells ei.ty)).flatten).toArray := by
    by_cases h0 : len * ei.ty.sz = 0
    · rcases Nat.mul_eq_zero.1 h0 with h1 | h1
      · subst h1; simp
      · omega
    · rw [if_neg h0, hz, ← init_eq _ _ (by rw [length_zcells]; exact hp), length_zcells]
  have hrun : (execOp a.eval ⟨d, .buildSlice t len parts, ty, pos, aft, gd⟩).run P w = .ok (.value (.slice (some ⟨w.heap.size, 0, none⟩) len len)) (w.alloc (.cells vs.toArray ti.el)) := by
    have em : (parts.map fun (i, x) => (i, a.eval x)).toList = parts.toList.map fun q => (q.1, a.eval q.2) := by simp
    have hfl : Instr.fill (fun i => some (i * ei.ty.sz, ei.ty.sz)) ((Array.range (len * ei.ty.sz)).map fun j => (if len * ei.ty.sz = 0 then #[] else z.cells)[j % (if len * ei.ty.sz = 0 then #[] else z.cells).size]!) (parts.map fun (i, x) => (i, a.eval x)).toList = some vs.toArray := by
      rw [hinit, em]; exact e1
    have hnr : ∀ cs, (newRow ti.el cs).run P w = .ok ⟨w.heap.size, 0, none⟩ (w.alloc (.cells cs ti.el)) := fun cs => rfl
    have hbs : (Instr.buildSlice t len (parts.map fun (i, x) => (i, a.eval x))).run P w = .ok (.slice (some ⟨w.heap.size, 0, none⟩) len len) (w.alloc (.cells vs.toArray ti.el)) := by
      have em2 : (Array.map (fun x => (x.fst, a.eval x.snd)) parts).toList = parts.toList.map fun q => (q.1, a.eval q.2) := by simp
      rw [em] at hfl
      by_cases h0 : len * ei.ty.sz = 0
      · simp only [if_pos h0] at hfl
        simp only [Instr.buildSlice, Sem.run_bind, run_underlying hsc.1, Result.andThen_ok, hT.sizeOf hei, if_neg (Nat.not_lt.2 hlen), if_pos h0, Sem.run_pure, em2, hfl, hnr]
      · simp only [if_neg h0] at hfl
        have hzv : (zeroValue ti.el).run P w = .ok z w := by simp [zeroValue, typeInfo, hi, q3]
        simp only [Instr.buildSlice, Sem.run_bind, run_underlying hsc.1, Result.andThen_ok, hT.sizeOf hei, if_neg (Nat.not_lt.2 hlen), if_neg h0, hzv, Sem.run_pure, em2, hfl, hnr]
    simp only [execOp, Sem.run_bind, hbs, Result.andThen_ok, Sem.run_pure]
  have hb : Go.RowKit.Below w.heap.size w (w.alloc (.cells vs.toArray ti.el)) := (Go.RowKit.Below.refl _ _).alloc (Nat.le_refl _) _
  refine resRow (te := ti.el) (e := ei.ty) (xs := xs) f1.rel (by rw [f1.len]; exact hN) ho hrun hb (fun b hb => by simp [Value.ownBlock] at hb; omega) ?_ hk (by rw [f1.len]; exact hK)
  have hvl := rows_len e2
  have := World.ownsRow_lit (base := 0) (e := ti.el) (size := ei.ty.sz) w vs.toArray len (Nat.zero_le _) hl (by simp [hvl, e3])
  refine ⟨vs, rows_mono (fun _ h => h) (fun b hS => hb.block b (f1.rel.sb b hS).1) e2, ?_⟩
  rw [e3]
  simpa using this

theorem map_two {α β : Type} {f : α → β} {l : List α} {x y : β} (h : l.map f = [x, y]) : ∃ p q, l = [p, q] ∧ f p = x ∧ f q = y := by
  cases l with
  | nil => cases h
  | cons p l => cases l with
    | nil => simp at h
    | cons q l => cases l with
      | nil => exact ⟨p, q, rfl, by simpa using h⟩
      | cons r l => simp at h

theorem op_len {c : Call} (hT : TOk P T) (hb : c.callee = .builtin .len) (h : Rel X σ a w g) (hN : X.N ≤ σ.length) (ho : OpIn X.N ⟨d, .call c, ty, pos, aft, gd⟩) (hk : opK T env ⟨d, .call c, ty, pos, aft, gd⟩ σ k = some r) (hK : Nx X σ.length k r K) :
    Oper.wpS P ⟨d, .call c, ty, pos, aft, gd⟩ a w K := by
  obtain ⟨cal, args, ats⟩ := c
  simp only at hb
  subst hb
  obtain ⟨args⟩ := args
  obtain ⟨ats⟩ := ats
  simp only [opK] at hk
  split at hk
  rotate_left
  · cases hk
  rename_i x t
  have hx := rd1_ok h hN x (ho.ops x (by simp [Op.operands, Call.operands]))
  split at hk
  · cases hk
  rename_i ti hti
  split at hk
  · cases hk
  rename_i hag
  have hag : ti.agg = false := by simpa using hag
  have hsc := hT.sca t ti hti hag
  have fin : ∀ n : Nat, (∀ w', (Builtin.len_ #[t] ty #[a.eval x]).run P w' = .ok (goInt n) w') → k (Ev.wr σ d (.cs false [.val (.int .i64) (n : Int)])) = some r → Oper.wpS P ⟨d, .call ⟨.builtin .len, #[x], #[t]⟩, ty, pos, aft, gd⟩ a w K := by
    intro n hrun hk'
    exact resL (l := .val (.int .i64) (n : Int)) (v := goInt n) h hN ho (by simp [execOp, resolve, invoke, builtin, hrun]) rfl rfl hk' hK
  split at hk
  · rename_i hty
    rw [hty] at hsc
    split at hk
    rotate_left
    · cases hk
    rename_i s hs
    rw [hs] at hx
    refine fin (List.length s) ?_ hk
    rw [LR_str hx]
    have hsz : (⟨List.toArray s⟩ : ByteArray).size = List.length s := rfl
    intro w'
    simp only [run_len_string (P := P) w' t ty _ hsc, hsz]
  · rename_i e hty
    rw [hty] at hsc
    split at hk
    · rename_i e' xs hs
      rw [hs] at hx
      simp only [LR, rel] at hx
      obtain ⟨A, cap, hv, _⟩ := hx
      injection hv with hv _
      refine fin (List.length xs) ?_ hk
      simp [Builtin.len_, run_underlying hsc.1, hv]
    · rename_i hs
      rw [hs] at hx
      refine fin 0 ?_ hk
      rw [show a.eval x = .slice none 0 0 from hx]
      simp [Builtin.len_, run_underlying hsc.1]
    · rename_i p hs
      rw [hs] at hx
      split at hk
      rotate_left
      · cases hk
      rename_i te e' xs hg
      have hl := h.lf p
      rw [hg] at hl
      refine fin (List.length xs) ?_ hk
      rw [hx.1]
      rcases ownR_form hl with ⟨hv, rfl⟩ | ⟨gb, cap, cur, hv, _⟩
      · simp [Builtin.len_, run_underlying hsc.1, hv]
      · simp [Builtin.len_, run_underlying hsc.1, hv]
    · cases hk
  · cases hk

theorem op_min {c : Call} (hb : c.callee = .builtin .min) (h : Rel X σ a w g) (hN : X.N ≤ σ.length) (ho : OpIn X.N ⟨d, .call c, ty, pos, aft, gd⟩) (hk : opK T env ⟨d, .call c, ty, pos, aft, gd⟩ σ k = some r) (hK : Nx X σ.length k r K) :
    Oper.wpS P ⟨d, .call c, ty, pos, aft, gd⟩ a w K := by
  obtain ⟨cal, args, ats⟩ := c
  simp only at hb
  subst hb
  obtain ⟨args⟩ := args
  simp only [opK] at hk
  split at hk
  rotate_left
  · cases hk
  rename_i k1 x k2 y he
  obtain ⟨p, q, rfl, e1, e2⟩ := map_two he
  have hp := rd1_ok h hN p (ho.ops p (by simp [Op.operands, Call.operands]))
  have hq := rd1_ok h hN q (ho.ops q (by simp [Op.operands, Call.operands]))
  rw [e1] at hp
  rw [e2] at hq
  refine resL (l := .val (.int k1) (if (y : Int) < x then y else x)) (v := .int k1 (if (y : Int) < x then y else x)) h hN ho ?_ rfl rfl hk hK
  simp [execOp, resolve, invoke, builtin, LR_int hp, LR_int hq, run_min_int2]

theorem op_max {c : Call} (hb : c.callee = .builtin .max) (h : Rel X σ a w g) (hN : X.N ≤ σ.length) (ho : OpIn X.N ⟨d, .call c, ty, pos, aft, gd⟩) (hk : opK T env ⟨d, .call c, ty, pos, aft, gd⟩ σ k = some r) (hK : Nx X σ.length k r K) :
    Oper.wpS P ⟨d, .call c, ty, pos, aft, gd⟩ a w K := by
  obtain ⟨cal, args, ats⟩ := c
  simp only at hb
  subst hb
  obtain ⟨args⟩ := args
  simp only [opK] at hk
  split at hk
  rotate_left
  · cases hk
  rename_i k1 x k2 y he
  obtain ⟨p, q, rfl, e1, e2⟩ := map_two he
  have hp := rd1_ok h hN p (ho.ops p (by simp [Op.operands, Call.operands]))
  have hq := rd1_ok h hN q (ho.ops q (by simp [Op.operands, Call.operands]))
  rw [e1] at hp
  rw [e2] at hq
  refine resL (l := .val (.int k1) (if (y : Int) > x then y else x)) (v := .int k1 (if (y : Int) > x then y else x)) h hN ho ?_ rfl rfl hk hK
  simp [execOp, resolve, invoke, builtin, LR_int hp, LR_int hq, run_max_int2]

end
end Go.Ev
