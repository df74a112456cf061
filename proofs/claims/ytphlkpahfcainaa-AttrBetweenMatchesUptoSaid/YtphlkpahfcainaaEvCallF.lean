/- Calls, part F: the operation. -/
import Derived.Test.YtphlkpahfcainaaEvCallE
namespace Go.Ev
set_option linter.unusedVariables false
set_option linter.unusedSimpArgs false

section
variable {P : Program} {T : TypeId → Option TI} {env : Env} {X : Ctx} {σ : St} {a : Act} {w : World} {g : Gh} {A : Type} {r : A} {k : St → Option A} {K : Act → World → Prop} {Q : Exit → Act → World → Prop}
  {d : Option Tmp} {ty : TypeId} {pos : String} {aft : Array Edge} {gd : Option (Nat × Bool)}

theorem argsW_rd (h : Rel X σ a w g) (hN : X.N ≤ σ.length) : ∀ (xs : List Operand), (∀ x ∈ xs, ∀ t, x = .tmp t → t < X.N) → ArgsW σ w g (xs.map (rd σ)) (xs.map a.eval)
  | [], _ => .nil
  | x :: xs, hin => .cons (ArgW_of (rd_ok h hN x (hin x (by simp)))) (argsW_rd h hN xs (fun y hy => hin y (by simp [hy])))

theorem argsW_ptr : ∀ (bs : List Nat), (∀ b ∈ bs, isBox σ b) → ArgsW σ w g (bs.map fun b => (false, [.ptr b 0])) (bs.map fun b => Value.pointer (some ⟨g.blk b, 0, none⟩))
  | [], _ => .nil
  | b :: bs, h => .cons ⟨fun _ => ⟨_, rfl, rfl, h b (by simp)⟩, fun e => by simp at e⟩ (argsW_ptr bs (fun c hc => h c (by simp [hc])))

theorem ArgsW_append {as bs : List Arg} {vs us : List Value} (h : ArgsW σ w g as vs) (k : ArgsW σ w g bs us) : ArgsW σ w g (as ++ bs) (vs ++ us) := by
  induction h with
  | nil => exact k
  | cons h1 _ ih => exact .cons h1 ih

theorem mem_lookup {m : List (Nat × Nat)} {b t : Nat} (h : (b, t) ∈ m) : (m.lookup b).isSome = true := by
  induction m with
  | nil => simp at h
  | cons q m ih =>
    obtain ⟨b', t'⟩ := q
    simp only [List.lookup]
    split
    · rfl
    · rcases List.mem_cons.1 h with h | h
      · injection h with h1 h2
        subst h1
        simp_all
      · exact ih h

theorem op_callF {c : Call} {x : Operand} (hcal : c.callee = .value x) (hE : EnvOk P env) (h : Rel X σ a w g) (hN : X.N ≤ σ.length) (ho : OpIn X.N ⟨d, .call c, ty, pos, aft, gd⟩) (hk : opK T env ⟨d, .call c, ty, pos, aft, gd⟩ σ k = some r) (hK : Nx X σ.length k r K) :
    Oper.wp P ⟨d, .call c, ty, pos, aft, gd⟩ a w K Q := by
  obtain ⟨cal, args, ats⟩ := c
  simp only at hcal
  subst hcal
  simp only [opK] at hk
  have hx := rd1_ok h hN x (ho.ops x (by simp [Op.operands, Call.operands]))
  split at hk
  rotate_left
  · cases hk
  rename_i f bs hf
  rw [hf] at hx
  obtain ⟨hv, hbs⟩ := hx
  have hargs := ArgsW_append (argsW_rd h hN args.toList (fun y hy => ho.ops y (by simp [Op.operands, Call.operands]; exact .inr (by simpa using hy)))) (argsW_ptr (σ := σ) (w := w) (g := g) bs hbs)
  simp only [callK] at hk
  split at hk
  · cases hk
  rename_i F hF
  have hs := findF_ok hE hF
  obtain ⟨fn, n1, n2, n3⟩ := hs.fn
  split at hk
  · cases hk
  rename_i σ1 xs m hg
  split at hk
  · cases hk
  rename_i σ2 ys ht
  cases hout : F.F xs ys with
  | none => rw [hout] at hk; cases hk
  | some out =>
  rw [hout] at hk
  simp only [Option.bind] at hk
  have hrun : (execOp a.eval ⟨d, .call ⟨.value x, args, ats⟩, ty, pos, aft, gd⟩).run P w = .ok (.enter f (args.toList.map a.eval ++ bs.map fun b => Value.pointer (some ⟨g.blk b, 0, none⟩)).toArray) w := by
    have e0 : (#[] : Array Value) ++ args.map a.eval ++ (bs.map fun b => Value.pointer (some ⟨g.blk b, 0, none⟩)).toArray = (args.toList.map a.eval ++ bs.map fun b => Value.pointer (some ⟨g.blk b, 0, none⟩)).toArray := by
      apply Array.ext'; simp
    simp only [execOp, resolve, hv, Deferred.ofValue, Sem.run_bind, Sem.run_pure, Result.andThen_ok, invoke, callFunc, run_program, n1, n2, n3, e0, if_false, Bool.false_eq_true]
  unfold Oper.wp
  rw [hrun]
  rw [Oper.upon_enter]
  cases hsc : F.s.scalar with
  | false =>
    rw [hsc] at hg
    obtain ⟨g1, cs, t1, hm, _, hshape⟩ := gather_ok F.s.ps _ _ hs.ps h hargs (m := []) ⟨fun b t hb => by simp at hb, fun b1 b2 t hb => by simp at hb⟩ hg
    obtain ⟨g2, f2, hh, hb2, hne, hM⟩ := hand_ok (bs := F.s.bs) (ls := outL F.s.ins xs) h t1 hm hs.one ht
    have hshape2 := hshape (fun j => g.blk (tk m j)) (fun b t e => by rw [tk_of e])
    refine (hs.call xs ys out hout w g2.S _ cs _ _ hh hshape2).mono fun e w' hR => ?_
    obtain ⟨v, rfl, hback⟩ := hR
    simp only
    have hminj : ∀ b1 b2 t, m.lookup b1 = some t → m.lookup b2 = some t → b1 = b2 := fun b1 b2 t e1 e2 => hm.inj _ _ _ (lookup_mem e1) (lookup_mem e2)
    refine call_back (F := F) (ys := ys) (m := m) f2.rel (by rw [f2.len]; exact hN) ho.dst hminj (fun j hj => ⟨(hb2 j hj).1, f2.box _ (hm.box j _ (lookup_mem (hb2 j hj).1)), (hb2 j hj).2⟩) hne (fun b ⟨o, hb⟩ => (hh.fr o b hb).1) (fun b ⟨o, hb⟩ => ?_) (fun b ⟨o, hb⟩ hx => ?_) (by rw [f2.blk]; exact hback) hk (by rw [f2.len]; exact hK)
    · obtain ⟨⟨o', ho'⟩, _⟩ := hM o b hb
      exact ⟨(hh.fr o b hb).2, (h.fr _ _ ho').2.2⟩
    · rw [f2.blk]
      exact (hM o b hb).2 hx
  | true =>
    rw [hsc] at hg
    simp only [Sig.scalar, Bool.and_eq_true] at hsc
    obtain ⟨⟨sc1, sc2⟩, sc3⟩ := hsc
    obtain ⟨e0, S, cs, c1, c2, c3, c4, c5⟩ := gather_lend F.s.ps _ _ hs.ps sc3 h hargs hg
    subst e0
    have hbs0 : F.s.bs = [] := by simpa using sc2
    have hn0 : F.s.bs.length = 0 := by rw [hbs0]; rfl
    have hno : ∀ o b, pob (outL F.s.ins xs) cs F.s.bs.length (boxLs F.s.bs ys) (fun _ => []) (fun _ => 0) o ≠ some b := by
      intro o b hb
      cases o with
      | arg j =>
        have hb : own1 (outL F.s.ins xs) cs j = some b := hb
        unfold own1 at hb
        rw [if_neg] at hb
        · cases hb
        · have h3 : (lget (outL F.s.ins xs) j).isOwn = false := c4 j
          intro h2
          rw [h3] at h2
          cases h2
      | box j => simp [pob, hn0] at hb
      | leaf j q => simp [pob, hn0] at hb
    have hh : Hand w S (outL F.s.ins xs) cs F.s.bs.length (boxLs F.s.bs ys) (fun _ => []) (fun _ => 0) :=
      ⟨c2, c3, fun i hi => by omega, fun o1 o2 b e1 => absurd e1 (hno o1 b), fun o b e => absurd e (hno o b), c1⟩
    refine (hs.call xs ys out hout w S _ cs _ _ hh (c5 _)).mono fun e w' hR => ?_
    obtain ⟨v, rfl, hback⟩ := hR
    simp only
    have e2 : σ2 = σ1 := by
      have key : ∀ bs : List (List LK), bs = [] → ∀ (ys : BL bs), takeBoxes m bs 0 σ1 = some (σ2, ys) → σ2 = σ1 := by
        intro bs hb ys ht
        subst hb
        simp only [takeBoxes, Option.some.injEq, Prod.mk.injEq] at ht
        exact ht.1.symm
      exact key _ hbs0 ys ht
    subst e2
    have e3 : putBoxes m F.s.bs 0 out.2 σ2 = σ2 := by
      have key : ∀ bs : List (List LK), bs = [] → ∀ (ys : BL bs), putBoxes m bs 0 ys σ2 = σ2 := by
        intro bs hb ys
        subst hb
        rfl
      exact key _ hbs0 _
    rw [e3] at hk
    obtain ⟨⟨S', rc, bc, rh, rv, _⟩, hos, htape, houtp, hgrow, hframe⟩ := hback
    have hall : ∀ b, b < w.heap.size → w'.heap[b]? = w.heap[b]? := fun b hb => hframe b hb (fun ⟨o, he⟩ => hno o b he)
    have h1 : Rel X σ2 a w' g := h.below ⟨hos, htape, houtp, hgrow, hall⟩
    have hpl := plain_outR F.s.rs out.1 sc1
    refine put_back h1 hN ho.dst (outSlot_box _ _) rh.len rv (fun j => ?_) (fun j1 j2 b e1 => ?_) (fun j b e1 => ?_) hk hK
    · have := rh.rel j
      rw [outSlot_leaves] at this ⊢
      exact (hpl j).1 _ _ _ _ _ this
    · unfold own1 at e1
      rw [outSlot_leaves, (hpl j1).2] at e1
      simp at e1
    · unfold own1 at e1
      rw [outSlot_leaves, (hpl j).2] at e1
      simp at e1

end
end Go.Ev
