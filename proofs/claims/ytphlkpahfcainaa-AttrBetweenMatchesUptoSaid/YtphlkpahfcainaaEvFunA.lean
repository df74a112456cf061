/- Functions, part A: the slots as a call begins. -/
import Derived.Test.YtphlkpahfcainaaEvRun
namespace Go.Ev
set_option linter.unusedVariables false
set_option linter.unusedSimpArgs false

/-- The parameters' boxes are there. -/
def PK.inB (nb : Nat) : PK → Bool
  | .p b => decide (b < nb)
  | .f _ bs => bs.all fun b => decide (b < nb)
  | _ => true

/-- A parameter's slot: what it holds. -/
structure ArgSlot (w : World) (S : Nat → Prop) (n nb : Nat) (bk : Nat → Nat) (v : Value) (s : Slot) (c : Nat → Value) : Prop where
  sh : ∃ ag ls, s = .cs ag ls ∧ (ag = false → ls.length = 1 ∧ v = c 0) ∧ (ag = true → v = .agg ((List.range ls.length).map c).toArray)
  lf : ∀ (σ : St) (g : Gh), g.S = S → (∀ b, b < nb → g.blk (n + b) = bk b ∧ isBox σ (n + b)) → ∀ i, LR σ w g (lget s.leaves i) (c i)
  own : ∀ i, (lget s.leaves i).isOwn = true → i = 0

theorem explode_range {t : Ty} {x : t.den} {c : List Value} (h : c.length = t.sz) : (List.range (explode t x).length).map (fun i => c.getD i undef) = c := by
  rw [length_explode, ← h]
  apply List.ext_getElem?
  intro i
  by_cases hi : i < c.length
  · simp [hi, List.getD_eq_getElem?_getD]
  · simp [hi]

theorem argS_ok {w : World} {S : Nat → Prop} {bk : Nat → Nat} (n nb : Nat) : ∀ (ps : List PK) (x : HL (ps.flatMap PK.lk)) (vs cs : List Value), ps.all (PK.inB nb) = true → ps.all PK.ok = true → ArgShape bk ps vs cs → (∀ j, LO w S (lget (outL (ps.flatMap PK.lk) x) j) (cs.getD j undef)) →
    ∃ (c : Nat → Nat → Value) (jf : Nat → Nat), vs.length = ps.length ∧ (argS n ps x).length = ps.length ∧
      (∀ t, t < ps.length → ArgSlot w S n nb bk (vs.getD t undef) (gs (argS n ps x) t) (c t)) ∧
      (∀ t, (lget (gs (argS n ps x) t).leaves 0).isOwn = true → own1 (outL (ps.flatMap PK.lk) x) cs (jf t) = (c t 0).ownBlock) ∧
      (∀ t u, (lget (gs (argS n ps x) t).leaves 0).isOwn = true → (lget (gs (argS n ps x) u).leaves 0).isOwn = true → jf t = jf u → t = u)
  | [], x, vs, cs, _, _, hs, _ => by
    obtain ⟨rfl, rfl⟩ := hs
    exact ⟨fun _ _ => undef, fun _ => 0, rfl, rfl, fun t ht => by simp at ht, fun t h => by simp [argS, gs, nones, Slot.leaves, lget, Leaf.isOwn] at h, fun t u h => by simp [argS, gs, nones, Slot.leaves, lget, Leaf.isOwn] at h⟩
  | .v ag t0 :: ps, x, vs, cs, hb, hp, hs, hl => by
    simp only [List.all_cons, Bool.and_eq_true] at hb hp
    obtain ⟨v, vs', c0, cs', rfl, rfl, h3, h4, h5⟩ := hs
    have hlen : (explode t0 x.1).length = c0.length := by rw [length_explode, h3]
    have hl1 : ∀ j, LO w S (lget (explode t0 x.1) j) (c0.getD j undef) := fun j => by
      by_cases hj : j < c0.length
      · have := hl j
        have e : outL ((PK.v ag t0 :: ps).flatMap PK.lk) x = explode t0 x.1 ++ outL (ps.flatMap PK.lk) x.2 := rfl
        rw [e, lget_append, getD_append, if_pos (by omega), if_pos hj] at this
        exact this
      · rw [lget_of_le (by omega)]; trivial
    have hl2 : ∀ j, LO w S (lget (outL (ps.flatMap PK.lk) x.2) j) (cs'.getD j undef) := fun j => by
      have := hl (c0.length + j)
      have e : outL ((PK.v ag t0 :: ps).flatMap PK.lk) x = explode t0 x.1 ++ outL (ps.flatMap PK.lk) x.2 := rfl
      rw [e, lget_append, getD_append, if_neg (by omega), if_neg (by omega), hlen, Nat.add_sub_cancel_left] at this
      exact this
    obtain ⟨c, jf, i1, i2, i3, i4, i5⟩ := argS_ok n nb ps x.2 vs' cs' hb.2 hp.2 h5 hl2
    have no0 : (lget (explode t0 x.1) 0).isOwn = false := explode_own _ _ _
    refine ⟨fun t => match t with | 0 => fun i => c0.getD i undef | t + 1 => c t, fun t => match t with | 0 => 0 | t + 1 => c0.length + jf t, by simp [i1], by simp [argS, i2], fun t ht => ?_, fun t ho => ?_, fun t u ho hu e => ?_⟩
    · cases t with
      | zero =>
        refine ⟨⟨ag, explode t0 x.1, rfl, fun ha => ?_, fun ha => ?_⟩, fun σ g e1 e2 i => ?_, fun i ho => ?_⟩
        · rcases h4 with ⟨h4, _⟩ | ⟨_, h4⟩
          · rw [ha] at h4; cases h4
          · rw [h4]
            refine ⟨?_, rfl⟩
            rw [hlen, h4]; rfl
        · rcases h4 with ⟨_, h4⟩ | ⟨h4, _⟩
          · simp only [List.getD_cons_zero]
            rw [explode_range h3]; exact h4
          · rw [ha] at h4; cases h4
        · have := hl1 i
          rw [← e1] at this
          exact LO_LR this
        · have : (lget (explode t0 x.1) i).isOwn = true := ho
          rw [explode_own] at this; cases this
      | succ t => exact i3 t (by simpa using ht)
    · cases t with
      | zero => have ho' : (lget (explode t0 x.1) 0).isOwn = true := ho; rw [no0] at ho'; cases ho'
      | succ t =>
        have := i4 t ho
        simp only
        rw [← this]
        have e : outL ((PK.v ag t0 :: ps).flatMap PK.lk) x = explode t0 x.1 ++ outL (ps.flatMap PK.lk) x.2 := rfl
        rw [e, own1_append (by omega), if_neg (by omega), hlen, Nat.add_sub_cancel_left]
    · cases t with
      | zero => have ho' : (lget (explode t0 x.1) 0).isOwn = true := ho; rw [no0] at ho'; cases ho'
      | succ t =>
        cases u with
        | zero => have ho' : (lget (explode t0 x.1) 0).isOwn = true := hu; rw [no0] at ho'; cases ho'
        | succ u =>
          simp only at e
          rw [i5 t u ho hu (by omega)]
  | .o te e0 :: ps, x, vs, cs, hb, hp, hs, hl => by
    simp only [List.all_cons, Bool.and_eq_true] at hb hp
    obtain ⟨v, vs', cs', rfl, rfl, h5⟩ := hs
    have e : outL ((PK.o te e0 :: ps).flatMap PK.lk) x = .own te e0 x.1 :: outL (ps.flatMap PK.lk) x.2 := rfl
    rw [e] at hl ⊢
    have hl2 : ∀ j, LO w S (lget (outL (ps.flatMap PK.lk) x.2) j) (cs'.getD j undef) := fun j => hl (j + 1)
    obtain ⟨c, jf, i1, i2, i3, i4, i5⟩ := argS_ok n nb ps x.2 vs' cs' hb.2 hp.2 h5 hl2
    refine ⟨fun t => match t with | 0 => fun i => if i = 0 then v else undef | t + 1 => c t, fun t => match t with | 0 => 0 | t + 1 => 1 + jf t, by simp [i1], by simp [argS, i2], fun t ht => ?_, fun t ho => ?_, fun t u ho hu e => ?_⟩
    · cases t with
      | zero =>
        refine ⟨⟨false, [.own te e0 x.1], rfl, fun _ => ⟨rfl, rfl⟩, fun ha => by cases ha⟩, fun σ g e1 e2 i => ?_, fun i ho => ?_⟩
        · cases i with
          | zero =>
            have := hl 0
            rw [← e1] at this
            exact LO_LR this
          | succ i => trivial
        · cases i with
          | zero => rfl
          | succ i => simp [argS, gs, Slot.leaves, lget, Leaf.isOwn] at ho
      | succ t => exact i3 t (by simpa using ht)
    · cases t with
      | zero => rfl
      | succ t =>
        have := i4 t ho
        simp only
        rw [← this]
        show own1 ([Leaf.own te e0 x.1] ++ outL (ps.flatMap PK.lk) x.2) ([v] ++ cs') (1 + jf t) = _
        rw [own1_append rfl, if_neg (by simp)]
        congr 1
        simp
    · cases t with
      | zero =>
        cases u with
        | zero => rfl
        | succ u => simp only at e; omega
      | succ t =>
        cases u with
        | zero => simp only at e; omega
        | succ u =>
          simp only at e
          rw [i5 t u ho hu (by omega)]
  | .p b :: ps, x, vs, cs, hb, hp, hs, hl => by
    simp only [List.all_cons, Bool.and_eq_true] at hb hp
    obtain ⟨vs', rfl, h5⟩ := hs
    have hbn : b < nb := by simpa [PK.inB] using hb.1
    obtain ⟨c, jf, i1, i2, i3, i4, i5⟩ := argS_ok n nb ps x vs' cs hb.2 hp.2 h5 hl
    refine ⟨fun t => match t with | 0 => fun i => if i = 0 then .pointer (some ⟨bk b, 0, none⟩) else undef | t + 1 => c t, fun t => match t with | 0 => 0 | t + 1 => jf t, by simp [i1], by simp [argS, i2], fun t ht => ?_, fun t ho => ?_, fun t u ho hu e => ?_⟩
    · cases t with
      | zero =>
        refine ⟨⟨false, [.ptr (n + b) 0], rfl, fun _ => ⟨rfl, rfl⟩, fun ha => by cases ha⟩, fun σ g e1 e2 i => ?_, fun i ho => ?_⟩
        · cases i with
          | zero =>
            obtain ⟨q1, q2⟩ := e2 b hbn
            exact ⟨by simp [q1], q2⟩
          | succ i => trivial
        · cases i <;> simp [argS, gs, Slot.leaves, lget, Leaf.isOwn] at ho
      | succ t => exact i3 t (by simpa using ht)
    · cases t with
      | zero => simp [argS, gs, Slot.leaves, lget, Leaf.isOwn] at ho
      | succ t => exact i4 t ho
    · cases t with
      | zero => simp [argS, gs, Slot.leaves, lget, Leaf.isOwn] at ho
      | succ t =>
        cases u with
        | zero => simp [argS, gs, Slot.leaves, lget, Leaf.isOwn] at hu
        | succ u =>
          simp only at e
          rw [i5 t u ho hu e]
  | .f q bs :: ps, x, vs, cs, hb, hp, hs, hl => by
    simp only [List.all_cons, Bool.and_eq_true] at hb hp
    obtain ⟨vs', rfl, h5⟩ := hs
    have hbn : ∀ b ∈ bs, b < nb := fun b hm => by
      have := hb.1
      simp only [PK.inB] at this
      simpa using List.all_eq_true.1 this b hm
    obtain ⟨c, jf, i1, i2, i3, i4, i5⟩ := argS_ok n nb ps x vs' cs hb.2 hp.2 h5 hl
    refine ⟨fun t => match t with | 0 => fun i => if i = 0 then .func (.func q) #[] (bs.map fun b => .pointer (some ⟨bk b, 0, none⟩)).toArray else undef | t + 1 => c t, fun t => match t with | 0 => 0 | t + 1 => jf t, by simp [i1], by simp [argS, i2], fun t ht => ?_, fun t ho => ?_, fun t u ho hu e => ?_⟩
    · cases t with
      | zero =>
        refine ⟨⟨false, [.clo q (bs.map (n + ·))], rfl, fun _ => ⟨rfl, rfl⟩, fun ha => by cases ha⟩, fun σ g e1 e2 i => ?_, fun i ho => ?_⟩
        · cases i with
          | zero =>
            refine ⟨?_, fun b hm => ?_⟩
            · simp only [if_true, List.map_map]
              congr 2
              apply List.map_congr_left
              intro b hm
              simp [(e2 b (hbn b hm)).1]
            · obtain ⟨b', hm', rfl⟩ := List.mem_map.1 hm
              exact (e2 b' (hbn b' hm')).2
          | succ i => trivial
        · cases i <;> simp [argS, gs, Slot.leaves, lget, Leaf.isOwn] at ho
      | succ t => exact i3 t (by simpa using ht)
    · cases t with
      | zero => simp [argS, gs, Slot.leaves, lget, Leaf.isOwn] at ho
      | succ t => exact i4 t ho
    · cases t with
      | zero => simp [argS, gs, Slot.leaves, lget, Leaf.isOwn] at ho
      | succ t =>
        cases u with
        | zero => simp [argS, gs, Slot.leaves, lget, Leaf.isOwn] at hu
        | succ u =>
          simp only at e
          rw [i5 t u ho hu e]

end Go.Ev
