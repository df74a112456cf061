/- Functions are sound; rows, tables, loops in focus. -/
import Derived.Test.YtpmeeopafdgbpaaDoorEvMh
import Derived.Test.YtpmeeopafdgbpaaDoorRows
import Derived.ChangeArms
import Derived.WalkKit
import Derived.ProofKit
import Derived.OpenShut
import Derived.JoinedCond
import Derived.ChangeMaps5
import Derived.Carry
namespace Go.Ev
set_option linter.unusedVariables false
set_option linter.unusedSimpArgs false
/-- The parameters' boxes are there. -/
def PK.inB (nb : Nat) : PK → Bool
  | .p b => decide (b < nb)
  | .f _ bs => bs.all fun b => decide (b < nb)
  | _ => true
/-- A parameter's slot: what it holds. -/
structure ArgSlot (w : World) (S : Nat → Prop) (n nb nv : Nat) (wv : List Value) (bk : Nat → Nat) (v : Value) (s : Slot) (c : Nat → Value) : Prop where
  sh : ∃ ag ls, s = .cs ag ls ∧ (ag = false → ls.length = 1 ∧ v = c 0) ∧ (ag = true → v = .agg ((List.range ls.length).map c).toArray)
  lf : ∀ (σ : St) (g : Gh), g.S = S → (∀ b, b < nb → g.blk (n + b) = bk b ∧ isBox σ (n + b)) → (∀ j, j < wv.length → g.c ⟨nv + j, 0⟩ = wv.getD j undef ∧ (gl σ ⟨nv + j, 0⟩).isOwn = true) → ∀ i, LR σ w g (lget s.leaves i) (c i)
  own : ∀ i, (lget s.leaves i).isOwn = true → i = 0
theorem explode_range {t : Ty} {x : t.den} {c : List Value} (h : c.length = t.sz) : (List.range (explode t x).length).map (fun i => c.getD i undef) = c := by
  rw [length_explode, ← h]
  apply List.ext_getElem?
  intro i
  by_cases hi : i < c.length
  · simp [hi, List.getD_eq_getElem?_getD]
  · simp [hi]
/-- Where the rows lie that are written in place. -/
structure WArg {n : Nat} (nv : Nat) (ps : List PK) (x : HL (ps.flatMap PK.lk)) (vs cs : List Value) (jf jw : Nat → Nat) : Prop where
  l1 : (wS ps x).length = (wvs ps vs).length
  l2 : (wvs ps vs).length = (ps.flatMap PK.wk).length
  row : ∀ j, j < (wvs ps vs).length → ∃ te e, ∃ xs : List e.den, gsL (wS ps x) j = .vb [.own te e xs] ∧ lget (outL (ps.flatMap PK.lk) x) (jw j) = .own te e xs ∧ cs.getD (jw j) undef = (wvs ps vs).getD j undef
  inj : ∀ i j, i < (wvs ps vs).length → j < (wvs ps vs).length → jw i = jw j → i = j
  ne : ∀ t j, (lget (gsL (argS n nv ps x) t).leaves 0).isOwn = true → j < (wvs ps vs).length → jf t ≠ jw j
theorem argS_ok {w : World} {S : Nat → Prop} {bk : Nat → Nat} (n nb : Nat) : ∀ (nv : Nat) (ps : List PK) (x : HL (ps.flatMap PK.lk)) (vs cs : List Value), ps.all (PK.inB nb) = true → ps.all PK.ok = true → ArgShape bk ps vs cs → (∀ j, LO w S (lget (outL (ps.flatMap PK.lk) x) j) (cs.getD j undef)) →
    ∃ (c : Nat → Nat → Value) (jf : Nat → Nat), vs.length = ps.length ∧ (argS n nv ps x).length = ps.length ∧
      (∀ t, t < ps.length → ArgSlot w S n nb nv (wvs ps vs) bk (vs.getD t undef) (gsL (argS n nv ps x) t) (c t)) ∧
      (∀ t, (lget (gsL (argS n nv ps x) t).leaves 0).isOwn = true → own1 (outL (ps.flatMap PK.lk) x) cs (jf t) = (c t 0).ownBlock) ∧
      (∀ t u, (lget (gsL (argS n nv ps x) t).leaves 0).isOwn = true → (lget (gsL (argS n nv ps x) u).leaves 0).isOwn = true → jf t = jf u → t = u) ∧ ∃ jw : Nat → Nat, WArg (n := n) nv ps x vs cs jf jw
  | nv, [], x, vs, cs, _, _, hs, _ => by
    obtain ⟨rfl, rfl⟩ := hs
    exact ⟨fun _ _ => undef, fun _ => 0, rfl, rfl, fun t ht => by simp at ht, fun t h => by simp [argS, gsL, nones, Slot.leaves, lget, Leaf.isOwn] at h, fun t u h => by simp [argS, gsL, nones, Slot.leaves, lget, Leaf.isOwn] at h, fun _ => 0, rfl, rfl, fun j hj => by simp [wvs] at hj, fun i j hi => by simp [wvs] at hi, fun t j _ hj => by simp [wvs] at hj⟩
  | nv, .v ag t0 :: ps, x, vs, cs, hb, hp, hs, hl => by
    simp only [List.all_cons, Bool.and_eq_true] at hb hp
    obtain ⟨v, vs', c0, cs', rfl, rfl, h3, h4, h5⟩ := hs
    have hlen : (explode t0 x.1).length = c0.length := by rw [length_explode, h3]
    have hl1 : ∀ j, LO w S (lget (explode t0 x.1) j) (c0.getD j undef) := fun j => by
      by_cases hj : j < c0.length
      · have := hl j
        have e : outL ((PK.v ag t0 :: ps).flatMap PK.lk) x = explode t0 x.1 ++ outL (ps.flatMap PK.lk) x.2 := rfl
        rw [e, lget_append, getD_append, if_pos (by omega), if_pos hj] at this
        exact this
      · rw [lget_of_le (by omega)]; trivial
    have hl2 : ∀ j, LO w S (lget (outL (ps.flatMap PK.lk) x.2) j) (cs'.getD j undef) := fun j => by
      have := hl (c0.length + j)
      have e : outL ((PK.v ag t0 :: ps).flatMap PK.lk) x = explode t0 x.1 ++ outL (ps.flatMap PK.lk) x.2 := rfl
      rw [e, lget_append, getD_append, if_neg (by omega), if_neg (by omega), hlen, Nat.add_sub_cancel_left] at this
      exact this
    obtain ⟨c, jf, i1, i2, i3, i4, i5, jw, k1, k2, k3, k4, k5⟩ := argS_ok n nb nv ps x.2 vs' cs' hb.2 hp.2 h5 hl2
    have no0 : (lget (explode t0 x.1) 0).isOwn = false := explode_own _ _ _
    refine ⟨fun t => match t with | 0 => fun i => c0.getD i undef | t + 1 => c t, fun t => match t with | 0 => 0 | t + 1 => c0.length + jf t, by simp [i1], by simp [argS, i2], fun t ht => ?_, fun t ho => ?_, fun t u ho hu e => ?_, fun j => c0.length + jw j, k1, k2, fun j hj => ?_, fun i j hi hj e => k4 i j hi hj (by omega), fun t j ho hj e => ?_⟩
    · cases t with
      | zero =>
        refine ⟨⟨ag, explode t0 x.1, rfl, fun ha => ?_, fun ha => ?_⟩, fun σ g e1 e2 e3 i => ?_, fun i ho => ?_⟩
        · rcases h4 with ⟨h4, _⟩ | ⟨_, h4⟩
          · rw [ha] at h4; cases h4
          · rw [h4]
            refine ⟨?_, rfl⟩
            rw [hlen, h4]; rfl
        · rcases h4 with ⟨_, h4⟩ | ⟨h4, _⟩
          · simp only [List.getD_cons_zero]
            rw [explode_range h3]; exact h4
          · rw [ha] at h4; cases h4
        · have := hl1 i
          rw [← e1] at this
          exact LO_LR this
        · have : (lget (explode t0 x.1) i).isOwn = true := ho
          rw [explode_own] at this; cases this
      | succ t => exact i3 t (by simpa using ht)
    · cases t with
      | zero => have ho' : (lget (explode t0 x.1) 0).isOwn = true := ho; rw [no0] at ho'; cases ho'
      | succ t =>
        have := i4 t ho
        simp only
        rw [← this]
        have e : outL ((PK.v ag t0 :: ps).flatMap PK.lk) x = explode t0 x.1 ++ outL (ps.flatMap PK.lk) x.2 := rfl
        rw [e, own1_append (by omega), if_neg (by omega), hlen, Nat.add_sub_cancel_left]
    · cases t with
      | zero => have ho' : (lget (explode t0 x.1) 0).isOwn = true := ho; rw [no0] at ho'; cases ho'
      | succ t =>
        cases u with
        | zero => have ho' : (lget (explode t0 x.1) 0).isOwn = true := hu; rw [no0] at ho'; cases ho'
        | succ u =>
          simp only at e
          rw [i5 t u ho hu (by omega)]
    · obtain ⟨te, e, xs, q1, q2, q3⟩ := k3 j hj
      refine ⟨te, e, xs, q1, ?_, ?_⟩
      · have e0 : outL ((PK.v ag t0 :: ps).flatMap PK.lk) x = explode t0 x.1 ++ outL (ps.flatMap PK.lk) x.2 := rfl
        rw [e0, lget_append, if_neg (by omega), hlen, Nat.add_sub_cancel_left]; exact q2
      · rw [getD_append, if_neg (by omega), Nat.add_sub_cancel_left]; exact q3
    · cases t with
      | zero => have ho' : (lget (explode t0 x.1) 0).isOwn = true := ho; rw [no0] at ho'; cases ho'
      | succ t => simp only at e; exact k5 t j ho hj (by omega)
  | nv, .o te e0 :: ps, x, vs, cs, hb, hp, hs, hl => by
    simp only [List.all_cons, Bool.and_eq_true] at hb hp
    obtain ⟨v, vs', cs', rfl, rfl, h5⟩ := hs
    have e : outL ((PK.o te e0 :: ps).flatMap PK.lk) x = .own te e0 x.1 :: outL (ps.flatMap PK.lk) x.2 := rfl
    rw [e] at hl ⊢
    have hl2 : ∀ j, LO w S (lget (outL (ps.flatMap PK.lk) x.2) j) (cs'.getD j undef) := fun j => hl (j + 1)
    obtain ⟨c, jf, i1, i2, i3, i4, i5, jw, k1, k2, k3, k4, k5⟩ := argS_ok n nb nv ps x.2 vs' cs' hb.2 hp.2 h5 hl2
    refine ⟨fun t => match t with | 0 => fun i => if i = 0 then v else undef | t + 1 => c t, fun t => match t with | 0 => 0 | t + 1 => 1 + jf t, by simp [i1], by simp [argS, i2], fun t ht => ?_, fun t ho => ?_, fun t u ho hu e => ?_, fun j => 1 + jw j, k1, k2, fun j hj => ?_, fun i j hi hj e => k4 i j hi hj (by omega), fun t j ho hj e => ?_⟩
    · cases t with
      | zero =>
        refine ⟨⟨false, [.own te e0 x.1], rfl, fun _ => ⟨rfl, rfl⟩, fun ha => by cases ha⟩, fun σ g e1 e2 e3 i => ?_, fun i ho => ?_⟩
        · cases i with
          | zero =>
            have := hl 0
            rw [← e1] at this
            exact LO_LR this
          | succ i => trivial
        · cases i with
          | zero => rfl
          | succ i => simp [argS, gsL, Slot.leaves, lget, Leaf.isOwn] at ho
      | succ t => exact i3 t (by simpa using ht)
    · cases t with
      | zero => rfl
      | succ t =>
        have := i4 t ho
        simp only
        rw [← this]
        show own1 ([Leaf.own te e0 x.1] ++ outL (ps.flatMap PK.lk) x.2) ([v] ++ cs') (1 + jf t) = _
        rw [own1_append rfl, if_neg (by simp)]
        congr 1
        simp
    · cases t with
      | zero =>
        cases u with
        | zero => rfl
        | succ u => simp only at e; omega
      | succ t =>
        cases u with
        | zero => simp only at e; omega
        | succ u =>
          simp only at e
          rw [i5 t u ho hu (by omega)]
    · obtain ⟨te, e, xs, q1, q2, q3⟩ := k3 j hj
      refine ⟨te, e, xs, q1, ?_, ?_⟩
      · rw [Nat.add_comm]; exact q2
      · rw [Nat.add_comm]; exact q3
    · cases t with
      | zero => simp only at e; omega
      | succ t => simp only at e; exact k5 t j ho hj (by omega)
  | nv, .p b :: ps, x, vs, cs, hb, hp, hs, hl => by
    simp only [List.all_cons, Bool.and_eq_true] at hb hp
    obtain ⟨vs', rfl, h5⟩ := hs
    have hbn : b < nb := by simpa [PK.inB] using hb.1
    obtain ⟨c, jf, i1, i2, i3, i4, i5, jw, k1, k2, k3, k4, k5⟩ := argS_ok n nb nv ps x vs' cs hb.2 hp.2 h5 hl
    refine ⟨fun t => match t with | 0 => fun i => if i = 0 then .pointer (some ⟨bk b, 0, none⟩) else undef | t + 1 => c t, fun t => match t with | 0 => 0 | t + 1 => jf t, by simp [i1], by simp [argS, i2], fun t ht => ?_, fun t ho => ?_, fun t u ho hu e => ?_, jw, k1, k2, k3, k4, fun t j ho hj e => ?_⟩
    · cases t with
      | zero =>
        refine ⟨⟨false, [.ptr (n + b) 0], rfl, fun _ => ⟨rfl, rfl⟩, fun ha => by cases ha⟩, fun σ g e1 e2 e3 i => ?_, fun i ho => ?_⟩
        · cases i with
          | zero =>
            obtain ⟨q1, q2⟩ := e2 b hbn
            exact ⟨by simp [q1], q2⟩
          | succ i => trivial
        · cases i <;> simp [argS, gsL, Slot.leaves, lget, Leaf.isOwn] at ho
      | succ t => exact i3 t (by simpa using ht)
    · cases t with
      | zero => simp [argS, gsL, Slot.leaves, lget, Leaf.isOwn] at ho
      | succ t => exact i4 t ho
    · cases t with
      | zero => simp [argS, gsL, Slot.leaves, lget, Leaf.isOwn] at ho
      | succ t =>
        cases u with
        | zero => simp [argS, gsL, Slot.leaves, lget, Leaf.isOwn] at hu
        | succ u =>
          simp only at e
          rw [i5 t u ho hu e]
    · cases t with
      | zero => simp [argS, gsL, Slot.leaves, lget, Leaf.isOwn] at ho
      | succ t => exact k5 t j ho hj e
  | nv, .f q bs :: ps, x, vs, cs, hb, hp, hs, hl => by
    simp only [List.all_cons, Bool.and_eq_true] at hb hp
    obtain ⟨vs', rfl, h5⟩ := hs
    have hbn : ∀ b ∈ bs, b < nb := fun b hm => by
      have := hb.1
      simp only [PK.inB] at this
      simpa using List.all_eq_true.1 this b hm
    obtain ⟨c, jf, i1, i2, i3, i4, i5, jw, k1, k2, k3, k4, k5⟩ := argS_ok n nb nv ps x vs' cs hb.2 hp.2 h5 hl
    refine ⟨fun t => match t with | 0 => fun i => if i = 0 then .func (.func q) #[] (bs.map fun b => .pointer (some ⟨bk b, 0, none⟩)).toArray else undef | t + 1 => c t, fun t => match t with | 0 => 0 | t + 1 => jf t, by simp [i1], by simp [argS, i2], fun t ht => ?_, fun t ho => ?_, fun t u ho hu e => ?_, jw, k1, k2, k3, k4, fun t j ho hj e => ?_⟩
    · cases t with
      | zero =>
        refine ⟨⟨false, [.clo q (bs.map (n + ·))], rfl, fun _ => ⟨rfl, rfl⟩, fun ha => by cases ha⟩, fun σ g e1 e2 e3 i => ?_, fun i ho => ?_⟩
        · cases i with
          | zero =>
            refine ⟨?_, fun b hm => ?_⟩
            · simp only [if_true, List.map_map]
              congr 2
              apply List.map_congr_left
              intro b hm
              simp [(e2 b (hbn b hm)).1]
            · obtain ⟨b', hm', rfl⟩ := List.mem_map.1 hm
              exact (e2 b' (hbn b' hm')).2
          | succ i => trivial
        · cases i <;> simp [argS, gsL, Slot.leaves, lget, Leaf.isOwn] at ho
      | succ t => exact i3 t (by simpa using ht)
    · cases t with
      | zero => simp [argS, gsL, Slot.leaves, lget, Leaf.isOwn] at ho
      | succ t => exact i4 t ho
    · cases t with
      | zero => simp [argS, gsL, Slot.leaves, lget, Leaf.isOwn] at ho
      | succ t =>
        cases u with
        | zero => simp [argS, gsL, Slot.leaves, lget, Leaf.isOwn] at hu
        | succ u =>
          simp only at e
          rw [i5 t u ho hu e]
    · cases t with
      | zero => simp [argS, gsL, Slot.leaves, lget, Leaf.isOwn] at ho
      | succ t => exact k5 t j ho hj e
  | nv, .w te e0 :: ps, x, vs, cs, hb, hp, hs, hl => by
    simp only [List.all_cons, Bool.and_eq_true] at hb hp
    obtain ⟨v, vs', cs', rfl, rfl, h5⟩ := hs
    have e : outL ((PK.w te e0 :: ps).flatMap PK.lk) x = .own te e0 x.1 :: outL (ps.flatMap PK.lk) x.2 := rfl
    rw [e] at hl ⊢
    have hl2 : ∀ j, LO w S (lget (outL (ps.flatMap PK.lk) x.2) j) (cs'.getD j undef) := fun j => hl (j + 1)
    obtain ⟨c, jf, i1, i2, i3, i4, i5, jw, k1, k2, k3, k4, k5⟩ := argS_ok n nb (nv + 1) ps x.2 vs' cs' hb.2 hp.2 h5 hl2
    refine ⟨fun t => match t with | 0 => fun i => if i = 0 then v else undef | t + 1 => c t, fun t => match t with | 0 => 0 | t + 1 => 1 + jf t, by simp [i1], by simp [argS, i2], fun t ht => ?_, fun t ho => ?_, fun t u ho hu e => ?_, fun j => match j with | 0 => 0 | j + 1 => 1 + jw j, by simp [wS, wvs, k1], by simp [wvs, PK.wk, k2], fun j hj => ?_, fun i j hi hj e => ?_, fun t j ho hj e => ?_⟩
    · cases t with
      | zero =>
        refine ⟨⟨false, [.al ⟨nv, 0⟩], rfl, fun _ => ⟨rfl, rfl⟩, fun ha => by cases ha⟩, fun σ g e1 e2 e3 i => ?_, fun i ho => ?_⟩
        · cases i with
          | zero =>
            obtain ⟨q1, q2⟩ := e3 0 (by simp [wvs])
            exact ⟨q1.symm, q2⟩
          | succ i => trivial
        · cases i with
          | zero => rfl
          | succ i => simp [argS, gsL, Slot.leaves, lget, Leaf.isOwn] at ho
      | succ t =>
        have := i3 t (by simpa using ht)
        refine ⟨this.sh, fun σ g e1 e2 e3 i => this.lf σ g e1 e2 (fun j hj => ?_) i, this.own⟩
        have := e3 (j + 1) (by simpa [wvs] using hj)
        rw [show nv + 1 + j = nv + (j + 1) by omega]
        exact this
    · cases t with
      | zero => simp [argS, gsL, Slot.leaves, lget, Leaf.isOwn] at ho
      | succ t =>
        have := i4 t ho
        simp only
        rw [← this]
        show own1 ([Leaf.own te e0 x.1] ++ outL (ps.flatMap PK.lk) x.2) ([v] ++ cs') (1 + jf t) = _
        rw [own1_append rfl, if_neg (by simp)]
        congr 1
        simp
    · cases t with
      | zero => simp [argS, gsL, Slot.leaves, lget, Leaf.isOwn] at ho
      | succ t =>
        cases u with
        | zero => simp [argS, gsL, Slot.leaves, lget, Leaf.isOwn] at hu
        | succ u =>
          simp only at e
          rw [i5 t u ho hu (by omega)]
    · cases j with
      | zero => exact ⟨te, e0, x.1, rfl, rfl, rfl⟩
      | succ j =>
        obtain ⟨te', e', xs, q1, q2, q3⟩ := k3 j (by simpa [wvs] using hj)
        refine ⟨te', e', xs, q1, ?_, ?_⟩
        · simp only; rw [Nat.add_comm]; exact q2
        · simp only; rw [Nat.add_comm]; exact q3
    · cases i with
      | zero =>
        cases j with
        | zero => rfl
        | succ j => simp only at e; omega
      | succ i =>
        cases j with
        | zero => simp only at e; omega
        | succ j =>
          simp only at e
          rw [k4 i j (by simpa [wvs] using hi) (by simpa [wvs] using hj) (by omega)]
    · cases t with
      | zero => simp [argS, gsL, Slot.leaves, lget, Leaf.isOwn] at ho
      | succ t =>
        cases j with
        | zero => simp only at e; omega
        | succ j => simp only at e; exact k5 t j ho (by simpa [wvs] using hj) (by omega)
end Go.Ev
namespace Go.Ev
set_option linter.unusedVariables false
set_option linter.unusedSimpArgs false
theorem gs_boxS : ∀ (bs : List (List LK)) (y : BL bs) (i : Nat), gsL (boxS bs y) i = if i < bs.length then .box (boxLs bs y i) else nones
  | [], y, i => by cases i <;> rfl
  | b :: bs, y, 0 => by simp [boxS, gsL, boxLs]
  | b :: bs, y, i + 1 => by simp [boxS, gsL, boxLs, gs_boxS bs y.2 i]
theorem length_boxS : ∀ (bs : List (List LK)) (y : BL bs), (boxS bs y).length = bs.length
  | [], _ => rfl
  | b :: bs, y => by simp [boxS, length_boxS bs y.2]
/-- The kinds that a function is told fit it. -/
def sigOk (s : Sig) (fn : Func) : Bool := decide (s.ps.length ≤ fn.ntmps) && s.ps.all (PK.inB s.bs.length) && s.ps.all PK.ok && s.bs.all (fun ks => ks.all LK.one) && !(fn.name == "runtime.NumGoroutine")
/-- What stays the same as a call of a function runs. -/
def ctx (w : World) (S M : Nat → Prop) (n nv : Nat) (wv : List Value) (bk : Nat → Nat) (h1 : Lay w S) (h2 : ∀ b, S b → b < w.heap.size ∧ ¬ M b) : Ctx := ⟨w, S, M, n, fun t => bk (t - n), fun t => wv.getD (t - nv) undef, h1, h2⟩
theorem start_ok {s : Sig} {fn : Func} (hs : sigOk s fn = true) {x : HL s.ins} {y : BL s.bs} {w : World} {S : Nat → Prop} {vs cs : List Value} {bc : Nat → List Value} {bk : Nat → Nat}
    (hh : Hand w S (outL s.ins x) cs s.bs.length (boxLs s.bs y) bc bk) (ha : ArgShape bk s.ps vs cs) :
    ∃ g, Rel (ctx w S (fun b => ∃ o, pob (outL s.ins x) cs s.bs.length (boxLs s.bs y) bc bk o = some b) fn.ntmps (fn.ntmps + s.bs.length) (wvs s.ps vs) bk hh.lay (fun b hb => ⟨hh.sb b hb, fun ⟨o, ho⟩ => (hh.fr o b ho).1 hb⟩)) (start s fn x y) { tmps := vs.toArray ++ Array.replicate (fn.ntmps - vs.toArray.size) undef, defers := [] } w g ∧ fn.ntmps ≤ (start s fn x y).length := by
  simp only [sigOk, Bool.and_eq_true, decide_eq_true_eq] at hs
  obtain ⟨⟨⟨⟨s1, s2⟩, s3⟩, s4⟩, s5⟩ := hs
  obtain ⟨c, jf, i1, i2, i3, i4, i5, jw, k1, k2, k3, k4, k5⟩ := argS_ok fn.ntmps s.bs.length (fn.ntmps + s.bs.length) s.ps x vs cs s2 s3 ha hh.rel
  have hws : s.ws.length = (wvs s.ps vs).length := k2.symm
  have hlen : (start s fn x y).length = fn.ntmps + s.bs.length + s.ws.length := rfl
  have hst : ∀ t, gs (start s fn x y) t = if t < fn.ntmps + s.bs.length + s.ws.length then gsT (putT (fn.ntmps + s.bs.length) (wS s.ps x) (putT fn.ntmps (boxS s.bs y) (putT 0 (argS fn.ntmps (fn.ntmps + s.bs.length) s.ps x) .e))) t else nones := fun t => gs_if (start s fn x y) t
  have hgs1 : ∀ t, t < s.ps.length → gs (start s fn x y) t = gsL (argS fn.ntmps (fn.ntmps + s.bs.length) s.ps x) t := fun t ht => by
    rw [hst, if_pos (by omega), gsT_putT, if_neg (by omega), gsT_putT, if_neg (by omega), gsT_putT, if_pos (by omega), Nat.sub_zero]
  have hgs2 : ∀ t, ¬ t < s.ps.length → t < fn.ntmps → gs (start s fn x y) t = nones := fun t h1 h2 => by
    rw [hst, if_pos (by omega), gsT_putT, if_neg (by omega), gsT_putT, if_neg (by omega), gsT_putT, if_neg (by omega)]; rfl
  have hgs3 : ∀ t, ¬ t < fn.ntmps → t < fn.ntmps + s.bs.length → gs (start s fn x y) t = .box (boxLs s.bs y (t - fn.ntmps)) := fun t h2 h3 => by
    rw [hst, if_pos (by omega), gsT_putT, if_neg (by omega), gsT_putT, if_pos (by rw [length_boxS]; omega), gs_boxS, if_pos (by omega)]
  have hgs4 : ∀ t, ¬ t < fn.ntmps + s.bs.length → gs (start s fn x y) t = if t - (fn.ntmps + s.bs.length) < (wvs s.ps vs).length then gsL (wS s.ps x) (t - (fn.ntmps + s.bs.length)) else nones := fun t h2 => by
    rw [hst]
    by_cases h3 : t - (fn.ntmps + s.bs.length) < (wvs s.ps vs).length
    · rw [if_pos (by omega), gsT_putT, if_pos (by omega), if_pos h3]
    · rw [if_neg (by omega), if_neg h3]
  obtain ⟨C, hC1, hC2, hC3, hC4⟩ : ∃ C : Pl → Value, (∀ p : Pl, p.t < s.ps.length → C p = c p.t p.i) ∧ (∀ p : Pl, ¬ p.t < s.ps.length → p.t < fn.ntmps → C p = undef) ∧ (∀ p : Pl, ¬ p.t < fn.ntmps → p.t < fn.ntmps + s.bs.length → C p = (bc (p.t - fn.ntmps)).getD p.i undef) ∧ ∀ p : Pl, ¬ p.t < fn.ntmps + s.bs.length → C p = (wvs s.ps vs).getD (p.t - (fn.ntmps + s.bs.length)) undef :=
    ⟨fun p => if p.t < s.ps.length then c p.t p.i else if p.t < fn.ntmps then undef else if p.t < fn.ntmps + s.bs.length then (bc (p.t - fn.ntmps)).getD p.i undef else (wvs s.ps vs).getD (p.t - (fn.ntmps + s.bs.length)) undef, fun p h => by simp only [if_pos h], fun p h h2 => by simp only [if_neg h, if_pos h2], fun p h h2 => by
      have : ¬ p.t < s.ps.length := by omega
      simp only [if_neg h, if_neg this, if_pos h2], fun p h => by
      have h1 : ¬ p.t < s.ps.length := by omega
      have h2 : ¬ p.t < fn.ntmps := by omega
      simp only [if_neg h, if_neg h1, if_neg h2]⟩
  have hbox : ∀ b, b < s.bs.length → isBox (start s fn x y) (fn.ntmps + b) := fun b hb => by
    unfold isBox
    rw [hgs3 _ (by omega) (by omega), Nat.add_sub_cancel_left]
    rfl
  have htmp : ∀ t, t < fn.ntmps → (vs.toArray ++ Array.replicate (fn.ntmps - vs.toArray.size) undef).getD t undef = if t < s.ps.length then vs.getD t undef else undef := fun t ht => by
    by_cases h1 : t < s.ps.length
    · rw [if_pos h1]
      simp [Array.getD_eq_getD_getElem?, Array.getElem?_append, i1, h1, List.getD_eq_getElem?_getD]
    · rw [if_neg h1]
      simp [Array.getD_eq_getD_getElem?, Array.getElem?_append, i1, h1]
      rw [Array.getElem?_replicate]
      split <;> rfl
  -- leaves
  have hglA : ∀ p : Pl, p.t < s.ps.length → gl (start s fn x y) p = lget (gsL (argS fn.ntmps (fn.ntmps + s.bs.length) s.ps x) p.t).leaves p.i := fun p hp => by unfold gl; rw [hgs1 _ hp]
  have hglN : ∀ p : Pl, ¬ p.t < s.ps.length → p.t < fn.ntmps → gl (start s fn x y) p = .und := fun p h1 h2 => by
    unfold gl; rw [hgs2 _ h1 h2]
    cases p.i <;> rfl
  have hglB : ∀ p : Pl, ¬ p.t < fn.ntmps → p.t < fn.ntmps + s.bs.length → gl (start s fn x y) p = lget (boxLs s.bs y (p.t - fn.ntmps)) p.i := fun p h2 h3 => by
    unfold gl; rw [hgs3 _ h2 h3]; rfl
  have hglW : ∀ p : Pl, ¬ p.t < fn.ntmps + s.bs.length → (gl (start s fn x y) p = .und ∨ (p.t - (fn.ntmps + s.bs.length) < (wvs s.ps vs).length ∧ p.i = 0 ∧ ∃ te e, ∃ xs : List e.den, gl (start s fn x y) p = .own te e xs ∧ lget (outL s.ins x) (jw (p.t - (fn.ntmps + s.bs.length))) = .own te e xs ∧ cs.getD (jw (p.t - (fn.ntmps + s.bs.length))) undef = (wvs s.ps vs).getD (p.t - (fn.ntmps + s.bs.length)) undef)) := fun p h2 => by
    unfold gl
    rw [hgs4 _ h2]
    by_cases h3 : p.t - (fn.ntmps + s.bs.length) < (wvs s.ps vs).length
    · rw [if_pos h3]
      obtain ⟨te, e, xs, q1, q2, q3⟩ := k3 _ h3
      rw [q1]
      cases hi : p.i with
      | zero => exact .inr ⟨h3, rfl, te, e, xs, rfl, q2, q3⟩
      | succ i => left; cases i <;> rfl
    · rw [if_neg h3]
      left
      cases p.i <;> rfl
  have hob : ∀ o b, ob (start s fn x y) ⟨S, C, fun t => bk (t - fn.ntmps), fun t => (wvs s.ps vs).getD (t - (fn.ntmps + s.bs.length)) undef⟩ o = some b →
      (∃ i, o = .inl (fn.ntmps + i) ∧ pob (outL s.ins x) cs s.bs.length (boxLs s.bs y) bc bk (.box i) = some b) ∨
      (∃ t, o = .inr ⟨t, 0⟩ ∧ t < s.ps.length ∧ (lget (gsL (argS fn.ntmps (fn.ntmps + s.bs.length) s.ps x) t).leaves 0).isOwn = true ∧ pob (outL s.ins x) cs s.bs.length (boxLs s.bs y) bc bk (.arg (jf t)) = some b) ∨
      (∃ i q, o = .inr ⟨fn.ntmps + i, q⟩ ∧ pob (outL s.ins x) cs s.bs.length (boxLs s.bs y) bc bk (.leaf i q) = some b) ∨
      (∃ j, o = .inr ⟨fn.ntmps + s.bs.length + j, 0⟩ ∧ j < (wvs s.ps vs).length ∧ pob (outL s.ins x) cs s.bs.length (boxLs s.bs y) bc bk (.arg (jw j)) = some b) := by
    intro o b hb
    cases o with
    | inl t =>
      simp only [ob] at hb
      by_cases h2 : t < fn.ntmps
      · by_cases h1 : t < s.ps.length
        · obtain ⟨⟨ag, ls, e, _⟩, _⟩ := i3 t h1
          rw [hgs1 t h1, e] at hb
          simp [Slot.shp, Shp.isBox] at hb
        · rw [hgs2 t h1 h2] at hb
          simp [nones, Slot.shp, Shp.isBox] at hb
      · by_cases h3 : t < fn.ntmps + s.bs.length
        · rw [hgs3 t h2 h3] at hb
          refine .inl ⟨t - fn.ntmps, by congr 1; omega, ?_⟩
          have h4 : t - fn.ntmps < s.bs.length := by omega
          simpa [pob, h4, Slot.shp, Shp.isBox] using hb
        · rw [hgs4 t h3] at hb
          split at hb
          · rename_i h4
            obtain ⟨te, e, xs, q1, _⟩ := k3 _ h4
            rw [q1] at hb
            simp [Slot.shp, Shp.isBox] at hb
          · simp [nones, Slot.shp, Shp.isBox] at hb
    | inr p =>
      obtain ⟨t, q⟩ := p
      simp only [ob] at hb
      split at hb
      rotate_left
      · cases hb
      rename_i ho
      by_cases h2 : t < fn.ntmps
      · by_cases h1 : t < s.ps.length
        · rw [hglA ⟨t, q⟩ h1] at ho
          have hq := (i3 t h1).own q ho
          subst hq
          refine .inr (.inl ⟨t, rfl, h1, ho, ?_⟩)
          rw [hC1 ⟨t, 0⟩ h1] at hb
          exact (i4 t ho).trans hb
        · rw [hglN ⟨t, q⟩ h1 h2] at ho; cases ho
      · by_cases h3 : t < fn.ntmps + s.bs.length
        · rw [hglB ⟨t, q⟩ h2 h3] at ho
          simp only at ho
          rw [hC3 ⟨t, q⟩ h2 h3] at hb
          refine .inr (.inr (.inl ⟨t - fn.ntmps, q, by congr 2; omega, ?_⟩))
          simp only at hb
          have h4 : t - fn.ntmps < s.bs.length := by omega
          simp only [pob, h4, own1, ho, if_true]
          exact hb
        · rcases hglW ⟨t, q⟩ h3 with e0 | ⟨h4, h5, te, e, xs, q1, q2, q3⟩
          · rw [e0] at ho; cases ho
          · simp only at h4 h5 q2 q3
            subst h5
            rw [hC4 ⟨t, 0⟩ h3] at hb
            refine .inr (.inr (.inr ⟨t - (fn.ntmps + s.bs.length), by congr 2; omega, h4, ?_⟩))
            simp only at hb
            simp only [pob, own1, q2, q3, Leaf.isOwn, if_true]
            exact hb
  refine ⟨⟨S, C, fun t => bk (t - fn.ntmps), fun t => (wvs s.ps vs).getD (t - (fn.ntmps + s.bs.length)) undef⟩, {
    size := by simp [ctx, i1]; omega
    defers := rfl
    sh := fun t ht => ?_
    lf := fun p => ?_
    inj := fun o1 o2 b h1 h2 => ?_
    fr := fun o b hb => ?_
    sb := fun b hb => ⟨hh.sb b hb, .inl hb⟩
    s0 := fun b hb => hb
    bx := fun t _ => rfl
    vcx := rfl
    os := rfl
    tape := rfl
    drawn := Nat.le_refl _
    output := rfl
    grow := Nat.le_refl _
    frame := fun _ _ _ => rfl }, by rw [hlen]; omega⟩
  · by_cases h2 : t < fn.ntmps
    · by_cases h1 : t < s.ps.length
      · obtain ⟨⟨ag, ls, e, e1, e2⟩, _⟩ := i3 t h1
        rw [hgs1 t h1, e]
        cases ag with
        | false =>
          obtain ⟨q1, q2⟩ := e1 rfl
          refine ⟨q1, ?_⟩
          show Array.getD _ t undef = C ⟨t, 0⟩
          rw [htmp t h2, if_pos h1, hC1 ⟨t, 0⟩ h1]; exact q2
        | true =>
          show Array.getD _ t undef = _
          rw [htmp t h2, if_pos h1, e2 rfl]
          congr 2
          simp only [cellsL]
          exact List.map_congr_left (fun i _ => (hC1 ⟨t, i⟩ h1).symm)
      · rw [hgs2 t h1 h2]
        refine ⟨rfl, ?_⟩
        show Array.getD _ t undef = C ⟨t, 0⟩
        rw [htmp t h2, if_neg h1, hC2 ⟨t, 0⟩ h1 h2]
    · by_cases h3 : t < fn.ntmps + s.bs.length
      · rw [hgs3 t h2 h3]
        obtain ⟨⟨te, b1⟩, b2, b3⟩ := hh.box (t - fn.ntmps) (by omega)
        refine ⟨fun h => absurd h h2, te, ?_⟩
        show w.heap[bk (t - fn.ntmps)]? = _
        rw [b1]
        congr 2
        apply Array.ext'
        apply List.ext_getElem?
        intro i
        simp only [cellsL, List.getElem?_map, hC3 ⟨t, _⟩ h2 h3]
        by_cases hi : i < (boxLs s.bs y (t - fn.ntmps)).length
        · simp [hi, List.getD_eq_getElem?_getD, show i < (bc (t - fn.ntmps)).length by omega]
        · simp [hi, show (bc (t - fn.ntmps)).length ≤ i by omega]
      · have h4 : t - (fn.ntmps + s.bs.length) < (wvs s.ps vs).length := by omega
        rw [hgs4 t h3, if_pos h4]
        obtain ⟨te, e, xs, q1, _⟩ := k3 _ h4
        rw [q1]
        exact ⟨rfl, hC4 ⟨t, 0⟩ h3⟩
  · by_cases h2 : p.t < fn.ntmps
    · by_cases h1 : p.t < s.ps.length
      · rw [hglA p h1]
        show LR _ _ _ _ (C p)
        rw [hC1 p h1]
        refine (i3 p.t h1).lf _ _ rfl (fun b hb => ⟨by simp, hbox b hb⟩) (fun j hj => ⟨?_, ?_⟩) p.i
        · show C ⟨fn.ntmps + s.bs.length + j, 0⟩ = _
          rw [hC4 _ (by simp), Nat.add_sub_cancel_left]
        · unfold gl
          rw [hgs4 _ (by simp), Nat.add_sub_cancel_left, if_pos hj]
          obtain ⟨te, e, xs, q1, _⟩ := k3 _ hj
          rw [q1]; rfl
      · rw [hglN p h1 h2]; trivial
    · by_cases h3 : p.t < fn.ntmps + s.bs.length
      · rw [hglB p h2 h3]
        show LR _ _ _ _ (C p)
        rw [hC3 p h2 h3]
        exact LO_LR ((hh.box _ (by omega)).rel p.i)
      · rcases hglW p h3 with e0 | ⟨h4, h5, te, e, xs, q1, q2, q3⟩
        · rw [e0]; trivial
        · rw [q1]
          show LR _ _ _ _ (C p)
          rw [hC4 p h3, ← q3, ← q2]
          exact LO_LR (hh.rel _)
  · rcases hob _ _ h1 with ⟨i, e1, a1⟩ | ⟨t, e1, _, a0, a1⟩ | ⟨i, q, e1, a1⟩ | ⟨j, e1, j1, a1⟩ <;> rcases hob _ _ h2 with ⟨i', e2, a2⟩ | ⟨t', e2, _, a0', a2⟩ | ⟨i', q', e2, a2⟩ | ⟨j', e2, j2, a2⟩ <;> have hinj := hh.inj _ _ b a1 a2
    · injection hinj with hinj; rw [e1, e2, hinj]
    · cases hinj
    · cases hinj
    · cases hinj
    · cases hinj
    · injection hinj with hinj; rw [e1, e2, i5 t t' a0 a0' hinj]
    · cases hinj
    · injection hinj with hinj; exact absurd hinj (k5 t j' a0 j2)
    · cases hinj
    · cases hinj
    · injection hinj with h3 h4; rw [e1, e2, h3, h4]
    · cases hinj
    · cases hinj
    · injection hinj with hinj; exact absurd hinj.symm (k5 t' j a0' j1)
    · cases hinj
    · injection hinj with hinj; rw [e1, e2, k4 j j' j1 j2 hinj]
  · have key : ∃ ow, pob (outL s.ins x) cs s.bs.length (boxLs s.bs y) bc bk ow = some b := by
      rcases hob _ _ hb with ⟨i, e1, a1⟩ | ⟨t, e1, _, a0, a1⟩ | ⟨i, q, e1, a1⟩ | ⟨j, e1, _, a1⟩
      · exact ⟨_, a1⟩
      · exact ⟨_, a1⟩
      · exact ⟨_, a1⟩
      · exact ⟨_, a1⟩
    obtain ⟨ow, how⟩ := key
    obtain ⟨f1, f2⟩ := hh.fr _ _ how
    exact ⟨f1, f2, .inr ⟨ow, how⟩⟩
end Go.Ev
namespace Go.Ev
set_option linter.unusedVariables false
set_option linter.unusedSimpArgs false
theorem implode_len : ∀ (t : Ty) (ls : List Leaf) (x : t.den), implode t ls = some x → t.sz ≤ ls.length
  | .pair a b, ls, x, h => by
    simp only [implode] at h
    split at h
    · rename_i x1 x2 h1 h2
      have l1 := implode_len a _ _ h1
      have l2 := implode_len b _ _ h2
      rw [length_ltake] at l1
      rw [length_ldrop] at l2
      have := sz_pos b
      simp only [Ty.sz]; omega
    · cases h
  | .int k, ls, x, h => by cases ls with
    | nil => simp [implode, lget, Leaf.as] at h
    | cons l ls => simp [Ty.sz]
  | .bool, ls, x, h => by cases ls with
    | nil => simp [implode, lget, Leaf.as] at h
    | cons l ls => simp [Ty.sz]
  | .str, ls, x, h => by cases ls with
    | nil => simp [implode, lget, Leaf.as] at h
    | cons l ls => simp [Ty.sz]
  | .list e, ls, x, h => by cases ls with
    | nil => simp [implode, lget, Leaf.as] at h
    | cons l ls => simp [Ty.sz]
section
variable {P : Program} {T : TypeId → Option TI} {env : Env} {X : Ctx} {a : Act} {w : World}
/-- A result's leaves. -/
theorem retL_ok : ∀ (ks : List LK) (ls : List Leaf) (cs : List Value) {σ σ' : St} {g : Gh} {x : HL ks}, Rel X σ a w g → cs.length = ls.length → (∀ i, LRw σ w g (lget ls i) (cs.getD i undef)) → retL ks ls σ = some (σ', x) →
    ∃ g', Tk X a w σ σ' g g' (outL ks x) cs
  | [], ls, cs, σ, σ', g, x, h, hl, hc, hr => by
    cases ls with
    | cons l ls => simp [retL] at hr
    | nil =>
      simp only [retL, Option.some.injEq, Prod.mk.injEq] at hr
      obtain ⟨rfl, _⟩ := hr
      have : cs = [] := List.eq_nil_of_length_eq_zero (by simpa using hl)
      subst this
      exact ⟨g, .nil h⟩
  | .fr t :: ks, ls, cs, σ, σ', g, x, h, hl, hc, hr => by
    simp only [retL] at hr
    split at hr
    rotate_left
    · cases hr
    rename_i y hy
    split at hr
    rotate_left
    · cases hr
    rename_i σ2 xs hxs
    simp only [Option.some.injEq, Prod.mk.injEq] at hr
    obtain ⟨rfl, rfl⟩ := hr
    obtain ⟨g1, f1, z1, z2⟩ := freezeL_ok (ltake t.sz ls) (fun i => (cs.take t.sz).getD i undef) h (fun i => by
      rw [lget_ltake]
      split
      · rename_i hi
        have := hc i
        simpa [List.getD_eq_getElem?_getD, List.getElem?_take, hi] using this
      · trivial)
    have hlen := implode_len _ _ _ hy
    rw [z2, length_ltake] at hlen
    have hlen2 : (cs.take t.sz).length = t.sz := by simp; omega
    have r1 : rel w g1.S t y (cs.take t.sz) := implode_ok hy hlen2 (fun i _ => z1 i)
    obtain ⟨g2, t2⟩ := retL_ok ks (ldrop t.sz ls) (cs.drop t.sz) f1.rel (by rw [length_ldrop]; simp; omega) (fun i => by
      rw [lget_ldrop]
      have := LRw_mono f1.S f1.c f1.blk f1.box (hc (t.sz + i))
      simpa [List.getD_eq_getElem?_getD] using this) hxs
    refine ⟨g2, ?_⟩
    have := (Tk.val f1 r1).append t2
    rw [List.take_append_drop] at this
    exact this
  | .ow te e :: ks, ls, cs, σ, σ', g, x, h, hl, hc, hr => by
    simp only [retL] at hr
    split at hr
    rotate_left
    · cases hr
    rename_i σ1 y hy
    split at hr
    rotate_left
    · cases hr
    rename_i σ2 xs hxs
    simp only [Option.some.injEq, Prod.mk.injEq] at hr
    obtain ⟨rfl, rfl⟩ := hr
    have t1 := takeOwn_ok h hy (hc 0)
    have hne : cs ≠ [] := by
      intro e0
      subst e0
      have : ls = [] := List.eq_nil_of_length_eq_zero (by simpa using hl.symm)
      subst this
      simp [lget, takeOwn] at hy
    obtain ⟨v, cs, rfl⟩ := List.exists_cons_of_ne_nil hne
    obtain ⟨g2, t2⟩ := retL_ok ks (ldrop 1 ls) cs t1.fz.rel (by rw [length_ldrop]; simp at hl; omega) (fun i => by
      rw [lget_ldrop]
      have := LRw_mono t1.fz.S t1.fz.c t1.fz.blk t1.fz.box (hc (1 + i))
      rw [show 1 + i = i + 1 from by omega] at this
      rw [show 1 + i = i + 1 from by omega]
      exact this) hxs
    exact ⟨g2, t1.append t2⟩
  | .oo _ _ :: _, ls, cs, σ, σ', g, x, h, hl, hc, hr => by simp [retL] at hr
def resSem (tmps : Array Value) : ResultVar → Sem Value
  | .tmp t => pure (tmps.getD t undef)
  | .cell a t => do loadVar t (← asAddr (tmps.getD a undef))
/-- The results' variables. -/
def resV1 : ResultVar → Nat
  | .tmp t => t
  | .cell t _ => t
def resOk (fn : Func) : Bool := fn.results.toList.all fun v => decide (resV1 v < fn.ntmps)
theorem retR_ok (hT : TOk P T) : ∀ (rs : List (Bool × List LK)) (vars : List ResultVar) {σ σ' : St} {g : Gh} {x : BL (rs.map (·.2))}, (∀ v ∈ vars, resV1 v < X.N) → Rel X σ a w g → X.N ≤ σ.length → retR T rs vars σ = some (σ', x) →
    ∃ g' cs vals, Tk X a w σ σ' g g' (outR rs x).2 cs ∧ vals.length = vars.length ∧ vars.length = rs.length ∧ (∀ (i : Nat) (v : ResultVar), vars[i]? = some v → ∃ u, vals[i]? = some u ∧ (resSem a.tmps v).run P w = .ok u w) ∧ tupR (outR rs x).1 vals cs
  | [], [], σ, σ', g, x, hv, h, hN, hr => by
    simp only [retR, Option.some.injEq, Prod.mk.injEq] at hr
    obtain ⟨rfl, _⟩ := hr
    exact ⟨g, [], [], .nil h, rfl, rfl, fun i t hi => by simp at hi, rfl, rfl⟩
  | (ag, ks) :: rs, .tmp t :: vars, σ, σ', g, x, hv, h, hN, hr => by
    simp only [retR] at hr
    split at hr
    rotate_left
    · cases hr
    rename_i hag
    split at hr
    rotate_left
    · cases hr
    rename_i σ1 y hy
    split at hr
    rotate_left
    · cases hr
    rename_i σ2 xs hxs
    simp only [Option.some.injEq, Prod.mk.injEq] at hr
    obtain ⟨rfl, rfl⟩ := hr
    have ht : t < X.N := hv (.tmp t) (by simp)
    have hq := rd_ok h hN (.tmp t) (fun u hu => by injection hu with hu; subst hu; exact ht)
    have key : ∃ c : List Value, c.length = (rd σ (.tmp t)).2.length ∧ (ag = true ∧ a.tmps.getD t undef = .agg c.toArray ∨ ag = false ∧ c = [a.tmps.getD t undef]) ∧ ∀ i, LRw σ w g (lget (rd σ (.tmp t)).2 i) (c.getD i undef) := by
      cases ag with
      | false =>
        obtain ⟨l, e1, e2⟩ := hq.1 hag
        refine ⟨[a.tmps.getD t undef], by rw [e1]; rfl, .inr ⟨rfl, rfl⟩, fun i => ?_⟩
        rw [e1]
        cases i with
        | zero => exact LRw_of e2
        | succ i => trivial
      | true =>
        obtain ⟨cs, e1, e2, e3⟩ := hq.2.1 hag
        exact ⟨cs, e2, .inl ⟨rfl, e1⟩, fun i => LRw_of (e3 i)⟩
    obtain ⟨c, c1, c2, c3⟩ := key
    obtain ⟨g1, t1⟩ := retL_ok ks _ c h c1 c3 hy
    obtain ⟨g2, cs, vals, t2, l1, l2, v2, tr⟩ := retR_ok hT rs vars (fun v hm => hv v (by simp [hm])) t1.fz.rel (by rw [t1.fz.len]; exact hN) hxs
    refine ⟨g2, c ++ cs, a.tmps.getD t undef :: vals, t1.append t2, by simp [l1], by simp [l2], fun i u hi => ?_, ?_⟩
    · cases i with
      | zero =>
        simp only [List.getElem?_cons_zero, Option.some.injEq] at hi
        subst hi
        exact ⟨_, rfl, rfl⟩
      | succ i => exact v2 i u (by simpa using hi)
    · exact ⟨_, _, c, cs, rfl, rfl, t1.len, c2, tr⟩
  | (ag, ks) :: rs, .cell t ty :: vars, σ, σ', g, x, hv, h, hN, hr => by
    simp only [retR] at hr
    cases hti : T ty with
    | none => rw [hti] at hr; cases hr
    | some ti =>
    rw [hti] at hr
    simp only at hr
    split at hr
    rotate_left
    · cases hr
    rename_i hc
    obtain ⟨hbx, hag, hlen⟩ := hc
    split at hr
    rotate_left
    · cases hr
    rename_i σ1 y hy
    split at hr
    rotate_left
    · cases hr
    rename_i σ2 xs hxs
    simp only [Option.some.injEq, Prod.mk.injEq] at hr
    obtain ⟨rfl, rfl⟩ := hr
    have ht : t < X.N := hv (.cell t ty) (by simp)
    have hb : isBox σ t := by
      revert hbx
      unfold isBox
      cases gs σ t <;> intro hx <;> first | rfl | cases hx
    have hval : a.tmps.getD t undef = .pointer (some ⟨g.blk t, 0, none⟩) := by
      have := h.sh t (isBox_lt hb)
      revert this hb
      unfold isBox
      cases gs σ t <;> intro h1 h2 <;> first | (exact h2.1 ht) | (exact h1.1 ht) | (exact h2.2.1 ht) | (exact h1.2.1 ht) | (cases h1; done) | (cases h2; done)
    have c1 : (cellsL g t ti.ty.sz).length = (view t 0 (gs σ t).leaves).length := by simp [cellsL, hlen]
    obtain ⟨g1, t1⟩ := retL_ok ks _ (cellsL g t ti.ty.sz) h c1 (fun i => by
      by_cases hi : i < ti.ty.sz
      · rw [cellsL_getD _ _ _ _ hi]; rw [lget_view]; have := LRw_of (LR_view h t i); simp only [Nat.zero_add] at this ⊢; exact this
      · rw [lget_of_le (by simp [hlen]; omega)]; trivial) hy
    have hrun : (resSem a.tmps (.cell t ty)).run P w = .ok (mkV ti.agg (cellsL g t ti.ty.sz)) w := by
      simp only [resSem, hval, asAddr, Sem.run_bind, Sem.run_pure, Result.andThen_ok]
      exact run_loadVar hT hti w _ _ _ (by simp [cellsL]) (fun j u hu => by
        simp only [cellsL, List.getElem?_map, Option.map_eq_some_iff] at hu
        obtain ⟨i, hi, rfl⟩ := hu
        obtain ⟨hi2, rfl⟩ := List.getElem?_eq_some_iff.1 hi
        simp only [List.getElem_range, List.length_range] at hi2 ⊢
        rw [Nat.zero_add]
        exact box_cell h hb (isBox_lt hb) (by omega))
    have hcs : ag = true ∧ mkV ti.agg (cellsL g t ti.ty.sz) = .agg (cellsL g t ti.ty.sz).toArray ∨ ag = false ∧ cellsL g t ti.ty.sz = [mkV ti.agg (cellsL g t ti.ty.sz)] := by
      subst hag
      cases ha : ti.agg with
      | true => exact .inl ⟨rfl, by simp [mkV]⟩
      | false =>
        refine .inr ⟨rfl, ?_⟩
        have h1 := hT.sz1 hti ha
        obtain ⟨u, hu⟩ := List.length_eq_one_iff.1 (show (cellsL g t ti.ty.sz).length = 1 by simp [cellsL, h1])
        rw [hu]
        simp [mkV]
    obtain ⟨g2, cs, vals, t2, l1, l2, v2, tr⟩ := retR_ok hT rs vars (fun v hm => hv v (by simp [hm])) t1.fz.rel (by rw [t1.fz.len]; exact hN) hxs
    refine ⟨g2, cellsL g t ti.ty.sz ++ cs, mkV ti.agg (cellsL g t ti.ty.sz) :: vals, t1.append t2, by simp [l1], by simp [l2], fun i u hi => ?_, ?_⟩
    · cases i with
      | zero =>
        simp only [List.getElem?_cons_zero, Option.some.injEq] at hi
        subst hi
        exact ⟨_, rfl, hrun⟩
      | succ i => exact v2 i u (by simpa using hi)
    · exact ⟨_, _, _, cs, rfl, rfl, t1.len, hcs, tr⟩
  | [], _ :: _, σ, σ', g, x, hv, h, hN, hr => by simp [retR] at hr
  | _ :: _, [], σ, σ', g, x, hv, h, hN, hr => by simp [retR] at hr
theorem outR_len1 : ∀ (rs : List (Bool × List LK)) (x : BL (rs.map (·.2))), (outR rs x).1.length = rs.length
  | [], _ => rfl
  | (a, ks) :: rs, x => by simp [outR, outR_len1 rs x.2]
theorem boxMap_lookup (n : Nat) : ∀ (bs : List (List LK)) (i j : Nat), j < bs.length → (boxMap n i bs).lookup (i + j) = some (n + (i + j))
  | [], i, j, h => by simp at h
  | b :: bs, i, 0, h => by simp [boxMap]
  | b :: bs, i, j + 1, h => by
    have := boxMap_lookup n bs (i + 1) j (by simpa using h)
    rw [show i + 1 + j = i + (j + 1) from by omega] at this
    have hne : (i + (j + 1) == i) = false := by simp
    simp only [boxMap, List.lookup, hne]
    exact this
theorem boxMap_mem (n : Nat) : ∀ (bs : List (List LK)) (i b t : Nat), (b, t) ∈ boxMap n i bs → t = n + b
  | [], i, b, t, h => by simp [boxMap] at h
  | _ :: bs, i, b, t, h => by
    simp only [boxMap, List.mem_cons, Prod.mk.injEq] at h
    rcases h with ⟨rfl, rfl⟩ | h
    · rfl
    · exact boxMap_mem n bs (i + 1) b t h
theorem results_eq (fn : Func) (tmps : Array Value) : results fn tmps = (do
    let vs ← fn.results.mapM (resSem tmps)
    pure (if h : vs.size = 1 then vs[0] else .tuple vs)) := by
  unfold results
  first | done | (congr 1; first | done | (congr 1; funext v; cases v <;> rfl))
theorem mapM_res (tmps : Array Value) : ∀ (vars : List ResultVar) (vals : List Value) (w : World), vals.length = vars.length → (∀ (i : Nat) (v : ResultVar), vars[i]? = some v → ∃ u, vals[i]? = some u ∧ (resSem tmps v).run P w = .ok u w) →
    (vars.mapM (resSem tmps)).run P w = .ok vals w
  | [], vals, w, hl, _ => by
    have : vals = [] := List.eq_nil_of_length_eq_zero hl
    subst this
    rfl
  | v :: vars, [], w, hl, _ => by simp at hl
  | v :: vars, u :: vals, w, hl, hi => by
    obtain ⟨u', h0, h1⟩ := hi 0 v rfl
    simp only [List.getElem?_cons_zero, Option.some.injEq] at h0
    subst h0
    rw [List.mapM_cons]
    simp only [Sem.run_bind, h1, Sem.run_pure, Result.andThen_ok, mapM_res tmps vars vals w (by simpa using hl) (fun i t h => by simpa using hi (i + 1) t (by simpa using h))]
theorem takeWs_ok {X : Ctx} : ∀ (ps : List PK) (nv : Nat) {σ σ' : St} {g : Gh} {y : BL (ps.flatMap PK.wk)}, Rel X σ a w g → takeWs nv ps σ = some (σ', y) →
    ∃ g', Tk X a w σ σ' g g' (wLs ps y) ((List.range (ps.flatMap PK.wk).length).map fun j => X.vc (nv + j))
  | [], nv, σ, σ', g, y, h, ht => by
    simp only [takeWs, Option.some.injEq, Prod.mk.injEq] at ht
    obtain ⟨rfl, _⟩ := ht
    exact ⟨g, .nil h⟩
  | .v _ _ :: ps, nv, σ, σ', g, y, h, ht => takeWs_ok ps nv h ht
  | .o _ _ :: ps, nv, σ, σ', g, y, h, ht => takeWs_ok ps nv h ht
  | .p _ :: ps, nv, σ, σ', g, y, h, ht => takeWs_ok ps nv h ht
  | .f _ _ :: ps, nv, σ, σ', g, y, h, ht => takeWs_ok ps nv h ht
  | .w te e :: ps, nv, σ, σ', g, y, h, ht => by
    simp only [takeWs] at ht
    split at ht
    rotate_left
    · cases ht
    rename_i ls hs
    split at ht
    rotate_left
    · cases ht
    rename_i σ1 x hx
    split at ht
    rotate_left
    · cases ht
    rename_i σ2 xs hxs
    simp only [Option.some.injEq, Prod.mk.injEq] at ht
    obtain ⟨rfl, rfl⟩ := ht
    have hlt : nv < σ.length := by
      apply Nat.lt_of_not_le
      intro hn
      rw [gs_of_le hn] at hs
      cases hs
    have hv := LR_view h nv 0
    have hsh := h.sh nv hlt
    rw [hs] at hv hsh
    have hv2 : LR σ w g (lget (view nv 0 ls) 0) (g.c ⟨nv, 0⟩) := by rw [lget_view, Nat.zero_add]; exact hv
    have t1 := takeOwn_ok h hx (LRw_of hv2)
    obtain ⟨g2, t2⟩ := takeWs_ok ps (nv + 1) t1.fz.rel hxs
    have hc : g.c ⟨nv, 0⟩ = X.vc nv := by rw [hsh.2, h.vcx]
    refine ⟨g2, ?_⟩
    have := t1.append t2
    rw [hc] at this
    have e3 : ([X.vc nv] ++ (List.range (ps.flatMap PK.wk).length).map fun j => X.vc (nv + 1 + j)) = (List.range ((PK.w te e :: ps).flatMap PK.wk).length).map fun j => X.vc (nv + j) := by
      have : ((PK.w te e :: ps).flatMap PK.wk).length = (ps.flatMap PK.wk).length + 1 := by simp [PK.wk]
      rw [this, List.range_succ_eq_map]
      simp [Function.comp_def, Nat.add_assoc, Nat.add_comm 1]
    rw [e3] at this
    exact this
theorem retK0_ok (hT : TOk P T) {s : Sig} {fn : Func} (hs : sigOk s fn = true) (hf : resOk fn = true) {w0 : World} {S M : Nat → Prop} {bk : Nat → Nat} {wv : List Value} {σ : St} {g : Gh} {out : s.Out} {hl1 : Lay w0 S} {hl2 : ∀ b, S b → b < w0.heap.size ∧ ¬ M b} (h : Rel (ctx w0 S M fn.ntmps (fn.ntmps + s.bs.length) wv bk hl1 hl2) σ a w g) (hwv : wv.length = s.ws.length) (hN : fn.ntmps ≤ σ.length) (hr : retK0 T s fn σ = some out) :
    ∃ v, (results fn a.tmps).run P w = .ok v w ∧ Back s w0 w S M bk wv v out := by
  simp only [sigOk, Bool.and_eq_true, decide_eq_true_eq] at hs
  obtain ⟨⟨⟨⟨s1, s2⟩, s3⟩, s4⟩, s5⟩ := hs
  simp only [retK0] at hr
  split at hr
  rotate_left
  · cases hr
  rename_i hall
  split at hr
  rotate_left
  · cases hr
  rename_i σ0 z hz
  split at hr
  rotate_left
  · cases hr
  rename_i σ1 x hx
  split at hr
  rotate_left
  · cases hr
  rename_i σ2 y hy
  injection hr with hr
  obtain ⟨ox, oy⟩ := out
  have ho1 : x = ox := congrArg Prod.fst hr
  have ho2 : joinB s.bs y z = oy := congrArg Prod.snd hr
  have hj1 : (splitB s.bs oy).1 = y := by rw [← ho2]; exact congrArg Prod.fst (split_join s.bs y z)
  have hj2 : (splitB s.bs oy).2 = z := by rw [← ho2]; exact congrArg Prod.snd (split_join s.bs y z)
  subst ho1
  clear hr ho2
  have hvars : ∀ v ∈ fn.results.toList, resV1 v < fn.ntmps := fun v hv => by
    have := List.all_eq_true.1 hf v hv
    simpa using this
  obtain ⟨g0, t0⟩ := takeWs_ok s.ps (fn.ntmps + s.bs.length) h hz
  obtain ⟨g1, cs, vals, t1, l1, l2, v2, tr⟩ := retR_ok hT s.rs fn.results.toList hvars t0.fz.rel (by rw [t0.fz.len]; exact hN) hx
  have hwl := t0.len
  have hwv2 : ((List.range (s.ps.flatMap PK.wk).length).map fun j => (ctx w0 S M fn.ntmps (fn.ntmps + s.bs.length) wv bk hl1 hl2).vc (fn.ntmps + s.bs.length + j)) = wv := by
    have hwv' : wv.length = (s.ps.flatMap PK.wk).length := hwv
    apply List.ext_getElem?
    intro i
    by_cases hi : i < wv.length
    · simp [hi, ← hwv', ctx, Nat.add_sub_cancel_left, List.getD_eq_getElem?_getD]
    · simp [hi, ← hwv']
  rw [hwv2] at t0 hwl
  have hmok : MOk σ (boxMap fn.ntmps 0 s.bs) := ⟨fun b t hm => by
    have := List.all_eq_true.1 hall _ hm
    revert this
    unfold isBox
    simp only
    (cases gs σ t <;> intro hx <;> first | rfl | cases hx), fun b1 b2 t h1 h2 => by
    have := boxMap_mem _ _ _ _ _ h1
    have := boxMap_mem _ _ _ _ _ h2
    omega⟩
  have hone : ∀ ks ∈ s.bs, ∀ k ∈ ks, LK.one k = true := fun ks hk k hm => List.all_eq_true.1 (List.all_eq_true.1 s4 ks hk) k hm
  obtain ⟨g2, f2, hh, hb2, _, hM⟩ := hand_ok (bs := s.bs) (ls := wLs s.ps z ++ (outR s.rs x).2) h (t0.append t1) hmok hone hy
  have htk : ∀ j, j < s.bs.length → tk (boxMap fn.ntmps 0 s.bs) j = fn.ntmps + j := fun j hj => by
    have := boxMap_lookup fn.ntmps s.bs 0 j hj
    rw [Nat.zero_add] at this
    exact tk_of this
  have hbk : ∀ j, j < s.bs.length → g.blk (tk (boxMap fn.ntmps 0 s.bs) j) = bk j := fun j hj => by
    rw [htk j hj, h.bx (fn.ntmps + j) (Nat.le_add_right _ _)]
    simp [ctx]
  have hpob : ∀ o, pob (wLs s.ps z ++ (outR s.rs x).2) (wv ++ cs) s.bs.length (boxLs s.bs y) (fun j => cellsL g (tk (boxMap fn.ntmps 0 s.bs) j) (boxLs s.bs y j).length) bk o = pob (wLs s.ps z ++ (outR s.rs x).2) (wv ++ cs) s.bs.length (boxLs s.bs y) (fun j => cellsL g (tk (boxMap fn.ntmps 0 s.bs) j) (boxLs s.bs y j).length) (fun j => g.blk (tk (boxMap fn.ntmps 0 s.bs) j)) o := fun o => by
    cases o with
    | arg j => rfl
    | leaf i j => rfl
    | box i =>
      simp only [pob]
      split
      · rename_i hi; rw [hbk i hi]
      · rfl
  have hh2 : Hand w g2.S (wLs s.ps z ++ (outR s.rs x).2) (wv ++ cs) s.bs.length (boxLs s.bs y) (fun j => cellsL g (tk (boxMap fn.ntmps 0 s.bs) j) (boxLs s.bs y j).length) bk :=
    ⟨hh.len, hh.rel, fun i hi => by
      obtain ⟨b1, b2, b3⟩ := hh.box i hi
      refine ⟨?_, b2, b3⟩
      rw [← hbk i hi]; exact b1, fun o1 o2 b e1 e2 => hh.inj o1 o2 b (by rw [← hpob]; exact e1) (by rw [← hpob]; exact e2), fun o b e => hh.fr o b (by rw [← hpob]; exact e), hh.sb, hh.lay⟩
  have hres : (results fn a.tmps).run P w = .ok (if hz : vals.toArray.size = 1 then vals.toArray[0] else .tuple vals.toArray) w := by
    have hm := mapM_res (P := P) a.tmps fn.results.toList vals w l1 v2
    have hm2 : (fn.results.mapM (resSem a.tmps)).run P w = .ok vals.toArray w := by
      rw [Array.mapM_eq_mapM_toList]
      have e : (List.toArray <$> List.mapM (resSem a.tmps) fn.results.toList : Sem (Array Value)) = List.mapM (resSem a.tmps) fn.results.toList >>= fun l => pure l.toArray := rfl
      rw [e, Sem.run_bind, hm]
      rfl
    rw [results_eq, Sem.run_bind, hm2]
    rfl
  refine ⟨_, hres, ⟨g2.S, cs, (fun j => cellsL g (tk (boxMap fn.ntmps 0 s.bs) j) (boxLs s.bs y j).length), ?_, ?_, ?_, fun b hb => f2.S b (h.s0 b hb), fun b hb => ?_, fun o b hb => ?_⟩, h.os, h.tape, h.drawn, h.output, h.grow, h.frame⟩
  · rw [outSlot_leaves]; simp only [hj1, hj2]; exact hh2
  · simp only [hj1, hj2]; exact hwl
  · have hl := t1.len
    have hlen : (outR s.rs x).1.length = vals.length := by rw [l1, l2]; exact outR_len1 s.rs x
    have V1 : ∀ v, vals = [v] → (if hz : vals.toArray.size = 1 then vals.toArray[0] else .tuple vals.toArray) = v := by
      intro v e
      subst e
      rfl
    have V2 : vals.length ≠ 1 → (if hz : vals.toArray.size = 1 then vals.toArray[0] else .tuple vals.toArray) = .tuple vals.toArray := by
      intro e
      rw [dif_neg (by simpa using e)]
    generalize (if hz : vals.toArray.size = 1 then vals.toArray[0] else .tuple vals.toArray) = V at V1 V2
    unfold outSlot
    split
    · rename_i ag n ls he
      rw [he] at tr hl hlen
      obtain ⟨v, vs', c, cs', e1, e2, e3, e4, e5, e6⟩ := tr
      subst e1 e2 e5 e6
      simp only [List.append_nil] at hl ⊢
      rcases e4 with ⟨rfl, rfl⟩ | ⟨rfl, rfl⟩
      · exact ⟨hl.symm, V1 _ rfl⟩
      · exact ⟨hl.symm, by rw [V1 _ rfl]⟩
    · rename_i ks ls hne he
      rw [he] at tr hl hlen
      refine ⟨hl.symm, vals, ?_, tr⟩
      refine V2 ?_
      intro h1
      rw [h1] at hlen
      obtain ⟨⟨ag, n⟩, hk⟩ := List.length_eq_one_iff.1 hlen
      simp only at hk
      subst hk
      exact hne ag n rfl
  · obtain ⟨_, q⟩ := f2.rel.sb b hb
    exact q
  · rw [outSlot_leaves] at hb
    simp only [hj1, hj2] at hb
    obtain ⟨⟨o', ho'⟩, _⟩ := hM o b (by rw [← hpob]; exact hb)
    exact (h.fr _ _ ho').2.2.symm
theorem stlLs_ok {X : Ctx} : ∀ (ls : List Leaf) {σ : St} {g : Gh}, Rel X σ a w g → ∃ g', Rel X (stlLs ls σ) a w g' ∧ (stlLs ls σ).length = σ.length
  | [], σ, g, h => ⟨g, h, rfl⟩
  | l :: ls, σ, g, h => by
    have h1 : ∃ g', Rel X (stlL σ l) a w g' ∧ (stlL σ l).length = σ.length := by
      cases l with
      | al p =>
        obtain ⟨g1, h1, _⟩ := h.stl p
        exact ⟨g1, h1, length_stl σ p⟩
      | _ => exact ⟨g, h, rfl⟩
    obtain ⟨g1, h1, h2⟩ := h1
    obtain ⟨g2, h3, h4⟩ := stlLs_ok ls h1
    exact ⟨g2, h3, by show (stlLs ls _).length = _; rw [h4, h2]⟩
theorem retS_ok {X : Ctx} : ∀ (vs : List ResultVar) {σ : St} {g : Gh}, Rel X σ a w g → ∃ g', Rel X (retS vs σ) a w g' ∧ (retS vs σ).length = σ.length
  | [], σ, g, h => ⟨g, h, rfl⟩
  | v :: vs, σ, g, h => by
    cases v with
    | tmp t =>
      obtain ⟨g1, h1, h2⟩ := stlLs_ok (rd σ (.tmp t)).2 h
      obtain ⟨g2, h3, h4⟩ := retS_ok vs h1
      exact ⟨g2, h3, by show (retS vs _).length = _; rw [h4, h2]⟩
    | cell t ty =>
      obtain ⟨g1, h1, h2⟩ := stlLs_ok (view t 0 (gs σ t).leaves) h
      obtain ⟨g2, h3, h4⟩ := retS_ok vs h1
      exact ⟨g2, h3, by show (retS vs _).length = _; rw [h4, h2]⟩
theorem retK_ok (hT : TOk P T) {s : Sig} {fn : Func} (hs : sigOk s fn = true) (hf : resOk fn = true) {w0 : World} {S M : Nat → Prop} {bk : Nat → Nat} {wv : List Value} {σ : St} {g : Gh} {out : s.Out} {hl1 : Lay w0 S} {hl2 : ∀ b, S b → b < w0.heap.size ∧ ¬ M b} (h : Rel (ctx w0 S M fn.ntmps (fn.ntmps + s.bs.length) wv bk hl1 hl2) σ a w g) (hwv : wv.length = s.ws.length) (hN : fn.ntmps ≤ σ.length) (hr : retK T s fn σ = some out) :
    ∃ v, (results fn a.tmps).run P w = .ok v w ∧ Back s w0 w S M bk wv v out := by
  obtain ⟨g1, h1, h2⟩ := retS_ok fn.results.toList h
  exact retK0_ok hT hs hf h1 hwv (by rw [h2]; exact hN) hr
end
theorem wvs_len {bk : Nat → Nat} : ∀ {ps : List PK} {vs cs : List Value} (u : Unit), ArgShape bk ps vs cs → (wvs ps vs).length = (ps.flatMap PK.wk).length
  | [], vs, cs, _, h => by obtain ⟨rfl, rfl⟩ := h; rfl
  | .v _ _ :: ps, vs, cs, u, h => by obtain ⟨v, vs', c, cs', rfl, rfl, _, _, h5⟩ := h; exact (wvs_len (ps := ps) u h5 :)
  | .o _ _ :: ps, vs, cs, u, h => by obtain ⟨v, vs', cs', rfl, rfl, h5⟩ := h; exact (wvs_len (ps := ps) u h5 :)
  | .p _ :: ps, vs, cs, u, h => by obtain ⟨vs', rfl, h5⟩ := h; exact (wvs_len (ps := ps) u h5 :)
  | .f _ _ :: ps, vs, cs, u, h => by obtain ⟨vs', rfl, h5⟩ := h; exact (wvs_len (ps := ps) u h5 :)
  | .w _ _ :: ps, vs, cs, u, h => by obtain ⟨v, vs', cs', rfl, rfl, h5⟩ := h; simp [wvs, PK.wk, wvs_len u h5]
/-- A function does what its code tells. -/
theorem fun_sound {P : Program} {T : TypeId → Option TI} {env : Env} {f : FuncId} {F : Fun} {fn : Func} {c : Code} {os : RegT} {hs : List Keep} (hT : TOk P T) (hE : EnvOk P env) (hm : P.follows .mixedOrders = true)
    (hfn : P.funcs[f]? = some fn) (hb : fn.body = some c) (h1 : sigOk F.s fn = true) (h2 : resOk fn = true) (h3 : codeOk os fn.ntmps c = true)
    (hF : ∀ x y out, F.F x y = some out → ∃ n, run T env os F.s fn hs n x y = some out) : Sound P f F := by
  have h1' := h1
  simp only [sigOk, Bool.and_eq_true, decide_eq_true_eq, Bool.not_eq_true'] at h1'
  obtain ⟨⟨⟨⟨s1, s2⟩, s3⟩, s4⟩, s5⟩ := h1'
  refine ⟨s3, fun ks hk k hm => List.all_eq_true.1 (List.all_eq_true.1 s4 ks hk) k hm, ⟨fn, hfn, by rw [hb]; rfl, s5⟩, fun x y out ho w S vs cs bc bk hh ha => ?_⟩
  obtain ⟨n, hn⟩ := hF x y out ho
  simp only [run, hb] at hn
  obtain ⟨g, hr, hlen⟩ := start_ok (fn := fn) h1 hh ha
  refine calls_of_wp hfn hb (exec_ok hT hE hm c hs h3 hr hlen hn (fun σ' a' w' g' e1 e2 e3 => ?_) (fun i σ' a' w' g' e1 e2 e3 => by cases e3) (fun σ' a' w' g' e1 e2 e3 => ?_))
  · obtain ⟨v, v1, v2⟩ := retK_ok hT h1 h2 e1 (wvs_len () ha) (by omega) e3
    exact ⟨e1.defers, v, v1, v, rfl, v2⟩
  · obtain ⟨v, v1, v2⟩ := retK_ok hT h1 h2 e1 (wvs_len () ha) (by omega) e3
    exact ⟨e1.defers, v, v1, v, rfl, v2⟩
end Go.Ev
namespace Go.Ev
set_option linter.unusedVariables false
set_option linter.unusedSimpArgs false
open Go.Proofs.YtpmeeopafdgbpaaDoor.Rows (uptoBulk uptoBulkAll)
/-- The whole numbers fit their kinds. -/
def Ty.ok : (t : Ty) → t.den → Prop
  | .int k, x => (Lit.int k x).wf = true
  | .bool, _ => True
  | .str, _ => True
  | .list e, xs => ∀ i, i < List.length xs → ∃ x, xs[i]? = some x ∧ e.ok x
  | .pair a b, x => a.ok x.1 ∧ b.ok x.2
/-- How many values and letters. -/
def Ty.bulk : (t : Ty) → t.den → Nat
  | .int _, _ => 1
  | .bool, _ => 1
  | .str, l => List.length l + 1
  | .list e, xs => (List.map e.bulk xs).sum + 1
  | .pair a b, x => a.bulk x.1 + b.bulk x.2
def nest : List Ty → Ty
  | [] => .bool
  | [t] => t
  | t :: u :: ts => .pair t (nest (u :: ts))
def tyT (T : TypeId → Option TI) (q : Nat × TypeId) : Ty := match T q.2 with
  | some ti => ti.ty
  | none => .bool
def chainB (T : TypeId → Option TI) : Nat → List (Nat × TypeId) → Bool
  | _, [] => true
  | o, q :: qs => q.1 == o && (T q.2).isSome && chainB T (o + (tyT T q).sz) qs
/-- A type's parts are told, too. -/
def partsB (T : TypeId → Option TI) (t : TypeId) : Bool := match T t with
  | none => true
  | some ti => ti.arr == 0 && if ti.agg then !ti.fs.isEmpty && chainB T 0 ti.fs && decide (ti.ty = nest (ti.fs.map (tyT T))) else match ti.ty with
    | .list _ => (T ti.el).isSome
    | _ => true
section
variable {P : Program} {T : TypeId → Option TI} {H : Type} {enc : TypeId × Value → H} {w : World} {base : Nat} {sp : Nat → Bool} {held : Bool}
def Told (P : Program) (T : TypeId → Option TI) (enc : TypeId × Value → H) (w : World) (t : TypeId) (ti : TI) (cs : List Value) (d : DataW H) : Prop :=
  ∃ v : ti.ty.den, rel w (fun b => b < w.heap.size) ti.ty v cs ∧ ti.ty.ok v ∧ ti.ty.bulk v ≤ uptoBulk d
theorem cells_of (hT : TOk P T) {t : TypeId} {ti : TI} (h : T t = some ti) : P.cellsOf t = ti.ty.sz := by
  obtain ⟨i, z, hi, h1, _⟩ := hT.info t ti h
  simp [Program.cellsOf, hi, h1]
theorem fields_rel (hT : TOk P T) {cs : List Value} : ∀ (tl : List (Nat × TypeId)) (o : Nat) (ds : List (DataW H)), tl ≠ [] → chainB T o tl = true → ds.length = tl.length → o + ((tl.map (tyT T)).map Ty.sz).sum ≤ cs.length →
    (∀ (i : Nat) (q : Nat × TypeId) ti, tl[i]? = some q → T q.2 = some ti → ∃ d, ds[i]? = some d ∧ Told P T enc w q.2 ti ((cs.drop q.1).take ti.ty.sz) d) →
    ∃ v : (nest (tl.map (tyT T))).den, rel w (fun b => b < w.heap.size) (nest (tl.map (tyT T))) v ((cs.drop o).take ((tl.map (tyT T)).map Ty.sz).sum) ∧ (nest (tl.map (tyT T))).ok v ∧ (nest (tl.map (tyT T))).bulk v ≤ uptoBulkAll ds
  | [], o, ds, h, _, _, _, _ => absurd rfl h
  | [q], o, ds, _, hc, hl, hlen, hf => by
    simp only [chainB, Bool.and_eq_true, beq_iff_eq] at hc
    obtain ⟨⟨h1, h2⟩, _⟩ := hc
    obtain ⟨ti, hti⟩ := Option.isSome_iff_exists.1 h2
    have hty : tyT T q = ti.ty := by simp [tyT, hti]
    obtain ⟨d, hd, hv⟩ := hf 0 q ti rfl hti
    rw [h1] at hv
    have hq : ∃ v : (tyT T q).den, rel w (fun b => b < w.heap.size) (tyT T q) v ((cs.drop o).take (tyT T q).sz) ∧ (tyT T q).ok v ∧ (tyT T q).bulk v ≤ uptoBulk d := by rw [hty]; exact hv
    obtain ⟨v, v1, v2, v3⟩ := hq
    match ds, hl, hd with
    | [d'], hl, hd =>
      simp only [List.getElem?_cons_zero, Option.some.injEq] at hd
      subst hd
      simp only [List.map_cons, List.map_nil, nest, List.sum_cons, List.sum_nil, Nat.add_zero]
      refine ⟨v, v1, v2, ?_⟩
      show (tyT T q).bulk v ≤ _
      simp only [uptoBulkAll, Nat.add_zero]
      exact v3
  | q :: q2 :: qs, o, ds, _, hc, hl, hlen, hf => by
    simp only [chainB, Bool.and_eq_true, beq_iff_eq] at hc
    obtain ⟨⟨h1, h2⟩, h3⟩ := hc
    obtain ⟨ti, hti⟩ := Option.isSome_iff_exists.1 h2
    have hty : tyT T q = ti.ty := by simp [tyT, hti]
    obtain ⟨d, hd, hv⟩ := hf 0 q ti rfl hti
    rw [h1] at hv
    have hq : ∃ v : (tyT T q).den, rel w (fun b => b < w.heap.size) (tyT T q) v ((cs.drop o).take (tyT T q).sz) ∧ (tyT T q).ok v ∧ (tyT T q).bulk v ≤ uptoBulk d := by rw [hty]; exact hv
    obtain ⟨v, v1, v2, v3⟩ := hq
    have hrest : chainB T (o + (tyT T q).sz) (q2 :: qs) = true := by
      simp only [chainB, Bool.and_eq_true, beq_iff_eq]; exact h3
    simp only [List.map_cons, List.sum_cons] at hlen
    obtain ⟨d', ds, rfl⟩ : ∃ d' ds', ds = d' :: ds' := by
      cases ds with
      | nil => simp at hl
      | cons d' ds' => exact ⟨_, _, rfl⟩
    simp only [List.getElem?_cons_zero, Option.some.injEq] at hd
    subst hd
    obtain ⟨u, u1, u2, u3⟩ := fields_rel hT (cs := cs) (q2 :: qs) (o + (tyT T q).sz) ds (by simp) hrest (by simpa using hl) (by simp only [List.map_cons, List.sum_cons]; omega) (fun i q' ti' hi hti' => by
      obtain ⟨d, hd, ht⟩ := hf (i + 1) q' ti' (by simpa using hi) hti'
      exact ⟨d, by simpa using hd, ht⟩)
    have e0 : nest ((q :: q2 :: qs).map (tyT T)) = .pair (tyT T q) (nest ((q2 :: qs).map (tyT T))) := rfl
    rw [e0]
    refine ⟨(v, u), ⟨_, _, ?_, v1, u1⟩, ⟨v2, u2⟩, ?_⟩
    · rw [List.map_cons, List.map_cons, List.sum_cons, List.take_add, List.drop_drop]
    · simp only [Ty.bulk, uptoBulkAll]
      omega
theorem sum_nest : ∀ tl : List Ty, tl ≠ [] → (nest tl).sz = (tl.map Ty.sz).sum
  | [], h => absurd rfl h
  | [t], _ => by simp [nest]
  | t :: u :: ts, _ => by
    have := sum_nest (u :: ts) (by simp)
    simp only [nest, Ty.sz, List.map_cons, List.sum_cons] at this ⊢
    omega
theorem bulkAll_map {γ : Type} (f : γ → DataW H) : ∀ l : List γ, uptoBulkAll (l.map f) = (l.map fun x => uptoBulk (f x)).sum
  | [] => rfl
  | x :: l => by simp [uptoBulkAll, bulkAll_map f l]
theorem cells?_get {a : Addr} {n : Nat} {cs : List Value} (h : w.cells? base a n = some cs) : cs.length = n ∧ ∀ j, j < n → w.cell? (a.add j) = cs[j]? := by
  unfold World.cells? at h
  split at h
  · exact ⟨by simpa using mapM_some_length h, fun j hj => mapM_some_get h j j (by simp [hj])⟩
  · cases h
/-- What is handed to a law is a plain value. -/
theorem trod_told (hT : TOk P T) (hp : ∀ t ti, T t = some ti → partsB T t = true) : ∀ (n : Nat) (t : TypeId) (ti : TI) (cs : List Value) (x : DataW H × List MemPlace), T t = some ti → DataW.trod enc P w base sp held n t cs = some x → Told P T enc w t ti cs x.1
  | 0, t, ti, cs, x, hti, h => by simp [DataW.trod] at h
  | n + 1, t, ti, cs, x, hti, h => by
    have hpt := hp t ti hti
    simp only [partsB, hti, Bool.and_eq_true, beq_iff_eq] at hpt
    obtain ⟨har, hpt⟩ := hpt
    cases hag : ti.agg with
    | true =>
      rw [hag] at hpt
      simp only [if_true, Bool.and_eq_true, Bool.not_eq_true', List.isEmpty_eq_false_iff, decide_eq_true_eq] at hpt
      obtain ⟨⟨p1, p2⟩, p3⟩ := hpt
      obtain ⟨fs, f1, f2, f3⟩ := hT.agg t ti hti hag har
      obtain ⟨xs, m, hm, rfl, hlen, hxl, hx⟩ := DataW.trod_struct f1 h
      have hm' : m = n := by omega
      subst hm'
      have hne : ti.fs.map (tyT T) ≠ [] := by simpa using p1
      have hsz := sum_nest _ hne
      have hcl : cs.length = ti.ty.sz := by rw [hlen, cells_of hT hti]
      have key := fields_rel (w := w) (enc := enc) hT (cs := cs) ti.fs 0 (xs.map (·.1)) p1 p2 (by simp [hxl, f3]) (by rw [Nat.zero_add, ← hsz, ← p3, hcl]; exact Nat.le_refl _) (fun i q tq hi hq => by
        obtain ⟨f, g1, g2, g3⟩ := f2 i q.1 q.2 hi
        have := hx i f g1
        rw [g2, g3, cells_of hT hq] at this
        have hi2 : i < xs.length := by
          have := (List.getElem?_eq_some_iff.1 hi).1
          omega
        rw [List.getElem?_eq_getElem hi2] at this
        exact ⟨xs[i].1, by simp [hi2], trod_told hT hp m q.2 tq _ _ hq this⟩)
      obtain ⟨v, v1, v2, v3⟩ := key
      have hall : (cs.drop 0).take ((ti.fs.map (tyT T)).map Ty.sz).sum = cs := by
        rw [List.drop_zero, List.take_of_length_le]
        rw [← hsz, ← p3, hcl]; exact Nat.le_refl _
      rw [hall] at v1
      unfold Told
      rw [p3]
      exact ⟨v, v1, v2, by simp only [uptoBulk]; omega⟩
    | false =>
      have hsc := hT.sca t ti hti hag
      rw [hag] at hpt
      unfold Told
      revert hsc hpt
      cases hty : ti.ty with
      | int k =>
        intro _ hsc
        obtain ⟨i, rfl, rfl, hw⟩ := DataW.trod_int hsc h
        exact ⟨i, rfl, hw, by simp [Ty.bulk, uptoBulk]⟩
      | bool =>
        intro _ hsc
        obtain ⟨b, rfl, rfl⟩ := DataW.trod_bool hsc h
        exact ⟨b, rfl, trivial, by simp [Ty.bulk, uptoBulk]⟩
      | str =>
        intro _ hsc
        obtain ⟨s, rfl, rfl, hs⟩ := DataW.trod_string hsc h
        exact ⟨s.data.toList, rfl, trivial, by simp [Ty.bulk, uptoBulk]⟩
      | pair a b => intro _ hsc; exact hsc.elim
      | list e =>
        intro hpt hsc
        simp only [Bool.false_eq_true, if_false] at hpt
        obtain ⟨ei, hei⟩ := Option.isSome_iff_exists.1 hpt
        have hee : ei.ty = e := hsc.2 ei hei
        subst hee
        rcases DataW.trod_slice hsc.1 h with ⟨rfl, rfl⟩ | ⟨a, len, cap, elems, rest, m, hm, rfl, rfl, hb, hl, hmx, hlen, hel, _⟩
        · exact ⟨[], ⟨none, 0, rfl, Nat.le_refl _, .inl rfl⟩, fun i hi => by simp at hi, by simp [Ty.bulk, uptoBulk]⟩
        · have hm' : m = n := by omega
          subst hm'
          have hsz := cells_of hT hei
          have hp0 := sz_pos ei.ty
          -- each element
          have each : ∀ i, i < len → ∃ c y, elems[i]? = some y ∧ w.cells? base (a.add (i * ei.ty.sz)) ei.ty.sz = some c ∧ Told P T enc w ti.el ei c y.1 := fun i hi => by
            have h1 := hel i hi
            rw [hsz, List.getElem?_eq_getElem (by omega)] at h1
            obtain ⟨c, c1, c2⟩ := Option.bind_eq_some_iff.1 h1
            exact ⟨c, elems[i], List.getElem?_eq_getElem (by omega), c1, trod_told hT hp m ti.el ei c _ hei c2⟩
          have hvs : ∃ vs : List ei.ty.den, vs.length = len ∧ (∀ i v, vs[i]? = some v → ∃ c y, elems[i]? = some y ∧ w.cells? base (a.add (i * ei.ty.sz)) ei.ty.sz = some c ∧ rel w (fun b => b < w.heap.size) ei.ty v c ∧ ei.ty.ok v ∧ ei.ty.bulk v ≤ uptoBulk y.1) ∧ (vs.map ei.ty.bulk).sum ≤ (elems.map fun y => uptoBulk y.1).sum := by
            have gen : ∀ k, k ≤ len → ∃ vs : List ei.ty.den, vs.length = k ∧ (∀ i v, vs[i]? = some v → ∃ c y, elems[i]? = some y ∧ w.cells? base (a.add (i * ei.ty.sz)) ei.ty.sz = some c ∧ rel w (fun b => b < w.heap.size) ei.ty v c ∧ ei.ty.ok v ∧ ei.ty.bulk v ≤ uptoBulk y.1) ∧ (vs.map ei.ty.bulk).sum ≤ ((elems.take k).map fun y => uptoBulk y.1).sum := by
              intro k
              induction k with
              | zero => intro _; exact ⟨[], rfl, fun i v h => by simp at h, by simp⟩
              | succ k ih =>
                intro hk
                obtain ⟨vs, l1, l2, l3⟩ := ih (by omega)
                obtain ⟨c, y, y1, y2, v, y3, y4, y5⟩ := each k (by omega)
                refine ⟨vs ++ [v], by simp [l1], fun i u hu => ?_, ?_⟩
                · by_cases hi : i < vs.length
                  · rw [List.getElem?_append_left hi] at hu; exact l2 i u hu
                  · have hik : i = k := by
                      have := (List.getElem?_eq_some_iff.1 hu).1
                      simp at this; omega
                    subst hik
                    rw [List.getElem?_append_right (by omega), l1, Nat.sub_self] at hu
                    simp only [List.getElem?_cons_zero, Option.some.injEq] at hu
                    subst hu
                    exact ⟨c, y, y1, y2, y3, y4, y5⟩
                · have hkl : k < elems.length := by omega
                  rw [List.take_succ_eq_append_getElem hkl]
                  have : elems[k] = y := by rw [List.getElem?_eq_getElem hkl] at y1; injection y1
                  simp only [List.map_append, List.map_cons, List.map_nil, List.sum_append, List.sum_cons, List.sum_nil, this]
                  omega
            obtain ⟨vs, l1, l2, l3⟩ := gen len (Nat.le_refl _)
            rw [List.take_of_length_le (by omega)] at l3
            exact ⟨vs, l1, l2, l3⟩
          obtain ⟨vs, l1, l2, l3⟩ := hvs
          refine ⟨vs, ⟨some a, cap, by rw [l1], by rw [l1]; exact hl, ?_⟩, fun i hi => ?_, ?_⟩
          · by_cases h0 : len = 0
            · exact .inl (List.eq_nil_of_length_eq_zero (by rw [l1, h0]))
            · obtain ⟨c, y, y1, y2, _⟩ := each 0 (by omega)
              obtain ⟨q1, q2⟩ := cells?_get y2
              have hc0 := q2 0 hp0
              rw [Nat.zero_mul, Addr.add, if_pos rfl, Addr.add, if_pos rfl] at hc0
              have hsome : (w.cell? a).isSome = true := by rw [hc0, List.getElem?_eq_getElem (by omega)]; rfl
              obtain ⟨ab, ao, asp⟩ := a
              have hspot : asp = none ∧ ab < w.heap.size := by
                unfold World.cell? at hsome
                cases hh : w.heap[ab]? with
                | none => rw [hh] at hsome; simp at hsome
                | some o =>
                  refine ⟨?_, (Array.getElem?_eq_some_iff.1 hh).1⟩
                  rw [hh] at hsome
                  cases asp with
                  | none => rfl
                  | some s => cases o <;> simp at hsome
              obtain ⟨rfl, hlt⟩ := hspot
              refine .inr ⟨ab, ao, rfl, hlt, fun i v hv => ?_⟩
              obtain ⟨c, y, _, c2, c3, _⟩ := l2 i v hv
              obtain ⟨r1, r2⟩ := cells?_get c2
              refine ⟨c, c3, fun j u hu => ?_⟩
              have hj := (List.getElem?_eq_some_iff.1 hu).1
              have := r2 j (by omega)
              rw [addr_add, addr_add] at this
              rw [hu] at this
              rw [← this]
              congr 2
              omega
          · have hi' : i < vs.length := hi
            obtain ⟨c, y, _, _, _, y4, _⟩ := l2 i vs[i] (List.getElem?_eq_getElem hi')
            exact ⟨vs[i], List.getElem?_eq_getElem hi', y4⟩
          · simp only [Ty.bulk, uptoBulk, bulkAll_map]
            omega
end
end Go.Ev
namespace Go.Ev
set_option linter.unusedVariables false
set_option linter.unusedSimpArgs false
open Go.ChangeShapes Go.WideShapes Go.ChangeAt Go.RowKit
open Go.Proofs.YtpmeeopafdgbpaaDoor.Rows (uptoBulk uptoBulkAll)
section
variable {P : Program} {T : TypeId → Option TI} {H : Type} {enc : TypeId × Value → H} {w : World} {base b0 : Nat} {sp : Nat → Bool} {held : Bool}
theorem arg_told (hT : TOk P T) (hp : ∀ t ti, T t = some ti → partsB T t = true) {t : TypeId} {ti : TI} (hti : T t = some ti) {v : Value} {d : DataW H} {ps : List MemPlace} {r : Reach}
    (hval : Value.okWide P w r b0 t v) (hd : DataW.Trod enc P w base sp held t v d ps) :
    ∃ (x : ti.ty.den) (cs : List Value), rel w (fun b => b < w.heap.size) ti.ty x cs ∧ ti.ty.ok x ∧ ti.ty.bulk x ≤ uptoBulk d ∧ (ti.agg = true ∧ v = .agg cs.toArray ∨ ti.agg = false ∧ cs = [v]) := by
  obtain ⟨fuel, hf⟩ := hd
  obtain ⟨x, x1, x2, x3⟩ := trod_told hT hp fuel t ti _ _ hti hf
  cases hag : ti.agg with
  | true =>
    have har : ti.arr = 0 := by
      have := hp t ti hti
      simp only [partsB, hti, Bool.and_eq_true, beq_iff_eq] at this
      exact this.1
    obtain ⟨fs, f1, _⟩ := hT.agg t ti hti hag har
    obtain ⟨cs, rfl, _⟩ := okWide_struct f1 hval
    exact ⟨x, cs.toList, x1, x2, x3, .inl ⟨rfl, by simp⟩⟩
  | false =>
    refine ⟨x, [v], ?_, x2, x3, .inr ⟨rfl, rfl⟩⟩
    have hsc := hT.sca t ti hti hag
    have one : v.cells.toList = [v] := by
      revert hsc
      cases ti.ty with
      | int k => intro hsc; obtain ⟨n, rfl⟩ := okWide_int hsc hval; rfl
      | bool => intro hsc; obtain ⟨n, rfl⟩ := okWide_bool hsc hval; rfl
      | str => intro hsc; obtain ⟨n, rfl⟩ := okWide_string hsc hval; rfl
      | list e => intro hsc; obtain ⟨a, l, c, rfl⟩ := okWide_slice hsc.1 hval; rfl
      | pair a b => intro hsc; exact hsc.elim
    rw [one] at x1
    exact x1
theorem wLs_no : ∀ (ps : List PK) (x : HL (ps.flatMap PK.lk)), (∀ j, (lget (outL (ps.flatMap PK.lk) x) j).isOwn = false) → ∀ y : BL (ps.flatMap PK.wk), wLs ps y = []
  | [], x, h, y => rfl
  | .v _ t :: ps, x, h, y => wLs_no ps x.2 (fun j => by
    have := h ((explode t x.1).length + j)
    have e : outL ((PK.v _ t :: ps).flatMap PK.lk) x = explode t x.1 ++ outL (ps.flatMap PK.lk) x.2 := rfl
    rw [e, lget_append, if_neg (by omega), Nat.add_sub_cancel_left] at this
    exact this) y
  | .o te e :: ps, x, h, y => by cases (h 0 : (Leaf.own te e x.1).isOwn = false)
  | .w te e :: ps, x, h, y => by cases (h 0 : (Leaf.own te e x.1).isOwn = false)
  | .p _ :: ps, x, h, y => wLs_no ps x h y
  | .f _ _ :: ps, x, h, y => wLs_no ps x h y
/-- A law: what it is handed, as plain values, and one truth that comes back. -/
theorem law_calls {f : FuncId} {ps : List PK} {F : Sig.Fn ⟨ps, [], [(false, [.fr .bool])]⟩} (hs : Sound P f ⟨⟨ps, [], [(false, [.fr .bool])]⟩, F⟩) {x : HL (Sig.ins ⟨ps, [], [(false, [.fr .bool])]⟩)} {z : BL ([] ++ Sig.ws ⟨ps, [], [(false, [.fr .bool])]⟩)} (hx : F x () = some (((true, ()), ()), z))
    {vs cs : List Value} (hl : cs.length = (outL (ps.flatMap PK.lk) x).length) (hr : ∀ j, LO w (fun b => b < w.heap.size) (lget (outL (ps.flatMap PK.lk) x) j) (cs.getD j undef)) (ho : ∀ j, (lget (outL (ps.flatMap PK.lk) x) j).isOwn = false)
    (ha : ArgShape (fun _ => 0) ps vs cs) (hL : Lay w (fun b => b < w.heap.size)) : Calls P f vs.toArray w fun e w' => e = .returned (.bool true) ∧ Below w.heap.size w w' := by
  have hno : ∀ o b, pob (outL (ps.flatMap PK.lk) x) cs 0 (fun _ => []) (fun _ => []) (fun _ => 0) o ≠ some b := by
    intro o b hb
    cases o with
    | arg j =>
      have hb : own1 (outL (ps.flatMap PK.lk) x) cs j = some b := hb
      unfold own1 at hb
      rw [ho j] at hb
      simp at hb
    | box j => simp [pob] at hb
    | leaf j q => simp [pob] at hb
  have hh : Hand w (fun b => b < w.heap.size) (outL (ps.flatMap PK.lk) x) cs 0 (fun _ => []) (fun _ => []) (fun _ => 0) :=
    ⟨hl, hr, fun i hi => by omega, fun o1 o2 b e1 => absurd e1 (hno o1 b), fun o b e => absurd e (hno o b), fun b hb => hb, hL⟩
  refine (hs.call x () _ hx w _ vs cs (fun _ => []) (fun _ => 0) hh ha).mono fun e w' hR => ?_
  obtain ⟨v, rfl, ⟨⟨S', rc, bc, rh, rwl, rv, _⟩, hos, htape, hdr, hout, hgrow, hframe⟩⟩ := hR
  have hv : v = .bool true := by
    obtain ⟨q1, q2⟩ := rv
    have e0 : wLs ps (splitB [] z).2 = [] := wLs_no ps x ho _
    have e1 : wvs ps vs = [] := List.eq_nil_of_length_eq_zero (by
      have : (wvs ps vs).length = (wLs ps (splitB [] z).2).length := rwl
      rw [this, e0]; rfl)
    have h0 : LO w' S' (lget (wLs ps (splitB [] z).2 ++ [Leaf.val .bool true]) 0) ((wvs ps vs ++ rc).getD 0 undef) := rh.rel 0
    simp only [e0, e1, List.nil_append] at h0
    subst q2
    exact (by simpa [LO, outSlot, outR, outL, explode, Slot.leaves, lget, rel] using h0)
  exact ⟨by rw [hv], hos, htape, hout, hgrow, fun b hb => hframe b hb (fun ⟨o, he⟩ => hno o b he)⟩
end
end Go.Ev
namespace Go.Ev
set_option linter.unusedVariables false
set_option linter.unusedSimpArgs false
inductive Dsc where
  | int (k : IntKind)
  | bool
  | str
  | slice (e : TypeId)
  | struct (fs : List (Nat × TypeId))
  | array (n : Nat) (e : TypeId)
  | other
def dsc : TypeDesc → Dsc
  | .int k => .int k
  | .bool => .bool
  | .string => .str
  | .slice e => .slice e
  | .struct fs => .struct (fs.toList.map fun f => (f.offset, f.type))
  | .array n e => .array n e
  | _ => .other
def dscTI0 (ti : TI) : Dsc := match ti.agg, ti.ty with
  | true, _ => .struct ti.fs
  | false, .int k => .int k
  | false, .bool => .bool
  | false, .str => .str
  | false, .list _ => .slice ti.el
  | false, .pair _ _ => .other
def dscTI (ti : TI) : Dsc := match ti.arr with
  | 0 => dscTI0 ti
  | n + 1 => .array (n + 1) ti.el
def zvalTI (ti : TI) : Value := match ti.agg with
  | true => .agg (zcells ti.ty).toArray
  | false => (zcells ti.ty).getD 0 undef
theorem dsc_int {d : TypeDesc} {k : IntKind} (h : dsc d = .int k) : d = .int k := by
  cases d <;> simp only [dsc, reduceCtorEq, Dsc.int.injEq] at h
  rw [h]
theorem dsc_bool {d : TypeDesc} (h : dsc d = .bool) : d = .bool := by
  cases d <;> simp only [dsc, reduceCtorEq] at h
  rfl
theorem dsc_str {d : TypeDesc} (h : dsc d = .str) : d = .string := by
  cases d <;> simp only [dsc, reduceCtorEq] at h
  rfl
theorem dsc_slice {d : TypeDesc} {e : TypeId} (h : dsc d = .slice e) : d = .slice e := by
  cases d <;> simp only [dsc, reduceCtorEq, Dsc.slice.injEq] at h
  rw [h]
theorem dsc_struct {d : TypeDesc} {l : List (Nat × TypeId)} (h : dsc d = .struct l) : ∃ fs : Array Field, d = .struct fs ∧ fs.toList.map (fun f => (f.offset, f.type)) = l := by
  cases d <;> simp only [dsc, reduceCtorEq, Dsc.struct.injEq] at h
  exact ⟨_, rfl, h⟩
theorem dsc_array {d : TypeDesc} {n : Nat} {e : TypeId} (h : dsc d = .array n e) : d = .array n e := by
  cases d <;> simp only [dsc, reduceCtorEq, Dsc.array.injEq] at h
  rw [h.1, h.2]
abbrev Tab := List (TypeId × TI)
def tabT (tab : Tab) (t : TypeId) : Option TI := tab.lookup t
def infoOf (P : Program) (t : TypeId) : Option (Nat × Nat × Option Value) := (P.info? t).map fun i => (i.size, i.bytes, i.zero)
def infoTI (ti : TI) : Option (Nat × Nat × Option Value) := some (ti.ty.sz, ti.bytes, some (zvalTI ti))
def restB0 (P : Program) (tab : Tab) (e : TypeId × TI) : Bool :=
  (if e.2.agg then (match P.underlying e.1 with
    | some (.struct fs) => (fs.toList.mapM fun f => (P.info? f.type).map fun i => (f.offset, i.size)).isSome && (!e.2.cmp || (!P.stoodInHeld e.1 && !P.eqGuardType P.depth e.1 && fs.toList.all fun f => f.name != "_"))
    | _ => false) else (e.2.fs.isEmpty && !e.2.cmp && match e.2.ty with
    | .list ty => (match tab.lookup e.2.el with
      | some ei => decide (ei.ty = ty)
      | none => true)
    | .pair _ _ => false
    | _ => true))
def restB (P : Program) (tab : Tab) (e : TypeId × TI) : Bool := match e.2.arr with
  | 0 => restB0 P tab e
  | _ + 1 => e.2.agg && e.2.fs.isEmpty && !e.2.cmp
theorem lookup_mem' {tab : Tab} {t : TypeId} {ti : TI} (h : tab.lookup t = some ti) : (t, ti) ∈ tab := by
  induction tab with
  | nil => cases h
  | cons q m ih =>
    obtain ⟨b', t'⟩ := q
    simp only [List.lookup] at h
    split at h
    · rename_i e
      simp at e
      injection h with h
      subst e h
      simp
    · exact List.mem_cons_of_mem _ (ih h)
theorem map_mem {α β : Type} {f g : α → β} : ∀ {l : List α}, l.map f = l.map g → ∀ x ∈ l, f x = g x
  | [], _, x, hx => by simp at hx
  | y :: l, h, x, hx => by
    simp only [List.map_cons, List.cons.injEq] at h
    rcases List.mem_cons.1 hx with rfl | hx
    · exact h.1
    · exact map_mem h.2 x hx
def vtB (P : Program) (tab : Tab) (q : VTab) : Bool := (match P.underlying q.t with
  | some d => match dsc d with
    | .array n e => n == q.xs.length && e == q.el
    | _ => false
  | none => false) && (match tabT tab q.el with
  | some ei => decide (ei.ty = q.e)
  | none => false)
theorem vtB_ok {P : Program} {tab : Tab} {q : VTab} (h : vtB P tab q = true) : P.underlying q.t = some (.array q.xs.length q.el) ∧ ∃ ei, tabT tab q.el = some ei ∧ ei.ty = q.e := by
  simp only [vtB, Bool.and_eq_true] at h
  obtain ⟨h1, h2⟩ := h
  split at h1
  rotate_left
  · cases h1
  rename_i d hd
  split at h1
  rotate_left
  · cases h1
  rename_i n e he
  simp only [Bool.and_eq_true, beq_iff_eq] at h1
  have hd2 := dsc_array he
  split at h2
  rotate_left
  · cases h2
  rename_i ei hei
  exact ⟨by rw [hd, hd2, h1.1, h1.2], ei, hei, by simpa using h2⟩
theorem tok_of {P : Program} {tab : Tab} (h5 : lay.all (vtB P tab) = true) (h1 : tab.map (fun e => infoOf P e.1) = tab.map (fun e => infoTI e.2)) (h2 : tab.map (fun e => (P.underlying e.1).map dsc) = tab.map (fun e => some (dscTI e.2))) (h3 : tab.all (restB P tab) = true) : TOk P (tabT tab) := by
  have i1 : ∀ t ti, tabT tab t = some ti → infoOf P t = infoTI ti := fun t ti h => map_mem h1 (t, ti) (lookup_mem' h)
  have i2 : ∀ t ti, tabT tab t = some ti → (P.underlying t).map dsc = some (dscTI ti) := fun t ti h => map_mem h2 (t, ti) (lookup_mem' h)
  have i30 : ∀ t ti, tabT tab t = some ti → restB P tab (t, ti) = true := fun t ti h => List.all_eq_true.1 h3 (t, ti) (lookup_mem' h)
  have i3 : ∀ t ti, tabT tab t = some ti → ti.arr = 0 → restB0 P tab (t, ti) = true := fun t ti h hr => by
    have := i30 t ti h
    unfold restB at this
    simp only [hr] at this
    exact this
  have ia : ∀ t ti n, tabT tab t = some ti → ti.arr = n + 1 → ti.agg = true ∧ ti.fs = [] ∧ ti.cmp = false := fun t ti n h hr => by
    have := i30 t ti h
    unfold restB at this
    simp only [hr, Bool.and_eq_true, Bool.not_eq_true', List.isEmpty_iff] at this
    exact ⟨this.1.1, this.1.2, this.2⟩
  have ir : ∀ t ti, tabT tab t = some ti → ti.agg = false → ti.arr = 0 := fun t ti h ha => by
    cases hr : ti.arr with
    | zero => rfl
    | succ n => have := (ia t ti n h hr).1; rw [ha] at this; cases this
  have und : ∀ t ti, tabT tab t = some ti → ∃ d, P.underlying t = some d ∧ dsc d = dscTI ti := fun t ti h => by
    have := i2 t ti h
    cases hd : P.underlying t with
    | none => rw [hd] at this; cases this
    | some d => rw [hd] at this; exact ⟨d, rfl, by simpa using this⟩
  have str : ∀ t ti, tabT tab t = some ti → ti.agg = true → ti.arr = 0 → ∃ fs : Array Field, P.underlying t = some (.struct fs) ∧ fs.toList.map (fun f => (f.offset, f.type)) = ti.fs := fun t ti h ha hr => by
    obtain ⟨d, d1, d2⟩ := und t ti h
    have d3 : dsc d = .struct ti.fs := by rw [d2]; simp only [dscTI, dscTI0, ha, hr]
    obtain ⟨fs, rfl, f2⟩ := dsc_struct d3
    exact ⟨fs, d1, f2⟩
  have sz0 : ∀ ti : TI, ti.agg = false → (match ti.ty with | .pair _ _ => False | _ => True) → (zvalTI ti).cells.toList = zcells ti.ty := fun ti ha hp => by
    simp only [zvalTI, ha]
    revert hp
    cases ti.ty <;> intro hp <;> first | rfl | exact hp.elim
  have hnp : ∀ t ti, tabT tab t = some ti → ti.agg = false → (match ti.ty with | .pair _ _ => False | _ => True) := fun t ti h ha => by
    have := i3 t ti h (ir t ti h ha)
    simp only [restB0, ha, Bool.false_eq_true, if_false, Bool.and_eq_true] at this
    have := this.2
    revert this
    cases ti.ty <;> simp
  have hua : ∀ t ti n, tabT tab t = some ti → ti.arr = n + 1 → P.underlying t = some (.array (n + 1) ti.el) := fun t ti n h hr => by
    obtain ⟨d, d1, d2⟩ := und t ti h
    have d3 : dsc d = .array (n + 1) ti.el := by rw [d2]; simp only [dscTI, hr]
    rw [dsc_array d3] at d1
    exact d1
  refine ⟨fun t ti h => ?_, fun t ti n h hr => ⟨(ia t ti n h hr).1, (ia t ti n h hr).2.1, hua t ti n h hr⟩, fun t ti h ha hr => ?_, fun t ti h ha => ?_, fun t ti h hc => ?_, fun t ti h ha fs hfs => ?_, fun t ti h ha i o ft hf => ?_, fun q hq => ?_⟩
  · have := i1 t ti h
    unfold infoOf infoTI at this
    cases hi : P.info? t with
    | none => rw [hi] at this; cases this
    | some i =>
      rw [hi] at this
      simp only [Option.map_some, Option.some.injEq, Prod.mk.injEq] at this
      refine ⟨i, zvalTI ti, rfl, this.1, this.2.1, this.2.2, ?_, fun ha => by simp [zvalTI, ha]⟩
      cases ha : ti.agg with
      | true => simp [zvalTI, ha, Value.cells]
      | false => exact sz0 ti ha (hnp t ti h ha)
  · obtain ⟨fs, f1, f2⟩ := str t ti h ha hr
    refine ⟨fs, f1, fun i o ft hf => ?_, by rw [← f2]; simp⟩
    rw [← f2, List.getElem?_map] at hf
    obtain ⟨f, hf1, hf2⟩ := Option.map_eq_some_iff.1 hf
    simp only [Prod.mk.injEq] at hf2
    exact ⟨f, by simpa using hf1, hf2.1, hf2.2⟩
  · obtain ⟨d, d1, d2⟩ := und t ti h
    have hr := ir t ti h ha
    have h3 := i3 t ti h hr
    simp only [restB0, ha, Bool.false_eq_true, if_false, Bool.and_eq_true] at h3
    have h4 := h3.2
    have d3 : dsc d = dscTI0 { ti with agg := false } := by rw [d2]; unfold dscTI; rw [hr]; unfold dscTI0; rw [ha]
    revert d3 h4
    unfold dscTI0
    simp only
    cases ti.ty with
    | int k => intro _ d3; rw [dsc_int d3] at d1; exact d1
    | bool => intro _ d3; rw [dsc_bool d3] at d1; exact d1
    | str => intro _ d3; rw [dsc_str d3] at d1; exact d1
    | pair a b => intro h4 _; cases h4
    | list e =>
      intro h4 d3
      rw [dsc_slice d3] at d1
      refine ⟨d1, fun ei hei => ?_⟩
      simp only at h4
      rw [show tab.lookup ti.el = some ei from hei] at h4
      simpa using h4
  · have hr : ti.arr = 0 := by
      cases hr : ti.arr with
      | zero => rfl
      | succ n => have := (ia t ti n h hr).2.2; rw [hc] at this; cases this
    have h3 := i3 t ti h hr
    cases ha : ti.agg with
    | false => simp [restB0, ha, hc] at h3
    | true =>
      obtain ⟨fs, f1, f2⟩ := str t ti h ha hr
      simp only [restB0, ha, if_true, f1, hc, Bool.not_true, Bool.false_or, Bool.and_eq_true, Bool.not_eq_true'] at h3
      refine ⟨h3.2.1.1, h3.2.1.2, fun fs' hfs' f hf => ?_⟩
      rw [f1] at hfs'
      injection hfs' with hfs'
      injection hfs' with hfs'
      subst hfs'
      simpa using List.all_eq_true.1 h3.2.2 f hf
  · have hr : ti.arr = 0 := by
      cases hr : ti.arr with
      | zero => rfl
      | succ n => have := hua t ti n h hr; rw [hfs] at this; cases this
    have h3 := i3 t ti h hr
    simp only [restB0, ha, if_true, hfs, Bool.and_eq_true] at h3
    exact Option.isSome_iff_exists.1 h3.1
  · have h3 := i3 t ti h (ir t ti h ha)
    simp only [restB0, ha, Bool.false_eq_true, if_false, Bool.and_eq_true, List.isEmpty_iff] at h3
    rw [h3.1.1] at hf
    simp at hf
  · exact vtB_ok (List.all_eq_true.1 h5 q hq)
end Go.Ev
namespace Go.Ev
set_option linter.unusedVariables false
/-- A step into code; `lp m`: into a loop's body, with `m` rounds left behind the round. -/
inductive Dir where
  | sl | sr | ct | cf | bl
  | lp (m : Nat)
structure Foc (A : Type) where
  c : Code
  hs : List Keep
  kn : St → Option A
  kx : Nat → St → Option A
  kr : St → Option A
section
variable {A : Type}
noncomputable def focus (T : TypeId → Option TI) (env : Env) (os : RegT) (n : Nat) : List Dir → Foc A → Foc A
  | [], f => f
  | d :: ds, f => focus T env os n ds (match d, f.c with
    | .sl, .seq a b => { f with c := a, kn := fun σ1 => exec T env os n b (f.hs.drop (nloops a)) σ1 f.kn f.kx f.kr }
    | .sr, .seq a b => { f with c := b, hs := f.hs.drop (nloops a) }
    | .ct, .cond _ a b => { f with c := a }
    | .cf, .cond _ a b => { f with c := b, hs := f.hs.drop (nloops a) }
    | .bl, .block id b => { f with c := b, kx := fun i σ1 => if i = id then f.kn σ1 else f.kx i σ1 }
    | .lp m, .loop b => { f with c := b, hs := f.hs.tail, kn := fun σ1 => loopK (fun σ k => exec T env os n b f.hs.tail σ k f.kx f.kr) os.hot (f.hs.headD []) m (scrub os.hot (f.hs.headD []) σ1) }
    | _, _ => f)
end
/-- A function's loop, with `m` rounds left, from these slots on. -/
noncomputable def loopAt (T : TypeId → Option TI) (env : Env) (os : RegT) (s : Sig) (fn : Func) (hs : List Keep) (n : Nat) (p : List Dir) (m : Nat) (σ : St) : Option s.Out :=
  match fn.body with
  | none => none
  | some c => match focus T env os n p ⟨c, hs, retK T s fn, fun _ _ => none, retK T s fn⟩ with
    | ⟨.loop b, hs, kn, kx, kr⟩ => loopK (fun σ k => exec T env os n b hs.tail σ k kx kr) os.hot (hs.headD []) m σ
    | _ => none
def hotT (l : List TypeId) (hs : List Nat) (T : TypeId → Option TI) (t : TypeId) : Option TI := match T t with
  | some ti => some { ti with hot := l.contains t, hits := hs }
  | none => none
theorem hotT_some {l : List TypeId} {hs : List Nat} {T : TypeId → Option TI} {t : TypeId} {ti : TI} (h : hotT l hs T t = some ti) : ∃ t0, T t = some t0 ∧ ti = { t0 with hot := l.contains t, hits := hs } := by
  unfold hotT at h
  split at h
  · rename_i t0 h0
    injection h with h
    exact ⟨t0, h0, h.symm⟩
  · cases h
theorem TOk.hot {P : Program} {T : TypeId → Option TI} (h : TOk P T) (l : List TypeId) (hs : List Nat) : TOk P (hotT l hs T) where
  info := fun t ti ht => by obtain ⟨t0, h0, rfl⟩ := hotT_some ht; exact h.info t t0 h0
  arr := fun t ti n ht => by obtain ⟨t0, h0, rfl⟩ := hotT_some ht; exact h.arr t t0 n h0
  agg := fun t ti ht => by obtain ⟨t0, h0, rfl⟩ := hotT_some ht; exact h.agg t t0 h0
  sca := fun t ti ht ha => by
    obtain ⟨t0, h0, rfl⟩ := hotT_some ht
    have := h.sca t t0 h0 ha
    revert this
    simp only
    cases t0.ty with
    | list e =>
      rintro ⟨h1, h2⟩
      refine ⟨h1, fun ei he => ?_⟩
      obtain ⟨e0, he0, rfl⟩ := hotT_some he
      exact h2 e0 he0
    | _ => exact id
  cmp := fun t ti ht => by obtain ⟨t0, h0, rfl⟩ := hotT_some ht; exact h.cmp t t0 h0
  pls := fun t ti ht => by obtain ⟨t0, h0, rfl⟩ := hotT_some ht; exact h.pls t t0 h0
  nof := fun t ti ht => by obtain ⟨t0, h0, rfl⟩ := hotT_some ht; exact h.nof t t0 h0
  tab := fun q hq => by
    obtain ⟨h1, ei, h2, h3⟩ := h.tab q hq
    refine ⟨h1, { ei with hot := l.contains q.el, hits := hs }, ?_, h3⟩
    simp only [hotT, h2]
end Go.Ev
