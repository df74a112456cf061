/- Functions, part B: a call begins. -/
import Derived.Test.YtphlkpahfcainaaEvFunA
namespace Go.Ev
set_option linter.unusedVariables false
set_option linter.unusedSimpArgs false

theorem gs_append : ∀ (a b : St) (t : Nat), gs (a ++ b) t = if t < a.length then gs a t else gs b (t - a.length)
  | [], b, t => by simp
  | s :: a, b, 0 => by simp [gs]
  | s :: a, b, t + 1 => by simp [gs, gs_append a b t]
theorem gs_repl : ∀ (k t : Nat), gs (List.replicate k nones) t = nones
  | 0, t => by cases t <;> rfl
  | k + 1, 0 => rfl
  | k + 1, t + 1 => by rw [List.replicate_succ]; exact gs_repl k t
theorem gs_boxS : ∀ (bs : List (List LK)) (y : BL bs) (i : Nat), gs (boxS bs y) i = if i < bs.length then .box (boxLs bs y i) else nones
  | [], y, i => by cases i <;> rfl
  | b :: bs, y, 0 => by simp [boxS, gs, boxLs]
  | b :: bs, y, i + 1 => by simp [boxS, gs, boxLs, gs_boxS bs y.2 i]
theorem length_boxS : ∀ (bs : List (List LK)) (y : BL bs), (boxS bs y).length = bs.length
  | [], _ => rfl
  | b :: bs, y => by simp [boxS, length_boxS bs y.2]

/-- The kinds that a function is told fit it. -/
def sigOk (s : Sig) (fn : Func) : Bool := decide (s.ps.length ≤ fn.ntmps) && s.ps.all (PK.inB s.bs.length) && s.ps.all PK.ok && s.bs.all (fun ks => ks.all LK.one) && !(fn.name == "runtime.NumGoroutine")

/-- What stays the same as a call of a function runs. -/
def ctx (w : World) (S M : Nat → Prop) (n : Nat) (bk : Nat → Nat) : Ctx := ⟨w, S, M, n, fun t => bk (t - n)⟩

theorem start_ok {s : Sig} {fn : Func} (hs : sigOk s fn = true) {x : HL s.ins} {y : BL s.bs} {w : World} {S : Nat → Prop} {vs cs : List Value} {bc : Nat → List Value} {bk : Nat → Nat}
    (hh : Hand w S (outL s.ins x) cs s.bs.length (boxLs s.bs y) bc bk) (ha : ArgShape bk s.ps vs cs) :
    ∃ g, Rel (ctx w S (fun b => ∃ o, pob (outL s.ins x) cs s.bs.length (boxLs s.bs y) bc bk o = some b) fn.ntmps bk) (start s fn x y) { tmps := vs.toArray ++ Array.replicate (fn.ntmps - vs.toArray.size) undef, defers := [] } w g ∧ (start s fn x y).length = fn.ntmps + s.bs.length := by
  simp only [sigOk, Bool.and_eq_true, decide_eq_true_eq] at hs
  obtain ⟨⟨⟨⟨s1, s2⟩, s3⟩, s4⟩, s5⟩ := hs
  obtain ⟨c, jf, i1, i2, i3, i4, i5⟩ := argS_ok fn.ntmps s.bs.length s.ps x vs cs s2 s3 ha hh.rel
  have hgs1 : ∀ t, t < s.ps.length → gs (start s fn x y) t = gs (argS fn.ntmps s.ps x) t := fun t ht => by
    simp only [start]
    rw [gs_append, if_pos (by simp; omega), gs_append, if_pos (by omega)]
  have hgs2 : ∀ t, ¬ t < s.ps.length → t < fn.ntmps → gs (start s fn x y) t = nones := fun t h1 h2 => by
    simp only [start]
    rw [gs_append, if_pos (by simp; omega), gs_append, if_neg (by omega), gs_repl]
  have hgs3 : ∀ t, ¬ t < fn.ntmps → gs (start s fn x y) t = if t - fn.ntmps < s.bs.length then .box (boxLs s.bs y (t - fn.ntmps)) else nones := fun t h2 => by
    simp only [start]
    rw [gs_append, if_neg (by simp; omega), gs_boxS]
    have : t - (argS fn.ntmps s.ps x ++ List.replicate (fn.ntmps - (argS fn.ntmps s.ps x).length) nones).length = t - fn.ntmps := by simp; omega
    rw [this]
  have hlen : (start s fn x y).length = fn.ntmps + s.bs.length := by simp [start, length_boxS]; omega
  obtain ⟨C, hC1, hC2, hC3⟩ : ∃ C : Pl → Value, (∀ p : Pl, p.t < s.ps.length → C p = c p.t p.i) ∧ (∀ p : Pl, ¬ p.t < s.ps.length → p.t < fn.ntmps → C p = undef) ∧ ∀ p : Pl, ¬ p.t < fn.ntmps → C p = (bc (p.t - fn.ntmps)).getD p.i undef :=
    ⟨fun p => if p.t < s.ps.length then c p.t p.i else if p.t < fn.ntmps then undef else (bc (p.t - fn.ntmps)).getD p.i undef, fun p h => by simp only [if_pos h], fun p h h2 => by simp only [if_neg h, if_pos h2], fun p h => by
      have : ¬ p.t < s.ps.length := by omega
      simp only [if_neg h, if_neg this]⟩
  have hbox : ∀ b, b < s.bs.length → isBox (start s fn x y) (fn.ntmps + b) := fun b hb => by
    unfold isBox
    rw [hgs3 _ (by omega), Nat.add_sub_cancel_left, if_pos hb]
    rfl
  have htmp : ∀ t, t < fn.ntmps → (vs.toArray ++ Array.replicate (fn.ntmps - vs.toArray.size) undef).getD t undef = if t < s.ps.length then vs.getD t undef else undef := fun t ht => by
    by_cases h1 : t < s.ps.length
    · rw [if_pos h1]
      simp [Array.getD_eq_getD_getElem?, Array.getElem?_append, i1, h1, List.getD_eq_getElem?_getD]
    · rw [if_neg h1]
      simp [Array.getD_eq_getD_getElem?, Array.getElem?_append, i1, h1]
      rw [Array.getElem?_replicate]
      split <;> rfl
  -- leaves
  have hglA : ∀ p : Pl, p.t < s.ps.length → gl (start s fn x y) p = lget (gs (argS fn.ntmps s.ps x) p.t).leaves p.i := fun p hp => by unfold gl; rw [hgs1 _ hp]
  have hglN : ∀ p : Pl, ¬ p.t < s.ps.length → p.t < fn.ntmps → gl (start s fn x y) p = .und := fun p h1 h2 => by
    unfold gl; rw [hgs2 _ h1 h2]
    cases p.i <;> rfl
  have hglB : ∀ p : Pl, ¬ p.t < fn.ntmps → gl (start s fn x y) p = if p.t - fn.ntmps < s.bs.length then lget (boxLs s.bs y (p.t - fn.ntmps)) p.i else .und := fun p h2 => by
    unfold gl; rw [hgs3 _ h2]
    split
    · rfl
    · cases p.i <;> rfl
  have hob : ∀ o b, ob (start s fn x y) ⟨S, C, fun t => bk (t - fn.ntmps)⟩ o = some b →
      (∃ i, o = .inl (fn.ntmps + i) ∧ pob (outL s.ins x) cs s.bs.length (boxLs s.bs y) bc bk (.box i) = some b) ∨
      (∃ t, o = .inr ⟨t, 0⟩ ∧ t < s.ps.length ∧ (lget (gs (argS fn.ntmps s.ps x) t).leaves 0).isOwn = true ∧ pob (outL s.ins x) cs s.bs.length (boxLs s.bs y) bc bk (.arg (jf t)) = some b) ∨
      (∃ i q, o = .inr ⟨fn.ntmps + i, q⟩ ∧ pob (outL s.ins x) cs s.bs.length (boxLs s.bs y) bc bk (.leaf i q) = some b) := by
    intro o b hb
    cases o with
    | inl t =>
      simp only [ob] at hb
      by_cases h2 : t < fn.ntmps
      · by_cases h1 : t < s.ps.length
        · obtain ⟨⟨ag, ls, e, _⟩, _⟩ := i3 t h1
          rw [hgs1 t h1, e] at hb
          simp [Slot.shp, Shp.isBox] at hb
        · rw [hgs2 t h1 h2] at hb
          simp [nones, Slot.shp, Shp.isBox] at hb
      · rw [hgs3 t h2] at hb
        by_cases h3 : t - fn.ntmps < s.bs.length
        · rw [if_pos h3] at hb
          refine .inl ⟨t - fn.ntmps, by congr 1; omega, ?_⟩
          simpa [pob, h3, Slot.shp, Shp.isBox] using hb
        · rw [if_neg h3] at hb
          simp [nones, Slot.shp, Shp.isBox] at hb
    | inr p =>
      obtain ⟨t, q⟩ := p
      simp only [ob] at hb
      split at hb
      rotate_left
      · cases hb
      rename_i ho
      by_cases h2 : t < fn.ntmps
      · by_cases h1 : t < s.ps.length
        · rw [hglA ⟨t, q⟩ h1] at ho
          have hq := (i3 t h1).own q ho
          subst hq
          refine .inr (.inl ⟨t, rfl, h1, ho, ?_⟩)
          rw [hC1 ⟨t, 0⟩ h1] at hb
          exact (i4 t ho).trans hb
        · rw [hglN ⟨t, q⟩ h1 h2] at ho; cases ho
      · rw [hglB ⟨t, q⟩ h2] at ho
        simp only at ho
        split at ho
        · rename_i h3
          rw [hC3 ⟨t, q⟩ h2] at hb
          refine .inr (.inr ⟨t - fn.ntmps, q, by congr 2; omega, ?_⟩)
          simp only at hb
          simp only [pob, h3, own1, ho, if_true]
          exact hb
        · cases ho
  refine ⟨⟨S, C, fun t => bk (t - fn.ntmps)⟩, {
    size := by simp [ctx, i1]; omega
    defers := rfl
    sh := fun t ht => ?_
    lf := fun p => ?_
    inj := fun o1 o2 b h1 h2 => ?_
    fr := fun o b hb => ?_
    sb := fun b hb => ⟨hh.sb b hb, .inl hb⟩
    s0 := fun b hb => hb
    bx := fun t _ => rfl
    os := rfl
    tape := rfl
    output := rfl
    grow := Nat.le_refl _
    frame := fun _ _ _ => rfl }, hlen⟩
  · by_cases h2 : t < fn.ntmps
    · by_cases h1 : t < s.ps.length
      · obtain ⟨⟨ag, ls, e, e1, e2⟩, _⟩ := i3 t h1
        rw [hgs1 t h1, e]
        cases ag with
        | false =>
          obtain ⟨q1, q2⟩ := e1 rfl
          refine ⟨q1, ?_⟩
          show Array.getD _ t undef = C ⟨t, 0⟩
          rw [htmp t h2, if_pos h1, hC1 ⟨t, 0⟩ h1]; exact q2
        | true =>
          show Array.getD _ t undef = _
          rw [htmp t h2, if_pos h1, e2 rfl]
          congr 2
          simp only [cellsL]
          exact List.map_congr_left (fun i _ => (hC1 ⟨t, i⟩ h1).symm)
      · rw [hgs2 t h1 h2]
        refine ⟨rfl, ?_⟩
        show Array.getD _ t undef = C ⟨t, 0⟩
        rw [htmp t h2, if_neg h1, hC2 ⟨t, 0⟩ h1 h2]
    · rw [hgs3 t h2]
      have h3 : t - fn.ntmps < s.bs.length := by omega
      rw [if_pos h3]
      obtain ⟨⟨te, b1⟩, b2, b3⟩ := hh.box _ h3
      refine ⟨fun h => absurd h h2, te, ?_⟩
      show w.heap[bk (t - fn.ntmps)]? = _
      rw [b1]
      congr 2
      apply Array.ext'
      apply List.ext_getElem?
      intro i
      simp only [cellsL, List.getElem?_map, hC3 ⟨t, _⟩ h2]
      by_cases hi : i < (boxLs s.bs y (t - fn.ntmps)).length
      · simp [hi, List.getD_eq_getElem?_getD, show i < (bc (t - fn.ntmps)).length by omega]
      · simp [hi, show (bc (t - fn.ntmps)).length ≤ i by omega]
  · by_cases h2 : p.t < fn.ntmps
    · by_cases h1 : p.t < s.ps.length
      · rw [hglA p h1]
        show LR _ _ _ _ (C p)
        rw [hC1 p h1]
        exact (i3 p.t h1).lf _ _ rfl (fun b hb => ⟨by simp, hbox b hb⟩) p.i
      · rw [hglN p h1 h2]; trivial
    · rw [hglB p h2]
      split
      · rename_i h3
        show LR _ _ _ _ (C p)
        rw [hC3 p h2]
        exact LO_LR ((hh.box _ h3).rel p.i)
      · trivial
  · rcases hob _ _ h1 with ⟨i, e1, a1⟩ | ⟨t, e1, _, a0, a1⟩ | ⟨i, q, e1, a1⟩ <;> rcases hob _ _ h2 with ⟨i', e2, a2⟩ | ⟨t', e2, _, a0', a2⟩ | ⟨i', q', e2, a2⟩ <;> have hinj := hh.inj _ _ b a1 a2
    · injection hinj with hinj; rw [e1, e2, hinj]
    · cases hinj
    · cases hinj
    · cases hinj
    · injection hinj with hinj; rw [e1, e2, i5 t t' a0 a0' hinj]
    · cases hinj
    · cases hinj
    · cases hinj
    · injection hinj with h3 h4; rw [e1, e2, h3, h4]
  · have key : ∃ ow, pob (outL s.ins x) cs s.bs.length (boxLs s.bs y) bc bk ow = some b := by
      rcases hob _ _ hb with ⟨i, e1, a1⟩ | ⟨t, e1, _, a0, a1⟩ | ⟨i, q, e1, a1⟩
      · exact ⟨_, a1⟩
      · exact ⟨_, a1⟩
      · exact ⟨_, a1⟩
    obtain ⟨ow, how⟩ := key
    obtain ⟨f1, f2⟩ := hh.fr _ _ how
    exact ⟨f1, f2, .inr ⟨ow, how⟩⟩

end Go.Ev
