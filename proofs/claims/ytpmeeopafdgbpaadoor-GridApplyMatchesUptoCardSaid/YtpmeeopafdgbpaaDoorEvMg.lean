/- Operations whose order is open: what each does to the slots, and when two of them may be exchanged. -/
import Derived.Test.YtpmeeopafdgbpaaDoorEvMe
namespace Go.Ev
set_option linter.unusedVariables false
set_option linter.unusedSimpArgs false
noncomputable section
theorem ssT_self : ∀ (tr : Tr) (t : Nat), gsT tr t ≠ nones → ssT tr t (gsT tr t) = tr
  | .e, t, h => absurd rfl h
  | .n l s r, 0, h => rfl
  | .n l s r, t + 1, h => by
    rw [gsT_s] at h ⊢
    rw [ssT_s]
    by_cases h1 : t % 2 = 0
    · rw [if_pos h1] at h ⊢
      rw [if_pos h1, ssT_self l _ h]
    · rw [if_neg h1] at h ⊢
      rw [if_neg h1, ssT_self r _ h]
theorem ss_self (σ : St) (t : Nat) (h : gs σ t ≠ nones) : ss σ t (gs σ t) = σ := by
  have e := gs_if σ t
  by_cases h2 : t < σ.length
  · rw [if_pos h2] at e
    rw [e] at h ⊢
    show (⟨σ.len, ssT σ.tr t (gsT σ.tr t)⟩ : St) = σ
    rw [ssT_self _ _ h]
  · rw [if_neg h2] at e
    exact absurd e h
/-- A leaf that led to what is gone. -/
def dead : Leaf → Leaf
  | .hol te e xs i _ => .hol te e xs i none
  | _ => .und
theorem killL_if (d : Nat) (l : Leaf) : killL d l = if leadsL d l = true then dead l else l := by
  cases l with
  | hol te e xs i q =>
    cases q with
    | none => rfl
    | some q =>
      show Leaf.hol te e xs i (oqf _ (some q)) = if (q.t == d) = true then _ else _
      cases hq : (q.t == d) <;> simp [oqf, hq, dead]
  | _ => simp [killL, leadsL, dead]
theorem killP_if (p : Pl) (l : Leaf) : killP p l = if leadsP p l = true then dead l else l := by
  cases l with
  | hol te e xs i q =>
    cases q with
    | none => rfl
    | some q =>
      show Leaf.hol te e xs i (oqf _ (some q)) = if (q == p) = true then _ else _
      by_cases hq : q = p <;> simp [oqf, hq, dead]
  | _ => simp [killP, leadsP, dead]
theorem leadsL_dead (d : Nat) (l : Leaf) : leadsL d (dead l) = false := by cases l <;> rfl
theorem leadsT_dead (tk : Option Pl) (l : Leaf) : leadsT tk (dead l) = false := by
  cases tk with
  | none => rfl
  | some p => cases l <;> rfl
theorem isUnd_dead (l : Leaf) : isUnd (dead l) = true := by cases l <;> rfl
/-- Slots that look the same. -/
structure Eqv (σ σ' : St) : Prop where
  len : σ.length = σ'.length
  shp : ∀ t, (gs σ t).shp = (gs σ' t).shp
  gl : ∀ q, gl σ q = Ev.gl σ' q
theorem Eqv.refl (σ : St) : Eqv σ σ := ⟨rfl, fun _ => rfl, fun _ => rfl⟩
theorem Eqv.symm {σ σ' : St} (h : Eqv σ σ') : Eqv σ' σ := ⟨h.len.symm, fun t => (h.shp t).symm, fun q => (h.gl q).symm⟩
theorem Eqv.trans {σ σ' σ'' : St} (h : Eqv σ σ') (h' : Eqv σ' σ'') : Eqv σ σ'' := ⟨h.len.trans h'.len, fun t => (h.shp t).trans (h'.shp t), fun q => (h.gl q).trans (h'.gl q)⟩
theorem ls_ext : ∀ {a b : List Leaf}, a.length = b.length → (∀ i, lget a i = lget b i) → a = b
  | [], [], _, _ => rfl
  | [], _ :: _, h, _ => by simp at h
  | _ :: _, [], h, _ => by simp at h
  | x :: a, y :: b, h, h2 => by
    have h0 : x = y := h2 0
    have := ls_ext (a := a) (b := b) (by simpa using h) (fun i => h2 (i + 1))
    rw [h0, this]
theorem slot_ext {s s' : Slot} (h : s.shp = s'.shp) (h2 : ∀ i, lget s.leaves i = lget s'.leaves i) : s = s' := by
  have hl : s.leaves.length = s'.leaves.length := by rw [leaves_len, leaves_len, h]
  have e := ls_ext hl h2
  cases s <;> cases s' <;> simp_all [Slot.shp, Slot.leaves]
theorem Eqv.gs {σ σ' : St} (h : Eqv σ σ') (t : Nat) : gs σ t = Ev.gs σ' t := slot_ext (h.shp t) fun i => h.gl ⟨t, i⟩
/-- A leaf at another place after an action. -/
def bad (tk : Option Pl) (d : Nat) (own : Bool) (l : Leaf) : Bool := leadsT tk l || (own && leadsL d l)
theorem bad_und (tk : Option Pl) (d : Nat) (own : Bool) : bad tk d own .und = false := by cases tk <;> cases own <;> rfl
theorem shp_tkS (tk : Option Pl) (σ : St) (t : Nat) : (Ev.gs (tkS tk σ) t).shp = (Ev.gs σ t).shp := by
  cases tk with
  | none => rfl
  | some p => unfold tkS; rw [shp_sl, shp_mapL _ rfl]
theorem length_tkS (tk : Option Pl) (σ : St) : (tkS tk σ).length = σ.length := by
  cases tk with
  | none => rfl
  | some p => simp [tkS]
theorem gl_tkS (tk : Option Pl) (σ : St) (hv : ∀ p, tk = some p → Vp σ p) (q : Pl) : Ev.gl (tkS tk σ) q = if tk = some q then .und else if leadsT tk (Ev.gl σ q) = true then dead (Ev.gl σ q) else Ev.gl σ q := by
  cases tk with
  | none => simp [tkS, leadsT]
  | some p =>
    unfold tkS
    rw [gl_sl _ _ (vp_mapL rfl (hv p rfl)), gl_mapL _ rfl, killP_if]
    by_cases h : p = q
    · simp [h]
    · have h2 : ¬ (some p = some q) := by simpa using h
      rw [if_neg h, if_neg h2]; rfl
theorem owns_iff (s : Slot) : s.owns = (s.shp.isBox || s.leaves.any Leaf.isOwn) := by cases s <;> simp [Slot.owns, Slot.shp, Shp.isBox, Slot.leaves]
theorem any_lget : ∀ (ls : List Leaf), ls.any Leaf.isOwn = true ↔ ∃ i, (lget ls i).isOwn = true
  | [] => by simp [lget, Leaf.isOwn]
  | l :: ls => by
    rw [List.any_cons, Bool.or_eq_true, any_lget ls]
    constructor
    · rintro (h | ⟨i, h⟩)
      · exact ⟨0, h⟩
      · exact ⟨i + 1, h⟩
    · rintro ⟨i, h⟩
      cases i with
      | zero => exact .inl h
      | succ i => exact .inr ⟨i, h⟩
theorem owns_eq {s s' : Slot} (h : s.shp = s'.shp) (h2 : ∀ i, (lget s.leaves i).isOwn = (lget s'.leaves i).isOwn) : s.owns = s'.owns := by
  rw [owns_iff, owns_iff, h]
  congr 1
  rw [Bool.eq_iff_iff, any_lget, any_lget]
  simp only [h2]
theorem isOwn_tkS {tk : Option Pl} {σ : St} (hv : ∀ p, tk = some p → Vp σ p) {q : Pl} (hq : tk ≠ some q) : (Ev.gl (tkS tk σ) q).isOwn = (Ev.gl σ q).isOwn := by
  rw [gl_tkS tk σ hv, if_neg hq]
  split
  · rename_i h
    cases tk with
    | none => cases h
    | some p =>
      revert h
      cases Ev.gl σ q with
      | hol te e xs i q => intro _; rfl
      | _ => simp [leadsT, leadsP, Leaf.isOwn, dead]
  · rfl
theorem owns_tkS {tk : Option Pl} {σ : St} (hv : ∀ p, tk = some p → Vp σ p) {d : Nat} (hd : ∀ p, tk = some p → p.t ≠ d) : (Ev.gs (tkS tk σ) d).owns = (Ev.gs σ d).owns :=
  owns_eq (shp_tkS tk σ d) fun i => isOwn_tkS hv (q := ⟨d, i⟩) (fun e => hd _ e rfl)
theorem shp_kill (σ : St) (d t : Nat) : (Ev.gs (kill σ d) t).shp = (Ev.gs σ t).shp := kill_shp σ d t
theorem length_app (tk : Option Pl) (d : Nat) (s : Slot) (σ : St) : (app tk d s σ).length = σ.length := by
  unfold app
  rw [length_wr, length_tkS]
theorem gs_app_ne {tk : Option Pl} {d : Nat} {s : Slot} {σ : St} {t : Nat} (ht : t ≠ d) : Ev.gs (app tk d s σ) t = Ev.gs (kill (tkS tk σ) d) t := by
  unfold app Ev.wr
  simp only
  rw [gs_ss, if_neg (fun h => ht h.1.symm)]
theorem gs_app_self {tk : Option Pl} {d : Nat} {s : Slot} {σ : St} (hd : d < σ.length) : Ev.gs (app tk d s σ) d = s.with (s.leaves.map (killL d)) := by
  unfold app Ev.wr
  simp only
  have : (kill (tkS tk σ) d).length = σ.length := by
    unfold kill; split <;> simp [length_tkS]
  rw [gs_ss, if_pos ⟨rfl, by rw [this]; exact hd⟩]
theorem shp_app {tk : Option Pl} {d : Nat} {s : Slot} {σ : St} {t : Nat} (ht : t ≠ d) : (Ev.gs (app tk d s σ) t).shp = (Ev.gs σ t).shp := by
  rw [gs_app_ne ht, shp_kill, shp_tkS]
theorem gl_app {tk : Option Pl} {d : Nat} {s : Slot} {σ : St} (hv : ∀ p, tk = some p → Vp σ p) (hd : ∀ p, tk = some p → p.t ≠ d) {q : Pl} (hq : q.t ≠ d) :
    Ev.gl (app tk d s σ) q = if tk = some q then .und else if bad tk d (Ev.gs σ d).owns (Ev.gl σ q) = true then dead (Ev.gl σ q) else Ev.gl σ q := by
  have e1 : Ev.gl (app tk d s σ) q = Ev.gl (kill (tkS tk σ) d) q := by unfold Ev.gl; rw [gs_app_ne hq]
  have e2 : Ev.gl (kill (tkS tk σ) d) q = if ((Ev.gs σ d).owns && leadsL d (Ev.gl (tkS tk σ) q)) = true then dead (Ev.gl (tkS tk σ) q) else Ev.gl (tkS tk σ) q := by
    unfold kill
    rw [owns_tkS hv hd]
    cases (Ev.gs σ d).owns with
    | true => rw [if_pos rfl, gl_mapL _ rfl, killL_if]; simp
    | false => simp
  rw [e1, e2, gl_tkS tk σ hv]
  by_cases h1 : tk = some q
  · simp [h1, leadsL]
  · rw [if_neg h1, if_neg h1]
    unfold bad
    cases hT : leadsT tk (Ev.gl σ q)
    · simp
    · simp [leadsL_dead]
theorem isOwn_bad {tk : Option Pl} {d : Nat} {own : Bool} {l : Leaf} (h : bad tk d own l = true) : (dead l).isOwn = l.isOwn := by
  cases l <;> first | rfl | (cases tk <;> cases own <;> simp [bad, leadsT, leadsP, leadsL] at h)
theorem bad_dead (tk : Option Pl) (d : Nat) (own : Bool) (l : Leaf) : bad tk d own (dead l) = false := by
  unfold bad; rw [leadsT_dead, leadsL_dead]; cases own <;> rfl
structure Reads (A : Actn) (σ : St) : Prop where
  rs : ∀ e ∈ A.rs, gs σ e.1 = e.2
  rp : ∀ e ∈ A.rp, gl σ e.1 = e.2
  rb : ∀ t ∈ A.rb, (gs σ t).shp.isB = true
theorem not_bad {tk : Option Pl} {d : Nat} {own : Bool} {l : Leaf} (h1 : leadsT tk l = false) (h2 : leadsL d l = false) : bad tk d own l = false := by
  unfold bad; rw [h1, h2]; cases own <;> rfl
theorem noT_spec {tk : Option Pl} {d : Nat} {A : Actn} (h : noT tk d A = true) :
    (∀ e ∈ A.rs, e.1 ≠ d ∧ (∀ p, tk = some p → p.t ≠ e.1) ∧ ∀ l ∈ e.2.leaves, leadsT tk l = false ∧ leadsL d l = false ∧ isUnd l = false) ∧
    (∀ e ∈ A.rp, e.1.t ≠ d ∧ tk ≠ some e.1 ∧ leadsT tk e.2 = false ∧ leadsL d e.2 = false ∧ isUnd e.2 = false) ∧ ∀ t ∈ A.rb, t ≠ d := by
  unfold noT at h
  rw [Bool.and_eq_true, Bool.and_eq_true, List.all_eq_true, List.all_eq_true, List.all_eq_true] at h
  obtain ⟨h, h'⟩ := h
  refine ⟨fun e he => ?_, fun e he => ?_, fun t ht => by simpa using h' t ht⟩
  · have := h.1 e he
    simp only [Bool.and_eq_true, List.all_eq_true, Bool.not_eq_true', bne_iff_ne] at this
    refine ⟨this.1.1, fun p hp => ?_, fun l hl => ⟨(this.2 l hl).1.1, (this.2 l hl).1.2, (this.2 l hl).2⟩⟩
    subst hp
    simpa using this.1.2
  · have := h.2 e he
    simp only [Bool.and_eq_true, Bool.not_eq_true', bne_iff_ne] at this
    refine ⟨this.1.1.1.1, fun hp => ?_, this.1.1.2, this.1.2, this.2⟩
    subst hp
    simpa using this.1.1.1.2
theorem lget_mem' : ∀ {ls : List Leaf} {i : Nat}, i < ls.length → lget ls i ∈ ls
  | [], _, h => by simp at h
  | l :: ls, 0, _ => by simp [lget]
  | l :: ls, i + 1, h => List.mem_cons_of_mem _ (lget_mem' (ls := ls) (i := i) (by simpa using h))
theorem reads_fwd {tk : Option Pl} {d : Nat} {s : Slot} {A : Actn} {σ : St} (hv : ∀ p, tk = some p → Vp σ p) (hd : ∀ p, tk = some p → p.t ≠ d) (hn : noT tk d A = true) (h : Reads A σ) : Reads A (app tk d s σ) := by
  obtain ⟨n1, n2, n3⟩ := noT_spec hn
  refine ⟨fun e he => ?_, fun e he => ?_, fun t ht => by rw [shp_app (n3 t ht)]; exact h.rb t ht⟩
  · obtain ⟨a1, a2, a3⟩ := n1 e he
    have hg := h.rs e he
    refine slot_ext (by rw [shp_app a1, hg]) fun i => ?_
    have := gl_app (s := s) hv hd (q := ⟨e.1, i⟩) a1
    have e2 : Ev.gl σ ⟨e.1, i⟩ = lget e.2.leaves i := by unfold Ev.gl; rw [hg]
    rw [e2, if_neg (fun z => a2 _ z rfl)] at this
    show Ev.gl (app tk d s σ) ⟨e.1, i⟩ = _
    rw [this]
    by_cases hi : i < e.2.leaves.length
    · obtain ⟨b1, b2, b3⟩ := a3 _ (lget_mem' hi)
      rw [not_bad b1 b2]; rfl
    · rw [lget_of_le (by omega), bad_und]; rfl
  · obtain ⟨a1, a2, a3, a4, a5⟩ := n2 e he
    have hg := h.rp e he
    rw [gl_app hv hd a1, if_neg a2, hg, not_bad a3 a4]; rfl
theorem reads_back {tk : Option Pl} {d : Nat} {s : Slot} {A : Actn} {σ : St} (hv : ∀ p, tk = some p → Vp σ p) (hd : ∀ p, tk = some p → p.t ≠ d) (hn : noT tk d A = true) (h : Reads A (app tk d s σ)) : Reads A σ := by
  obtain ⟨n1, n2, n3⟩ := noT_spec hn
  have back : ∀ (q : Pl), q.t ≠ d → isUnd (Ev.gl (app tk d s σ) q) = false → Ev.gl σ q = Ev.gl (app tk d s σ) q := by
    intro q hq hu
    rw [gl_app hv hd hq] at hu ⊢
    split at hu
    · cases hu
    · split at hu
      · rw [isUnd_dead] at hu; cases hu
      · rename_i h1 h2; rw [if_neg h1, if_neg h2]
  refine ⟨fun e he => ?_, fun e he => ?_, fun t ht => by rw [← shp_app (s := s) (tk := tk) (σ := σ) (n3 t ht)]; exact h.rb t ht⟩
  · obtain ⟨a1, a2, a3⟩ := n1 e he
    have hg := h.rs e he
    have hs : (Ev.gs σ e.1).shp = e.2.shp := by rw [← hg, shp_app a1]
    refine slot_ext hs fun i => ?_
    have e2 : Ev.gl (app tk d s σ) ⟨e.1, i⟩ = lget e.2.leaves i := by unfold Ev.gl; rw [hg]
    by_cases hi : i < e.2.leaves.length
    · obtain ⟨b1, b2, b3⟩ := a3 _ (lget_mem' hi)
      show Ev.gl σ ⟨e.1, i⟩ = _
      rw [back ⟨e.1, i⟩ a1 (by rw [e2]; exact b3), e2]
    · have hl : (Ev.gs σ e.1).leaves.length = e.2.leaves.length := by rw [leaves_len, leaves_len, hs]
      rw [lget_of_le (by omega), lget_of_le (by omega)]
  · obtain ⟨a1, a2, a3, a4, a5⟩ := n2 e he
    have hg := h.rp e he
    rw [back e.1 a1 (by rw [hg]; exact a5), hg]
structure Indep (A1 : Actn) (s1 : Slot) (A2 : Actn) (s2 : Slot) : Prop where
  dd : A1.d ≠ A2.d
  n12 : noT A1.tk A1.d A2 = true
  n21 : noT A2.tk A2.d A1 = true
  t11 : ∀ p, A1.tk = some p → p.t ≠ A1.d
  t12 : ∀ p, A1.tk = some p → p.t ≠ A2.d
  t22 : ∀ p, A2.tk = some p → p.t ≠ A2.d
  t21 : ∀ p, A2.tk = some p → p.t ≠ A1.d
  pp : ∀ p, A1.tk = some p → A2.tk ≠ some p
  s1 : ∀ l ∈ s1.leaves, leadsT A2.tk l = false ∧ leadsL A2.d l = false
  s2 : ∀ l ∈ s2.leaves, leadsT A1.tk l = false ∧ leadsL A1.d l = false
theorem indep_spec {A1 A2 : Actn} {s1 s2 : Slot} (h : indep A1 s1 A2 s2 = true) : Indep A1 s1 A2 s2 := by
  unfold indep at h
  simp only [Bool.and_eq_true, bne_iff_ne, List.all_eq_true, Bool.not_eq_true'] at h
  obtain ⟨⟨⟨⟨⟨⟨⟨h1, h2⟩, h3⟩, h4⟩, h5⟩, h6⟩, h7⟩, h8⟩ := h
  refine ⟨h1, h2, h3, fun p hp => ?_, fun p hp => ?_, fun p hp => ?_, fun p hp => ?_, fun p hp hq => ?_, h7, h8⟩
  · rw [hp] at h4; simp at h4; exact h4.1
  · rw [hp] at h4; simp at h4; exact h4.2
  · rw [hp] at h5; simp at h5; exact h5.1
  · rw [hp] at h5; simp at h5; exact h5.2
  · rw [hp, hq] at h6; simp at h6
theorem owns_app {tk : Option Pl} {d : Nat} {s : Slot} {σ : St} (hv : ∀ p, tk = some p → Vp σ p) (hd : ∀ p, tk = some p → p.t ≠ d) {t : Nat} (ht : t ≠ d) (hp : ∀ p, tk = some p → p.t ≠ t) : (Ev.gs (app tk d s σ) t).owns = (Ev.gs σ t).owns :=
  owns_eq (shp_app ht) fun i => by
    have := gl_app (s := s) hv hd (q := ⟨t, i⟩) ht
    rw [if_neg (fun z => hp _ z rfl)] at this
    show (Ev.gl (app tk d s σ) ⟨t, i⟩).isOwn = (Ev.gl σ ⟨t, i⟩).isOwn
    rw [this]
    split
    · rename_i h; rw [isOwn_bad h]
    · rfl
theorem vp_app {tk : Option Pl} {d : Nat} {s : Slot} {σ : St} {p : Pl} (hp : p.t ≠ d) (h : Vp σ p) : Vp (app tk d s σ) p := by
  refine ⟨by rw [length_app]; exact h.1, ?_⟩
  rw [leaves_len, shp_app hp, ← leaves_len]; exact h.2
theorem swap {A1 A2 : Actn} {s1 s2 : Slot} (hi : Indep A1 s1 A2 s2) {σ : St} (v1 : ∀ p, A1.tk = some p → Vp σ p) (v2 : ∀ p, A2.tk = some p → Vp σ p) (l1 : A1.d < σ.length) (l2 : A2.d < σ.length) :
    Eqv (app A2.tk A2.d s2 (app A1.tk A1.d s1 σ)) (app A1.tk A1.d s1 (app A2.tk A2.d s2 σ)) := by
  have v2' : ∀ p, A2.tk = some p → Vp (app A1.tk A1.d s1 σ) p := fun p hp => vp_app (hi.t21 p hp) (v2 p hp)
  have v1' : ∀ p, A1.tk = some p → Vp (app A2.tk A2.d s2 σ) p := fun p hp => vp_app (hi.t12 p hp) (v1 p hp)
  have o1 : (Ev.gs (app A2.tk A2.d s2 σ) A1.d).owns = (Ev.gs σ A1.d).owns := owns_app v2 hi.t22 hi.dd hi.t21
  have o2 : (Ev.gs (app A1.tk A1.d s1 σ) A2.d).owns = (Ev.gs σ A2.d).owns := owns_app v1 hi.t11 hi.dd.symm hi.t12
  have self : ∀ {B1 B2 : Actn} {r1 r2 : Slot}, Indep B1 r1 B2 r2 → (∀ p, B2.tk = some p → Vp (app B1.tk B1.d r1 σ) p) → B1.d < σ.length → ∀ i, Ev.gl (app B2.tk B2.d r2 (app B1.tk B1.d r1 σ)) ⟨B1.d, i⟩ = lget (r1.leaves.map (killL B1.d)) i := by
    intro B1 B2 r1 r2 hI hv hl i
    rw [gl_app hv hI.t22 (q := ⟨B1.d, i⟩) hI.dd, if_neg (fun z => hI.t21 _ z rfl)]
    have e : Ev.gl (app B1.tk B1.d r1 σ) ⟨B1.d, i⟩ = lget (r1.leaves.map (killL B1.d)) i := by unfold Ev.gl; rw [gs_app_self hl, leaves_with]
    rw [e, lget_map _ rfl, killL_if]
    by_cases hii : i < r1.leaves.length
    · obtain ⟨q1, q2⟩ := hI.s1 _ (lget_mem' hii)
      split
      · rw [bad_dead]; rfl
      · rw [not_bad q1 q2]; rfl
    · rw [lget_of_le (by omega)]
      simp [leadsL, bad_und]
  have hi' : Indep A2 s2 A1 s1 := ⟨hi.dd.symm, hi.n21, hi.n12, hi.t22, hi.t21, hi.t11, hi.t12, fun p hp hq => hi.pp p hq hp, hi.s2, hi.s1⟩
  refine ⟨by simp only [length_app], fun t => ?_, fun q => ?_⟩
  · by_cases h1 : t = A1.d
    · subst h1
      rw [shp_app hi.dd, gs_app_self l1, gs_app_self (by rw [length_app]; exact l1)]
    · by_cases h2 : t = A2.d
      · subst h2
        rw [shp_app (tk := A1.tk) hi.dd.symm, gs_app_self l2, gs_app_self (by rw [length_app]; exact l2)]
      · rw [shp_app h2, shp_app h1, shp_app h1, shp_app h2]
  · obtain ⟨t, i⟩ := q
    by_cases h1 : t = A1.d
    · subst h1
      rw [self hi v2' l1 i]
      unfold Ev.gl
      rw [gs_app_self (by rw [length_app]; exact l1), leaves_with]
    · by_cases h2 : t = A2.d
      · subst h2
        rw [self hi' v1' l2 i]
        unfold Ev.gl
        rw [gs_app_self (by rw [length_app]; exact l2), leaves_with]
      · rw [gl_app v2' hi.t22 (q := ⟨t, i⟩) h2, gl_app v1' hi.t11 (q := ⟨t, i⟩) h1, gl_app v1 hi.t11 (q := ⟨t, i⟩) h1, gl_app v2 hi.t22 (q := ⟨t, i⟩) h2, o1, o2]
        generalize Ev.gl σ ⟨t, i⟩ = l
        by_cases k1 : A1.tk = some ⟨t, i⟩
        · have k2 := hi.pp _ k1
          simp [k1, k2, bad_und]
        · by_cases k2 : A2.tk = some ⟨t, i⟩
          · simp [k1, k2, bad_und]
          · simp only [k1, k2, if_false]
            cases b1 : bad A1.tk A1.d (Ev.gs σ A1.d).owns l <;> cases b2 : bad A2.tk A2.d (Ev.gs σ A2.d).owns l <;> simp [b1, b2, bad_und, bad_dead]
/-- What looks the same looks the same afterwards. -/
theorem app_eqv {tk : Option Pl} {d : Nat} {s : Slot} {σ σ' : St} (h : Eqv σ σ') (hv : ∀ p, tk = some p → Vp σ p) (hd : ∀ p, tk = some p → p.t ≠ d) (hl : d < σ.length) : Eqv (app tk d s σ) (app tk d s σ') := by
  have hv' : ∀ p, tk = some p → Vp σ' p := fun p hp => by
    have := hv p hp
    exact ⟨by rw [← h.len]; exact this.1, by rw [← h.gs]; exact this.2⟩
  refine ⟨by rw [length_app, length_app, h.len], fun t => ?_, fun q => ?_⟩
  · by_cases h1 : t = d
    · subst h1; rw [gs_app_self hl, gs_app_self (by rw [← h.len]; exact hl)]
    · rw [shp_app h1, shp_app h1, h.shp]
  · by_cases h1 : q.t = d
    · unfold Ev.gl
      rw [h1, gs_app_self hl, gs_app_self (by rw [← h.len]; exact hl)]
    · rw [gl_app hv hd h1, gl_app hv' hd h1, h.gl, h.gs]
theorem freeze_notAl : ∀ (ls : List Leaf) (σ : St), ls.all notAl = true → freezeL ls σ = (σ, ls)
  | [], σ, _ => rfl
  | l :: ls, σ, h => by
    rw [List.all_cons, Bool.and_eq_true] at h
    have ih := freeze_notAl ls σ h.2
    cases l <;> first | (simp only [freezeL, ih]; done) | (simp [notAl] at h)
theorem gather_id (b : Bool) : ∀ (ps : List PK) (as : List Arg) (σ : St) (m : List (Nat × Nat)), ps.all isV = true → as.all (fun a => a.2.all notAl) = true →
    ∀ r, gather b ps as σ m = some r → r.1 = σ ∧ r.2.2 = m ∧ ∀ σ', gather b ps as σ' m = some (σ', r.2.1, m)
  | [], [], σ, m, _, _, r, h => by
    simp only [gather, Option.some.injEq] at h
    subst h
    exact ⟨rfl, rfl, fun σ' => rfl⟩
  | [], _ :: _, σ, m, _, _, r, h => by simp [gather] at h
  | .v a t :: ps, [], σ, m, _, _, r, h => by simp [gather] at h
  | .v a t :: ps, (a', ls) :: as, σ, m, hp, ha, r, h => by
    rw [List.all_cons, Bool.and_eq_true] at hp ha
    have fz := fun σ => freeze_notAl ls σ ha.1
    cases b <;>
    · simp only [gather] at h ⊢
      split at h
      · rename_i hc
        rw [fz σ] at h
        simp only at h
        split at h
        · rename_i x hx
          split at h
          · rename_i σ2 xs m2 hg
            obtain ⟨q1, q2, q3⟩ := gather_id _ ps as σ m hp.2 ha.2 _ hg
            injection h with h
            subst h
            refine ⟨q1, q2, fun σ' => ?_⟩
            simp only [if_pos hc, fz σ', hx, q3 σ']
          · cases h
        · cases h
      · cases h
  | .o .. :: ps, as, σ, m, hp, _, r, h => by simp [isV] at hp
  | .p .. :: ps, as, σ, m, hp, _, r, h => by simp [isV] at hp
  | .f .. :: ps, as, σ, m, hp, _, r, h => by simp [isV] at hp
  | .w .. :: ps, as, σ, m, hp, _, r, h => by simp [isV] at hp
theorem putW_isV (m : List (Nat × Nat)) (σ0 : St) : ∀ (ps : List PK), ps.all isV = true → ∀ (y : BL (ps.flatMap PK.wk)) (pl : List (Option Pl)) (σ : St), putW m σ0 ps y pl σ = some σ
  | [], _, y, pl, σ => rfl
  | .v _ _ :: ps, h, y, pl, σ => putW_isV m σ0 ps (by simpa [isV] using h) y pl σ
  | .o .. :: ps, h, y, pl, σ => by simp [isV] at h
  | .p .. :: ps, h, y, pl, σ => by simp [isV] at h
  | .f .. :: ps, h, y, pl, σ => by simp [isV] at h
  | .w .. :: ps, h, y, pl, σ => by simp [isV] at h
theorem frParts_id (ag : Bool) : ∀ (l : List (Nat × Operand)) (σ : St), l.all (fun q => (rd σ q.2).2.all notAl) = true → (frParts ag l σ).1 = σ
  | [], σ, _ => rfl
  | (i, x) :: l, σ, h => by
    rw [List.all_cons, Bool.and_eq_true] at h
    simp only [frParts, freeze_notAl _ σ h.1]
    exact frParts_id ag l σ h.2
theorem frParts_eq (ag : Bool) : ∀ (l : List (Nat × Operand)) (σ σ' : St), l.all (fun q => (rd σ q.2).2.all notAl) = true → (∀ q ∈ l, rd σ' q.2 = rd σ q.2) → (frParts ag l σ').2 = (frParts ag l σ).2
  | [], σ, σ', _, _ => rfl
  | (i, x) :: l, σ, σ', h, h2 => by
    rw [List.all_cons, Bool.and_eq_true] at h
    have e := h2 (i, x) (by simp)
    have f1 := freeze_notAl (rd σ x).2 σ h.1
    have f2 := freeze_notAl (rd σ x).2 σ' h.1
    have e : rd σ' x = rd σ x := e
    simp only [frParts, e, f1, f2]
    rw [frParts_eq ag l σ σ' h.2 (fun q hq => h2 q (by simp [hq]))]
section
variable {A : Type} {T : TypeId → Option TI} {env : Env} {σ σ' : St} {d : Nat} {o : Oper} {Ac : Actn} {k : St → Option A}
theorem opK_eq0 (h : actO T env d o.op σ = some Ac) : opK T env o σ k = opK0 T env o σ k := by
  obtain ⟨dst, op, ty, pos, aft, gd⟩ := o
  simp only at h
  cases op <;> try rfl
  case range t x => cases h
  case next x b => cases h
  case indexAddr t x ix =>
    simp only [actO] at h
    simp only [opK]
    split
    · split
      · split
        · rename_i p hp
          split
          · rename_i te e xs i q hg
            simp only [hp, hg] at h
            exfalso
            (repeat' split at h) <;> cases h
          · rfl
        · rfl
      · rfl
    · rename_i hti
      rw [hti] at h
      cases h
  case load t x =>
    simp only [actO] at h
    simp only [opK]
    split
    · split
      · split
        · rename_i p e' i f hp
          split
          · rename_i te e xs i q hg
            simp only [hp, rowOf, hg] at h
            exfalso
            (repeat' split at h) <;> cases h
          · rfl
        · rfl
      · rfl
    · rfl
  case store t x y => simp only [actO] at h; cases h
  case slice t x lo hi mx => simp only [actO] at h; cases h
  case call c =>
    simp only [opK]
    split
    · rename_i hc
      simp only [actO, hc] at h
      cases h
    · rename_i hc
      split
      · rename_i x l t0 l0 ha ha0
        split
        · split
          · cases hx : rd1 σ x with
            | al p =>
              simp only [stlL]
              rcases stl_cases σ p with h1 | ⟨te, e, xs, i, q, te', ys, hp, hq, _⟩
              · rw [h1]
              · exfalso
                simp only [actO, hc, ha] at h
                split at h
                · rename_i x' y t t' he ht
                  injection he with he _
                  subst he
                  simp only [hx, hp] at h
                  (repeat' split at h) <;> cases h
                · cases h
            | _ => rfl
          · rfl
        · rfl
      · rfl
    · rfl
theorem opK0_actO (ho : o.dst = some d) (h : actO T env d o.op σ = some Ac) : opK0 T env o σ k = Ac.mo.bind fun s => k (app Ac.tk Ac.d s σ) := by
  obtain ⟨dst, op, ty, pos, aft, gd⟩ := o
  simp only at ho h
  subst ho
  cases op <;> simp only [actO] at h <;> try (cases h; done)
  case move x => injection h with h; subst h; rfl
  case fieldAddr t x i =>
    simp only [opK0]
    split at h
    · rename_i f fi hf
      try simp only [hf]
      split at h
      · rename_i b o hx; injection h with h; subst h; simp only [hx]; rfl
      · rename_i t' y hx
        split at h
        · rename_i l hl; injection h with h; subst h; simp only [hx, hl]; rfl
        · cases h
      · cases h
    · cases h
  case indexAddr t x ix =>
    simp only [opK0]
    split at h
    · rename_i ti hti
      try simp only [hti]
      split at h
      · cases h
      · rename_i hag
        rw [if_neg hag]
        split at h
        · rename_i et hty
          split at h
          · rename_i ei hei
            split at h
            · rename_i kk i hix
              split at h
              · rename_i e xs hx
                split at h
                · rename_i he; injection h with h; subst h
                  simp only [hty, hei, hix, hx, if_pos he]; rfl
                · cases h
              · rename_i p hx
                split at h
                · rename_i te e xs hgl
                  split at h
                  · rename_i he; injection h with h; subst h
                    simp only [hty, hei, hix, hx, hgl, if_pos he]; rfl
                  · cases h
                · cases h
              · cases h
            · cases h
          · cases h
        · cases h
    · cases h
  case load t x =>
    simp only [opK0]
    split at h
    · rename_i ti hti
      try simp only [hti]
      split at h
      · rename_i b o hx
        split at h
        · rename_i hb; injection h with h; subst h; simp only [hx, if_pos hb]; rfl
        · cases h
      · rename_i p e i o' hx
        split at h
        · rename_i xs hr
          split at h
          · rename_i hb; injection h with h; subst h; simp only [hx, hr, if_pos hb]; rfl
          · cases h
        · cases h
      · rename_i t' y hx
        split at h
        · rename_i hb; injection h with h; subst h; simp only [hx, if_pos hb]; rfl
        · cases h
      · cases h
    · cases h
  case buildSlice t len parts =>
    simp only [opK0]
    split at h
    · rename_i ti hti
      try simp only [hti]
      split at h
      · rename_i ei hei
        try simp only [hei]
        split at h
        · cases h
        · rename_i hn
          have hp : parts.toList.all (fun q => (rd σ q.2).2.all notAl) = true := by
            cases hq : parts.toList.all (fun q => (rd σ q.2).2.all notAl) with
            | true => rfl
            | false => exact absurd (.inr (.inr (.inr hq))) hn
          rw [if_neg (fun z => hn (by rcases z with z | z | z; exact .inl z; exact .inr (.inl z); exact .inr (.inr (.inl z))))]
          split at h
          · rename_i xs hx; injection h with h; subst h
            simp only [hx, frParts_id _ _ _ hp]; rfl
          · cases h
      · cases h
    · cases h
  case makeSlice t l c =>
    simp only [opK0]
    split at h
    · rename_i ti hti
      try simp only [hti]
      split at h
      · cases h
      · rename_i hag
        rw [if_neg hag]
        split at h
        · rename_i et hty
          split at h
          · rename_i ei hei
            split at h
            · rename_i hl hc; injection h with h; subst h
              simp only [hty, hei, hl, hc]; rfl
            · cases h
          · cases h
        · cases h
    · cases h
  case call c =>
    simp only [opK0]
    split at h
    · rename_i hc
      try simp only [hc]
      split at h
      · rename_i x t ha ht
        try simp only [ha, ht]
        split at h
        · cases h
        · rename_i ti hti
          try simp only [hti]
          split at h
          · cases h
          · rename_i hag
            rw [if_neg hag]
            split at h
            · rename_i e hty
              split at h
              · rename_i e' xs hx; injection h with h; subst h; simp only [hty, hx]; rfl
              · cases h
            · cases h
      · cases h
    · rename_i hc
      try simp only [hc]
      split at h
      · rename_i x y t t' ha ht
        try simp only [ha, ht]
        split at h
        · rename_i ti hti
          try simp only [hti]
          split at h
          · rename_i ei hei
            try simp only [hei]
            split at h
            · rename_i hcnd
              rw [if_pos hcnd]
              split at h
              · rename_i ys hy
                try simp only [hy]
                split at h
                · rename_i p hx
                  try simp only [hx]
                  split at h
                  · cases h
                  · rename_i hal
                    rw [if_neg hal]
                    split at h
                    · rename_i te e xs hgl
                      try simp only [hgl]
                      split at h
                      · rename_i hte
                        rw [if_pos hte]
                        split at h
                        · rename_i he; injection h with h; subst h
                          simp only [dif_pos he]; rfl
                        · cases h
                      · cases h
                    · cases h
                · rename_i hx; injection h with h; subst h; simp only [hx]; rfl
                · cases h
              · cases h
            · cases h
          · cases h
        · cases h
      · cases h
    · rename_i x hc
      try simp only [hc]
      split at h
      · rename_i f hx
        try simp only [hx]
        split at h
        · cases h
        · rename_i F hF
          split at h
          · rename_i hcond
            obtain ⟨c1, c2, c3⟩ := hcond
            split at h
            · cases h
            · rename_i σ1 xs m hg
              split at h
              · cases h
              · rename_i σ2 bs htb
                injection h with h; subst h
                have c3' : (c.args.toList.map (rd σ)).all (fun a => a.2.all notAl) = true := by rw [List.all_map]; exact c3
                obtain ⟨q1, q2, q3⟩ := gather_id _ _ _ _ _ c1 c3' _ hg
                simp only at q1 q2
                subst q1
                obtain ⟨⟨ps, bs', rs⟩, Fn⟩ := F
                have hb : bs' = [] := by simpa using c2
                subst hb
                simp only [callK, List.map_nil, List.append_nil, hF, hg]
                simp only [takeBoxes, Option.some.injEq, Prod.mk.injEq] at htb
                obtain ⟨rfl, _⟩ := htb
                simp only [takeBoxes, putBoxes]
                have e7 : ∀ (y : BL (ps.flatMap PK.wk)) (pl : List (Option Pl)), putW m σ1 ps y pl σ1 = some σ1 := fun y pl => putW_isV m σ1 ps c1 y pl σ1
                cases hF2 : Fn xs () with
                | none =>
                  have hF3 : Fn xs bs = none := hF2
                  simp only [Mo.bind, hF3]; rfl
                | some r =>
                  have hF3 : Fn xs bs = some r := hF2
                  show (match putW m σ1 ps (splitB [] r.2).2 (wpl ps (c.args.toList.map (rd σ1))) σ1 with
                    | some σ3 => k (wr σ3 (some d) (outSlot rs r.1))
                    | none => none) = _
                  have e8 : putW m σ1 ps (splitB [] r.2).2 (wpl ps (c.args.toList.map (rd σ1))) σ1 = some σ1 := e7 _ _
                  rw [e8]
                  simp only [Mo.bind, hF3]
                  rfl
          · cases h
      · cases h
    · cases h
theorem opK_actO (ho : o.dst = some d) (h : actO T env d o.op σ = some Ac) : opK T env o σ k = Ac.mo.bind fun s => k (app Ac.tk Ac.d s σ) := by
  rw [opK_eq0 h]; exact opK0_actO ho h
theorem opS_mem {x : Operand} {e : Nat × Slot} (h : e ∈ opS σ x) : gs σ e.1 = e.2 := by
  cases x <;> simp only [opS, List.not_mem_nil] at h
  rename_i t
  split at h
  · cases h
  · rename_i s hs; rw [List.mem_singleton] at h; subst h; rfl
theorem opB_mem {x : Operand} {t : Nat} (h : t ∈ opB σ x) : (gs σ t).shp.isB = true := by
  cases x <;> simp only [opB, List.not_mem_nil] at h
  rename_i u
  split at h
  · rename_i ls hs; rw [List.mem_singleton] at h; subst h; rw [hs]; rfl
  · cases h
theorem opS_congr {x : Operand} (h : ∀ e ∈ opS σ x, gs σ' e.1 = e.2) (hb : ∀ t ∈ opB σ x, (gs σ' t).shp.isB = true) : rd σ' x = rd σ x ∧ rdS σ' x = rdS σ x ∧ opS σ' x = opS σ x ∧ opB σ' x = opB σ x := by
  cases x with
  | tmp t =>
    cases hs : gs σ t with
    | box ls =>
      have : (gs σ' t).shp.isB = true := hb t (by simp [opB, hs])
      cases hs' : gs σ' t with
      | box ls' => simp only [rd, rdS, opS, opB, hs, hs', and_self]
      | cs a l => rw [hs'] at this; cases this
      | tup k l => rw [hs'] at this; cases this
      | itr u i l => rw [hs'] at this; cases this
      | vb l => rw [hs'] at this; cases this
    | cs a l =>
      have : gs σ' t = gs σ t := by rw [h (t, .cs a l) (by simp [opS, hs]), hs]
      simp only [rd, rdS, opS, opB, this, and_self]
    | tup k l =>
      have : gs σ' t = gs σ t := by rw [h (t, .tup k l) (by simp [opS, hs]), hs]
      simp only [rd, rdS, opS, opB, this, and_self]
    | itr u i l =>
      have : gs σ' t = gs σ t := by rw [h (t, .itr u i l) (by simp [opS, hs]), hs]
      simp only [rd, rdS, opS, opB, this, and_self]
    | vb l =>
      have : gs σ' t = gs σ t := by rw [h (t, .vb l) (by simp [opS, hs]), hs]
      simp only [rd, rdS, opS, opB, this, and_self]
  | const v => exact ⟨rfl, rfl, rfl, rfl⟩
  | func f => exact ⟨rfl, rfl, rfl, rfl⟩
  | global g => exact ⟨rfl, rfl, rfl, rfl⟩
theorem rd1_congr {x : Operand} (h : ∀ e ∈ opS σ x, gs σ' e.1 = e.2) (hb : ∀ t ∈ opB σ x, (gs σ' t).shp.isB = true) : rd1 σ' x = rd1 σ x := by unfold rd1; rw [(opS_congr h hb).1]
theorem plP_congr {l : Leaf} (h : ∀ e ∈ plP σ l, gl σ' e.1 = e.2) : plP σ' l = plP σ l := by
  cases l <;> simp only [plP] at h ⊢
  rename_i p
  have : gl σ' p = gl σ p := h (p, gl σ p) (by simp)
  rw [this]
theorem rowOf_congr {e : Ty} {l : Leaf} (h : ∀ e ∈ plP σ l, gl σ' e.1 = e.2) : rowOf σ' e l = rowOf σ e l := by
  cases l with
  | al p =>
    have : gl σ' p = gl σ p := h (p, gl σ p) (by simp [plP])
    simp only [rowOf, this]
  | val t x => cases t <;> simp only [rowOf]
  | _ => simp only [rowOf]
theorem mem_opB_append {x : Operand} {L : List Nat} {P : Nat → Prop} (h : ∀ e ∈ opB σ x ++ L, P e) : (∀ e ∈ opB σ x, P e) ∧ ∀ e ∈ L, P e :=
  ⟨fun e he => h e (List.mem_append.2 (.inl he)), fun e he => h e (List.mem_append.2 (.inr he))⟩
theorem flat_opB {l : List Operand} {P : Nat → Prop} (h : ∀ e ∈ l.flatMap (opB σ), P e) : ∀ x ∈ l, ∀ e ∈ opB σ x, P e := fun x hx e he => h e (List.mem_flatMap.2 ⟨x, hx, he⟩)
theorem mem_opS_append {x : Operand} {L : List (Nat × Slot)} {P : Nat × Slot → Prop} (h : ∀ e ∈ opS σ x ++ L, P e) : (∀ e ∈ opS σ x, P e) ∧ ∀ e ∈ L, P e :=
  ⟨fun e he => h e (List.mem_append.2 (.inl he)), fun e he => h e (List.mem_append.2 (.inr he))⟩
theorem flat_opS {l : List Operand} {P : Nat × Slot → Prop} (h : ∀ e ∈ l.flatMap (opS σ), P e) : ∀ x ∈ l, ∀ e ∈ opS σ x, P e := fun x hx e he => h e (List.mem_flatMap.2 ⟨x, hx, he⟩)
theorem all_congr {α : Type} {f g : α → Bool} : ∀ {l : List α}, (∀ x ∈ l, f x = g x) → l.all f = l.all g
  | [], _ => rfl
  | x :: l, h => by rw [List.all_cons, List.all_cons, h x (by simp), all_congr (l := l) (fun y hy => h y (by simp [hy]))]
theorem boxP_congr {b o' n : Nat} (h : ∀ e ∈ boxP σ b o' n, gl σ' e.1 = e.2 ∧ e.2 ≠ .und) (hb : o' + n ≤ (gs σ b).leaves.length) (hn : 0 < n) :
    boxP σ' b o' n = boxP σ b o' n ∧ o' + n ≤ (gs σ' b).leaves.length ∧ view b o' (ltake n (ldrop o' (gs σ' b).leaves)) = view b o' (ltake n (ldrop o' (gs σ b).leaves)) := by
  have each : ∀ i, i < n → gl σ' ⟨b, o' + i⟩ = gl σ ⟨b, o' + i⟩ ∧ gl σ ⟨b, o' + i⟩ ≠ .und := fun i hi => h (⟨b, o' + i⟩, gl σ ⟨b, o' + i⟩) (List.mem_map.2 ⟨i, List.mem_range.2 hi, rfl⟩)
  have hl : o' + n ≤ (gs σ' b).leaves.length := by
    obtain ⟨q1, q2⟩ := each (n - 1) (by omega)
    have := (vp_of_ne (σ := σ') (p := ⟨b, o' + (n - 1)⟩) (by rw [q1]; exact q2)).2
    simp only at this
    omega
  refine ⟨?_, hl, ?_⟩
  · unfold boxP
    apply List.map_congr_left
    intro i hi
    rw [(each i (List.mem_range.1 hi)).1]
  · apply ls_ext
    · rw [length_view, length_view, length_ltake, length_ltake, length_ldrop, length_ldrop]; omega
    · intro i
      rw [lget_view, lget_view, lget_ltake, lget_ltake, lget_ldrop, lget_ldrop]
      by_cases hi : i < n
      · have := (each i hi).1
        unfold gl at this
        simp only at this
        rw [if_pos hi, if_pos hi, this]
      · rw [if_neg hi, if_neg hi]
/-- What is read is what is there; what is given up was owned. -/
theorem actO_reads (h : actO T env d o.op σ = some Ac) : Ac.d = d ∧ Reads Ac σ ∧ ∀ p, Ac.tk = some p → (gl σ p).isOwn = true := by
  have app2 : ∀ {x y : Operand} {e : Nat × Slot}, e ∈ opS σ x ++ opS σ y → gs σ e.1 = e.2 := fun he => by
    rcases List.mem_append.1 he with he | he <;> exact opS_mem he
  have appB : ∀ {x y : Operand} {t : Nat}, t ∈ opB σ x ++ opB σ y → (gs σ t).shp.isB = true := fun he => by
    rcases List.mem_append.1 he with he | he <;> exact opB_mem he
  have pl : ∀ {l : Leaf} {e : Pl × Leaf}, e ∈ plP σ l → gl σ e.1 = e.2 := fun {l e} he => by
    cases l <;> simp only [plP, List.mem_singleton, List.not_mem_nil] at he
    subst he; rfl
  have nop : ∀ p : Pl, (none : Option Pl) = some p → (gl σ p).isOwn = true := fun p hp => by cases hp
  have nil : ∀ e ∈ ([] : List (Pl × Leaf)), gl σ e.1 = e.2 := fun e he => by cases he
  generalize o.op = op at h
  cases op <;> simp only [actO] at h <;> try (cases h; done)
  case move x => injection h with h; subst h; exact ⟨rfl, ⟨fun e he => opS_mem he, nil, fun t ht => opB_mem ht⟩, nop⟩
  case fieldAddr t x i =>
    repeat' split at h
    all_goals first | (cases h; done) | (injection h with h; subst h; exact ⟨rfl, ⟨fun e he => opS_mem he, nil, fun t ht => opB_mem ht⟩, nop⟩)
  case indexAddr t x ix =>
    repeat' split at h
    all_goals first | (cases h; done) | (injection h with h; subst h; exact ⟨rfl, ⟨fun e he => app2 he, nil, fun t ht => appB ht⟩, nop⟩) | (injection h with h; subst h; exact ⟨rfl, ⟨fun e he => app2 he, fun e he => by simp only [List.mem_singleton] at he; subst he; rfl, fun t ht => by first | exact opB_mem ht | exact appB ht⟩, nop⟩)
  case load t x =>
    repeat' split at h
    all_goals first
      | (cases h; done)
      | (injection h with h; subst h; exact ⟨rfl, ⟨fun e he => opS_mem he, fun e he => by simp only [List.mem_singleton] at he; subst he; rfl, fun t ht => by first | exact opB_mem ht | exact appB ht⟩, nop⟩)
      | (injection h with h; subst h; exact ⟨rfl, ⟨fun e he => opS_mem he, nil, fun t ht => opB_mem ht⟩, nop⟩)
      | (injection h with h; subst h; refine ⟨rfl, ⟨fun e he => opS_mem he, fun e he => ?_, fun t ht => opB_mem ht⟩, nop⟩; obtain ⟨i, _, hi⟩ := List.mem_map.1 he; subst hi; rfl)
  case buildSlice t len parts =>
    repeat' split at h
    all_goals first | (cases h; done) | (injection h with h; subst h; refine ⟨rfl, ⟨fun e he => ?_, nil, fun t ht => ?_⟩, nop⟩; (obtain ⟨q, _, hq⟩ := List.mem_flatMap.1 he; exact opS_mem hq); (obtain ⟨q, _, hq⟩ := List.mem_flatMap.1 ht; exact opB_mem hq))
  case makeSlice t l c =>
    repeat' split at h
    all_goals first | (cases h; done) | (injection h with h; subst h; exact ⟨rfl, ⟨fun e he => app2 he, nil, fun t ht => appB ht⟩, nop⟩)
  case call c =>
    repeat' split at h
    all_goals first
      | (cases h; done)
      | (injection h with h; subst h; exact ⟨rfl, ⟨fun e he => opS_mem he, nil, fun t ht => opB_mem ht⟩, nop⟩)
      | (injection h with h; subst h; refine ⟨rfl, ⟨fun e he => app2 he, fun e he => pl he, fun t ht => appB ht⟩, nop⟩)
      | (injection h with h; subst h; rename_i hgl _ _; refine ⟨rfl, ⟨fun e he => app2 he, fun e he => ?_, fun t ht => appB ht⟩, fun p hp => ?_⟩
         · rcases List.mem_cons.1 he with rfl | he
           · rfl
           · exact pl he
         · injection hp with hp; subst hp; simp_all [Leaf.isOwn])
      | (injection h with h; subst h; refine ⟨rfl, ⟨fun e he => ?_, nil, fun t ht => ?_⟩, nop⟩
         · rcases List.mem_append.1 he with he | he
           · exact opS_mem he
           · obtain ⟨q, _, hq⟩ := List.mem_flatMap.1 he; exact opS_mem hq
         · rcases List.mem_append.1 ht with ht | ht
           · exact opB_mem ht
           · obtain ⟨q, _, hq⟩ := List.mem_flatMap.1 ht; exact opB_mem hq)
/-- What an operation does depends on what it reads. -/
theorem actO_congr (h : actO T env d o.op σ = some Ac) (hr : Reads Ac σ') (hu : ∀ e ∈ Ac.rp, e.2 ≠ .und) : actO T env d o.op σ' = some Ac := by
  obtain ⟨r1, r2, r3⟩ := hr
  generalize o.op = op at h
  cases op <;> simp only [actO] at h <;> try (cases h; done)
  case move x =>
    injection h with h; subst h
    obtain ⟨q1, q2, q3, q5⟩ := opS_congr (σ' := σ') r1 r3
    simp only [actO, q2, q3, q5]
  case fieldAddr t x i =>
    simp only [actO]
    repeat' split at h
    all_goals first
      | (cases h; done)
      | (injection h with h; subst h; obtain ⟨q1, q2, q3, q5⟩ := opS_congr (σ' := σ') r1 r3; have q4 := rd1_congr (σ' := σ') r1 r3; simp_all)
  case indexAddr t x ix =>
    simp only [actO]
    repeat' split at h
    all_goals first
      | (cases h; done)
      | (injection h with h; subst h; obtain ⟨m1, m2⟩ := mem_opS_append r1; obtain ⟨n1, n2⟩ := mem_opB_append r3
         obtain ⟨q1, q2, q3, q5⟩ := opS_congr (σ' := σ') m1 n1; have q4 := rd1_congr (σ' := σ') m1 n1
         obtain ⟨p1, p2, p3, p5⟩ := opS_congr (σ' := σ') m2 n2; have p4 := rd1_congr (σ' := σ') m2 n2; simp_all; done)
  case load t x =>
    simp only [actO]
    split at h
    · rename_i ti hti
      split at h
      · rename_i b o' hx
        split at h
        · rename_i hb; injection h with h; subst h
          obtain ⟨q1, q2, q3, q5⟩ := opS_congr (σ' := σ') r1 r3; have q4 := rd1_congr (σ' := σ') r1 r3
          obtain ⟨b1, b2, b3⟩ := boxP_congr (σ' := σ') (fun e he => ⟨r2 e he, hu e he⟩) hb (sz_pos _)
          simp only [q4, hx, if_pos b2, b1, b3, q3, q5]
        · cases h
      · rename_i p e i o' hx
        split at h
        · rename_i xs hr'
          split at h
          · rename_i hb; injection h with h; subst h
            obtain ⟨q1, q2, q3, q5⟩ := opS_congr (σ' := σ') r1 r3; have q4 := rd1_congr (σ' := σ') r1 r3
            have g1 : gl σ' p = gl σ p := r2 (p, gl σ p) (by simp)
            have g2 : rowOf σ' e (.al p) = rowOf σ e (.al p) := by simp only [rowOf, g1]
            simp only [q4, hx, g2, hr', if_pos hb, q3, q5, g1]
          · cases h
        · cases h
      · rename_i t' y hx
        split at h
        · rename_i hb; injection h with h; subst h
          obtain ⟨q1, q2, q3, q5⟩ := opS_congr (σ' := σ') r1 r3; have q4 := rd1_congr (σ' := σ') r1 r3
          simp only [q4, hx, if_pos hb, q3, q5]
        · cases h
      · cases h
    · cases h
  case buildSlice t len parts =>
    simp only [actO]
    split at h
    · rename_i ti hti
      split at h
      · rename_i ei hei
        split at h
        · cases h
        · rename_i hn
          have hp : parts.toList.all (fun q => (rd σ q.2).2.all notAl) = true := by
            cases hq : parts.toList.all (fun q => (rd σ q.2).2.all notAl) with
            | true => rfl
            | false => exact absurd (.inr (.inr (.inr hq))) hn
          split at h
          · rename_i xs hx; injection h with h; subst h
            have each : ∀ q ∈ parts.toList, ∀ e ∈ opS σ q.2, gs σ' e.1 = e.2 := fun q hq e he => r1 e (List.mem_flatMap.2 ⟨q, hq, he⟩)
            have eachB : ∀ q ∈ parts.toList, ∀ t ∈ opB σ q.2, (gs σ' t).shp.isB = true := fun q hq e he => r3 e (List.mem_flatMap.2 ⟨q, hq, he⟩)
            have e1 : parts.toList.all (fun q => (rd σ' q.2).2.all notAl) = parts.toList.all (fun q => (rd σ q.2).2.all notAl) := all_congr fun q hq => by rw [(opS_congr (each q hq) (eachB q hq)).1]
            have e2 := frParts_eq ei.agg parts.toList σ σ' hp (fun q hq => (opS_congr (each q hq) (eachB q hq)).1)
            have e3 : parts.toList.flatMap (fun q => opS σ' q.2) = parts.toList.flatMap (fun q => opS σ q.2) := by
              rw [List.flatMap_def, List.flatMap_def]
              congr 1
              exact List.map_congr_left fun q hq => (opS_congr (each q hq) (eachB q hq)).2.2.1
            have e4 : parts.toList.flatMap (fun q => opB σ' q.2) = parts.toList.flatMap (fun q => opB σ q.2) := by
              rw [List.flatMap_def, List.flatMap_def]
              congr 1
              exact List.map_congr_left fun q hq => (opS_congr (each q hq) (eachB q hq)).2.2.2
            rw [e1, if_neg hn, e2, hx, e3, e4]
          · cases h
      · cases h
    · cases h
  case makeSlice t l c =>
    simp only [actO]
    repeat' split at h
    all_goals first
      | (cases h; done)
      | (injection h with h; subst h; obtain ⟨m1, m2⟩ := mem_opS_append r1; obtain ⟨n1, n2⟩ := mem_opB_append r3
         obtain ⟨q1, q2, q3, q5⟩ := opS_congr (σ' := σ') m1 n1; have q4 := rd1_congr (σ' := σ') m1 n1
         obtain ⟨p1, p2, p3, p5⟩ := opS_congr (σ' := σ') m2 n2; have p4 := rd1_congr (σ' := σ') m2 n2; simp_all; done)
  case call c =>
    simp only [actO]
    split at h
    · rename_i hc
      repeat' split at h
      all_goals first
        | (cases h; done)
        | (injection h with h; subst h; obtain ⟨q1, q2, q3, q5⟩ := opS_congr (σ' := σ') r1 r3; have q4 := rd1_congr (σ' := σ') r1 r3; simp_all)
    · rename_i hc
      split at h
      · rename_i x y t t' ha ht
        split at h
        · rename_i ti hti
          split at h
          · rename_i ei hei
            split at h
            · rename_i hcnd
              split at h
              · rename_i ys hy
                split at h
                · rename_i p hx
                  split at h
                  · cases h
                  · rename_i hal
                    split at h
                    · rename_i te e xs hgl
                      split at h
                      · rename_i hte
                        split at h
                        · rename_i he; injection h with h; subst h
                          obtain ⟨m1, m2⟩ := mem_opS_append r1; obtain ⟨n1, n2⟩ := mem_opB_append r3
                          obtain ⟨q1, q2, q3, q5⟩ := opS_congr (σ' := σ') m1 n1; have q4 := rd1_congr (σ' := σ') m1 n1
                          obtain ⟨p1, p2, p3, p5⟩ := opS_congr (σ' := σ') m2 n2; have p4 := rd1_congr (σ' := σ') m2 n2
                          have g1 : gl σ' p = gl σ p := r2 (p, gl σ p) (by simp)
                          have g2 : ∀ e ∈ plP σ (rd1 σ y), gl σ' e.1 = e.2 := fun e he => r2 e (List.mem_cons_of_mem _ he)
                          rw [p4, rowOf_congr g2, hy]
                          simp only [q4, hx, if_neg hal, g1, hgl, if_pos hte, dif_pos he, q3, p3, q5, p5, plP_congr g2, if_pos hcnd]
                        · cases h
                      · cases h
                    · cases h
                · rename_i hx; injection h with h; subst h
                  obtain ⟨m1, m2⟩ := mem_opS_append r1; obtain ⟨n1, n2⟩ := mem_opB_append r3
                  obtain ⟨q1, q2, q3, q5⟩ := opS_congr (σ' := σ') m1 n1; have q4 := rd1_congr (σ' := σ') m1 n1
                  obtain ⟨p1, p2, p3, p5⟩ := opS_congr (σ' := σ') m2 n2; have p4 := rd1_congr (σ' := σ') m2 n2
                  have g2 : ∀ e ∈ plP σ (rd1 σ y), gl σ' e.1 = e.2 := fun e he => r2 e he
                  rw [p4, rowOf_congr g2, hy]
                  simp only [q4, hx, q3, p3, q5, p5, plP_congr g2, if_pos hcnd]
                · cases h
              · cases h
            · cases h
          · cases h
        · cases h
      · cases h
    · rename_i x hc
      split at h
      · rename_i f hx
        split at h
        · cases h
        · rename_i F hF
          split at h
          · rename_i hcond
            obtain ⟨c1, c2, c3⟩ := hcond
            split at h
            · cases h
            · rename_i σ1 xs m hg
              split at h
              · cases h
              · rename_i σ2 bs htb
                injection h with h; subst h
                obtain ⟨m1, m2⟩ := mem_opS_append r1; obtain ⟨n1, n2⟩ := mem_opB_append r3
                obtain ⟨q1, q2, q3, q5⟩ := opS_congr (σ' := σ') m1 n1; have q4 := rd1_congr (σ' := σ') m1 n1
                have each := flat_opS m2
                have eachB := flat_opB n2
                have ea : c.args.toList.map (rd σ') = c.args.toList.map (rd σ) := List.map_congr_left fun y hy => (opS_congr (each y hy) (eachB y hy)).1
                have e1 : c.args.toList.all (fun y => (rd σ' y).2.all notAl) = c.args.toList.all (fun y => (rd σ y).2.all notAl) := all_congr fun y hy => by rw [(opS_congr (each y hy) (eachB y hy)).1]
                have e3 : c.args.toList.flatMap (opS σ') = c.args.toList.flatMap (opS σ) := by
                  rw [List.flatMap_def, List.flatMap_def]
                  congr 1
                  exact List.map_congr_left fun y hy => (opS_congr (each y hy) (eachB y hy)).2.2.1
                have e4 : c.args.toList.flatMap (opB σ') = c.args.toList.flatMap (opB σ) := by
                  rw [List.flatMap_def, List.flatMap_def]
                  congr 1
                  exact List.map_congr_left fun y hy => (opS_congr (each y hy) (eachB y hy)).2.2.2
                have c3' : (c.args.toList.map (rd σ)).all (fun a => a.2.all notAl) = true := by rw [List.all_map]; exact c3
                obtain ⟨w1, w2, w3⟩ := gather_id _ _ _ _ _ c1 c3' _ hg
                simp only at w1 w2 w3
                subst w1 w2
                obtain ⟨⟨ps, bs', rs⟩, Fn⟩ := F
                have hb : bs' = [] := by simpa using c2
                subst hb
                simp only [takeBoxes, Option.some.injEq, Prod.mk.injEq] at htb
                simp only [q4, hx, ea, hF, if_pos (show ps.all isV = true ∧ ([] : List (List LK)).isEmpty = true ∧ c.args.toList.all (fun y => (rd σ' y).2.all notAl) = true from ⟨c1, rfl, by rw [e1]; exact c3⟩), w3 σ', takeBoxes, q3, e3, q5, e4]
          · cases h
      · cases h
    · cases h
/-- What `actH` tells of, `actO` does not. -/
theorem actH_none (h : actH T d o.op σ = some Ac) : actO T env d o.op σ = none := by
  generalize o.op = op at h ⊢
  cases op <;> simp only [actH] at h <;> try (cases h; done)
  case indexAddr t x ix =>
    simp only [actO]
    repeat' split at h
    all_goals first | (cases h; done) | skip
    simp_all
  case load t x =>
    simp only [actO]
    repeat' split at h
    all_goals first | (cases h; done) | skip
    all_goals simp_all [rowOf]
  case binOp => rfl
  case convert => rfl
  case call c =>
    simp only [actO]
    repeat' split at h
    all_goals first | (cases h; done) | skip
    all_goals simp_all
theorem opK_actH {s : Slot} (ho : o.dst = some d) (h : actH T d o.op σ = some Ac) (hm : Ac.m = some s) : opK T env o σ k = k (app Ac.tk Ac.d s σ) := by
  obtain ⟨dst, op, ty, pos, aft, gd⟩ := o
  simp only at ho h
  subst ho
  cases op <;> simp only [actH] at h <;> try (cases h; done)
  case indexAddr t x ix =>
    simp only [opK]
    split at h
    · rename_i ti hti
      split at h
      · rename_i hhot
        split at h
        · rename_i p hx
          split at h
          · rename_i te e xs j oq hg
            split at h
            · rename_i ei hei
              split at h
              · rename_i kk i hix
                split at h
                · rename_i hc
                  injection h with h; subst h
                  simp only [Actn.m, bits, Mo.opt] at hm
                  split at hm
                  · rename_i hb
                    injection hm with hm; subst hm
                    simp only [hti, hhot, hx, hg, hei, hix, if_pos hc, if_pos hb]; rfl
                  · cases hm
                · cases h
              · cases h
            · cases h
          · cases h
        · cases h
      · cases h
    · cases h
  case load t x =>
    simp only [opK]
    split at h
    · rename_i ti hti
      split at h
      · rename_i hhot
        split at h
        · rename_i p e' i f hx
          split at h
          · rename_i te e xs j oq hg
            split at h
            · rename_i hc
              simp only [hti, hhot, hx, hg, if_pos hc]
              split at h
              · rename_i q hq
                injection h with h; subst h
                simp only [Actn.m, bits, Mo.opt] at hm
                split at hm
                · rename_i hb
                  injection hm with hm; subst hm
                  simp only [decide_eq_true hb, bcond]; rfl
                · cases hm
              · cases h
              · injection h with h; subst h
                simp only [Actn.m, bits, Mo.opt] at hm
                split at hm
                · rename_i hb
                  injection hm with hm; subst hm
                  simp only [decide_eq_false hb, bcond]; rfl
                · cases hm
            · cases h
          · cases h
        · cases h
      · cases h
    · cases h
  case binOp op t x y f =>
    simp only [opK, opK0]
    split at h
    · rename_i kk a kk' b hx hy
      split at h
      · rename_i hk
        simp only [hx, hy, if_pos hk]
        split at h
        · cases h
        · cases h
        · rename_i hq hr
          split at h
          · rename_i l hl
            injection h with h; subst h
            injection hm with hm; subst hm
            have sh : ∀ (c : Prop) [Decidable c] (l1 : Leaf), (if c then none else some l1) = some l → (if c then none else k (wr σ (some d) (.cs false [l1]))) = k (wr σ (some d) (.cs false [l])) := by
              intro c _ l1 h1
              by_cases hc : c
              · rw [if_pos hc] at h1; cases h1
              · rw [if_neg hc] at h1 ⊢; injection h1 with h1; rw [h1]
            cases op <;> first | exact absurd rfl hq | exact absurd rfl hr | exact sh _ _ hl | (simp only [hl]; rfl)
          · cases h
      · cases h
    · cases h
  case convert ts td x =>
    simp only [opK, opK0]
    split at h
    · rename_i si ti kk a hsi hti hx
      split at h
      · rename_i k1 k2 e1 e2
        split at h
        · cases h
        · rename_i hc
          injection h with h; subst h
          injection hm with hm; subst hm
          simp only [hsi, hti, e1, e2, hx, if_neg hc]; rfl
      · cases h
    · cases h
  case call c =>
    split at h
    · rename_i hc
      split at h
      · rename_i x y ha
        split at h
        · rename_i kk a kk' b hx hy
          injection h with h; subst h
          injection hm with hm; subst hm
          simp only [opK, hc, opK0, ha, List.map_cons, List.map_nil, hx, hy]; rfl
        · cases h
      · cases h
    · cases h
theorem actH_reads (h : actH T d o.op σ = some Ac) : Ac.d = d ∧ Reads Ac σ ∧ ∀ p, Ac.tk = some p → (gl σ p).isOwn = true := by
  have app2 : ∀ {x y : Operand} {e : Nat × Slot}, e ∈ opS σ x ++ opS σ y → gs σ e.1 = e.2 := fun he => by
    rcases List.mem_append.1 he with he | he <;> exact opS_mem he
  have appB : ∀ {x y : Operand} {t : Nat}, t ∈ opB σ x ++ opB σ y → (gs σ t).shp.isB = true := fun he => by
    rcases List.mem_append.1 he with he | he <;> exact opB_mem he
  have nop : ∀ p : Pl, (none : Option Pl) = some p → (gl σ p).isOwn = true := fun p hp => by cases hp
  have nil : ∀ e ∈ ([] : List (Pl × Leaf)), gl σ e.1 = e.2 := fun e he => by cases he
  generalize o.op = op at h
  cases op <;> simp only [actH] at h <;> try (cases h; done)
  all_goals repeat' split at h
  all_goals first
    | (cases h; done)
    | (injection h with h; subst h; exact ⟨rfl, ⟨fun e he => app2 he, nil, fun t ht => appB ht⟩, nop⟩)
    | (injection h with h; subst h; exact ⟨rfl, ⟨fun e he => app2 he, fun e he => by simp only [List.mem_singleton] at he; subst he; rfl, fun t ht => appB ht⟩, nop⟩)
    | (injection h with h; subst h; exact ⟨rfl, ⟨fun e he => opS_mem he, nil, fun t ht => opB_mem ht⟩, nop⟩)
    | (injection h with h; subst h; exact ⟨rfl, ⟨fun e he => opS_mem he, fun e he => by simp only [List.mem_singleton] at he; subst he; rfl, fun t ht => opB_mem ht⟩, nop⟩)
theorem actH_congr (h : actH T d o.op σ = some Ac) (hr : Reads Ac σ') : actH T d o.op σ' = some Ac := by
  obtain ⟨r1, r2, r3⟩ := hr
  generalize o.op = op at h
  cases op <;> simp only [actH] at h <;> try (cases h; done)
  case indexAddr t x ix =>
    simp only [actH]
    split at h
    · rename_i ti hti
      split at h
      · rename_i hhot
        split at h
        · rename_i p hx
          split at h
          · rename_i te e xs j oq hg
            split at h
            · rename_i ei hei
              split at h
              · rename_i kk i hix
                split at h
                · rename_i hc
                  injection h with h; subst h
                  obtain ⟨m1, m2⟩ := mem_opS_append r1; obtain ⟨n1, n2⟩ := mem_opB_append r3
                  obtain ⟨q1, q2, q3, q5⟩ := opS_congr (σ' := σ') m1 n1; have q4 := rd1_congr (σ' := σ') m1 n1
                  obtain ⟨p1, p2, p3, p5⟩ := opS_congr (σ' := σ') m2 n2; have p4 := rd1_congr (σ' := σ') m2 n2
                  have g1 : gl σ' p = gl σ p := r2 (p, gl σ p) (by simp)
                  simp only [hti, hhot, q4, hx, g1, hg, hei, p4, hix, if_pos hc, q3, p3, q5, p5]
                · cases h
              · cases h
            · cases h
          · cases h
        · cases h
      · cases h
    · cases h
  case load t x =>
    simp only [actH]
    split at h
    · rename_i ti hti
      split at h
      · rename_i hhot
        split at h
        · rename_i p e' i f hx
          split at h
          · rename_i te e xs j oq hg
            split at h
            · rename_i hc
              split at h
              · rename_i q hq
                injection h with h; subst h
                obtain ⟨q1, q2, q3, q5⟩ := opS_congr (σ' := σ') r1 r3; have q4 := rd1_congr (σ' := σ') r1 r3
                have g1 : gl σ' p = gl σ p := r2 (p, gl σ p) (by simp)
                simp only [hti, hhot, q4, hx, g1, hg, if_pos hc, hq, q3, q5]
              · cases h
              · rename_i hq
                injection h with h; subst h
                obtain ⟨q1, q2, q3, q5⟩ := opS_congr (σ' := σ') r1 r3; have q4 := rd1_congr (σ' := σ') r1 r3
                have g1 : gl σ' p = gl σ p := r2 (p, gl σ p) (by simp)
                simp only [hti, hhot, q4, hx, g1, hg, if_pos hc, hq, q3, q5]
            · cases h
          · cases h
        · cases h
      · cases h
    · cases h
  case binOp op t x y f =>
    simp only [actH]
    split at h
    · rename_i kk a kk' b hx hy
      split at h
      · rename_i hk
        split at h
        · cases h
        · cases h
        · rename_i hq hr
          split at h
          · rename_i l hl
            injection h with h; subst h
            obtain ⟨m1, m2⟩ := mem_opS_append r1; obtain ⟨n1, n2⟩ := mem_opB_append r3
            obtain ⟨q1, q2, q3, q5⟩ := opS_congr (σ' := σ') m1 n1
            obtain ⟨p1, p2, p3, p5⟩ := opS_congr (σ' := σ') m2 n2
            simp only [q1, p1, hx, hy, if_pos hk]
            cases op <;> first | exact absurd rfl hq | exact absurd rfl hr | (simp only [hl, q3, p3, q5, p5])
          · cases h
      · cases h
    · cases h
  case convert ts td x =>
    simp only [actH]
    split at h
    · rename_i si ti kk a hsi hti hx
      split at h
      · rename_i k1 k2 e1 e2
        split at h
        · cases h
        · rename_i hc
          injection h with h; subst h
          obtain ⟨q1, q2, q3, q5⟩ := opS_congr (σ' := σ') r1 r3; have q4 := rd1_congr (σ' := σ') r1 r3
          simp only [hsi, hti, q4, hx, e1, e2, if_neg hc, q3, q5]
      · cases h
    · cases h
  case call c =>
    simp only [actH]
    split at h
    · rename_i hc
      split at h
      · rename_i x y ha
        split at h
        · rename_i kk a kk' b hx hy
          injection h with h; subst h
          obtain ⟨m1, m2⟩ := mem_opS_append r1; obtain ⟨n1, n2⟩ := mem_opB_append r3
          obtain ⟨q1, q2, q3, q5⟩ := opS_congr (σ' := σ') m1 n1; have q4 := rd1_congr (σ' := σ') m1 n1
          obtain ⟨p1, p2, p3, p5⟩ := opS_congr (σ' := σ') m2 n2; have p4 := rd1_congr (σ' := σ') m2 n2
          simp only [hc, ha, q4, p4, hx, hy, q3, p3, q5, p5]
        · cases h
      · cases h
    · cases h
theorem actX_cases (h : actX T env d o.op σ = some Ac) : actO T env d o.op σ = some Ac ∨ actH T d o.op σ = some Ac := by
  unfold actX at h
  split at h
  · rename_i A hA; injection h with h; subst h; exact .inl hA
  · exact .inr h
theorem actX_of (h : actO T env d o.op σ = some Ac ∨ actH T d o.op σ = some Ac) : actX T env d o.op σ = some Ac := by
  unfold actX
  rcases h with h | h
  · rw [h]
  · rw [actH_none h]; exact h
theorem opK_actX {s : Slot} (ho : o.dst = some d) (h : actX T env d o.op σ = some Ac) (hm : Ac.m = some s) : opK T env o σ k = k (app Ac.tk Ac.d s σ) := by
  rcases actX_cases h with h | h
  · rw [opK_actO ho h, Mo.bind_eq]
    show (Ac.m.bind _) = _
    rw [hm]; rfl
  · exact opK_actH ho h hm
theorem actX_reads (h : actX T env d o.op σ = some Ac) : Ac.d = d ∧ Reads Ac σ ∧ ∀ p, Ac.tk = some p → (gl σ p).isOwn = true := by
  rcases actX_cases h with h | h
  · exact actO_reads h
  · exact actH_reads h
theorem actX_congr (h : actX T env d o.op σ = some Ac) (hr : Reads Ac σ') (hu : ∀ e ∈ Ac.rp, e.2 ≠ .und) : actX T env d o.op σ' = some Ac := by
  rcases actX_cases h with h | h
  · exact actX_of (.inl (actO_congr h hr hu))
  · exact actX_of (.inr (actH_congr h hr))
variable {ops : List Oper}
theorem act_reads (h : act T env ops o σ = some Ac) : o.dst = some Ac.d ∧ Reads Ac σ ∧ ∀ p, Ac.tk = some p → (gl σ p).isOwn = true := by
  unfold act at h
  cases hd : o.dst with
  | none => rw [hd] at h; cases h
  | some d =>
  rw [hd] at h
  simp only at h
  have self : ∀ t : Nat, ∀ m : Mo, some (⟨none, d, [(t, gs σ t)], [], m, []⟩ : Actn) = some Ac → some d = some Ac.d ∧ Reads Ac σ ∧ ∀ p, Ac.tk = some p → (gl σ p).isOwn = true := by
    intro t m e
    injection e with e; subst e
    exact ⟨rfl, ⟨fun e he => by simp only [List.mem_singleton] at he; subst he; rfl, fun e he => (by cases he), fun t ht => (by cases ht)⟩, fun p hp => by cases hp⟩
  split at h
  · obtain ⟨q1, q2, q3⟩ := actX_reads h
    exact ⟨by rw [q1], q2, q3⟩
  · split at h
    · cases h
    · rename_i t ht
      split at h
      · exact self _ _ h
      · split at h
        · rw [Option.map_eq_some_iff] at h
          obtain ⟨B, hB, rfl⟩ := h
          obtain ⟨q1, q2, q3⟩ := actX_reads hB
          refine ⟨by rw [q1], ⟨fun e he => ?_, q2.rp, q2.rb⟩, q3⟩
          rcases List.mem_cons.1 he with rfl | he
          · rfl
          · exact q2.rs e he
        · exact self _ _ h
      · cases h
theorem act_congr (h : act T env ops o σ = some Ac) (hr : Reads Ac σ') (hu : ∀ e ∈ Ac.rp, e.2 ≠ .und) : act T env ops o σ' = some Ac := by
  unfold act at h ⊢
  split at h
  · cases h
  · rename_i d hd
    split at h
    · rename_i hg
      exact actX_congr h hr hu
    · rename_i j want hg
      split at h
      · cases h
      · rename_i t ht
        split at h
        · rename_i hgs
          injection h with h; subst h
          have : gs σ' t = gs σ t := hr.rs (t, gs σ t) (by simp)
          rw [this, hgs]
        · rename_i v hgs
          split at h
          · rename_i hv
            rw [Option.map_eq_some_iff] at h
            obtain ⟨B, hB, rfl⟩ := h
            have : gs σ' t = gs σ t := hr.rs (t, gs σ t) (by simp)
            rw [this, hgs]
            simp only [hv]
            rw [actX_congr hB ⟨fun e he => hr.rs e (List.mem_cons_of_mem _ he), hr.rp, hr.rb⟩ hu]
            rw [← hgs]; rfl
          · rename_i hv
            injection h with h; subst h
            have : gs σ' t = gs σ t := hr.rs (t, gs σ t) (by simp)
            rw [this, hgs]
            simp only [hv]
        · cases h
theorem regK_act {s : Slot} (h : act T env ops o σ = some Ac) (hm : Ac.m = some s) : regK T env ops [o] σ k = k (app Ac.tk Ac.d s σ) := by
  unfold act at h
  cases hd : o.dst with
  | none => rw [hd] at h; cases h
  | some d =>
  rw [hd] at h
  simp only at h
  simp only [regK]
  split at h
  · rename_i hg
    try simp only [hg]
    exact opK_actX hd h hm
  · rename_i j want hg
    try simp only [hg]
    split at h
    · cases h
    · rename_i t ht
      try simp only [ht]
      split at h
      · rename_i hgs
        injection h with h; subst h
        injection hm with hm; subst hm
        simp only [hgs, hd]; rfl
      · rename_i v hgs
        try simp only [hgs]
        have kid : know σ t v = σ := by
          unfold know
          rw [← hgs]
          exact ss_self σ t (by rw [hgs]; intro e; cases e)
        split at h
        · rename_i hv
          have e : v = want := by simpa using hv
          rw [Option.map_eq_some_iff] at h
          obtain ⟨B, hB, rfl⟩ := h
          simp only [hv, bcond]
          rw [← e, kid]
          exact opK_actX hd hB hm
        · rename_i hv
          have e : (!want) = v := by cases v <;> cases want <;> simp_all
          injection h with h; subst h
          injection hm with hm; subst hm
          simp only [hv, bcond, e, kid, hd]; rfl
      · cases h
abbrev Done := List (Nat × Actn × Slot)
def Chain (T : TypeId → Option TI) (env : Env) (ops : List Oper) : St → Done → Prop
  | _, [] => True
  | σ, (i, A, s) :: L => (∃ o, ops[i]? = some o ∧ act T env ops o σ = some A) ∧ A.m = some s ∧ (∀ e ∈ A.rp, e.2 ≠ .und) ∧ (∀ p, A.tk = some p → p.t ≠ A.d) ∧ Chain T env ops (app A.tk A.d s σ) L
def fin : Done → St → St
  | [], σ => σ
  | (i, A, s) :: L, σ => fin L (app A.tk A.d s σ)
theorem vp_own {p : Pl} (h : (gl σ p).isOwn = true) : Vp σ p := vp_of_ne (fun e => by rw [e] at h; cases h)
theorem Reads.eqv (h : Reads Ac σ) (he : Eqv σ σ') : Reads Ac σ' := ⟨fun e hm => by rw [← he.gs]; exact h.rs e hm, fun e hm => by rw [← he.gl]; exact h.rp e hm, fun t hm => by rw [← he.shp]; exact h.rb t hm⟩
/-- No action writes where it gives up; slots are there. -/
def Fit (n : Nat) (L : Done) : Prop := ∀ e ∈ L, e.2.1.d < n ∧ ∀ p, e.2.1.tk = some p → p.t ≠ e.2.1.d
theorem chain_eqv : ∀ (L : Done) {σ σ' : St}, Eqv σ σ' → Fit σ.length L → Chain T env ops σ L → Chain T env ops σ' L ∧ Eqv (fin L σ) (fin L σ')
  | [], σ, σ', he, hf, h => ⟨trivial, he⟩
  | (i, A, s) :: L, σ, σ', he, hf, ⟨⟨o, h1, h2⟩, h3, h4, h4', h5⟩ => by
    obtain ⟨r1, r2, r3⟩ := act_reads h2
    obtain ⟨f1, f2⟩ := hf (i, A, s) (by simp)
    have e2 := app_eqv (s := s) he (fun p hp => vp_own (r3 p hp)) f2 f1
    obtain ⟨c1, c2⟩ := chain_eqv L e2 (by rw [length_app]; exact fun e hm => hf e (by simp [hm])) h5
    exact ⟨⟨⟨o, h1, act_congr h2 (r2.eqv he) h4⟩, h3, h4, h4', c1⟩, c2⟩
theorem bubble (j : Nat) (A : Actn) (s : Slot) (L2 : Done) : ∀ (L1 : Done) {σ : St}, Chain T env ops σ (L1 ++ (j, A, s) :: L2) → (∀ e ∈ L1, Indep e.2.1 e.2.2 A s) → Fit σ.length (L1 ++ (j, A, s) :: L2) →
    (∃ o, ops[j]? = some o ∧ act T env ops o σ = some A) ∧ A.m = some s ∧ Chain T env ops (app A.tk A.d s σ) (L1 ++ L2) ∧ Eqv (fin (L1 ++ L2) (app A.tk A.d s σ)) (fin (L1 ++ (j, A, s) :: L2) σ)
  | [], σ, ⟨h1, h2, h3, h3', h4⟩, hi, hf => ⟨h1, h2, h4, Eqv.refl _⟩
  | (i, B, u) :: L1, σ, ⟨⟨o, h1, h2⟩, h3, h4, h4', h5⟩, hi, hf => by
    have hI := hi (i, B, u) (by simp)
    obtain ⟨r1, r2, r3⟩ := act_reads h2
    obtain ⟨f1, f2⟩ := hf (i, B, u) (by simp)
    have hfA := hf (j, A, s) (by simp)
    obtain ⟨⟨oj, b1, b2⟩, b3, b4, b5⟩ := bubble j A s L2 L1 h5 (fun e he => hi e (by simp [he])) (by rw [length_app]; exact fun e hm => hf e (List.mem_cons_of_mem _ hm))
    obtain ⟨s1, s2, s3⟩ := act_reads b2
    have hv1 : ∀ p, B.tk = some p → Vp σ p := fun p hp => vp_own (r3 p hp)
    have hundA : ∀ e ∈ A.rp, e.2 ≠ .und := fun e he hz => by have := ((noT_spec hI.n12).2.1 e he).2.2.2.2; rw [hz] at this; cases this
    have hrA : Reads A σ := reads_back hv1 f2 hI.n12 s2
    have hA : act T env ops oj σ = some A := act_congr b2 hrA hundA
    obtain ⟨t1, t2, t3⟩ := act_reads hA
    have hv2 : ∀ p, A.tk = some p → Vp σ p := fun p hp => vp_own (t3 p hp)
    have hB : act T env ops o (app A.tk A.d s σ) = some B := act_congr h2 (reads_fwd hv2 hfA.2 hI.n21 r2) h4
    have sw := swap hI hv1 hv2 f1 hfA.1
    have hfit : Fit (app A.tk A.d s (app B.tk B.d u σ)).length (L1 ++ L2) := by
      rw [length_app, length_app]
      intro e he
      refine hf e ?_
      rcases List.mem_append.1 he with he | he
      · simp [he]
      · simp [he]
    obtain ⟨c1, c2⟩ := chain_eqv (L1 ++ L2) sw hfit b4
    exact ⟨⟨oj, b1, hA⟩, b3, ⟨⟨o, h1, hB⟩, h3, h4, h4', c1⟩, c2.symm.trans b5⟩
end
end
end Go.Ev
