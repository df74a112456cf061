/- Writing slots, boxes and rows keeps the relation. -/
import Derived.Test.YtphlkpahfcainaaEvKeep
namespace Go.Ev
set_option linter.unusedVariables false
set_option linter.unusedSimpArgs false

/-! ### A slot is written -/

/-- A new slot's shape fits a value whose cells are `cs`; a box lies in block `nb`. -/
def VR (w : World) (nb : Nat) (cs : List Value) (v : Value) : Shp → Prop
  | .cs false n => n = 1 ∧ cs = [v]
  | .cs true n => n = cs.length ∧ v = .agg cs.toArray
  | .box n => n = cs.length ∧ v = .pointer (some ⟨nb, 0, none⟩) ∧ ∃ te, w.heap[nb]? = some (.cells cs.toArray te (0, 0))
  | .tup ks n => n = cs.length ∧ ∃ vs, v = .tuple vs.toArray ∧ tupR ks vs cs

/-- The blocks that a new slot owns: its box's, its leaves'. -/
def nob (s : Slot) (nb : Nat) (cs : List Value) : Option Nat → Option Nat
  | none => if s.shp.isBox then some nb else none
  | some i => if (lget s.leaves i).isOwn then (cs.getD i undef).ownBlock else none

def wrG (g : Gh) (d : Nat) (cs : List Value) (nb : Nat) : Gh :=
  { g with c := fun p => if p.t = d then cs.getD p.i undef else g.c p, blk := fun t => if t = d then nb else g.blk t }

theorem owns_of_leaf {s : Slot} {i : Nat} (h : (lget s.leaves i).isOwn = true) : s.owns = true := by
  have hi : i < s.leaves.length := by
    apply Nat.lt_of_not_le; intro hn; rw [lget_of_le hn] at h; cases h
  have hm : lget s.leaves i ∈ s.leaves := by
    rw [lget_eq_getElem?, List.getElem?_eq_getElem hi]; exact List.getElem_mem hi
  cases s with
  | box ls => rfl
  | cs a ls => exact List.any_eq_true.2 ⟨_, hm, h⟩
  | tup ks ls => exact List.any_eq_true.2 ⟨_, hm, h⟩
theorem owns_of_box {s : Slot} (h : s.shp.isBox = true) : s.owns = true := by
  cases s <;> simp_all [Slot.shp, Shp.isBox, Slot.owns]

/-- Where slot `d` owns nothing, nothing leads to it. -/
theorem LR_noref {σ : St} {w : World} {g : Gh} {d : Nat} (hd : (gs σ d).owns = false) {l : Leaf} {v : Value} (h : LR σ w g l v) : killL d l = l := by
  have h1 : ∀ q : Pl, (gl σ q).isOwn = true → q.t ≠ d := fun q hq e => by
    subst e; rw [owns_of_leaf hq] at hd; cases hd
  have h2 : ∀ b, isBox σ b → b ≠ d := fun b hb e => by
    subst e; rw [owns_of_box hb] at hd; cases hd
  cases l with
  | al q => simp [killL, h1 q h.2]
  | ptr b o => simp [killL, h2 b h.2]
  | ept q e i o =>
    obtain ⟨⟨te, xs, hx, _⟩, _⟩ := h
    simp [killL, h1 q (by rw [hx]; rfl)]
  | clo f bs =>
    have : bs.contains d = false := by
      cases hc : bs.contains d with
      | false => rfl
      | true =>
        have hm : d ∈ bs := by simpa using hc
        exact absurd rfl (h2 d (h.2 d hm))
    simp [killL, this]
    intro hm
    exact absurd rfl (h2 d (h.2 d hm))
  | _ => rfl

theorem kill_gl {X : Ctx} {σ : St} {a : Act} {w : World} {g : Gh} (h : Rel X σ a w g) (d : Nat) (p : Pl) : gl (kill σ d) p = killL d (gl σ p) := by
  unfold kill
  split
  · rw [gl_mapL _ rfl]
  · rename_i hd
    exact (LR_noref (by simpa using hd) (h.lf p)).symm
theorem kill_shp (σ : St) (d t : Nat) : (gs (kill σ d) t).shp = (gs σ t).shp := by
  unfold kill
  split
  · rw [shp_mapL _ rfl]
  · rfl
@[simp] theorem length_kill (σ : St) (d : Nat) : (kill σ d).length = σ.length := by
  unfold kill; split <;> simp
theorem isOwn_killL (d : Nat) (l : Leaf) : (killL d l).isOwn = l.isOwn := by
  cases l with
  | al r => by_cases h : r.t = d <;> simp [killL, h, Leaf.isOwn]
  | ept r e i o => by_cases h : r.t = d <;> simp [killL, h, Leaf.isOwn]
  | ptr b o => by_cases h : b = d <;> simp [killL, h, Leaf.isOwn]
  | clo f bs => by_cases h : d ∈ bs <;> simp [killL, h, Leaf.isOwn]
  | _ => rfl

theorem getD_set_self (t : Array Value) (d : Nat) (v : Value) (h : d < t.size) : (t.setIfInBounds d v).getD d undef = v := by simp [Array.getD, h]
theorem getD_set_ne (t : Array Value) (d u : Nat) (v : Value) (h : u ≠ d) : (t.setIfInBounds d v).getD u undef = t.getD u undef := by
  simp only [Array.getD_eq_getD_getElem?, Array.getElem?_setIfInBounds]
  rw [if_neg (Ne.symm h)]

theorem cellsL_wrG_ne (g : Gh) (d t n : Nat) (cs : List Value) (nb : Nat) (h : t ≠ d) : cellsL (wrG g d cs nb) t n = cellsL g t n := by
  simp [cellsL, wrG, h]
theorem cellsL_wrG_self (g : Gh) (d : Nat) (cs : List Value) (nb : Nat) : cellsL (wrG g d cs nb) d cs.length = cs := by
  apply List.ext_getElem?
  intro i
  simp only [cellsL, wrG, List.getElem?_map]
  by_cases hi : i < cs.length
  · simp [hi, List.getD_eq_getElem?_getD]
  · simp [hi]

theorem Rel.wr {X : Ctx} {σ : St} {a : Act} {w : World} {g : Gh} (h : Rel X σ a w g) {d : Nat} (hd : d < X.N) (hN : X.N ≤ σ.length) {s : Slot} {cs : List Value} {v : Value} {nb : Nat}
    (hlen : cs.length = s.leaves.length) (hv : VR w nb cs v s.shp) (hlf : ∀ i, LR σ w g (lget s.leaves i) (cs.getD i undef))
    (hn1 : ∀ o1 o2 b, nob s nb cs o1 = some b → nob s nb cs o2 = some b → o1 = o2)
    (hn2 : ∀ o b, nob s nb cs o = some b → ¬ g.S b ∧ b < w.heap.size ∧ (X.w0.heap.size ≤ b ∨ X.M b) ∧ ∀ o', ob σ g o' ≠ some b) :
    Rel X (wr σ (some d) s) (a.put (some d) v) w (wrG g d cs nb) := by
  have hdl : d < σ.length := by omega
  have hgs : ∀ t, gs (Ev.wr σ (some d) s) t = if d = t then s.with (s.leaves.map (killL d)) else gs (kill σ d) t := by
    intro t
    simp only [Ev.wr, gs_ss, length_kill]
    by_cases e : d = t
    · subst e; simp [hdl]
    · simp [e]
  have hshp : ∀ t, (gs (Ev.wr σ (some d) s) t).shp = if d = t then s.shp else (gs σ t).shp := by
    intro t
    rw [hgs t]
    split
    · rw [shp_with]; simp
    · exact kill_shp σ d t
  have hgl : ∀ p, gl (Ev.wr σ (some d) s) p = killL d (if p.t = d then lget s.leaves p.i else gl σ p) := by
    intro p
    unfold gl
    rw [hgs p.t]
    by_cases e : d = p.t
    · rw [if_pos e, if_pos e.symm, leaves_with, lget_map _ rfl]
    · rw [if_neg e, if_neg (Ne.symm e)]
      exact kill_gl h d p
  have hbox : ∀ b, b ≠ d → (isBox (Ev.wr σ (some d) s) b ↔ isBox σ b) := fun b hb => by
    unfold isBox; rw [hshp b, if_neg (Ne.symm hb)]
  have hown : ∀ q : Pl, q.t ≠ d → (gl σ q).isOwn = true → (gl (Ev.wr σ (some d) s) q).isOwn = true := fun q hq ho => by
    rw [hgl q, if_neg hq, isOwn_killL]; exact ho
  have hLR : ∀ l v, LR σ w g l v → LR (Ev.wr σ (some d) s) w (wrG g d cs nb) (killL d l) v := by
    intro l v hl
    cases l with
    | al q =>
      by_cases e : q.t = d
      · simp [killL, e, LR]
      · simp only [killL, e, if_false]
        exact ⟨by simp [wrG, e]; exact hl.1, hown q e hl.2⟩
    | ptr b o =>
      by_cases e : b = d
      · simp [killL, e, LR]
      · simp only [killL, e, if_false]
        exact ⟨by simp [wrG, e]; exact hl.1, (hbox b e).2 hl.2⟩
    | ept q e' i o =>
      by_cases e : q.t = d
      · simp [killL, e, LR]
      · simp only [killL, e, if_false]
        obtain ⟨⟨te, xs, h1, h2⟩, h3⟩ := hl
        exact ⟨⟨te, xs, by rw [hgl q, if_neg e, h1]; rfl, h2⟩, by simpa [wrG, e] using h3⟩
    | clo f bs =>
      by_cases e : bs.contains d = true
      · simp only [killL, e, if_true]; trivial
      · have hm : ∀ b ∈ bs, b ≠ d := fun b hb e2 => by subst e2; exact e (by simpa using hb)
        simp only [killL, e]
        refine ⟨?_, fun b hb => (hbox b (hm b hb)).2 (hl.2 b hb)⟩
        rw [hl.1]
        congr 2
        apply List.map_congr_left
        intro b hb
        simp [wrG, hm b hb]
    | val t x => exact hl
    | own te e xs => exact hl
    | nils => exact hl
    | vpt t x => exact hl
    | cst u => exact hl
    | no => exact hl
    | und => trivial
  have hob : ∀ o b, ob (Ev.wr σ (some d) s) (wrG g d cs nb) o = some b →
      (ob σ g o = some b ∧ (match o with | .inl t => t ≠ d | .inr p => p.t ≠ d)) ∨ (∃ k, nob s nb cs k = some b ∧ o = (match k with | none => .inl d | some i => .inr ⟨d, i⟩)) := by
    intro o b hb
    cases o with
    | inl t =>
      simp only [ob, hshp t] at hb
      by_cases e : d = t
      · subst e
        rw [if_pos rfl] at hb
        refine .inr ⟨none, ?_, rfl⟩
        simpa [nob, wrG] using hb
      · rw [if_neg e] at hb
        refine .inl ⟨?_, Ne.symm e⟩
        simpa [ob, wrG, Ne.symm e] using hb
    | inr p =>
      simp only [ob, hgl p, isOwn_killL] at hb
      by_cases e : p.t = d
      · rw [if_pos e] at hb
        refine .inr ⟨some p.i, ?_, by simp [← e]⟩
        simpa [nob, wrG, e] using hb
      · rw [if_neg e] at hb
        refine .inl ⟨?_, e⟩
        simpa [ob, wrG, e] using hb
  refine { h with
    size := by simp [Act.put, h.size]
    defers := h.defers
    bx := fun t ht => by
      have : t ≠ d := by omega
      simpa [wrG, this] using h.bx t ht
    sh := fun t ht => ?_
    lf := fun p => ?_
    inj := fun o1 o2 b h1 h2 => ?_
    fr := fun o b hb => ?_ }
  · rw [hshp t]
    have ht' : t < σ.length := by simpa [Ev.wr] using ht
    by_cases e : d = t
    · subst e
      rw [if_pos rfl]
      have hsz : d < a.tmps.size := by rw [h.size]; exact hd
      have hself : (a.put (some d) v).tmps.getD d undef = v := getD_set_self _ _ _ hsz
      revert hv
      cases hsx : s.shp with
      | cs ag n =>
        cases ag with
        | false => rintro ⟨h1, h2⟩; refine ⟨h1, ?_⟩; rw [hself]; simp [wrG, h2]
        | true => rintro ⟨h1, h2⟩; show _ = _; rw [hself, h2, h1, cellsL_wrG_self]
      | box n =>
        rintro ⟨h1, h2, te, h3⟩
        refine ⟨fun _ => ?_, te, ?_⟩
        · rw [hself, h2]; simp [wrG]
        · rw [h1, cellsL_wrG_self]; simpa [wrG] using h3
      | tup ks n =>
        rintro ⟨h1, vs, h2, h3⟩
        refine ⟨vs, ?_, ?_⟩
        · rw [hself, h2]
        · rw [h1, cellsL_wrG_self]; exact h3
    · rw [if_neg e]
      have e' : t ≠ d := Ne.symm e
      have := h.sh t ht'
      have hgt : (a.put (some d) v).tmps.getD t undef = a.tmps.getD t undef := getD_set_ne _ _ _ _ e'
      revert this
      cases (gs σ t).shp with
      | cs ag n =>
        cases ag with
        | false => rintro ⟨h1, h2⟩; refine ⟨h1, ?_⟩; rw [hgt, h2]; simp [wrG, e']
        | true => intro h1; show _ = _; rw [hgt, cellsL_wrG_ne _ _ _ _ _ _ e']; exact h1
      | box n =>
        rintro ⟨h1, h2⟩
        refine ⟨fun hx => ?_, ?_⟩
        · rw [hgt, h1 hx]; simp [wrG, e']
        · rw [cellsL_wrG_ne _ _ _ _ _ _ e']; simpa [wrG, e'] using h2
      | tup ks n =>
        rintro ⟨vs, h1, h2⟩
        exact ⟨vs, by rw [hgt]; exact h1, by rw [cellsL_wrG_ne _ _ _ _ _ _ e']; exact h2⟩
  · rw [hgl p]
    by_cases e : p.t = d
    · rw [if_pos e]
      have := hLR _ _ (hlf p.i)
      simpa [wrG, e] using this
    · rw [if_neg e]
      have := hLR _ _ (h.lf p)
      simpa [wrG, e] using this
  · rcases hob _ _ h1 with ⟨a1, c1⟩ | ⟨k1, a1, c1⟩ <;> rcases hob _ _ h2 with ⟨a2, c2⟩ | ⟨k2, a2, c2⟩
    · exact h.inj _ _ b a1 a2
    · exact absurd a1 ((hn2 k2 b a2).2.2.2 o1)
    · exact absurd a2 ((hn2 k1 b a1).2.2.2 o2)
    · rw [c1, c2, hn1 k1 k2 b a1 a2]
  · rcases hob _ _ hb with ⟨a1, c1⟩ | ⟨k1, a1, c1⟩
    · exact h.fr o b a1
    · obtain ⟨f1, f2, f3, _⟩ := hn2 k1 b a1
      exact ⟨f1, f2, f3⟩

/-- A slot that owns nothing new. -/
theorem Rel.wrPlain {X : Ctx} {σ : St} {a : Act} {w : World} {g : Gh} (h : Rel X σ a w g) {d : Nat} (hd : d < X.N) (hN : X.N ≤ σ.length) {s : Slot} {cs : List Value} {v : Value}
    (hlen : cs.length = s.leaves.length) (hv : VR w 0 cs v s.shp) (hb : s.shp.isBox = false) (hlf : ∀ i, LR σ w g (lget s.leaves i) (cs.getD i undef)) (ho : ∀ i, (lget s.leaves i).isOwn = false) :
    Rel X (Ev.wr σ (some d) s) (a.put (some d) v) w (wrG g d cs 0) := by
  have hn : ∀ o, nob s 0 cs o = none := by
    intro o
    cases o with
    | none => simp [nob, hb]
    | some i => simp [nob, ho i]
  exact h.wr hd hN hlen hv hlf (fun o1 o2 b h1 _ => by rw [hn o1] at h1; cases h1) (fun o b hb => by rw [hn o] at hb; cases hb)

/-- One leaf. -/
theorem Rel.wr1 {X : Ctx} {σ : St} {a : Act} {w : World} {g : Gh} (h : Rel X σ a w g) {d : Nat} (hd : d < X.N) (hN : X.N ≤ σ.length) {l : Leaf} {v : Value}
    (hl : LR σ w g l v) (ho : l.isOwn = false) : ∃ g', Rel X (Ev.wr σ (some d) (.cs false [l])) (a.put (some d) v) w g' ∧ g'.S = g.S :=
  ⟨_, h.wrPlain hd hN (cs := [v]) rfl ⟨rfl, rfl⟩ rfl (fun i => by
    cases i with
    | zero => exact hl
    | succ i => trivial) (fun i => by
    cases i with
    | zero => exact ho
    | succ i => rfl), rfl⟩

/-- A row of its own, in a block that nobody has. -/
theorem Rel.wrOwn {X : Ctx} {σ : St} {a : Act} {w : World} {g : Gh} (h : Rel X σ a w g) {d : Nat} (hd : d < X.N) (hN : X.N ≤ σ.length) {te : TypeId} {e : Ty} {xs : List e.den} {v : Value}
    (hl : ownR w g.S te e xs v) (hn : ∀ b, v.ownBlock = some b → ¬ g.S b ∧ (X.w0.heap.size ≤ b ∨ X.M b) ∧ ∀ o', ob σ g o' ≠ some b) :
    ∃ g', Rel X (Ev.wr σ (some d) (.cs false [.own te e xs])) (a.put (some d) v) w g' ∧ g'.S = g.S :=
  ⟨_, h.wr hd hN (cs := [v]) (nb := 0) rfl ⟨rfl, rfl⟩ (fun i => by
    cases i with
    | zero => exact hl
    | succ i => trivial) (fun o1 o2 b h1 h2 => by
    have key : ∀ o, nob (.cs false [.own te e xs]) 0 [v] o = some b → o = some 0 := by
      intro o ho
      cases o with
      | none => simp [nob, Slot.shp, Shp.isBox] at ho
      | some i => cases i with
        | zero => rfl
        | succ i => simp [nob, Slot.leaves, lget, Leaf.isOwn] at ho
    rw [key o1 h1, key o2 h2]) (fun o b hb => by
    cases o with
    | none => simp [nob, Slot.shp, Shp.isBox] at hb
    | some i => cases i with
      | zero =>
        have hb' : v.ownBlock = some b := by simpa [nob, Slot.leaves, lget, Leaf.isOwn] using hb
        obtain ⟨h1, h2, h3⟩ := hn b hb'
        exact ⟨h1, ownR_lt hl hb', h2, h3⟩
      | succ i => simp [nob, Slot.leaves, lget, Leaf.isOwn] at hb), rfl⟩

end Go.Ev
