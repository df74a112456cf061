/- The relation between the evaluator's slots and the machine's frame and memory, and what steps keep it. -/
import Derived.Test.YtphlkpahfcainaaEv
import Derived.Laws.OwnMore
import Derived.Laws.Entries
import Derived.Below
namespace Go.Ev
set_option linter.unusedVariables false
set_option linter.unusedSimpArgs false

/-! ### Lists of slots and leaves -/

theorem lget_of_le : ∀ {ls : List Leaf} {i : Nat}, ls.length ≤ i → lget ls i = .und
  | [], _, _ => rfl
  | _ :: ls, 0, h => by simp at h
  | _ :: ls, i + 1, h => lget_of_le (ls := ls) (i := i) (by simpa using h)

theorem lget_map (f : Leaf → Leaf) (hf : f .und = .und) : ∀ (ls : List Leaf) (i : Nat), lget (ls.map f) i = f (lget ls i)
  | [], _ => hf.symm
  | _ :: ls, 0 => rfl
  | _ :: ls, i + 1 => lget_map f hf ls i

theorem lget_lset : ∀ (ls : List Leaf) (i j : Nat) (x : Leaf), lget (lset ls i x) j = if i = j ∧ j < ls.length then x else lget ls j
  | [], i, j, x => by simp [lset, lget]
  | _ :: ls, 0, 0, x => by simp [lset, lget]
  | _ :: ls, 0, j + 1, x => by simp [lset, lget]
  | _ :: ls, i + 1, 0, x => by simp [lset, lget]
  | _ :: ls, i + 1, j + 1, x => by simp [lset, lget, lget_lset ls i j x]

@[simp] theorem length_lset : ∀ (ls : List Leaf) (i : Nat) (x : Leaf), (lset ls i x).length = ls.length
  | [], _, _ => rfl
  | _ :: ls, 0, _ => rfl
  | _ :: ls, i + 1, x => by simp [lset, length_lset ls i x]

theorem lget_eq_getElem? : ∀ (ls : List Leaf) (i : Nat), lget ls i = (ls[i]?).getD .und
  | [], _ => by simp [lget]
  | _ :: ls, 0 => by simp [lget]
  | _ :: ls, i + 1 => by simp [lget, lget_eq_getElem? ls i]

theorem gs_ss : ∀ (σ : St) (t u : Nat) (s : Slot), gs (ss σ t s) u = if t = u ∧ u < σ.length then s else gs σ u
  | [], t, u, s => by simp [ss, gs]
  | _ :: σ, 0, 0, s => by simp [ss, gs]
  | _ :: σ, 0, u + 1, s => by simp [ss, gs]
  | _ :: σ, t + 1, 0, s => by simp [ss, gs]
  | _ :: σ, t + 1, u + 1, s => by simp [ss, gs, gs_ss σ t u s]

@[simp] theorem length_ss : ∀ (σ : St) (t : Nat) (s : Slot), (ss σ t s).length = σ.length
  | [], _, _ => rfl
  | _ :: σ, 0, _ => rfl
  | _ :: σ, t + 1, s => by simp [ss, length_ss σ t s]

theorem gs_of_le : ∀ {σ : St} {t : Nat}, σ.length ≤ t → gs σ t = nones
  | [], _, _ => rfl
  | _ :: σ, 0, h => by simp at h
  | _ :: σ, t + 1, h => gs_of_le (σ := σ) (t := t) (by simpa using h)

@[simp] theorem leaves_with (s : Slot) (ls : List Leaf) : (s.with ls).leaves = ls := by cases s <;> rfl

theorem gs_mapL (f : Leaf → Leaf) (hf : f .und = .und) : ∀ (σ : St) (t : Nat), gs (mapL f σ) t = (gs σ t).with ((gs σ t).leaves.map f)
  | [], _ => by simp [mapL, gs, nones, Slot.with, Slot.leaves, hf]
  | _ :: σ, 0 => rfl
  | _ :: σ, t + 1 => gs_mapL f hf σ t

@[simp] theorem length_mapL (f : Leaf → Leaf) : ∀ (σ : St), (mapL f σ).length = σ.length
  | [] => rfl
  | _ :: σ => by simp [mapL, length_mapL f σ]

@[simp] theorem length_sl (σ : St) (p : Pl) (l : Leaf) : (sl σ p l).length = σ.length := by simp [sl]

theorem gl_mapL (f : Leaf → Leaf) (hf : f .und = .und) (σ : St) (p : Pl) : gl (mapL f σ) p = f (gl σ p) := by
  simp [gl, gs_mapL f hf, lget_map f hf]

/-- There is such a leaf. -/
def Vp (σ : St) (p : Pl) : Prop := p.t < σ.length ∧ p.i < (gs σ p.t).leaves.length

theorem vp_of_ne {σ : St} {p : Pl} (h : gl σ p ≠ .und) : Vp σ p := by
  constructor
  · apply Nat.lt_of_not_le
    intro hn
    apply h
    unfold gl
    rw [gs_of_le hn]
    cases hp : p.i <;> simp [nones, Slot.leaves, lget]
  · apply Nat.lt_of_not_le
    intro hn
    exact h (lget_of_le hn)

theorem gl_sl {σ : St} {p : Pl} (q : Pl) (l : Leaf) (h : Vp σ p) : gl (sl σ p l) q = if p = q then l else gl σ q := by
  obtain ⟨t, i⟩ := p
  obtain ⟨u, j⟩ := q
  obtain ⟨h1, h2⟩ := h
  simp only [gl, sl, gs_ss, Pl.mk.injEq] at *
  by_cases h : t = u
  · subst h
    simp only [h1, and_self, if_true, leaves_with, lget_lset, true_and]
    by_cases hj : i = j
    · subst hj; simp [h2]
    · simp [hj]
  · simp [h]

theorem gs_sl (σ : St) (p : Pl) (l : Leaf) (t : Nat) : gs (sl σ p l) t = if p.t = t ∧ t < σ.length then (gs σ t).with (lset (gs σ t).leaves p.i l) else gs σ t := by
  simp only [sl, gs_ss]
  split
  · rename_i h; rw [h.1]
  · rfl

/-! ### Shapes -/

/-- A slot without what its leaves are. -/
inductive Shp where
  | cs (agg : Bool) (n : Nat)
  | box (n : Nat)
  | tup (ks : List (Bool × Nat)) (n : Nat)
  deriving DecidableEq
def Slot.shp : Slot → Shp
  | .cs a ls => .cs a ls.length
  | .box ls => .box ls.length
  | .tup ks ls => .tup ks ls.length
theorem shp_with (s : Slot) (ls : List Leaf) (h : ls.length = s.leaves.length) : (s.with ls).shp = s.shp := by
  cases s <;> simp_all [Slot.with, Slot.shp, Slot.leaves]
theorem shp_mapL (f : Leaf → Leaf) (hf : f .und = .und) (σ : St) (t : Nat) : (gs (mapL f σ) t).shp = (gs σ t).shp := by
  rw [gs_mapL f hf, shp_with]; simp
theorem shp_sl (σ : St) (p : Pl) (l : Leaf) (t : Nat) : (gs (sl σ p l) t).shp = (gs σ t).shp := by
  rw [gs_sl]; split
  · rw [shp_with]; simp
  · rfl
def Shp.isBox : Shp → Bool
  | .box _ => true
  | _ => false
def Shp.len : Shp → Nat
  | .cs _ n => n
  | .box n => n
  | .tup _ n => n
theorem leaves_len (s : Slot) : s.leaves.length = s.shp.len := by cases s <;> rfl

/-! ### Plain values in memory -/

/-- The cells of a plain value; what it leads to lies in blocks of `S`. -/
def rel (w : World) (S : Nat → Prop) : (t : Ty) → t.den → List Value → Prop
  | .int k, x, cs => cs = [.int k x]
  | .bool, b, cs => cs = [.bool b]
  | .str, l, cs => cs = [.string ⟨l.toArray⟩]
  | .pair a b, x, cs => ∃ c1 c2, cs = c1 ++ c2 ∧ rel w S a x.1 c1 ∧ rel w S b x.2 c2
  | .list e, xs, cs => ∃ A cap, cs = [.slice A (List.length xs) cap] ∧ List.length xs ≤ cap ∧ (xs = [] ∨ ∃ b o, A = some ⟨b, o, none⟩ ∧ S b ∧
      ∀ (i : Nat) (x : e.den), xs[i]? = some x → ∃ c, rel w S e x c ∧ ∀ j u, c[j]? = some u → w.cell? ⟨b, o + (i * e.sz + j), none⟩ = some u)

theorem rel_len {w : World} {S : Nat → Prop} : ∀ {t : Ty} {x : t.den} {cs : List Value}, rel w S t x cs → cs.length = t.sz
  | .int _, _, _, h => by simp only [rel] at h; subst h; rfl
  | .bool, _, _, h => by simp only [rel] at h; subst h; rfl
  | .str, _, _, h => by simp only [rel] at h; subst h; rfl
  | .pair a b, x, _, h => by
    simp only [rel] at h
    obtain ⟨c1, c2, rfl, h1, h2⟩ := h
    simp [Ty.sz, rel_len h1, rel_len h2]
  | .list e, _, _, h => by
    simp only [rel] at h
    obtain ⟨A, cap, rfl, _⟩ := h
    rfl

theorem rel_one {w : World} {S : Nat → Prop} : ∀ {t : Ty} {x : t.den} {cs : List Value}, rel w S t x cs → ∀ u ∈ cs, u.oneCell' = true
  | .int _, _, _, h => by simp only [rel] at h; subst h; simp [Value.oneCell']
  | .bool, _, _, h => by simp only [rel] at h; subst h; simp [Value.oneCell']
  | .str, _, _, h => by simp only [rel] at h; subst h; simp [Value.oneCell']
  | .pair a b, x, _, h => by
    simp only [rel] at h
    obtain ⟨c1, c2, rfl, h1, h2⟩ := h
    intro u hu
    rcases List.mem_append.1 hu with hu | hu
    · exact rel_one h1 u hu
    · exact rel_one h2 u hu
  | .list e, _, _, h => by
    simp only [rel] at h
    obtain ⟨A, cap, rfl, _⟩ := h
    simp [Value.oneCell']

/-- The world changes outside of `S`, and `S` grows. -/
theorem rel_mono {w w' : World} {S S' : Nat → Prop} (hS : ∀ b, S b → S' b) (hw : ∀ b, S b → w'.heap[b]? = w.heap[b]?) :
    ∀ {t : Ty} {x : t.den} {cs : List Value}, rel w S t x cs → rel w' S' t x cs
  | .int _, _, _, h => h
  | .bool, _, _, h => h
  | .str, _, _, h => h
  | .pair a b, x, _, h => by
    simp only [rel] at h ⊢
    obtain ⟨c1, c2, e, h1, h2⟩ := h
    exact ⟨c1, c2, e, rel_mono hS hw h1, rel_mono hS hw h2⟩
  | .list e, _, _, h => by
    simp only [rel] at h ⊢
    obtain ⟨A, cap, e1, e2, h3⟩ := h
    refine ⟨A, cap, e1, e2, ?_⟩
    rcases h3 with h3 | ⟨b, o, hA, hb, h4⟩
    · exact .inl h3
    · refine .inr ⟨b, o, hA, hS b hb, fun i x hx => ?_⟩
      obtain ⟨c, hc, hcell⟩ := h4 i x hx
      refine ⟨c, rel_mono hS hw hc, fun j u hu => ?_⟩
      rw [← hcell j u hu]
      exact World.cell?_of_block (hw b hb)

/-- The cells of a row's elements. -/
def rows (w : World) (S : Nat → Prop) (e : Ty) : List e.den → List Value → Prop
  | [], vs => vs = []
  | x :: xs, vs => ∃ c r, vs = c ++ r ∧ rel w S e x c ∧ rows w S e xs r

theorem rows_len {w : World} {S : Nat → Prop} {e : Ty} : ∀ {xs : List e.den} {vs : List Value}, rows w S e xs vs → vs.length = xs.length * e.sz
  | [], vs, h => by simp only [rows] at h; subst h; simp
  | x :: xs, vs, h => by
    simp only [rows] at h
    obtain ⟨c, r, rfl, h1, h2⟩ := h
    rw [List.length_append, rel_len h1, rows_len h2, List.length_cons, Nat.add_mul]
    omega

theorem rows_one {w : World} {S : Nat → Prop} {e : Ty} : ∀ {xs : List e.den} {vs : List Value}, rows w S e xs vs → ∀ u ∈ vs, u.oneCell' = true
  | [], vs, h => by simp only [rows] at h; subst h; simp
  | x :: xs, vs, h => by
    simp only [rows] at h
    obtain ⟨c, r, rfl, h1, h2⟩ := h
    intro u hu
    rcases List.mem_append.1 hu with hu | hu
    · exact rel_one h1 u hu
    · exact rows_one h2 u hu

theorem rows_mono {w w' : World} {S S' : Nat → Prop} (hS : ∀ b, S b → S' b) (hw : ∀ b, S b → w'.heap[b]? = w.heap[b]?) {e : Ty} :
    ∀ {xs : List e.den} {vs : List Value}, rows w S e xs vs → rows w' S' e xs vs
  | [], vs, h => h
  | x :: xs, vs, h => by
    simp only [rows] at h ⊢
    obtain ⟨c, r, e1, h1, h2⟩ := h
    exact ⟨c, r, e1, rel_mono hS hw h1, rows_mono hS hw h2⟩

theorem rows_append {w : World} {S : Nat → Prop} {e : Ty} : ∀ {xs ys : List e.den} {vs us : List Value}, rows w S e xs vs → rows w S e ys us → rows w S e (xs ++ ys) (vs ++ us)
  | [], ys, vs, us, h, h' => by simp only [rows] at h; subst h; simpa using h'
  | x :: xs, ys, vs, us, h, h' => by
    simp only [rows] at h
    obtain ⟨c, r, rfl, h1, h2⟩ := h
    simp only [List.cons_append, rows]
    exact ⟨c, r ++ us, by simp, h1, rows_append h2 h'⟩

/-- Element `i` of a row. -/
theorem rows_get {w : World} {S : Nat → Prop} {e : Ty} : ∀ {xs : List e.den} {vs : List Value}, rows w S e xs vs → ∀ (i : Nat) (x : e.den), xs[i]? = some x →
    ∃ c, rel w S e x c ∧ (∀ j u, c[j]? = some u → vs[i * e.sz + j]? = some u)
  | [], _, _, i, x, hx => by simp at hx
  | y :: xs, vs, h, 0, x, hx => by
    simp only [rows] at h
    obtain ⟨c, r, rfl, h1, h2⟩ := h
    simp at hx
    subst hx
    refine ⟨c, h1, fun j u hu => ?_⟩
    have hj := (List.getElem?_eq_some_iff.1 hu).1
    rw [Nat.zero_mul, Nat.zero_add, List.getElem?_append_left hj]
    exact hu
  | y :: xs, vs, h, i + 1, x, hx => by
    simp only [rows] at h
    obtain ⟨c, r, rfl, h1, h2⟩ := h
    simp at hx
    obtain ⟨d, hd, hcell⟩ := rows_get h2 i x hx
    refine ⟨d, hd, fun j u hu => ?_⟩
    rw [List.getElem?_append_right (by rw [rel_len h1, Nat.add_mul]; omega), rel_len h1, show (i + 1) * e.sz + j - e.sz = i * e.sz + j from by rw [Nat.add_mul]; omega]
    exact hcell j u hu

theorem rows_set {w : World} {S : Nat → Prop} {e : Ty} : ∀ {xs : List e.den} {vs : List Value}, rows w S e xs vs → ∀ (i : Nat) (x : e.den) (c : List Value), i < xs.length → rel w S e x c →
    rows w S e (xs.set i x) (vs.take (i * e.sz) ++ c ++ vs.drop (i * e.sz + e.sz))
  | [], _, _, i, x, c, hi, _ => by simp at hi
  | y :: xs, vs, h, 0, x, c, _, hc => by
    simp only [rows] at h
    obtain ⟨d, r, rfl, h1, h2⟩ := h
    simp only [List.set_cons_zero, rows]
    refine ⟨c, r, ?_, hc, h2⟩
    simp [← rel_len h1]
  | y :: xs, vs, h, i + 1, x, c, hi, hc => by
    simp only [rows] at h
    obtain ⟨d, r, rfl, h1, h2⟩ := h
    simp only [List.set_cons_succ, rows]
    refine ⟨d, _, ?_, h1, rows_set h2 i x c (by simpa using hi) hc⟩
    have hd := rel_len h1
    rw [show (i + 1) * e.sz = e.sz + i * e.sz from by rw [Nat.add_mul]; omega, ← hd]
    simp [List.take_append, List.drop_append, Nat.add_assoc]
    rw [List.take_of_length_le (by omega), List.drop_eq_nil_of_le (by omega)]
    simp

/-- A row that is owned. -/
def ownR (w : World) (S : Nat → Prop) (te : TypeId) (e : Ty) (xs : List e.den) (v : Value) : Prop :=
  ∃ vs, rows w S e xs vs ∧ w.ownsRow 0 te e.sz v xs.length vs

theorem ownR_mono {w w' : World} {S S' : Nat → Prop} (hS : ∀ b, S b → S' b) (hw : ∀ b, S b → w'.heap[b]? = w.heap[b]?) {te : TypeId} {e : Ty} {xs : List e.den} {v : Value}
    (hb : ∀ b, v.ownBlock = some b → w'.heap[b]? = w.heap[b]?) (h : ownR w S te e xs v) : ownR w' S' te e xs v := by
  obtain ⟨vs, hr, ho, hc⟩ := h
  refine ⟨vs, rows_mono hS hw hr, ho, ?_⟩
  rcases hc with h | ⟨g, cap, cur, rfl, h0, hg, rest⟩
  · exact .inl h
  · exact .inr ⟨g, cap, cur, rfl, h0, by rw [hb g (by simp [Value.ownBlock])]; exact hg, rest⟩

theorem ownR_nil (w : World) (S : Nat → Prop) (te : TypeId) (e : Ty) : ownR w S te e [] (.slice none 0 0) := ⟨[], rfl, by simp, .inl ⟨rfl, rfl⟩⟩

theorem ownR_lt {w : World} {S : Nat → Prop} {te : TypeId} {e : Ty} {xs : List e.den} {v : Value} (h : ownR w S te e xs v) {b : Nat} (hb : v.ownBlock = some b) : b < w.heap.size := by
  obtain ⟨vs, hr, ho⟩ := h
  exact (ho.lt b hb).2

/-- The form of an owned row's value. -/
theorem ownR_form {w : World} {S : Nat → Prop} {te : TypeId} {e : Ty} {xs : List e.den} {v : Value} (h : ownR w S te e xs v) :
    (v = .slice none 0 0 ∧ xs = []) ∨ ∃ g cap cur, v = .slice (some ⟨g, 0, none⟩) xs.length cap ∧ w.heap[g]? = some (.cells cur te (0, 0)) ∧ xs.length ≤ cap ∧ cap ≤ maxLen ∧ cur.size = cap * e.sz ∧
      rows w S e xs (cur.toList.take (xs.length * e.sz)) := by
  obtain ⟨vs, hr, ho, hc⟩ := h
  rcases hc with ⟨h1, h2⟩ | ⟨g, cap, cur, rfl, _, hg, h1, h2, h3, h4⟩
  · exact .inl ⟨h1, List.eq_nil_of_length_eq_zero h2⟩
  · exact .inr ⟨g, cap, cur, rfl, hg, h1, h2, h3, by rw [h4]; exact hr⟩

/-- An owned row is read as a plain list. -/
theorem rel_of_ownR {w : World} {S : Nat → Prop} {te : TypeId} {e : Ty} {xs : List e.den} {v : Value} (h : ownR w S te e xs v) {S' : Nat → Prop} (hS : ∀ b, S b → S' b) (hb : ∀ b, v.ownBlock = some b → S' b) :
    rel w S' (.list e) xs [v] := by
  simp only [rel]
  rcases ownR_form h with ⟨rfl, rfl⟩ | ⟨g, cap, cur, rfl, hg, h1, h2, h3, hr⟩
  · exact ⟨none, 0, rfl, Nat.le_refl _, .inl rfl⟩
  · refine ⟨_, cap, rfl, h1, .inr ⟨g, 0, rfl, hb g (by simp [Value.ownBlock]), fun i x hx => ?_⟩⟩
    obtain ⟨c, hc, hcell⟩ := rows_get hr i x hx
    refine ⟨c, rel_mono hS (fun _ _ => rfl) hc, fun j u hu => ?_⟩
    have := hcell j u hu
    rw [List.getElem?_take] at this
    split at this
    · rw [Nat.zero_add, cell_of_row w g _ cur te (0, 0) hg]
      simpa using this
    · cases this

/-! ### The relation -/

/-- What is told beside the slots: the blocks that are read only; each leaf's value; the block of a slot's box. -/
structure Gh where
  S : Nat → Prop
  c : Pl → Value
  blk : Nat → Nat

/-- What stays the same as a function runs. -/
structure Ctx where
  w0 : World
  S0 : Nat → Prop
  M : Nat → Prop
  N : Nat
  bk : Nat → Nat

def isBox (σ : St) (t : Nat) : Prop := (gs σ t).shp.isBox = true

/-- A leaf tells this value. -/
def LR (σ : St) (w : World) (g : Gh) : Leaf → Value → Prop
  | .val t x, v => rel w g.S t x [v]
  | .own te e xs, v => ownR w g.S te e xs v
  | .al q, v => v = g.c q ∧ (gl σ q).isOwn = true
  | .nils, v => v = .slice none 0 0
  | .ptr b o, v => v = .pointer (some ⟨g.blk b, o, none⟩) ∧ isBox σ b
  | .ept q e i o, v => (∃ te xs, gl σ q = .own te e xs ∧ 0 ≤ i ∧ i < (xs.length : Int)) ∧ ∃ gb n cap, g.c q = .slice (some ⟨gb, 0, none⟩) n cap ∧ v = .pointer (some ⟨gb, i.toNat * e.sz + o, none⟩)
  | .vpt t x, v => ∃ b o cs, v = .pointer (some ⟨b, o, none⟩) ∧ g.S b ∧ rel w g.S t x cs ∧ ∀ j u, cs[j]? = some u → w.cell? ⟨b, o + j, none⟩ = some u
  | .clo f bs, v => v = .func (.func f) #[] (bs.map fun b => .pointer (some ⟨g.blk b, 0, none⟩)).toArray ∧ ∀ b ∈ bs, isBox σ b
  | .cst u, v => v = u ∧ u.oneCell' = true
  | .no, v => v = undef
  | .und, _ => True

def cellsL (g : Gh) (t n : Nat) : List Value := (List.range n).map fun i => g.c ⟨t, i⟩

def tupR : List (Bool × Nat) → List Value → List Value → Prop
  | [], vs, cs => vs = [] ∧ cs = []
  | (a, n) :: ks, vs, cs => ∃ v vs' c cs', vs = v :: vs' ∧ cs = c ++ cs' ∧ c.length = n ∧ (a = true ∧ v = .agg c.toArray ∨ a = false ∧ c = [v]) ∧ tupR ks vs' cs'

/-- A slot's shape fits the machine's slot (and the memory of its box). -/
def SR (N : Nat) (w : World) (a : Array Value) (g : Gh) (t : Nat) : Shp → Prop
  | .cs false n => n = 1 ∧ a.getD t undef = g.c ⟨t, 0⟩
  | .cs true n => a.getD t undef = .agg (cellsL g t n).toArray
  | .box n => (t < N → a.getD t undef = .pointer (some ⟨g.blk t, 0, none⟩)) ∧ ∃ te, w.heap[g.blk t]? = some (.cells (cellsL g t n).toArray te (0, 0))
  | .tup ks n => ∃ vs, a.getD t undef = .tuple vs.toArray ∧ tupR ks vs (cellsL g t n)

/-- The block that is owned by a box, or by a leaf. -/
def ob (σ : St) (g : Gh) : Nat ⊕ Pl → Option Nat
  | .inl t => if (gs σ t).shp.isBox then some (g.blk t) else none
  | .inr p => if (gl σ p).isOwn then (g.c p).ownBlock else none

structure Rel (X : Ctx) (σ : St) (a : Act) (w : World) (g : Gh) : Prop where
  size : a.tmps.size = X.N
  defers : a.defers = []
  sh : ∀ t, t < σ.length → SR X.N w a.tmps g t (gs σ t).shp
  lf : ∀ p, LR σ w g (gl σ p) (g.c p)
  inj : ∀ o1 o2 b, ob σ g o1 = some b → ob σ g o2 = some b → o1 = o2
  fr : ∀ o b, ob σ g o = some b → ¬ g.S b ∧ b < w.heap.size ∧ (X.w0.heap.size ≤ b ∨ X.M b)
  sb : ∀ b, g.S b → b < w.heap.size ∧ (X.S0 b ∨ X.M b ∨ X.w0.heap.size ≤ b)
  s0 : ∀ b, X.S0 b → g.S b
  bx : ∀ t, X.N ≤ t → g.blk t = X.bk t
  os : w.os = X.w0.os
  tape : w.tape = X.w0.tape
  output : w.output = X.w0.output
  grow : X.w0.heap.size ≤ w.heap.size
  frame : ∀ b, b < X.w0.heap.size → ¬ X.M b → w.heap[b]? = X.w0.heap[b]?

/-! ### Leaves grow weaker -/

theorem isOwn_iff {l : Leaf} : l.isOwn = true ↔ ∃ te e xs, l = .own te e xs := by
  cases l <;> simp [Leaf.isOwn]

/-- The same shapes; each leaf tells its value still; nothing is owned that wasn't. -/
theorem Rel.weak {X : Ctx} {σ σ' : St} {a : Act} {w : World} {g : Gh} (h : Rel X σ a w g) (hl : σ'.length = σ.length) (hs : ∀ t, (gs σ' t).shp = (gs σ t).shp)
    (hlf : ∀ p, LR σ' w g (gl σ' p) (g.c p)) (ho : ∀ p, (gl σ' p).isOwn = true → (gl σ p).isOwn = true) : Rel X σ' a w g := by
  have hob : ∀ o b, ob σ' g o = some b → ob σ g o = some b := by
    intro o b hb
    cases o with
    | inl t => simpa [ob, hs t] using hb
    | inr p =>
      simp only [ob] at hb ⊢
      split at hb
      · rename_i h1; rw [if_pos (ho p h1)]; exact hb
      · cases hb
  exact { h with
    sh := fun t ht => by rw [hs t]; exact h.sh t (by omega)
    lf := hlf
    inj := fun o1 o2 b h1 h2 => h.inj o1 o2 b (hob _ _ h1) (hob _ _ h2)
    fr := fun o b hb => h.fr o b (hob _ _ hb) }

theorem isBox_mapL {f : Leaf → Leaf} (hf : f .und = .und) {σ : St} {b : Nat} : isBox (mapL f σ) b ↔ isBox σ b := by
  unfold isBox; rw [shp_mapL f hf]
theorem isBox_sl {σ : St} {p : Pl} {l : Leaf} {b : Nat} : isBox (sl σ p l) b ↔ isBox σ b := by
  unfold isBox; rw [shp_sl]

/-- What leads to slot `d` is gone. -/
theorem LR_kill {σ : St} {w : World} {g : Gh} {d : Nat} {l : Leaf} {v : Value} (h : LR σ w g l v) : LR (mapL (killL d) σ) w g (killL d l) v := by
  have e : ∀ q, gl (mapL (killL d) σ) q = killL d (gl σ q) := gl_mapL (killL d) rfl σ
  have own : ∀ q, (gl σ q).isOwn = true → (gl (mapL (killL d) σ) q).isOwn = true := fun q hq => by
    rw [e q]; obtain ⟨te, e', xs, hx⟩ := isOwn_iff.1 hq; rw [hx]; rfl
  cases l with
  | al q =>
    simp only [killL]
    split
    · trivial
    · exact ⟨h.1, own q h.2⟩
  | ptr b o =>
    simp only [killL]
    split
    · trivial
    · exact ⟨h.1, (isBox_mapL rfl).2 h.2⟩
  | ept q e' i o =>
    simp only [killL]
    split
    · trivial
    · obtain ⟨⟨te, xs, h1, h2⟩, h3⟩ := h
      exact ⟨⟨te, xs, by rw [e q, h1]; rfl, h2⟩, h3⟩
  | clo f bs =>
    simp only [killL]
    split
    · trivial
    · exact ⟨h.1, fun b hb => (isBox_mapL rfl).2 (h.2 b hb)⟩
  | _ => exact h

theorem killL_own {d : Nat} {l : Leaf} (h : (killL d l).isOwn = true) : l.isOwn = true := by
  cases l <;> simp_all [killL] <;> split at h <;> simp_all [Leaf.isOwn]

theorem Rel.killAll {X : Ctx} {σ : St} {a : Act} {w : World} {g : Gh} (h : Rel X σ a w g) (d : Nat) : Rel X (mapL (killL d) σ) a w g :=
  h.weak (by simp) (shp_mapL _ rfl σ) (fun p => by rw [gl_mapL _ rfl]; exact LR_kill (h.lf p)) (fun p hp => by rw [gl_mapL _ rfl] at hp; exact killL_own hp)

end Go.Ev
