
import Derived.Test.YtpmeeopafdgbpaaDoorPHul
import Derived.Test.YtpmeeopafdgbpaaDoorPGrd
import Derived.Test.YtpmeeopafdgbpaaDoorPLex
namespace Go.Ev.Doc
open Go.Ev Go.Ev.Axis Go.Ev.Hul Go.Ev.Lex
set_option linter.unusedVariables false
set_option linter.unusedSimpArgs false
set_option maxRecDepth 100000
/-- The size behind a change that can be missing; does it fit? -/
def szG (n : Int) (a : Axis.Steps) : Int × Bool := if a = [] then (n, true) else (sumA a, decide (sumB a = n))
/-- A row behind a change that can be missing (-1: it is gone). -/
def mvG (a : Axis.Steps) (p : Int) : Int := if a = [] then p else Axis.pl p 0 0 a
/-- A range behind a change that can be missing. -/
def hlG (a : Axis.Steps) (p q : Int) : Int × Int := if a = [] then (p, q) else Axis.hull a p q
/-- A change that is missing, or is valid, leads from a size to another one. -/
structure AxOk (a : Axis.Steps) (n m : Int) : Prop where
  ok : (a = [] ∧ m = n) ∨ (a ≠ [] ∧ Axis.E a = 0 ∧ sumB a = n ∧ sumA a = m)
  n0 : 0 ≤ n
  n1 : n ≤ 2147483647
theorem AxOk.m {a : Axis.Steps} {n m : Int} (h : AxOk a n m) : 0 ≤ m ∧ m ≤ 2147483647 := by
  rcases h.ok with ⟨h1, h2⟩ | ⟨h1, h2, h3, h4⟩
  · rw [h2]; exact ⟨h.n0, h.n1⟩
  · obtain ⟨g, _, hA⟩ := Axis.E_good h2
    have := Axis.sum_pos g
    rw [← h4]; exact ⟨this.2.1, hA⟩
theorem mv_lt {a : Axis.Steps} {n m : Int} (h : AxOk a n m) {p : Int} (p0 : 0 ≤ p) (p1 : p < n) (hm : 0 ≤ mvG a p) : mvG a p < m := by
  unfold mvG at *
  rcases h.ok with ⟨h1, h2⟩ | ⟨h1, h2, h3, h4⟩
  · rw [if_pos h1]; omega
  · rw [if_neg h1] at hm ⊢
    have := pl_lt p a (Axis.E_good h2).1 0 0 p0 (Int.le_refl _) hm
    omega
theorem mv_mono {a : Axis.Steps} {n m : Int} (h : AxOk a n m) {p q : Int} (p0 : 0 ≤ p) (hpq : p < q) (h1 : 0 ≤ mvG a p) (h2 : 0 ≤ mvG a q) : mvG a p < mvG a q := by
  unfold mvG at *
  rcases h.ok with ⟨e1, e2⟩ | ⟨e1, e2, e3, e4⟩
  · rw [if_pos e1, if_pos e1]; omega
  · rw [if_neg e1] at h1 h2 ⊢
    rw [if_neg e1]
    exact pl_mono p q hpq a (Axis.E_good e2).1 0 0 p0 (Int.le_refl _) h1 h2
theorem hl_spec {a : Axis.Steps} {n m : Int} (h : AxOk a n m) {p q : Int} (p0 : 0 ≤ p) (hpq : p < q) : hlG a p q = (0, 0) ∨ ∃ x0 x1, p ≤ x0 ∧ x0 ≤ x1 ∧ x1 < q ∧ 0 ≤ mvG a x0 ∧ 0 ≤ mvG a x1 ∧ (hlG a p q).1 = mvG a x0 ∧ (hlG a p q).2 = mvG a x1 + 1 ∧ mvG a x0 ≤ mvG a x1 := by
  unfold hlG mvG
  rcases h.ok with ⟨e1, e2⟩ | ⟨e1, e2, e3, e4⟩
  · simp only [if_pos e1]
    exact .inr ⟨p, q - 1, by omega, by omega, by omega, by omega, by omega, rfl, by omega, by omega⟩
  · simp only [if_neg e1]
    exact hull_spec a (Axis.E_good e2).1 p q p0 (by omega)
/-- A range stays in the new size. -/
theorem hl_in {a : Axis.Steps} {n m : Int} (h : AxOk a n m) {p q : Int} (p0 : 0 ≤ p) (hpq : p < q) (hq : q ≤ n) : 0 ≤ (hlG a p q).1 ∧ (hlG a p q).1 ≤ (hlG a p q).2 ∧ (hlG a p q).2 ≤ m := by
  rcases hl_spec h p0 hpq with e | ⟨x0, x1, h1, h2, h3, h4, h5, h6, h7, h8⟩
  · rw [e]; have := h.m; exact ⟨Int.le_refl _, Int.le_refl _, this.1⟩
  · have := mv_lt h (p := x1) (by omega) (by omega) h5
    omega
/-- Ranges apart stay apart. -/
theorem hl_apart {a : Axis.Steps} {n m : Int} (h : AxOk a n m) {p q p' q' : Int} (p0 : 0 ≤ p) (h1 : p < q) (h2 : q ≤ p') (h3 : p' < q') (f1 : (hlG a p q).1 < (hlG a p q).2) (f2 : (hlG a p' q').1 < (hlG a p' q').2) : (hlG a p q).2 ≤ (hlG a p' q').1 := by
  rcases hl_spec h p0 h1 with e | ⟨x0, x1, a1, a2, a3, a4, a5, a6, a7, a8⟩
  · rw [e] at f1; exact absurd f1 (by decide)
  rcases hl_spec h (p := p') (q := q') (by omega) h3 with e | ⟨y0, y1, b1, b2, b3, b4, b5, b6, b7, b8⟩
  · rw [e] at f2; exact absurd f2 (by decide)
  have := mv_mono h (p := x1) (q := y0) (by omega) (by omega) a5 b4
  omega
/-- The parts of a rectangle. -/
def r0 (r : Rc) : Int := r.1
def r1 (r : Rc) : Int := r.2.1
def r2 (r : Rc) : Int := r.2.2.1
def r3 (r : Rc) : Int := r.2.2.2
def mkR (a b c d : Int) : Rc := (a, b, c, d)
@[simp] theorem r0_mk (a b c d : Int) : r0 (mkR a b c d) = a := rfl
@[simp] theorem r1_mk (a b c d : Int) : r1 (mkR a b c d) = b := rfl
@[simp] theorem r2_mk (a b c d : Int) : r2 (mkR a b c d) = c := rfl
@[simp] theorem r3_mk (a b c d : Int) : r3 (mkR a b c d) = d := rfl
theorem rect_ext {a b : Rc} (h0 : r0 a = r0 b) (h1 : r1 a = r1 b) (h2 : r2 a = r2 b) (h3 : r3 a = r3 b) : a = b := Prod.ext h0 (Prod.ext h1 (Prod.ext h2 h3))
theorem liesI (r : Rc) (rows cols : Int) : lies r rows cols = true ↔ 0 ≤ r0 r ∧ 0 ≤ r1 r ∧ 1 ≤ r2 r ∧ 1 ≤ r3 r ∧ r0 r < rows ∧ r1 r < cols ∧ r2 r ≤ rows - r0 r ∧ r3 r ≤ cols - r1 r := lies_iff r rows cols
/-- A rectangle behind changes of both axes. -/
def thrG (rows cols : Axis.Steps) (r : Rc) : Rc :=
  mkR ((hlG rows (r0 r) (r0 r + r2 r)).1) ((hlG cols (r1 r) (r1 r + r3 r)).1) ((hlG rows (r0 r) (r0 r + r2 r)).2 - (hlG rows (r0 r) (r0 r + r2 r)).1) ((hlG cols (r1 r) (r1 r + r3 r)).2 - (hlG cols (r1 r) (r1 r + r3 r)).1)
/-- It is still there. -/
def okR (r : Rc) : Bool := decide ((r2 r) > 0) && (decide ((r3 r) > 0) && decide ((r2 r) + (r3 r) > 2))
theorem okR_iff (r : Rc) : okR r = true ↔ (r2 r) > 0 ∧ (r3 r) > 0 ∧ (r2 r) + (r3 r) > 2 := by
  unfold okR; simp only [Bool.and_eq_true, decide_eq_true_eq]
theorem mts_iff (a b : Rc) : mts a b = true ↔ (r0 a) < (r0 b) + (r2 b) ∧ (r0 b) < (r0 a) + (r2 a) ∧ (r1 a) < (r1 b) + (r3 b) ∧ (r1 b) < (r1 a) + (r3 a) := by
  unfold mts; simp only [Bool.and_eq_true, decide_eq_true_eq]; exact Iff.rfl
variable {rows cols : Axis.Steps} {R C R' C' : Int}
theorem thr_in (hr : AxOk rows R R') (hc : AxOk cols C C') {r : Rc} (h : lies r R C = true) : 0 ≤ (r0 (thrG rows cols r)) ∧ 0 ≤ (r1 (thrG rows cols r)) ∧ 0 ≤ (r2 (thrG rows cols r)) ∧ 0 ≤ (r3 (thrG rows cols r)) ∧
    (r0 (thrG rows cols r)) + (r2 (thrG rows cols r)) ≤ R' ∧ (r1 (thrG rows cols r)) + (r3 (thrG rows cols r)) ≤ C' := by
  obtain ⟨h1, h2, h3, h4, h5, h6, h7, h8⟩ := (liesI r R C).1 h
  have a1 := hl_in hr (p := (r0 r)) (q := (r0 r) + (r2 r)) h1 (by omega) (by omega)
  have a2 := hl_in hc (p := (r1 r)) (q := (r1 r) + (r3 r)) h2 (by omega) (by omega)
  unfold thrG
  simp only [r0_mk, r1_mk, r2_mk, r3_mk]
  omega
theorem thr_lies (hr : AxOk rows R R') (hc : AxOk cols C C') {r : Rc} (h : lies r R C = true) (ho : okR (thrG rows cols r) = true) : lies (thrG rows cols r) R' C' = true := by
  obtain ⟨a1, a2, a3, a4, a5, a6⟩ := thr_in hr hc h
  rw [okR_iff] at ho
  rw [liesI]
  omega
theorem thr_mts (hr : AxOk rows R R') (hc : AxOk cols C C') {a b : Rc} (ha : lies a R C = true) (hb : lies b R C = true) (hm : mts a b = false) (oa : okR (thrG rows cols a) = true) (ob : okR (thrG rows cols b) = true) : mts (thrG rows cols a) (thrG rows cols b) = false := by
  obtain ⟨h1, h2, h3, h4, h5, h6, h7, h8⟩ := (liesI a R C).1 ha
  obtain ⟨g1, g2, g3, g4, g5, g6, g7, g8⟩ := (liesI b R C).1 hb
  rw [okR_iff] at oa ob
  have key : ¬ (mts (thrG rows cols a) (thrG rows cols b) = true) := by
    have hn : ¬ (mts a b = true) := by rw [hm]; decide
    rw [mts_iff] at hn ⊢
    intro hk
    have fa1 : (hlG rows (r0 a) ((r0 a) + (r2 a))).1 < (hlG rows (r0 a) ((r0 a) + (r2 a))).2 := by have := oa.1; unfold thrG at this; simp only [r2_mk, r3_mk] at this; omega
    have fa2 : (hlG cols (r1 a) ((r1 a) + (r3 a))).1 < (hlG cols (r1 a) ((r1 a) + (r3 a))).2 := by have := oa.2.1; unfold thrG at this; simp only [r2_mk, r3_mk] at this; omega
    have fb1 : (hlG rows (r0 b) ((r0 b) + (r2 b))).1 < (hlG rows (r0 b) ((r0 b) + (r2 b))).2 := by have := ob.1; unfold thrG at this; simp only [r2_mk, r3_mk] at this; omega
    have fb2 : (hlG cols (r1 b) ((r1 b) + (r3 b))).1 < (hlG cols (r1 b) ((r1 b) + (r3 b))).2 := by have := ob.2.1; unfold thrG at this; simp only [r2_mk, r3_mk] at this; omega
    unfold thrG at hk
    simp only [r0_mk, r1_mk, r2_mk, r3_mk] at hk
    apply hn
    refine ⟨?_, ?_, ?_, ?_⟩
    · apply Int.lt_of_not_ge
      intro hz
      have := hl_apart hr (p := (r0 b)) (q := (r0 b) + (r2 b)) (p' := (r0 a)) (q' := (r0 a) + (r2 a)) g1 (by omega) hz (by omega) fb1 fa1
      omega
    · apply Int.lt_of_not_ge
      intro hz
      have := hl_apart hr (p := (r0 a)) (q := (r0 a) + (r2 a)) (p' := (r0 b)) (q' := (r0 b) + (r2 b)) h1 (by omega) hz (by omega) fa1 fb1
      omega
    · apply Int.lt_of_not_ge
      intro hz
      have := hl_apart hc (p := (r1 b)) (q := (r1 b) + (r3 b)) (p' := (r1 a)) (q' := (r1 a) + (r3 a)) g2 (by omega) hz (by omega) fb2 fa2
      omega
    · apply Int.lt_of_not_ge
      intro hz
      have := hl_apart hc (p := (r1 a)) (q := (r1 a) + (r3 a)) (p' := (r1 b)) (q' := (r1 b) + (r3 b)) h2 (by omega) hz (by omega) fa2 fb2
      omega
  exact Bool.eq_false_iff.2 key
/-- Those that stay, behind changes of both axes. -/
def stayR (rows cols : Axis.Steps) (split : List Rc) (l : List Rc) : List Rc := (l.map (thrG rows cols)).filter fun q => okR q && !(split.contains q)
/-- New ones drive those away that they meet. -/
def joinR (l : List Rc) (ms : List Rc) : List Rc := ms.foldl (fun l r => l.filter (fun q => !(mts q r)) ++ [r]) l
/-- No two meet, all lie within. -/
structure Apart (R C : Int) (l : List Rc) : Prop where
  in_ : ∀ r ∈ l, lies r R C = true
  ap : l.Pairwise fun a b => mts a b = false
theorem stay_apart (hr : AxOk rows R R') (hc : AxOk cols C C') (split : List Rc) {l : List Rc} (h : Apart R C l) : Apart R' C' (stayR rows cols split l) := by
  unfold stayR
  refine ⟨fun r hr' => ?_, ?_⟩
  · rw [List.mem_filter, List.mem_map] at hr'
    obtain ⟨⟨q, hq, rfl⟩, ho⟩ := hr'
    exact thr_lies hr hc (h.in_ q hq) (by cases hx : okR (thrG rows cols q) <;> simp_all)
  · rw [List.filter_map, List.pairwise_map]
    have : (l.filter ((fun q => okR q && !(split.contains q)) ∘ thrG rows cols)).Pairwise fun a b => mts a b = false := h.ap.sublist List.filter_sublist
    refine List.Pairwise.imp_of_mem (R := fun a b => mts a b = false) (fun {a b} ha hb hab => ?_) this
    rw [List.mem_filter] at ha hb
    refine thr_mts hr hc (h.in_ a ha.1) (h.in_ b hb.1) hab ?_ ?_
    · have := ha.2; simp only [Function.comp, Bool.and_eq_true] at this; exact this.1
    · have := hb.2; simp only [Function.comp, Bool.and_eq_true] at this; exact this.1
theorem join_apart {R C : Int} : ∀ {ms l : List Rc}, Apart R C l → (∀ r ∈ ms, lies r R C = true) → Apart R C (joinR l ms)
  | [], l, h, _ => h
  | r :: ms, l, h, hm => by
    refine join_apart (ms := ms) ⟨fun q hq => ?_, ?_⟩ fun q hq => hm q (List.mem_cons_of_mem _ hq)
    · rcases List.mem_append.1 hq with hq | hq
      · exact h.in_ q (List.mem_filter.1 hq).1
      · rw [List.mem_singleton.1 hq]; exact hm r List.mem_cons_self
    · refine List.pairwise_append.2 ⟨h.ap.sublist List.filter_sublist, List.pairwise_singleton _ _, fun a ha b hb => ?_⟩
      rw [List.mem_singleton.1 hb]
      have := (List.mem_filter.1 ha).2
      simpa using this
/-- Where a rectangle begins. -/
def posR (r : Rc) : Int × Int := (r0 r, r1 r)
theorem mts_pos {R C : Int} {a b : Rc} (ha : lies a R C = true) (hb : lies b R C = true) (e : posR a = posR b) : mts a b = true := by
  obtain ⟨h1, h2, h3, h4, h5, h6, h7, h8⟩ := (liesI a R C).1 ha
  obtain ⟨g1, g2, g3, g4, g5, g6, g7, g8⟩ := (liesI b R C).1 hb
  have e1 : (r0 a) = (r0 b) := congrArg (fun p : Int × Int => p.1) e
  have e2 : (r1 a) = (r1 b) := congrArg (fun p : Int × Int => p.2) e
  rw [mts_iff]; omega
theorem apart_pos {R C : Int} {l : List Rc} (h : Apart R C l) {a b : Rc} (ha : a ∈ l) (hb : b ∈ l) (e : posR a = posR b) : a = b := by
  have key : ∀ {l : List Rc}, (∀ r ∈ l, lies r R C = true) → l.Pairwise (fun a b => mts a b = false) → a ∈ l → b ∈ l → a = b := by
    intro l
    induction l with
    | nil => intro _ _ ha; cases ha
    | cons z l ih =>
      intro hi hp ha hb
      have hp := List.pairwise_cons.1 hp
      rcases List.mem_cons.1 ha with ha | ha
      · rcases List.mem_cons.1 hb with hb | hb
        · rw [ha, hb]
        · have := hp.1 b hb
          rw [← ha, mts_pos (hi a (by rw [ha]; exact List.mem_cons_self)) (hi b (List.mem_cons_of_mem _ hb)) e] at this; cases this
      · rcases List.mem_cons.1 hb with hb | hb
        · have := hp.1 a ha
          rw [← hb, mts_pos (hi b (by rw [hb]; exact List.mem_cons_self)) (hi a (List.mem_cons_of_mem _ ha)) e.symm] at this; cases this
        · exact ih (fun r hr => hi r (List.mem_cons_of_mem _ hr)) hp.2 ha hb
  exact key h.in_ h.ap ha hb
end Go.Ev.Doc
