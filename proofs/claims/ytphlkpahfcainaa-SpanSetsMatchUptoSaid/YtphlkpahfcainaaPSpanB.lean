/- Sets of ranges: the plain side, second part: walking over the ends of two sets. -/
import Derived.Test.YtphlkpahfcainaaPSpan
namespace Go.Ev.Span
open Go.Ev
set_option linter.unusedVariables false
set_option linter.unusedSimpArgs false

/-- The `k`-th end. -/
def en (a : Set_) (k : Nat) : Int := if k % 2 = 0 then lo (atS a (k / 2)) else hi (atS a (k / 2))
theorem end_eq (a : Set_) (ha : a.length ≤ 1048576) (k : Nat) (hk : k < 2 * a.length) : C118 F118 a (k : Int) = some (ret118 (en a k)) := by
  have e1 : ((k : Int).tmod 2) = ((k % 2 : Nat) : Int) := by rw [show (2 : Int) = ((2 : Nat) : Int) from rfl, ← Int.ofNat_tmod]
  have e2 : ((k : Int).tdiv 2) = ((k / 2 : Nat) : Int) := by rw [show (2 : Int) = ((2 : Nat) : Int) from rfl, ← Int.ofNat_tdiv]
  have w : IntKind.i64.wrap ((k / 2 : Nat) : Int) = ((k / 2 : Nat) : Int) := wnat rfl (by omega)
  have hb : k / 2 < a.length := by omega
  have q1 : (at_ (e := YSpan) a ((k / 2 : Nat) : Int)).1 = lo (atS a (k / 2)) := rfl
  have q2 : (at_ (e := YSpan) a ((k / 2 : Nat) : Int)).2 = hi (atS a (k / 2)) := rfl
  rw [e118, e1, e2]
  simp only [bcond_if, w, inb, hb, if_true, q1, q2, show ¬ ((2 : Int) = 0) from by decide, if_false]
  unfold en
  have : k % 2 = 0 ∨ k % 2 = 1 := by omega
  rcases this with h | h
  · rw [h]; rfl
  · rw [h]; rfl
theorem atS_succ (s : YSpan.den) (l : Set_) (i : Nat) : atS (s :: l) (i + 1) = atS l i := rfl
theorem vs_idx : ∀ {a : Set_} {b : Int}, VS b a → ∀ i, i < a.length → lo (atS a i) < hi (atS a i) ∧ (i + 1 < a.length → hi (atS a i) < lo (atS a (i + 1)))
  | [], _, _, i, h => by simp at h
  | s :: l, b, ⟨h1, h2, h3⟩, 0, h => by
    refine ⟨h2, fun h4 => ?_⟩
    cases l with
    | nil => simp at h4
    | cons t l => exact h3.1
  | s :: l, b, ⟨h1, h2, h3⟩, i + 1, h => by
    have := vs_idx h3 i (by simpa using h)
    refine ⟨this.1, fun h4 => this.2 (by simpa using h4)⟩
theorem en_succ {a : Set_} {b : Int} (hv : VS b a) {k : Nat} (hk : k + 1 < 2 * a.length) : en a k < en a (k + 1) := by
  have hd : k / 2 < a.length := by omega
  have h := vs_idx hv (k / 2) hd
  unfold en
  have : k % 2 = 0 ∨ k % 2 = 1 := by omega
  rcases this with q | q
  · have q2 : (k + 1) % 2 = 1 := by omega
    have q3 : (k + 1) / 2 = k / 2 := by omega
    rw [q, q2, q3]
    exact h.1
  · have q2 : (k + 1) % 2 = 0 := by omega
    have q3 : (k + 1) / 2 = k / 2 + 1 := by omega
    rw [q, q2, q3]
    exact h.2 (by omega)
theorem en_mono {a : Set_} {b : Int} (hv : VS b a) {j : Nat} : ∀ (d : Nat), j + d < 2 * a.length → en a j ≤ en a (j + d)
  | 0, _ => Int.le_refl _
  | d + 1, h => by
    have := en_mono hv (j := j) d (by omega)
    have := en_succ hv (k := j + d) (by omega)
    rw [show j + (d + 1) = j + d + 1 from by omega]
    omega
theorem en_val {a : Set_} (hv : Val a) {k : Nat} (hk : k < 2 * a.length) : 0 ≤ en a k ∧ en a k ≤ 2147483647 := by
  have hm := atS_mem a (show k / 2 < a.length by omega)
  have h1 := hv.2 _ hm
  have h2 := (vs_lo hv.1 _ hm).2
  unfold en
  split <;> omega
theorem mem_par {a : Set_} {b : Int} (hv : VS b a) {i : Nat} {x : Int} (h1 : ∀ k, k < i → k < 2 * a.length → en a k ≤ x) (h2 : ∀ k, i ≤ k → k < 2 * a.length → x < en a k) (hi' : i ≤ 2 * a.length) : Mem a x ↔ i % 2 = 1 := by
  have el : ∀ k, en a (2 * k) = lo (atS a k) := fun k => by unfold en; rw [if_pos (by omega), show 2 * k / 2 = k from by omega]
  have eh : ∀ k, en a (2 * k + 1) = hi (atS a k) := fun k => by unfold en; rw [if_neg (by omega), show (2 * k + 1) / 2 = k from by omega]
  constructor
  · rintro ⟨s, hs, q1, q2⟩
    obtain ⟨k, hk, rfl⟩ := mem_atS hs
    rw [← el] at q1
    rw [← eh] at q2
    have c1 : 2 * k < i := by
      apply Nat.lt_of_not_le; intro hn
      have := h2 (2 * k) hn (by omega); omega
    have c2 : i ≤ 2 * k + 1 := by
      apply Nat.le_of_not_lt; intro hn
      have := h1 (2 * k + 1) hn (by omega); omega
    omega
  · intro hp
    refine ⟨atS a (i / 2), atS_mem a (by omega), ?_, ?_⟩
    · rw [← el]; exact h1 _ (by omega) (by omega)
    · rw [← eh]; exact h2 _ (by omega) (by omega)
def od (i : Nat) : Bool := decide (i % 2 = 1)
theorem od_eq (i : Nat) : (((i : Int).tmod 2) == 1) = od i := by
  have e1 : ((i : Int).tmod 2) = ((i % 2 : Nat) : Int) := by rw [show (2 : Int) = ((2 : Nat) : Int) from rfl, ← Int.ofNat_tmod]
  rw [e1]
  unfold od
  have : i % 2 = 0 ∨ i % 2 = 1 := by omega
  rcases this with h | h <;> rw [h] <;> rfl

/-- Where the next end is. -/
def nxt (a b : Set_) (i j : Nat) : Int := if i < 2 * a.length then (if j < 2 * b.length then (if en b j < en a i then en b j else en a i) else en a i) else en b j

/-! ### A range is added -/
theorem add_nil (s : YSpan.den) : C119 F119 [] s = some (ret119 [s]) := by
  rw [e119]
  have hw : IntKind.i64.wrap (-1) = -1 := rfl
  simp [bcond_if, hw]
theorem add_last (d : Set_) (t s : YSpan.den) (hd : d.length ≤ 4194304) : C119 F119 (d ++ [t]) s = some (ret119 (if lo s ≤ hi t then d ++ [mkS (lo t) (if hi t < hi s then hi s else hi t)] else d ++ [t] ++ [s])) := by
  have hlen : (d ++ [t]).length = d.length + 1 := by simp
  have w3 : IntKind.i64.wrap (((d ++ [t]).length : Int) - 1) = ((d.length : Nat) : Int) := wnat (by rw [hlen]; omega) (by omega)
  have el : at_ (e := YSpan) (d ++ [t]) ((d.length : Nat) : Int) = t := by
    unfold at_
    simp [List.getD_eq_getElem?_getD]
  have es : ∀ u : YSpan.den, List.set (d ++ [t]) d.length u = d ++ [u] := fun u => by simp
  have b1 : ((d ++ [t]).length + [s].length) * 16 ≤ 140737488355328 := Nat.le_trans (Nat.mul_le_mul_right 16 (Nat.add_le_add_right (show (d ++ [t]).length ≤ 4194305 by rw [hlen]; omega) 1)) (by decide)
  have c2 : decide (((d.length : Nat) : Int) ≥ 0) = true := decide_eq_true (by omega)
  have c3 : d.length < (d ++ [t]).length := by rw [hlen]; omega
  have q1 : t.1 = lo t := rfl
  have q2 : t.2 = hi t := rfl
  have q3 : s.1 = lo s := rfl
  have q4 : s.2 = hi s := rfl
  have q5 : ∀ z : Int, ((lo t, z) : YSpan.den) = mkS (lo t) z := fun z => rfl
  rw [e119, w3, el]
  simp only [bcond_if, inb, c2, c3, if_true, b1, q1, q2, q3, q4, q5, Int.toNat_natCast, es, beq_self_eq_true]
  by_cases h : lo s ≤ hi t
  · simp only [h, decide_true, if_true]
  · simp [h]

/-- What the walk knows. -/
structure Inv (a b : Set_) (w : Bool → Bool → Bool) (out : Set_) (at' : Int) (i j : Nat) : Prop where
  ia : i ≤ 2 * a.length
  jb : j ≤ 2 * b.length
  a1 : ∀ k, k < i → k < 2 * a.length → en a k ≤ at'
  a2 : ∀ k, i ≤ k → k < 2 * a.length → at' ≤ en a k
  b1 : ∀ k, k < j → k < 2 * b.length → en b k ≤ at'
  b2 : ∀ k, j ≤ k → k < 2 * b.length → at' ≤ en b k
  z : 0 ≤ at'
  big : at' ≤ 2147483647
  v : VS (-1) out
  m : ∀ s ∈ out, hi s ≤ 2147483647 ∧ 0 ≤ lo s
  l : out = [] ∨ ∃ d t, out = d ++ [t] ∧ hi t ≤ at'
  ln : out.length ≤ i + j
  x : ∀ x, Mem out x ↔ 0 ≤ x ∧ x < at' ∧ w (mb a x) (mb b x) = true

theorem inv_step {a b : Set_} {w : Bool → Bool → Bool} {out : Set_} {t : Int} {i j : Nat} (ha : Val a) (hb : Val b) (hla : a.length ≤ 1048576) (hlb : b.length ≤ 1048576) (I : Inv a b w out t i j) (hij : i < 2 * a.length ∨ j < 2 * b.length) :
    let n := nxt a b i j
    let i' := if i < 2 * a.length ∧ en a i = n then i + 1 else i
    let j' := if j < 2 * b.length ∧ en b j = n then j + 1 else j
    t ≤ n ∧ (i' + j' > i + j) ∧ ((t < n ∧ w (od i) (od j) = true) → ∀ out', C119 F119 out (mkS t n) = some (ret119 out') → Inv a b w out' n i' j') ∧ (¬ (t < n ∧ w (od i) (od j) = true) → Inv a b w out n i' j') := by
  intro n i' j'
  have nA : ∀ k, i ≤ k → k < 2 * a.length → n ≤ en a k := fun k h1 h2 => by
    have hm := en_mono ha.1 (j := i) (k - i) (by omega)
    rw [show i + (k - i) = k from by omega] at hm
    have : n ≤ en a i := by
      show nxt a b i j ≤ _
      unfold nxt
      rw [if_pos (show i < 2 * a.length by omega)]
      split
      · split <;> omega
      · omega
    omega
  have nB : ∀ k, j ≤ k → k < 2 * b.length → n ≤ en b k := fun k h1 h2 => by
    have hm := en_mono hb.1 (j := j) (k - j) (by omega)
    rw [show j + (k - j) = k from by omega] at hm
    have : n ≤ en b j := by
      show nxt a b i j ≤ _
      unfold nxt
      split
      · rw [if_pos (show j < 2 * b.length by omega)]
        split <;> omega
      · omega
    omega
  have nE : (i < 2 * a.length ∧ en a i = n) ∨ (j < 2 * b.length ∧ en b j = n) := by
    show (i < 2 * a.length ∧ en a i = nxt a b i j) ∨ (j < 2 * b.length ∧ en b j = nxt a b i j)
    unfold nxt
    by_cases h1 : i < 2 * a.length
    · rw [if_pos h1]
      by_cases h2 : j < 2 * b.length
      · rw [if_pos h2]
        split
        · exact .inr ⟨h2, rfl⟩
        · exact .inl ⟨h1, rfl⟩
      · rw [if_neg h2]; exact .inl ⟨h1, rfl⟩
    · rw [if_neg h1]; exact .inr ⟨by omega, rfl⟩
  have tn : t ≤ n := by
    rcases nE with ⟨h1, h2⟩ | ⟨h1, h2⟩
    · rw [← h2]; exact I.a2 i (Nat.le_refl _) h1
    · rw [← h2]; exact I.b2 j (Nat.le_refl _) h1
  have nbig : n ≤ 2147483647 := by
    rcases nE with ⟨h1, h2⟩ | ⟨h1, h2⟩
    · rw [← h2]; exact (en_val ha h1).2
    · rw [← h2]; exact (en_val hb h1).2
  have hi1 : i' = i ∨ (i' = i + 1 ∧ i < 2 * a.length ∧ en a i = n) := by
    show (if i < 2 * a.length ∧ en a i = n then i + 1 else i) = i ∨ _
    by_cases h : i < 2 * a.length ∧ en a i = n
    · right; exact ⟨if_pos h, h⟩
    · left; exact if_neg h
  have hj1 : j' = j ∨ (j' = j + 1 ∧ j < 2 * b.length ∧ en b j = n) := by
    show (if j < 2 * b.length ∧ en b j = n then j + 1 else j) = j ∨ _
    by_cases h : j < 2 * b.length ∧ en b j = n
    · right; exact ⟨if_pos h, h⟩
    · left; exact if_neg h
  have grow : i' + j' > i + j := by
    rcases nE with h | h
    · have : i' = i + 1 := if_pos h
      rcases hj1 with h2 | h2 <;> omega
    · have : j' = j + 1 := if_pos h
      rcases hi1 with h2 | h2 <;> omega
  have reg : ∀ x, t ≤ x → x < n → (mb a x = od i ∧ mb b x = od j) := fun x h1 h2 => by
    have pa := mem_par ha.1 (i := i) (x := x) (fun k q1 q2 => by have := I.a1 k q1 q2; omega) (fun k q1 q2 => by have := nA k q1 q2; omega) I.ia
    have pb := mem_par hb.1 (i := j) (x := x) (fun k q1 q2 => by have := I.b1 k q1 q2; omega) (fun k q1 q2 => by have := nB k q1 q2; omega) I.jb
    constructor
    · rw [Bool.eq_iff_iff, mb_iff, pa]; simp [od]
    · rw [Bool.eq_iff_iff, mb_iff, pb]; simp [od]
  have A1 : ∀ k, k < i' → k < 2 * a.length → en a k ≤ n := fun k q1 q2 => by
    rcases hi1 with h | ⟨h, h3, h4⟩
    · have := I.a1 k (by omega) q2; omega
    · by_cases hk : k = i
      · subst hk; omega
      · have := I.a1 k (by omega) q2; omega
  have B1 : ∀ k, k < j' → k < 2 * b.length → en b k ≤ n := fun k q1 q2 => by
    rcases hj1 with h | ⟨h, h3, h4⟩
    · have := I.b1 k (by omega) q2; omega
    · by_cases hk : k = j
      · subst hk; omega
      · have := I.b1 k (by omega) q2; omega
  have mk : ∀ out', VS (-1) out' → (∀ s ∈ out', hi s ≤ 2147483647 ∧ 0 ≤ lo s) → (out' = [] ∨ ∃ d s, out' = d ++ [s] ∧ hi s ≤ n) → out'.length ≤ i + j + 1 → (∀ x, Mem out' x ↔ 0 ≤ x ∧ x < n ∧ w (mb a x) (mb b x) = true) → Inv a b w out' n i' j' := fun out' v m l ln x =>
    ⟨by have := I.ia; rcases hi1 with h | h <;> omega, by have := I.jb; rcases hj1 with h | h <;> omega, A1, fun k q1 q2 => nA k (by rcases hi1 with h | h <;> omega) q2, B1, fun k q1 q2 => nB k (by rcases hj1 with h | h <;> omega) q2,
      by have := I.z; omega, nbig, v, m, l, by omega, x⟩
  refine ⟨tn, grow, fun hw out' ho => ?_, fun hw => ?_⟩
  · have hx : ∀ x, (Mem out x ∨ (t ≤ x ∧ x < n)) ↔ 0 ≤ x ∧ x < n ∧ w (mb a x) (mb b x) = true := fun x => by
      rw [I.x x]
      have z := I.z
      constructor
      · rintro (⟨q1, q2, q3⟩ | ⟨q1, q2⟩)
        · exact ⟨q1, by omega, q3⟩
        · obtain ⟨r1, r2⟩ := reg x q1 q2
          exact ⟨by omega, q2, by rw [r1, r2]; exact hw.2⟩
      · rintro ⟨q1, q2, q3⟩
        by_cases h : x < t
        · exact .inl ⟨q1, h, q3⟩
        · exact .inr ⟨by omega, q2⟩
    rcases I.l with hnil | ⟨d, s, hds, hs⟩
    · have hout := I.x
      subst hnil
      rw [add_nil] at ho
      have e : out' = [mkS t n] := by
        have := congrArg (fun o => o.map res119_0) ho
        simpa using this.symm
      subst e
      refine mk _ ⟨by simp; have := I.z; omega, hw.1, trivial⟩ (fun s hs => ?_) (.inr ⟨[], mkS t n, rfl, Int.le_refl _⟩) (by simp) (fun x => ?_)
      · have : s = mkS t n := by simpa using hs
        subst this
        exact ⟨nbig, I.z⟩
      · rw [← hx x, show [mkS t n] = ([] : Set_) ++ [mkS t n] from rfl, mem_append]; rfl
    · have hv := I.v
      have hm := I.m
      have hln := I.ln
      rw [hds] at hv hm ho hln
      have ho2 : out' = (if lo (mkS t n) ≤ hi s then d ++ [mkS (lo s) (if hi s < hi (mkS t n) then hi (mkS t n) else hi s)] else d ++ [s] ++ [mkS t n]) := by
        have hd4 : d.length ≤ 4194304 := by simp at hln; have := I.ia; have := I.jb; omega
        rw [add_last d s (mkS t n) hd4] at ho
        have := congrArg (fun o => o.map res119_0) ho
        simpa using this.symm
      simp only [lo_mk, hi_mk] at ho2
      obtain ⟨v1, v2, v3⟩ := (vs_append d (-1) s).1 hv
      have hsm := hm s (by simp)
      by_cases hc : t ≤ hi s
      · have hst : hi s = t := by omega
        have e4 : (if hi s < n then n else hi s) = n := if_pos (by omega)
        have ho3 : out' = d ++ [mkS (lo s) n] := (ho2.trans (if_pos hc)).trans (congrArg (fun z => d ++ [mkS (lo s) z]) e4)
        subst ho3
        refine mk _ ((vs_append d (-1) _).2 ⟨v1, v2, by simp only [lo_mk, hi_mk]; omega⟩) (fun u hu => ?_) (.inr ⟨d, _, rfl, Int.le_refl _⟩) (by simp at hln ⊢; omega) (fun x => ?_)
        · rcases List.mem_append.1 hu with hu | hu
          · exact hm u (by simp [hu])
          · have : u = mkS (lo s) n := by simpa using hu
            subst this
            exact ⟨nbig, hsm.2⟩
        · rw [← hx x, hds, mem_append, mem_append]
          simp only [lo_mk, hi_mk]
          constructor
          · rintro (q | q)
            · exact .inl (.inl q)
            · by_cases h : x < t
              · exact .inl (.inr ⟨q.1, by omega⟩)
              · exact .inr ⟨by omega, q.2⟩
          · rintro ((q | q) | q)
            · exact .inl q
            · exact .inr ⟨q.1, by omega⟩
            · exact .inr ⟨by omega, q.2⟩
      · have ho3 := ho2.trans (if_neg hc)
        subst ho3
        refine mk _ ((vs_append (d ++ [s]) (-1) _).2 ⟨hv, by rw [lastHi_append]; simp only [lo_mk]; omega, hw.1⟩) (fun u hu => ?_) (.inr ⟨d ++ [s], _, rfl, Int.le_refl _⟩) (by simp at hln ⊢; omega) (fun x => ?_)
        · rcases List.mem_append.1 hu with hu | hu
          · exact hm u hu
          · have : u = mkS t n := by simpa using hu
            subst this
            exact ⟨nbig, I.z⟩
        · rw [← hx x, hds, mem_append (d ++ [s])]
          rfl
  · refine mk _ I.v I.m ?_ (by have := I.ln; omega) (fun x => ?_)
    · rcases I.l with h | ⟨d, s, h1, h2⟩
      · exact .inl h
      · exact .inr ⟨d, s, h1, by omega⟩
    · rw [I.x x]
      constructor
      · rintro ⟨q1, q2, q3⟩; exact ⟨q1, by omega, q3⟩
      · rintro ⟨q1, q2, q3⟩
        refine ⟨q1, ?_, q3⟩
        apply Int.lt_of_not_ge
        intro h
        obtain ⟨r1, r2⟩ := reg x h q2
        rw [r1, r2] at q3
        exact hw ⟨by omega, q3⟩
theorem add_ex (out : Set_) (s : YSpan.den) (h : out = [] ∨ ∃ d t, out = d ++ [t]) (hl : out.length ≤ 4194304) : ∃ out', C119 F119 out s = some (ret119 out') := by
  rcases h with h | ⟨d, t, h⟩
  · subst h
    exact ⟨_, add_nil s⟩
  · subst h
    exact ⟨_, add_last d t s (by simp at hl; omega)⟩
theorem inv_start {a b : Set_} (w : Bool → Bool → Bool) (ha : Val a) (hb : Val b) : Inv a b w [] 0 0 0 := by
  refine ⟨Nat.zero_le _, Nat.zero_le _, fun k h => absurd h (Nat.not_lt_zero _), fun k _ h => (en_val ha h).1, fun k h => absurd h (Nat.not_lt_zero _), fun k _ h => (en_val hb h).1, Int.le_refl _, by decide, trivial, fun s hs => absurd hs (by simp), .inl rfl, by simp, fun x => ?_⟩
  constructor
  · rintro ⟨s, hs, _⟩; simp at hs
  · rintro ⟨h1, h2, _⟩; omega
theorem mb_out {a : Set_} (ha : Val a) {x : Int} (h : x < 0 ∨ ∀ k, k < 2 * a.length → en a k ≤ x) : mb a x = false := by
  have : ¬ Mem a x := by
    rcases h with h | h
    · rintro ⟨s, hs, q1, q2⟩
      have := ha.2 s hs
      omega
    · rw [mem_par ha.1 (i := 2 * a.length) (x := x) (fun k _ h2 => h k h2) (fun k h1 h2 => by omega) (Nat.le_refl _)]
      omega
  cases h2 : mb a x with
  | false => rfl
  | true => exact absurd ((mb_iff _ _).1 h2) this
/-- What a walk leaves. -/
structure Fin_ (a b : Set_) (w : Bool → Bool → Bool) (out : Set_) : Prop where
  v : Val out
  l : out.length ≤ 2 * a.length + 2 * b.length
  x : ∀ x, mb out x = w (mb a x) (mb b x)
theorem inv_end {a b : Set_} {w : Bool → Bool → Bool} {out : Set_} {t : Int} {i j : Nat} (ha : Val a) (hb : Val b) (I : Inv a b w out t i j) (hi' : ¬ (i < 2 * a.length ∨ j < 2 * b.length)) (hw : w false false = false) : Fin_ a b w out := by
  refine ⟨⟨I.v, I.m⟩, by have := I.ln; have := I.ia; have := I.jb; omega, fun x => ?_⟩
  have z := I.z
  rw [Bool.eq_iff_iff, mb_iff, I.x x]
  constructor
  · rintro ⟨_, _, h⟩; exact h
  · intro h
    have h0 : ¬ (mb a x = false ∧ mb b x = false) := fun q => by rw [q.1, q.2, hw] at h; cases h
    refine ⟨?_, ?_, h⟩
    · apply Int.le_of_not_gt
      intro q
      exact h0 ⟨mb_out ha (.inl q), mb_out hb (.inl q)⟩
    · apply Int.lt_of_not_ge
      intro q
      exact h0 ⟨mb_out ha (.inr fun k hk => by have := I.a1 k (by omega) hk; omega), mb_out hb (.inr fun k hk => by have := I.b1 k (by omega) hk; omega)⟩
end Go.Ev.Span
