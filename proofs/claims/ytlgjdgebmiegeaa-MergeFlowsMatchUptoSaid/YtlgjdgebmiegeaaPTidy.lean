
import Derived.Test.YtlgjdgebmiegeaaPAct
namespace Go.Ev.Delta
open Go.Ev Go.Ev.Attr Go.Ev.Track
set_option linter.unusedVariables false
set_option linter.unusedSimpArgs false
theorem fl_nil (y : Steps) : fl y [] 0 = y := by simp [fl, emp]
theorem mrg_mrg (y : Steps) (n m : Int) (t : Attrs) : mrgK (mrgK y n t) m t = mrgK y (n + m) t := by
  have self : eqA t t = true := (eqA_iff t t).2 rfl
  rcases last_cases y with h | ⟨d, s, h⟩
  · subst h
    show mrgK ([] ++ [mkT 0 n t []]) m t = mrgK [] (n + m) t
    rw [mrg_last, sk_mk, sa_mk, if_pos ⟨rfl, self⟩]
    rfl
  · subst h
    rw [mrg_last d s n t, mrg_last d s (n + m) t]
    by_cases hc : sk s = 0 ∧ eqA (sa s) t = true
    · rw [if_pos hc, if_pos hc, mrg_last, sk_mk, sa_mk, if_pos hc, sn_mk, se_mk, Int.add_assoc]
    · rw [if_neg hc, if_neg hc, mrg_last, sk_mk, sa_mk, if_pos ⟨rfl, self⟩]
      rfl
theorem units_keep (n : Nat) (t : Attrs) (w : W) : units (n + 1) false t w = (mrgK (out w) ((n + 1 : Nat) : Int) t, [], 0) := by
  induction n with
  | zero => rfl
  | succ n ih =>
    rw [units_succ, ih]
    show (mrgK (fl (mrgK (out w) ((n + 1 : Nat) : Int) t) [] 0) 1 t, ([] : Flow), (0 : Int)) = _
    rw [fl_nil, mrg_mrg]
    rfl
theorem units_cut (n : Nat) (t : Attrs) (w : W) : units n true t w = (w.1, w.2.1, w.2.2 + n) := by
  induction n with
  | zero => show w = _; simp
  | succ n ih =>
    rw [units_succ, ih]
    show (w.1, w.2.1, w.2.2 + (n : Int) + 1) = _
    rw [Int.add_assoc]; rfl
def stT (s : YStep.den) (w : W) : W := if sk s = 1 then uE (se s) w else if sk s = 2 then (w.1, w.2.1, w.2.2 + sn s) else if sn s = 0 then w else (mrgK (out w) (sn s) (sa s), [], 0)
theorem stT_stU (s : YStep.den) (w : W) (h : sk s = 0 ∨ sk s = 1 ∨ sk s = 2) (hn : sk s = 1 ∨ 0 ≤ sn s) : stT s w = stU s w := by
  unfold stT stU
  by_cases h1 : sk s = 1
  · rw [if_pos h1, if_pos h1]
  · rw [if_neg h1, if_neg h1]
    have hp := hn.resolve_left h1
    obtain ⟨N, hN⟩ : ∃ N : Nat, sn s = (N : Int) := ⟨(sn s).toNat, by omega⟩
    rw [hN, Int.toNat_natCast]
    by_cases h2 : sk s = 2
    · rw [if_pos h2]
      have : (sk s == 2) = true := by simpa using h2
      rw [this, units_cut]
    · rw [if_neg h2]
      have : (sk s == 2) = false := by simpa using h2
      rw [this]
      cases N with
      | zero => rfl
      | succ N => rw [if_neg (by omega), units_keep]
def ebl : List Flow → Nat
  | [] => 0
  | x :: xs => x.length + ebl xs
structure DI (w : W) (k : Nat) : Prop where
  lo : w.1.length ≤ 3 * k
  sn : ∀ s ∈ w.1, 0 ≤ sn s ∧ sn s ≤ k
  sa : ∀ s ∈ w.1, (sa s).length ≤ 1048576
  c : 0 ≤ w.2.2 ∧ w.2.2 ≤ k
theorem fl_mem {o : Steps} {a : Flow} {c : Int} {s : YStep.den} (h : s ∈ fl o a c) : s ∈ o ∨ (s = mkT 1 0 [] a ∧ emp a = false) ∨ (s = mkT 2 c [] [] ∧ 0 < c) := by
  unfold fl at h
  rcases List.mem_append.1 h with h | h
  · rcases List.mem_append.1 h with h | h
    · exact .inl h
    · split at h
      · simp at h
      · rename_i h1
        exact .inr (.inl ⟨by simpa using h, by simpa using h1⟩)
  · split at h
    · rename_i h1
      exact .inr (.inr ⟨by simpa using h, h1⟩)
    · simp at h
theorem mrg_mem {y : Steps} {n : Int} {t : Attrs} {s : YStep.den} (h : s ∈ mrgK y n t) : s ∈ y ∨ s = mkT 0 n t [] ∨ ∃ q ∈ y, sk q = 0 ∧ sa q = t ∧ s = mkT (sk q) (sn q + n) (sa q) (se q) := by
  rcases last_cases y with hy | ⟨d, q, hy⟩
  · subst hy
    exact .inr (.inl (by simpa [mrgK] using h))
  · subst hy
    rw [mrg_last] at h
    split at h
    · rename_i hc
      rcases List.mem_append.1 h with h | h
      · exact .inl (List.mem_append.2 (.inl h))
      · exact .inr (.inr ⟨q, by simp, hc.1, (eqA_iff _ _).1 hc.2, by simpa using h⟩)
    · rcases List.mem_append.1 h with h | h
      · exact .inl h
      · exact .inr (.inl (by simpa using h))
theorem mrg_len (y : Steps) (n : Int) (t : Attrs) : (mrgK y n t).length ≤ y.length + 1 := by
  rcases last_cases y with hy | ⟨d, q, hy⟩
  · subst hy; simp [mrgK]
  · subst hy
    rw [mrg_last]
    split <;> simp
theorem DI.wy {w : W} {k : Nat} (h : DI w k) (hk : k ≤ 1048576) : Wy (out w) := by
  have h1 := h.lo
  have h4 := h.c
  refine ⟨by have := fl_len w.1 w.2.1 w.2.2; unfold out; omega, fun s hs => ?_, fun s hs => ?_⟩
  · rcases fl_mem hs with q | q | q
    · have := h.sn s q; omega
    · rw [q.1, sn_mk]; omega
    · rw [q.1, sn_mk]; omega
  · rcases fl_mem hs with q | q | q
    · exact h.sa s q
    · rw [q.1, sa_mk]; simp
    · rw [q.1, sa_mk]; simp
theorem DI.uE {w : W} {k : Nat} (h : DI w k) (x : Flow) : DI (uE x w) k := ⟨h.lo, h.sn, h.sa, h.c⟩
theorem DI.unit {w : W} {k : Nat} (h : DI w k) (c : Bool) (t : Attrs) (ht : t.length ≤ 1048576) : DI (unit c t w) (k + 1) := by
  have h1 := h.lo
  have h4 := h.c
  unfold Delta.unit
  split
  · refine ⟨by show w.1.length ≤ _; omega, fun s hs => ?_, h.sa, ?_⟩
    · have := h.sn s hs; omega
    · show 0 ≤ w.2.2 + 1 ∧ w.2.2 + 1 ≤ _; omega
  · refine ⟨?_, fun s hs => ?_, fun s hs => ?_, ?_⟩
    · have q1 := mrg_len (out w) 1 t
      have q2 := fl_len w.1 w.2.1 w.2.2
      show (mrgK (out w) 1 t).length ≤ _
      unfold out at q1 ⊢; omega
    · have fb : ∀ q ∈ out w, 0 ≤ Delta.sn q ∧ Delta.sn q ≤ k := fun q hq => by
        rcases fl_mem hq with z | z | z
        · exact h.sn q z
        · rw [z.1, sn_mk]; omega
        · rw [z.1, sn_mk]; omega
      rcases mrg_mem hs with q | q | ⟨q, q1, q2, q3, q4⟩
      · have := fb s q; omega
      · rw [q, sn_mk]; omega
      · have := fb q q1; rw [q4, sn_mk]; omega
    · have fb : ∀ q ∈ out w, (Delta.sa q).length ≤ 1048576 := fun q hq => by
        rcases fl_mem hq with z | z | z
        · exact h.sa q z
        · rw [z.1, sa_mk]; simp
        · rw [z.1, sa_mk]; simp
      rcases mrg_mem hs with q | q | ⟨q, q1, q2, q3, q4⟩
      · exact fb s q
      · rw [q, sa_mk]; exact ht
      · rw [q4, sa_mk]; exact fb q q1
    · show (0 : Int) ≤ 0 ∧ (0 : Int) ≤ _; omega
theorem ebl_append : ∀ (x y : List Flow), ebl (x ++ y) = ebl x + ebl y
  | [], y => by simp [ebl]
  | a :: x, y => by simp only [List.cons_append, ebl, ebl_append x y]; omega
theorem ebl_nils : ∀ n, ebl (List.replicate n []) = 0
  | 0 => rfl
  | n + 1 => by simp [List.replicate_succ, ebl, ebl_nils n]
theorem stA_size (s : YStep.den) (a : Act) (h : AOk a) : (stA s a).2.1.length = a.2.1.length + (if sk s = 1 then 0 else (sn s).toNat) ∧ ebl (stA s a).1 ≤ ebl a.1 + (se s).length := by
  unfold stA
  split
  · obtain ⟨A, x, hA, hl⟩ := snoc_of a.1 _ h.h1
    refine ⟨rfl, ?_⟩
    show ebl (a.1.set (a.1.length - 1) (a.1.getD (a.1.length - 1) [] ++ se s)) ≤ _
    rw [hA]
    have e2 : (A ++ [x]).set ((A ++ [x]).length - 1) ((A ++ [x]).getD ((A ++ [x]).length - 1) [] ++ se s) = A ++ [x ++ se s] := by
      simp [List.getD_eq_getElem?_getD]
    rw [e2, ebl_append, ebl_append]
    simp [ebl]; omega
  · refine ⟨by simp, ?_⟩
    show ebl (a.1 ++ List.replicate _ []) ≤ _
    rw [ebl_append, ebl_nils]; omega
theorem actL_size : ∀ (l : Steps) (a : Act), AOk a → (actL l a).2.1.length = a.2.1.length + nb l ∧ ebl (actL l a).1 ≤ ebl a.1 + eb l
  | [], a, h => by simp [actL, nb, eb]
  | s :: l, a, h => by
    obtain ⟨q1, q2⟩ := actL_size l (stA s a) (stA_ok s h)
    obtain ⟨r1, r2⟩ := stA_size s a h
    show (actL l (stA s a)).2.1.length = _ ∧ ebl (actL l (stA s a)).1 ≤ _
    simp only [nb, eb]
    omega
end Go.Ev.Delta
