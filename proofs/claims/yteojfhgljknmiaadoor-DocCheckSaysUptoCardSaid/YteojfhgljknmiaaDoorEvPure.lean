/- Plain steps that every law needs. -/
import Derived.Test.YteojfhgljknmiaaDoorGTab
namespace Go.Ev
set_option linter.unusedVariables false
set_option linter.unusedSimpArgs false
theorem bcond_if {A : Type} (b : Bool) (x y : A) : bcond b x y = if b = true then x else y := by cases b <;> rfl
theorem w64 {x : Int} (h1 : -9223372036854775808 ≤ x) (h2 : x < 9223372036854775808) : IntKind.i64.wrap x = x := by
  simp only [IntKind.wrap, IntKind.signed, IntKind.bits]
  first | omega | (simp; omega) | skip
theorem wnat {x : Int} {n : Nat} (h : x = n) (h2 : n < 9223372036854775808) : IntKind.i64.wrap x = n := by
  rw [w64 (by omega) (by omega), h]
theorem big_ge {n : Nat} (h : n ≤ 4611686018427387904) : n ≤ big := Nat.le_trans h (Classical.choose_spec big_ex)
theorem big_succ {n : Nat} (h : n < 4611686018427387904) : ∃ m, big = n + 1 + m := ⟨big - (n + 1), by have := big_ge (n := n + 1) (by omega); omega⟩
theorem inb (i n : Nat) : (0 ≤ (i : Int) ∧ (i : Int) < (n : Int)) ↔ i < n := by omega
/-- What a loop over a list does: a state is changed by each element, or the loop is left. -/
def foldO {α S O : Type} (f : S → α → S ⊕ O) (g : S → O) : S → List α → O
  | s, [] => g s
  | s, x :: l => match f s x with
    | .inl s' => foldO f g s' l
    | .inr o => o
/-- What holds of a state that is changed, or of what a loop is left with. -/
def Hop {S O : Type} (r : S ⊕ O) (P : S → Prop) (Q : O → Prop) : Prop := match r with
  | .inl s => P s
  | .inr o => Q o
@[simp] theorem hop_inl {S O : Type} (s : S) (P : S → Prop) (Q : O → Prop) : Hop (.inl s) P Q = P s := rfl
@[simp] theorem hop_inr {S O : Type} (o : O) (P : S → Prop) (Q : O → Prop) : Hop (.inr o) P Q = Q o := rfl
theorem range_loop {α S O : Type} (l : List α) (L : Nat → S → Nat → Option O) (f : S → α → S ⊕ O) (g : S → O) (I : Nat → S → Prop)
    (hs : ∀ m i s (h : i < l.length), I i s → Hop (f s l[i]) (fun s' => I (i + 1) s' ∧ L (m + 1) s i = L m s' (i + 1)) (fun o => L (m + 1) s i = some o))
    (he : ∀ m s, I l.length s → L (m + 1) s l.length = some (g s)) :
    ∀ (d i m : Nat) (s : S), i + d = l.length → d < m → I i s → L m s i = some (foldO f g s (l.drop i)) := by
  intro d
  induction d with
  | zero =>
    intro i m s hi hm hI
    cases m with
    | zero => omega
    | succ m =>
    obtain rfl : i = l.length := by omega
    rw [he m s hI, List.drop_length]; rfl
  | succ d ih =>
    intro i m s hi hm hI
    cases m with
    | zero => omega
    | succ m =>
    have hil : i < l.length := by omega
    have h := hs m i s hil hI
    rw [List.drop_eq_getElem_cons hil, foldO]
    cases hf : f s l[i] with
    | inl s' =>
      rw [hf] at h
      rw [hop_inl] at h
      rw [h.2]
      exact ih (i + 1) m s' (by omega) (by omega) h.1
    | inr o =>
      rw [hf] at h
      rw [hop_inr] at h
      rw [h]
/-- All of a list, with rounds enough. -/
theorem range_all {α S O : Type} (l : List α) (hl : l.length ≤ 4611686018427387903) (L : Nat → S → Nat → Option O) (f : S → α → S ⊕ O) (g : S → O) (I : Nat → S → Prop)
    (hs : ∀ m i s (h : i < l.length), I i s → Hop (f s l[i]) (fun s' => I (i + 1) s' ∧ L (m + 1) s i = L m s' (i + 1)) (fun o => L (m + 1) s i = some o))
    (he : ∀ m s, I l.length s → L (m + 1) s l.length = some (g s)) (s : S) (hI : I 0 s) : L big s 0 = some (foldO f g s l) := by
  have := range_loop l L f g I hs he l.length 0 big s (by omega) (by have := big_ge (n := l.length + 1) (by omega); omega) hI
  simpa using this
theorem at_get {e : Ty} (xs : List e.den) (i : Nat) (h : i < xs.length) : at_ xs (i : Int) = xs[i] := by
  unfold at_; simp [List.getD_eq_getElem?_getD, h]
theorem wsucc {i n : Nat} (h : i < n) (hn : n ≤ 4611686018427387904) : IntKind.i64.wrap ((i : Int) + 1) = ((i + 1 : Nat) : Int) := wnat (by omega) (by omega)
theorem dlt {i n : Nat} (h : i < n) : decide ((i : Int) < (n : Int)) = true := decide_eq_true (by omega)
theorem dlt_self (n : Nat) : decide ((n : Int) < (n : Int)) = false := decide_eq_false (by omega)
end Go.Ev
