
import Derived.Test.YtpmeeopafdgbpaaDoorEvPure
namespace Go.Ev.Lex
set_option linter.unusedVariables false
variable {A : Type}
/-- The order of places. -/
def lt2 (a b : Int × Int) : Prop := a.1 < b.1 ∨ (a.1 = b.1 ∧ a.2 < b.2)
instance (a b : Int × Int) : Decidable (lt2 a b) := by unfold lt2; infer_instance
theorem lt2_irrefl (a : Int × Int) : ¬ lt2 a a := by unfold lt2; omega
theorem lt2_trans {a b c : Int × Int} (h1 : lt2 a b) (h2 : lt2 b c) : lt2 a c := by unfold lt2 at *; omega
theorem lt2_tri (a b : Int × Int) : lt2 a b ∨ a = b ∨ lt2 b a := by
  obtain ⟨a1, a2⟩ := a
  obtain ⟨b1, b2⟩ := b
  unfold lt2
  simp only [Prod.mk.injEq]
  omega
/-- In order. -/
def Srt (k : A → Int × Int) (l : List A) : Prop := l.Pairwise fun a b => lt2 (k a) (k b)
/-- At most one at each place. -/
theorem srt_one {k : A → Int × Int} {l : List A} (h : Srt k l) {x y : A} (hx : x ∈ l) (hy : y ∈ l) (e : k x = k y) : x = y := by
  induction l with
  | nil => cases hx
  | cons z l ih =>
    have h := List.pairwise_cons.1 h
    rcases List.mem_cons.1 hx with hx | hx
    · rcases List.mem_cons.1 hy with hy | hy
      · rw [hx, hy]
      · have := h.1 y hy; rw [← hx, e] at this; exact absurd this (lt2_irrefl _)
    · rcases List.mem_cons.1 hy with hy | hy
      · have := h.1 x hx; rw [← hy, e] at this; exact absurd this (lt2_irrefl _)
      · exact ih h.2 hx hy
/-- Those ahead of a place; those behind it, or at it. -/
def bef (k : A → Int × Int) (c : Int × Int) (l : List A) : List A := l.takeWhile fun x => decide (lt2 (k x) c)
def aft (k : A → Int × Int) (c : Int × Int) (l : List A) : List A := l.dropWhile fun x => decide (lt2 (k x) c)
def skip (k : A → Int × Int) (c : Int × Int) : List A → List A
  | [] => []
  | x :: l => if k x = c then l else x :: l
/-- Put new ones in, those that are not empty. -/
def putL (k : A → Int × Int) (em : A → Bool) : List A → List A → List A
  | l, [] => l
  | l, c :: ns => bef k (k c) l ++ ((if em c = true then [] else [c]) ++ putL k em (skip k (k c) (aft k (k c) l)) ns)
end Go.Ev.Lex
