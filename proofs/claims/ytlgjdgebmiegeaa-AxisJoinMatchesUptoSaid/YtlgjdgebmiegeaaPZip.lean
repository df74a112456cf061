
import Derived.Test.YtlgjdgebmiegeaaPAppF
namespace Go.Ev.Delta
open Go.Ev Go.Ev.Attr Go.Ev.Track
set_option linter.unusedVariables false
set_option linter.unusedSimpArgs false
/-- What is added comes first, the first list's before the second's; other units meet in pairs. -/
def zp (fa fb : YElem.den → List U) (fk : U → U → List U) : List U → List U → List U
  | .a x :: us, vs => fa x ++ zp fa fb fk us vs
  | us, .a y :: vs => fb y ++ zp fa fb fk us vs
  | u :: us, v :: vs => fk u v ++ zp fa fb fk us vs
  | _, _ => []
termination_by us vs => us.length + vs.length
section
variable (fa fb : YElem.den → List U) (fk : U → U → List U)
end
def k1 : U → U → List U
  | _, .c => []
  | .c, .k _ => [.c]
  | .k s, .k t => [.k (lack t s)]
  | _, _ => []
def k2 : U → U → List U
  | .c, _ => []
  | _, v => [v]
def z1 : List U → List U → List U := zp (fun x => [.a x]) (fun _ => [.k []]) k1
def z2 : List U → List U → List U := zp (fun _ => [.k []]) (fun y => [.a y]) k2
def fz (n : Nat) : Flow := List.replicate n (mkE 0 0 [])
theorem fz_len (n : Nat) : (fz n).length = n := by simp [fz]
theorem rest_s (a : Act) (ha : AOk a) (i : Nat) (hi : i < a.2.1.length) : rest a i = (adAt a.1 i).map U.a ++ uni (cutAt a.2.1 i) (atrAt a.2.2 i) :: rest a (i + 1) :=
  rest_step (fz a.2.1.length) a ha (fz_len _).symm i (by rw [fz_len]; exact hi)
theorem rest_e (a : Act) (ha : AOk a) : rest a a.2.1.length = (adAt a.1 a.2.1.length).map U.a := by
  have := rest_end (fz a.2.1.length) a ha (fz_len _).symm
  rw [fz_len] at this
  exact this
theorem bct {A : Type} (x y : A) : bcond true x y = x := rfl
theorem bcf {A : Type} (x y : A) : bcond false x y = y := rfl
theorem cA_len : ∀ (us : List U), cA us ≤ us.length ∧ cB us ≤ us.length
  | [] => ⟨Nat.le_refl _, Nat.le_refl _⟩
  | .a x :: us => by have := cA_len us; exact ⟨by show cA us + 1 ≤ us.length + 1; omega, by show cB us ≤ us.length + 1; omega⟩
  | .c :: us => by have := cA_len us; exact ⟨by show cA us ≤ us.length + 1; omega, by show cB us + 1 ≤ us.length + 1; omega⟩
  | .k t :: us => by have := cA_len us; exact ⟨by show cA us + 1 ≤ us.length + 1; omega, by show cB us + 1 ≤ us.length + 1; omega⟩
end Go.Ev.Delta
