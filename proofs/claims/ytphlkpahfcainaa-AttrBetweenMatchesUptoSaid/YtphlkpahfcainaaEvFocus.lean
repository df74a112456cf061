/- A loop of a function, with what follows it. -/
import Derived.Test.YtphlkpahfcainaaEvTab
namespace Go.Ev
set_option linter.unusedVariables false

/-- A step into code; `lp m`: into a loop's body, with `m` rounds left behind the round. -/
inductive Dir where
  | sl | sr | ct | cf | bl
  | lp (m : Nat)

structure Foc (A : Type) where
  c : Code
  hs : List Keep
  kn : St → Option A
  kx : Nat → St → Option A
  kr : St → Option A

section
variable {A : Type}
noncomputable def focus (T : TypeId → Option TI) (env : Env) (os : List (Nat × Ord)) (n : Nat) : List Dir → Foc A → Foc A
  | [], f => f
  | d :: ds, f => focus T env os n ds (match d, f.c with
    | .sl, .seq a b => { f with c := a, kn := fun σ1 => exec T env os n b (f.hs.drop (nloops a)) σ1 f.kn f.kx f.kr }
    | .sr, .seq a b => { f with c := b, hs := f.hs.drop (nloops a) }
    | .ct, .cond _ a b => { f with c := a }
    | .cf, .cond _ a b => { f with c := b, hs := f.hs.drop (nloops a) }
    | .bl, .block id b => { f with c := b, kx := fun i σ1 => if i = id then f.kn σ1 else f.kx i σ1 }
    | .lp m, .loop b => { f with c := b, hs := f.hs.tail, kn := fun σ1 => loopK (fun σ k => exec T env os n b f.hs.tail σ k f.kx f.kr) (f.hs.headD []) m (scrub (f.hs.headD []) σ1) }
    | _, _ => f)
end

/-- A function's loop, with `m` rounds left, from these slots on. -/
noncomputable def loopAt (T : TypeId → Option TI) (env : Env) (os : List (Nat × Ord)) (s : Sig) (fn : Func) (hs : List Keep) (n : Nat) (p : List Dir) (m : Nat) (σ : St) : Option s.Out :=
  match fn.body with
  | none => none
  | some c => match focus T env os n p ⟨c, hs, retK T s fn, fun _ _ => none, retK T s fn⟩ with
    | ⟨.loop b, hs, kn, kx, kr⟩ => loopK (fun σ k => exec T env os n b hs.tail σ k kx kr) (hs.headD []) m σ
    | _ => none

end Go.Ev
