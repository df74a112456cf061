/- The types of the program that its laws reach, and that the table of them is true. -/
import Derived.Test.YtlgjdgebmiegeaaEvMf
import Derived.Test.YtlgjdgebmiegeaaProg
import Derived.KernelRfl
namespace Go.Ev
set_option linter.unusedVariables false
set_option maxRecDepth 100000
open Go.Proofs
abbrev YAttr : Ty := (.pair .str .str)
abbrev YSpan : Ty := (.pair (.int .i64) (.int .i64))
abbrev YElem : Ty := (.pair (.int .i64) (.pair (.int .i64) (.list YAttr)))
abbrev YAct : Ty := (.pair (.list (.list YElem)) (.pair (.list .bool) (.list (.list YAttr))))
abbrev YWriter : Ty := (.pair (.list YSpan) YSpan)
abbrev YReader : Ty := (.pair (.list YSpan) (.int .i64))
abbrev YDWriter : Ty := (.pair (.list (.pair (.int .i64) (.pair (.int .i64) (.pair (.list YAttr) (.list YElem))))) (.pair (.list YElem) (.int .i64)))
abbrev YDReader : Ty := (.pair (.list (.pair (.int .i64) (.pair (.int .i64) (.pair (.list YAttr) (.list YElem))))) (.int .i64))
abbrev YStep : Ty := (.pair (.int .i64) (.pair (.int .i64) (.pair (.list YAttr) (.list YElem))))
abbrev YConflict : Ty := (.pair (.int .i64) (.pair (.int .i64) (.pair (.int .i64) (.pair (.int .i64) .str))))
abbrev YJoined : Ty := (.pair (.int .i64) (.pair (.list YElem) (.list YConflict)))
def tab : Tab := [
  (3, ⟨(.int .i64), false, [], 0, 8, false, 0, false, []⟩),
  (4, ⟨.bool, false, [], 0, 1, false, 0, false, []⟩),
  (5, ⟨(.int .u8), false, [], 0, 1, false, 0, false, []⟩),
  (9, ⟨.str, false, [], 0, 16, false, 0, false, []⟩),
  (22, ⟨(.list YStep), false, [], 30, 24, false, 0, false, []⟩),
  (24, ⟨(.int .i64), false, [], 0, 8, false, 0, false, []⟩),
  (27, ⟨(.list YAttr), false, [], 123, 24, false, 0, false, []⟩),
  (28, ⟨(.list YElem), false, [], 113, 24, false, 0, false, []⟩),
  (30, ⟨YStep, true, [(0, 3), (1, 3), (2, 27), (3, 28)], 0, 64, false, 0, false, []⟩),
  (35, ⟨(.list (.list YElem)), false, [], 28, 24, false, 0, false, []⟩),
  (36, ⟨(.list .bool), false, [], 4, 24, false, 0, false, []⟩),
  (37, ⟨(.list (.list YAttr)), false, [], 27, 24, false, 0, false, []⟩),
  (39, ⟨YAct, true, [(0, 35), (1, 36), (2, 37)], 0, 72, false, 0, false, []⟩),
  (52, ⟨(.list YSpan), false, [], 128, 24, false, 0, false, []⟩),
  (79, ⟨(.list YSpan), false, [], 90, 24, false, 0, false, []⟩),
  (84, ⟨(.list (.int .i64)), false, [], 3, 24, false, 0, false, []⟩),
  (90, ⟨YSpan, true, [(0, 3), (1, 3)], 0, 16, true, 0, false, []⟩),
  (102, ⟨(.list YConflict), false, [], 168, 24, false, 0, false, []⟩),
  (105, ⟨(.pair (.list YElem) (.pair (.list YElem) (.list YElem))), true, [], 28, 72, false, 3, false, []⟩),
  (113, ⟨YElem, true, [(0, 3), (1, 3), (2, 27)], 0, 40, false, 0, false, []⟩),
  (116, ⟨YDWriter, true, [(0, 22), (1, 28), (2, 3)], 0, 56, false, 0, false, []⟩),
  (123, ⟨YAttr, true, [(0, 9), (1, 9)], 0, 32, true, 0, false, []⟩),
  (128, ⟨YSpan, true, [(0, 3), (1, 3)], 0, 16, true, 0, false, []⟩),
  (134, ⟨YDReader, true, [(0, 22), (1, 3)], 0, 32, false, 0, false, []⟩),
  (143, ⟨YWriter, true, [(0, 52), (1, 3), (2, 3)], 0, 40, false, 0, false, []⟩),
  (146, ⟨YReader, true, [(0, 52), (1, 3)], 0, 32, false, 0, false, []⟩),
  (165, ⟨(.pair (.list YElem) (.list YElem)), true, [], 28, 48, false, 2, false, []⟩),
  (168, ⟨YConflict, true, [(0, 3), (1, 3), (2, 3), (3, 3), (4, 9)], 0, 48, true, 0, false, []⟩),
  (182, ⟨(.list (.list (.int .i64))), false, [], 84, 24, false, 0, false, []⟩),
  (186, ⟨YAct, true, [(0, 35), (1, 36), (2, 37)], 0, 72, false, 0, false, []⟩),
  (190, ⟨YJoined, true, [(0, 3), (1, 28), (2, 102)], 0, 56, false, 0, false, []⟩)]
def T (t : TypeId) : Option TI := tabT tab t
noncomputable def setsT (l : List (Nat × Slot)) : Tr := List.rec (motive := fun _ => Tr) .e (fun e _ ih => ssT ih e.1 e.2) l
noncomputable def mk (n : Nat) (l : List (Nat × Slot)) : St := ⟨n, setsT l⟩
@[reducible] noncomputable def P : Program := Go.Proofs.Try.prog
theorem tab1 : tab.map (fun e => infoOf P e.1) = tab.map (fun e => infoTI e.2) := by kernel_rfl
theorem tab2 : tab.map (fun e => (P.underlying e.1).map dsc) = tab.map (fun e => some (dscTI e.2)) := by kernel_rfl
theorem tab3 : tab.all (restB P tab) = true := by kernel_rfl
def tab0 : Tab := tab.filter fun e => e.2.arr == 0
def T0 (t : TypeId) : Option TI := tabT tab0 t
theorem tab01 : tab0.map (fun e => infoOf P e.1) = tab0.map (fun e => infoTI e.2) := by kernel_rfl
theorem tab02 : tab0.map (fun e => (P.underlying e.1).map dsc) = tab0.map (fun e => some (dscTI e.2)) := by kernel_rfl
theorem tab03 : tab0.all (restB P tab0) = true := by kernel_rfl
theorem tab04 : tab0.all (fun e => partsB T0 e.1) = true := by kernel_rfl
theorem T_ok : TOk P T := tok_of tab1 tab2 tab3
/-- The types without arrays. -/
theorem T0_ok : TOk P T0 := tok_of tab01 tab02 tab03
theorem T0_parts : ∀ t ti, T0 t = some ti → partsB T0 t = true := fun t ti h => List.all_eq_true.1 tab04 (t, ti) (lookup_mem' h)
theorem mixed : P.follows .mixedOrders = true := by kernel_rfl
/-- Rounds enough for every loop. -/
theorem big_ex : ∃ b : Nat, 4611686018427387904 ≤ b := ⟨_, Nat.le_refl _⟩
noncomputable def big : Nat := Classical.choose big_ex
def fnOk (os : RegT) (s : Sig) (fn : Func) : Bool := sigOk s fn && resOk fn && match fn.body with
  | some c => codeOk os fn.ntmps c
  | none => false
theorem env_nil : EnvOk P [] := fun q h => by cases h
theorem env_cons {f : FuncId} {F : Fun} {env : Env} (h : Sound P f F) (h2 : EnvOk P env) : EnvOk P ((f, F) :: env) := fun q hq => by
  rcases List.mem_cons.1 hq with rfl | hq
  · exact h
  · exact h2 q hq
theorem sound_of {f : FuncId} {s : Sig} {F : s.Fn} {fn : Func} {env : Env} {os : RegT} {hs : List Keep} (hE : EnvOk P env) (hfn : P.funcs[f]? = some fn) (h : fnOk os s fn = true)
    (hF : ∀ x y out, F x y = some out → ∃ n, run T env os s fn hs n x y = some out) : Sound P f ⟨s, F⟩ := by
  simp only [fnOk, Bool.and_eq_true] at h
  obtain ⟨⟨h1, h2⟩, h3⟩ := h
  cases hb : fn.body with
  | none => rw [hb] at h3; cases h3
  | some c => rw [hb] at h3; exact fun_sound (F := ⟨s, F⟩) T_ok hE mixed hfn hb h1 h2 h3 hF
def T1 (t : TypeId) : Option TI := hotT [28, 35, 84, 182] [34, 47, 67, 72] T t
theorem T1_ok : TOk P T1 := T_ok.hot _ _
/-- Where rows of rows are built in place. -/
theorem sound_of1 {f : FuncId} {s : Sig} {F : s.Fn} {fn : Func} {env : Env} {os : RegT} {hs : List Keep} (hE : EnvOk P env) (hfn : P.funcs[f]? = some fn) (h : fnOk os s fn = true)
    (hF : ∀ x y out, F x y = some out → ∃ n, run T1 env os s fn hs n x y = some out) : Sound P f ⟨s, F⟩ := by
  simp only [fnOk, Bool.and_eq_true] at h
  obtain ⟨⟨h1, h2⟩, h3⟩ := h
  cases hb : fn.body with
  | none => rw [hb] at h3; cases h3
  | some c => rw [hb] at h3; exact fun_sound (F := ⟨s, F⟩) T1_ok hE mixed hfn hb h1 h2 h3 hF
/-- What holds of each fuel holds of a fuel that depends. -/
theorem sound_fuel {f : FuncId} {s : Sig} {F : Nat → s.Fn} (h : ∀ k, Sound P f ⟨s, F k⟩) (m : HL s.ins → BL s.bs → Nat) : Sound P f ⟨s, fun x y => F (m x y) x y⟩ :=
  ⟨(h 0).1, (h 0).2, (h 0).3, fun x y out ho => (h (m x y)).4 x y out ho⟩
end Go.Ev
