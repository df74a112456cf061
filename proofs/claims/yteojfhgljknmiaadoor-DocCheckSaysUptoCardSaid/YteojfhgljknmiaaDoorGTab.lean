/- The types of the program that its laws reach, and that the table of them is true. -/
import Derived.Test.YteojfhgljknmiaaDoorEvMf
import Derived.Test.YteojfhgljknmiaaDoorProg
import Derived.KernelRfl
namespace Go.Ev
set_option linter.unusedVariables false
set_option maxRecDepth 100000
open Go.Proofs
abbrev YAttr : Ty := (.pair .str .str)
abbrev YElem : Ty := (.pair (.int .i64) (.pair (.int .i64) (.list YAttr)))
abbrev YCell : Ty := (.pair (.int .i64) (.pair (.int .i64) (.pair .str (.pair (.int .i64) (.list YAttr)))))
abbrev YRect : Ty := (.pair (.int .i64) (.pair (.int .i64) (.pair (.int .i64) (.int .i64))))
abbrev YDrawOp : Ty := (.pair (.int .i64) (.pair (.int .i64) (.pair (.int .i64) (.pair (.int .i64) (.pair (.int .i64) (.pair .str YAttr))))))
abbrev YGrid : Ty := (.pair (.int .i64) (.pair (.int .i64) (.pair (.list YCell) (.list YRect))))
abbrev YNode : Ty := (.pair (.int .i64) (.pair (.int .i64) (.pair (.list YAttr) (.pair (.list YElem) (.pair YGrid (.list YDrawOp))))))
abbrev YAccept : Ty := (.pair (.int .u8) (.int .u8))
abbrev YDoc : Ty := (.list YNode)
def tab : Tab := [
  (3, ⟨(.int .i64), false, [], 0, 8, false, 0, false, []⟩),
  (4, ⟨.bool, false, [], 0, 1, false, 0, false, []⟩),
  (5, ⟨(.int .u8), false, [], 0, 1, false, 0, false, []⟩),
  (9, ⟨.str, false, [], 0, 16, false, 0, false, []⟩),
  (21, ⟨(.int .i32), false, [], 0, 4, false, 0, false, []⟩),
  (22, ⟨(.list YAttr), false, [], 100, 24, false, 0, false, []⟩),
  (24, ⟨(.list YElem), false, [], 35, 24, false, 0, false, []⟩),
  (25, ⟨(.int .i64), false, [], 0, 8, false, 0, false, []⟩),
  (33, ⟨(.list (.int .i64)), false, [], 3, 24, false, 0, false, []⟩),
  (35, ⟨YElem, true, [(0, 3), (1, 3), (2, 22)], 0, 40, false, 0, false, []⟩),
  (49, ⟨YDoc, false, [], 59, 24, false, 0, false, []⟩),
  (51, ⟨YDoc, true, [(0, 49)], 0, 24, false, 0, false, []⟩),
  (53, ⟨(.list YCell), false, [], 109, 24, false, 0, false, []⟩),
  (54, ⟨(.list YRect), false, [], 116, 24, false, 0, false, []⟩),
  (56, ⟨YGrid, true, [(0, 3), (1, 3), (2, 53), (3, 54)], 0, 64, false, 0, false, []⟩),
  (57, ⟨(.list YDrawOp), false, [], 107, 24, false, 0, false, []⟩),
  (59, ⟨YNode, true, [(0, 3), (1, 3), (2, 22), (3, 24), (4, 56), (8, 57)], 0, 152, false, 0, false, []⟩),
  (79, ⟨(.list (.int .u8)), false, [], 5, 24, false, 0, false, []⟩),
  (91, ⟨(.int .u64), false, [], 0, 8, false, 0, false, []⟩),
  (100, ⟨YAttr, true, [(0, 9), (1, 9)], 0, 32, true, 0, false, []⟩),
  (102, ⟨(.int .u32), false, [], 0, 4, false, 0, false, []⟩),
  (107, ⟨YDrawOp, true, [(0, 3), (1, 3), (2, 3), (3, 3), (4, 3), (5, 9), (6, 9), (7, 9)], 0, 88, true, 0, false, []⟩),
  (109, ⟨YCell, true, [(0, 3), (1, 3), (2, 9), (3, 3), (4, 22)], 0, 64, false, 0, false, []⟩),
  (116, ⟨YRect, true, [(0, 3), (1, 3), (2, 3), (3, 3)], 0, 32, true, 0, false, []⟩),
  (128, ⟨YAccept, true, [(0, 5), (1, 5)], 0, 2, true, 0, false, []⟩),
  (151, ⟨(.int .u64), false, [], 0, 8, false, 0, false, []⟩)]
def T (t : TypeId) : Option TI := tabT tab t
noncomputable def setsT (l : List (Nat × Slot)) : Tr := List.rec (motive := fun _ => Tr) .e (fun e _ ih => ssT ih e.1 e.2) l
noncomputable def mk (n : Nat) (l : List (Nat × Slot)) : St := ⟨n, setsT l⟩
@[reducible] noncomputable def P : Program := Go.Proofs.Tryd.prog
theorem tab1 : tab.map (fun e => infoOf P e.1) = tab.map (fun e => infoTI e.2) := by kernel_rfl
theorem tab2 : tab.map (fun e => (P.underlying e.1).map dsc) = tab.map (fun e => some (dscTI e.2)) := by kernel_rfl
theorem tab3 : tab.all (restB P tab) = true := by kernel_rfl
def tab0 : Tab := tab.filter fun e => e.2.arr == 0
def T0 (t : TypeId) : Option TI := tabT tab0 t
theorem tab01 : tab0.map (fun e => infoOf P e.1) = tab0.map (fun e => infoTI e.2) := by kernel_rfl
theorem tab02 : tab0.map (fun e => (P.underlying e.1).map dsc) = tab0.map (fun e => some (dscTI e.2)) := by kernel_rfl
theorem tab03 : tab0.all (restB P tab0) = true := by kernel_rfl
theorem tab04 : tab0.all (fun e => partsB T0 e.1) = true := by kernel_rfl
theorem tab5 : lay.all (vtB P tab) = true := by kernel_rfl
theorem tab05 : lay.all (vtB P tab0) = true := by kernel_rfl
theorem T_ok : TOk P T := tok_of tab5 tab1 tab2 tab3
/-- The types without arrays. -/
theorem T0_ok : TOk P T0 := tok_of tab05 tab01 tab02 tab03
theorem T0_parts : ∀ t ti, T0 t = some ti → partsB T0 t = true := fun t ti h => List.all_eq_true.1 tab04 (t, ti) (lookup_mem' h)
theorem mixed : P.follows .mixedOrders = true := by kernel_rfl
/-- Rounds enough for every loop. -/
theorem big_ex : ∃ b : Nat, 4611686018427387904 ≤ b := ⟨_, Nat.le_refl _⟩
noncomputable def big : Nat := Classical.choose big_ex
def fnOk (os : RegT) (s : Sig) (fn : Func) : Bool := sigOk s fn && resOk fn && match fn.body with
  | some c => codeOk os fn.ntmps c
  | none => false
theorem env_nil : EnvOk P [] := fun q h => by cases h
theorem env_cons {f : FuncId} {F : Fun} {env : Env} (h : Sound P f F) (h2 : EnvOk P env) : EnvOk P ((f, F) :: env) := fun q hq => by
  rcases List.mem_cons.1 hq with rfl | hq
  · exact h
  · exact h2 q hq
theorem sound_of {f : FuncId} {s : Sig} {F : s.Fn} {fn : Func} {env : Env} {os : RegT} {hs : List Keep} (hE : EnvOk P env) (hfn : P.funcs[f]? = some fn) (h : fnOk os s fn = true)
    (hF : ∀ x y out, F x y = some out → ∃ n, run T env os s fn hs n x y = some out) : Sound P f ⟨s, F⟩ := by
  simp only [fnOk, Bool.and_eq_true] at h
  obtain ⟨⟨h1, h2⟩, h3⟩ := h
  cases hb : fn.body with
  | none => rw [hb] at h3; cases h3
  | some c => rw [hb] at h3; exact fun_sound (F := ⟨s, F⟩) T_ok hE mixed hfn hb h1 h2 h3 hF
end Go.Ev
