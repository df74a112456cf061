/- The types of the program that its laws reach, and that the table of them is true. -/
import Derived.Test.YtpmeeopafdgbpaaDoorEvMf
import Derived.Test.YtpmeeopafdgbpaaDoorProg
import Derived.KernelRfl
namespace Go.Ev
set_option linter.unusedVariables false
set_option maxRecDepth 100000
open Go.Proofs
abbrev YAttr : Ty := (.pair .str .str)
abbrev YSpan : Ty := (.pair (.int .i64) (.int .i64))
abbrev YElem : Ty := (.pair (.int .i64) (.pair (.int .i64) (.list YAttr)))
abbrev YCell : Ty := (.pair (.int .i64) (.pair (.int .i64) (.pair .str (.pair (.int .i64) (.list YAttr)))))
abbrev YRect : Ty := (.pair (.int .i64) (.pair (.int .i64) YSpan))
abbrev YDrawOp : Ty := (.pair (.int .i64) (.pair (.int .i64) (.pair (.int .i64) (.pair (.int .i64) (.pair (.int .i64) (.pair .str YAttr))))))
abbrev YGrid : Ty := (.pair (.int .i64) (.pair (.int .i64) (.pair (.list YCell) (.list YRect))))
abbrev YNode : Ty := (.pair (.int .i64) (.pair (.int .i64) (.pair (.list YAttr) (.pair (.list YElem) (.pair YGrid (.list YDrawOp))))))
abbrev YGridEdit : Ty := (.pair (.list YSpan) (.pair (.list YSpan) (.pair (.list YCell) (.pair (.list YRect) (.list YRect)))))
abbrev YAccept : Ty := (.pair (.int .u8) (.int .u8))
def tab : Tab := [
  (3, ⟨(.int .i64), false, [], 0, 8, false, 0, false, []⟩),
  (4, ⟨.bool, false, [], 0, 1, false, 0, false, []⟩),
  (5, ⟨(.int .u8), false, [], 0, 1, false, 0, false, []⟩),
  (9, ⟨.str, false, [], 0, 16, false, 0, false, []⟩),
  (21, ⟨(.int .i32), false, [], 0, 4, false, 0, false, []⟩),
  (22, ⟨(.list YCell), false, [], 42, 24, false, 0, false, []⟩),
  (23, ⟨(.list YRect), false, [], 46, 24, false, 0, false, []⟩),
  (25, ⟨YGrid, true, [(0, 3), (1, 3), (2, 22), (3, 23)], 0, 64, false, 0, false, []⟩),
  (26, ⟨(.list YSpan), false, [], 50, 24, false, 0, false, []⟩),
  (28, ⟨YGridEdit, true, [(0, 26), (1, 26), (2, 22), (3, 23), (4, 23)], 0, 120, false, 0, false, []⟩),
  (30, ⟨(.int .i64), false, [], 0, 8, false, 0, false, []⟩),
  (40, ⟨(.list YAttr), false, [], 105, 24, false, 0, false, []⟩),
  (42, ⟨YCell, true, [(0, 3), (1, 3), (2, 9), (3, 3), (4, 40)], 0, 64, false, 0, false, []⟩),
  (46, ⟨YRect, true, [(0, 3), (1, 3), (2, 3), (3, 3)], 0, 32, true, 0, false, []⟩),
  (50, ⟨YSpan, true, [(0, 3), (1, 3)], 0, 16, true, 0, false, []⟩),
  (63, ⟨(.list (.int .i64)), false, [], 3, 24, false, 0, false, []⟩),
  (75, ⟨(.pair (.list YSpan) (.list YSpan)), true, [], 26, 48, false, 2, false, []⟩),
  (76, ⟨(.pair (.list YRect) (.list YRect)), true, [], 23, 48, false, 2, false, []⟩),
  (98, ⟨YAccept, true, [(0, 5), (1, 5)], 0, 2, true, 0, false, []⟩),
  (100, ⟨(.int .u64), false, [], 0, 8, false, 0, false, []⟩),
  (105, ⟨YAttr, true, [(0, 9), (1, 9)], 0, 32, true, 0, false, []⟩),
  (115, ⟨(.int .u64), false, [], 0, 8, false, 0, false, []⟩),
  (125, ⟨(.int .u32), false, [], 0, 4, false, 0, false, []⟩),
  (127, ⟨(.int .u64), false, [], 0, 8, false, 0, false, []⟩)]
def T (t : TypeId) : Option TI := tabT tab t
noncomputable def setsT (l : List (Nat × Slot)) : Tr := List.rec (motive := fun _ => Tr) .e (fun e _ ih => ssT ih e.1 e.2) l
noncomputable def mk (n : Nat) (l : List (Nat × Slot)) : St := ⟨n, setsT l⟩
@[reducible] noncomputable def P : Program := Go.Proofs.Tryd.prog
theorem tab1 : tab.map (fun e => infoOf P e.1) = tab.map (fun e => infoTI e.2) := by kernel_rfl
theorem tab2 : tab.map (fun e => (P.underlying e.1).map dsc) = tab.map (fun e => some (dscTI e.2)) := by kernel_rfl
theorem tab3 : tab.all (restB P tab) = true := by kernel_rfl
def tab0 : Tab := tab.filter fun e => e.2.arr == 0
def T0 (t : TypeId) : Option TI := tabT tab0 t
theorem tab01 : tab0.map (fun e => infoOf P e.1) = tab0.map (fun e => infoTI e.2) := by kernel_rfl
theorem tab02 : tab0.map (fun e => (P.underlying e.1).map dsc) = tab0.map (fun e => some (dscTI e.2)) := by kernel_rfl
theorem tab03 : tab0.all (restB P tab0) = true := by kernel_rfl
theorem tab04 : tab0.all (fun e => partsB T0 e.1) = true := by kernel_rfl
theorem tab5 : lay.all (vtB P tab) = true := by kernel_rfl
theorem tab05 : lay.all (vtB P tab0) = true := by kernel_rfl
theorem T_ok : TOk P T := tok_of tab5 tab1 tab2 tab3
/-- The types without arrays. -/
theorem T0_ok : TOk P T0 := tok_of tab05 tab01 tab02 tab03
theorem T0_parts : ∀ t ti, T0 t = some ti → partsB T0 t = true := fun t ti h => List.all_eq_true.1 tab04 (t, ti) (lookup_mem' h)
theorem mixed : P.follows .mixedOrders = true := by kernel_rfl
/-- Rounds enough for every loop. -/
theorem big_ex : ∃ b : Nat, 4611686018427387904 ≤ b := ⟨_, Nat.le_refl _⟩
noncomputable def big : Nat := Classical.choose big_ex
def fnOk (os : RegT) (s : Sig) (fn : Func) : Bool := sigOk s fn && resOk fn && match fn.body with
  | some c => codeOk os fn.ntmps c
  | none => false
theorem env_nil : EnvOk P [] := fun q h => by cases h
theorem env_cons {f : FuncId} {F : Fun} {env : Env} (h : Sound P f F) (h2 : EnvOk P env) : EnvOk P ((f, F) :: env) := fun q hq => by
  rcases List.mem_cons.1 hq with rfl | hq
  · exact h
  · exact h2 q hq
theorem sound_of {f : FuncId} {s : Sig} {F : s.Fn} {fn : Func} {env : Env} {os : RegT} {hs : List Keep} (hE : EnvOk P env) (hfn : P.funcs[f]? = some fn) (h : fnOk os s fn = true)
    (hF : ∀ x y out, F x y = some out → ∃ n, run T env os s fn hs n x y = some out) : Sound P f ⟨s, F⟩ := by
  simp only [fnOk, Bool.and_eq_true] at h
  obtain ⟨⟨h1, h2⟩, h3⟩ := h
  cases hb : fn.body with
  | none => rw [hb] at h3; cases h3
  | some c => rw [hb] at h3; exact fun_sound (F := ⟨s, F⟩) T_ok hE mixed hfn hb h1 h2 h3 hF
def T1 (t : TypeId) : Option TI := hotT [23, 63] [34, 47, 67, 72] T t
theorem T1_ok : TOk P T1 := T_ok.hot _ _
/-- Where rows of rows are built in place. -/
theorem sound_of1 {f : FuncId} {s : Sig} {F : s.Fn} {fn : Func} {env : Env} {os : RegT} {hs : List Keep} (hE : EnvOk P env) (hfn : P.funcs[f]? = some fn) (h : fnOk os s fn = true)
    (hF : ∀ x y out, F x y = some out → ∃ n, run T1 env os s fn hs n x y = some out) : Sound P f ⟨s, F⟩ := by
  simp only [fnOk, Bool.and_eq_true] at h
  obtain ⟨⟨h1, h2⟩, h3⟩ := h
  cases hb : fn.body with
  | none => rw [hb] at h3; cases h3
  | some c => rw [hb] at h3; exact fun_sound (F := ⟨s, F⟩) T1_ok hE mixed hfn hb h1 h2 h3 hF
end Go.Ev
