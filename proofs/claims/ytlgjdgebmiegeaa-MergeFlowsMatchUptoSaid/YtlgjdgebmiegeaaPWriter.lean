
import Derived.Test.YtlgjdgebmiegeaaPDeltaB
import Derived.Test.YtlgjdgebmiegeaaGAct
namespace Go.Ev.Delta
open Go.Ev Go.Ev.Attr Go.Ev.Track
set_option linter.unusedVariables false
set_option linter.unusedSimpArgs false
def fl (o : Steps) (a : Flow) (c : Int) : Steps := o ++ (if emp a = true then [] else [mkT 1 0 [] a]) ++ (if 0 < c then [mkT 2 c [] []] else [])
def mrgK : Steps → Int → Attrs → Steps
  | [], n, t => [mkT 0 n t []]
  | s :: l, n, t => match l with
    | [] => if sk s = 0 ∧ eqA (sa s) t = true then [mkT (sk s) (sn s + n) (sa s) (se s)] else [s, mkT 0 n t []]
    | _ :: _ => s :: mrgK l n t
theorem mrg_last (d : Steps) (s : YStep.den) (n : Int) (t : Attrs) : mrgK (d ++ [s]) n t = if sk s = 0 ∧ eqA (sa s) t = true then d ++ [mkT (sk s) (sn s + n) (sa s) (se s)] else d ++ [s] ++ [mkT 0 n t []] := by
  induction d with
  | nil => simp [mrgK]
  | cons x d ih =>
    have : x :: d ++ [s] = x :: (d ++ [s]) := rfl
    rw [this, mrgK.eq_def]
    cases hd : d ++ [s] with
    | nil => simp at hd
    | cons y l =>
      simp only
      rw [← hd, ih]
      split <;> simp
theorem last_cases (y : Steps) : y = [] ∨ ∃ (d : Steps) (s : YStep.den), y = d ++ [s] := by
  rcases List.eq_nil_or_concat y with h | ⟨d, s, h⟩
  · exact .inl h
  · exact .inr ⟨d, s, by simpa using h⟩
/-- Small enough for one more step. -/
structure Wy (y : Steps) : Prop where
  l : y.length ≤ 4194304
  n : ∀ s ∈ y, 0 ≤ sn s ∧ sn s ≤ 1152921504606846976
  a : ∀ s ∈ y, (sa s).length ≤ 1048576
theorem fl_len (o : Steps) (a : Flow) (c : Int) : (fl o a c).length ≤ o.length + 2 := by
  unfold fl
  simp only [List.length_append]
  split <;> split <;> simp <;> omega
theorem b64 (n k : Nat) (h : n ≤ 4194306) (hk : k ≤ 4) : (n + k) * 64 ≤ 140737488355328 := Nat.le_trans (Nat.mul_le_mul_right 64 (Nat.add_le_add h hk)) (by decide)
theorem flush_eq (o : Steps) (a : Flow) (c : Int) (ho : o.length ≤ 4194304) : C_delta_writer_flush F_delta_writer_flush o a c = some (ret_delta_writer_flush (fl o a c) [] 0) := by
  have b1 : ∀ x : YStep.den, (o.length + [x].length) * 64 ≤ 140737488355328 := fun x => b64 _ 1 (by omega) (by omega)
  have b2 : ∀ x y : YStep.den, ((o ++ [x]).length + [y].length) * 64 ≤ 140737488355328 := fun x y => b64 _ 1 (by simp; omega) (by omega)
  have q1 : ((1, (0, ([], a))) : YStep.den) = mkT 1 0 [] a := rfl
  have q2 : ((2, (c, ([], []))) : YStep.den) = mkT 2 c [] [] := rfl
  rw [e_delta_writer_flush]
  simp only [bcond_if, len_pos, b1, b2, if_true, q1, q2]
  unfold fl
  by_cases h1 : emp a = true
  · by_cases h2 : 0 < c
    · have h2' : c > 0 := h2
      simp [h1, h2']
    · have h2' : ¬ c > 0 := h2
      simp [h1, h2']
  · by_cases h2 : 0 < c
    · have h2' : c > 0 := h2
      simp [h1, h2']
    · have h2' : ¬ c > 0 := h2
      simp [h1, h2']
theorem at_last (d : Steps) (s : YStep.den) : at_ (e := YStep) (d ++ [s]) ((d.length : Nat) : Int) = s := by
  unfold at_
  simp [List.getD_eq_getElem?_getD]
theorem set_last (d : Steps) (s u : YStep.den) : List.set (d ++ [s]) d.length u = d ++ [u] := by simp
theorem keep_eq (n : Int) (t : Attrs) (o : Steps) (a : Flow) (c : Int) (ho : o.length ≤ 4194302) (hy : Wy (fl o a c)) (hn : 0 ≤ n ∧ n ≤ 1152921504606846976) (ht : t.length ≤ 1048576) :
    C_delta_writer_keep F_delta_writer_keep n t o a c = some (if n = 0 then ret_delta_writer_keep o a c else ret_delta_writer_keep (mrgK (fl o a c) n t) [] 0) := by
  rw [e_delta_writer_keep, flush_eq o a c (by omega)]
  by_cases h0 : n = 0
  · simp [bcond_if, h0]
  have b0 : (n == 0) = false := by simpa using h0
  simp only [Option.bind_some]
  generalize hY : res_delta_writer_flush_0 (ret_delta_writer_flush (fl o a c) [] 0) = y
  rw [res_delta_writer_flush_0_ret] at hY
  rw [hY] at hy ⊢
  simp only [bcond_if, b0, if_false, h0, Bool.false_eq_true, res_delta_writer_flush_1_ret, res_delta_writer_flush_2_ret]
  have hl := hy.l
  have b1 : ∀ x : YStep.den, (y.length + [x].length) * 64 ≤ 140737488355328 := fun x => b64 _ 1 (by omega) (by omega)
  have bt : t.length * 32 ≤ 140737488355328 := by omega
  have q5 : ((0, (n, (t, []))) : YStep.den) = mkT 0 n t [] := rfl
  rcases last_cases y with hy0 | ⟨d, s, hy0⟩
  · subst hy0
    have w : IntKind.i64.wrap (((([] : Steps).length : Nat) : Int) - 1) = -1 := rfl
    rw [w]
    simp only [show decide ((-1 : Int) ≥ 0) = false from rfl, b1, bt, if_true, if_false, Bool.false_eq_true, Bool.false_beq, Bool.not_true, q5, mrgK]
    rfl
  · subst hy0
    have hlen : (d ++ [s]).length = d.length + 1 := by simp
    have w : IntKind.i64.wrap (((d ++ [s]).length : Int) - 1) = ((d.length : Nat) : Int) := wnat (by rw [hlen]; omega) (by omega)
    have c1 : decide (((d.length : Nat) : Int) ≥ 0) = true := decide_eq_true (by omega)
    have c2 : d.length < (d ++ [s]).length := by omega
    have hs := hy.n s (by simp)
    have hsa := hy.a s (by simp)
    have e1 : s.1 = sk s := rfl
    have e2 : s.2.1 = sn s := rfl
    have e3 : s.2.2.1 = sa s := rfl
    have wn : IntKind.i64.wrap (sn s + n) = sn s + n := w64 (by omega) (by omega)
    have q6 : ∀ z : Int, ((sk s, (z, s.2.2)) : YStep.den) = mkT (sk s) z (sa s) (se s) := fun z => rfl
    rw [w]
    rw [at_last, mrg_last]
    simp only [c1, beq_self_eq_true, if_true, inb, c2, e1, e2, e3, same38 _ _ hsa, Option.bind_some, res_attr_Same_0_ret, wn, Int.toNat_natCast, set_last, q5, q6, b1, bt]
    by_cases k0 : sk s = 0
    · cases hq : eqA (sa s) t <;> simp [k0]
    · have k0' : (sk s == 0) = false := by simpa using k0
      simp [k0, k0']
theorem elems_eq (l : Flow) (o : Steps) (a : Flow) (c : Int) (hl : Fs l) (ha : a.length ≤ 4194304) : C_delta_writer_elems F_delta_writer_elems l o a c = some (ret_delta_writer_elems o (a ++ l) c) := by
  have h1 := hl.1
  have cp := copy_eq l h1 (fun j => (hl.2 j).1)
  have b1 : (a.length + l.length) * 40 ≤ 140737488355328 := by omega
  rw [e_delta_writer_elems, cp]
  simp [b1]
theorem done_eq (o : Steps) (a : Flow) (c : Int) (ho : o.length ≤ 4194304) (hd : Ds (fl o a c)) :
    ∃ z, C_delta_writer_done F_delta_writer_done o a c = some z ∧ res_delta_writer_done_0 z = (if err (fl o a c) = 0 then fl o a c else []) ∧ res_delta_writer_done_1 z = (if err (fl o a c) = 0 then 0 else 3) := by
  rw [e_delta_writer_done, flush_eq o a c ho]
  simp only [Option.bind_some, res_delta_writer_flush_0_ret, res_delta_writer_flush_1_ret, res_delta_writer_flush_2_ret, (check_eq _ hd).1, res_delta_Check_0_ret, bcond_if]
  by_cases h : err (fl o a c) = 0
  · refine ⟨ret_delta_writer_done (fl o a c) 0 none [] 0, by simp [h], ?_, ?_⟩
    · rw [if_pos h]; rfl
    · rw [if_pos h]; rfl
  · refine ⟨ret_delta_writer_done [] 3 (some (fl o a c)) [] 0, by simp [h], ?_, ?_⟩
    · rw [if_neg h]; rfl
    · rw [if_neg h]; rfl
def adAt (adds : List Flow) (i : Nat) : Flow := at_ (e := .list YElem) adds (i : Int)
def cutAt (cuts : List Bool) (i : Nat) : Bool := at_ (e := .bool) cuts (i : Int)
def atrAt (attrs : List Attrs) (i : Nat) : Attrs := at_ (e := .list YAttr) attrs (i : Int)
end Go.Ev.Delta
