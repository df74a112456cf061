
import Derived.Test.YtpmeeopafdgbpaaDoorPGrE
namespace Go.Ev.Doc
open Go.Ev Go.Ev.Axis Go.Ev.Hul Go.Ev.Lex
set_option linter.unusedVariables false
set_option linter.unusedSimpArgs false
set_option maxRecDepth 100000
variable {R C R' C' : Int}
theorem rh0 (a b : Int) : res_axis_Hull_0 (ret_axis_Hull a b) = a := id rfl
theorem rh1 (a b : Int) : res_axis_Hull_1 (ret_axis_Hull a b) = b := id rfl
theorem hl_walk {a : Axis.Steps} {n m : Int} (h : AxOk a n m) (hl : a.length ≤ 1048576) (h0 : a ≠ []) {p k : Int} (p0 : 0 ≤ p) (k1 : 1 ≤ k) (hk : k ≤ n - p) : C_axis_Hull F_axis_Hull a p (IntKind.i64.wrap (p + k)) = some (ret_axis_Hull (hlG a p (p + k)).1 (hlG a p (p + k)).2) := by
  have hn := h.n1
  rw [w64 (x := p + k) (by omega) (by omega)]
  rcases h.ok with ⟨e1, _⟩ | ⟨e1, e2, e3, e4⟩
  · exact absurd e1 h0
  · rw [hull_eq a hl e2 p (p + k) p0 (by omega) (by omega)]
    unfold hlG
    rw [if_neg h0]
theorem b_ok {A : Type} (a b : Bool) (f : Bool → A) (c : Bool) : bcond (a == true) (bcond (b == true) (f c) (f false)) (f false) = f (a && (b && c)) := by cases a <;> cases b <;> rfl
theorem J_thr {b : Axis.Steps} (hc : AxOk b C C') (hb : b.length ≤ 1048576) (y z : Rc) (y0 : 0 ≤ r1 y) (y1 : 1 ≤ r3 y) (y2 : r3 y ≤ C - r1 y) (y3 : 0 ≤ r2 y) (y4 : r2 y ≤ 2147483648) (n : Nat) :
    J_grid_through_0 n b y z = some (ret_grid_through (mkR (r0 y) (hlG b (r1 y) (r1 y + r3 y)).1 (r2 y) ((hlG b (r1 y) (r1 y + r3 y)).2 - (hlG b (r1 y) (r1 y + r3 y)).1)) (okR (mkR (r0 y) (hlG b (r1 y) (r1 y + r3 y)).1 (r2 y) ((hlG b (r1 y) (r1 y + r3 y)).2 - (hlG b (r1 y) (r1 y + r3 y)).1)))) := by
  have hn := hc.n1
  rw [J_grid_through_0_eq, len_pos]
  by_cases e : b = []
  · have eh : hlG b (r1 y) (r1 y + r3 y) = (r1 y, r1 y + r3 y) := by unfold hlG; rw [if_pos e]
    have ey : mkR (r0 y) (r1 y) (r2 y) (r1 y + r3 y - r1 y) = y := rect_ext rfl rfl rfl (by rw [r3_mk]; omega)
    rw [decide_eq_true e, Bool.not_true, bF, eh]
    simp only
    rw [ey]
    have k := b_ok (decide ((y.2.2.1 : Int) > 0)) (decide ((y.2.2.2 : Int) > 0)) (fun q => some (ret_grid_through y q)) (decide (((IntKind.i64.wrap (y.2.2.1 + y.2.2.2)) : Int) > 2))
    have hw : IntKind.i64.wrap (y.2.2.1 + y.2.2.2) = r2 y + r3 y := w64 (x := r2 y + r3 y) (by omega) (by omega)
    rw [k, hw]
    rfl
  · have hh := hl_walk hc hb e y0 y1 y2
    have hh' : C_axis_Hull F_axis_Hull b y.2.1 (IntKind.i64.wrap (y.2.1 + y.2.2.2)) = _ := hh
    have hi := hl_in hc (p := r1 y) (q := r1 y + r3 y) y0 (by omega) (by omega)
    have hm := hc.m
    rw [decide_eq_false e, Bool.not_false, bT, hh', Option.bind_some]
    generalize (hlG b (r1 y) (r1 y + r3 y)).1 = p at hi ⊢
    generalize (hlG b (r1 y) (r1 y + r3 y)).2 = q at hi ⊢
    have hw : IntKind.i64.wrap (q - p) = q - p := w64 (by omega) (by omega)
    have hw2 : IntKind.i64.wrap (y.2.2.1 + (q - p)) = r2 y + (q - p) := w64 (x := r2 y + (q - p)) (by omega) (by omega)
    simp only [rh0, rh1, hw]
    have k := b_ok (decide ((y.2.2.1 : Int) > 0)) (decide ((q - p : Int) > 0)) (fun t => some (ret_grid_through (y.1, (p, (y.2.2.1, q - p))) t)) (decide (((IntKind.i64.wrap (y.2.2.1 + (q - p))) : Int) > 2))
    rw [k, hw2]
    rfl
theorem thr_eq {a b : Axis.Steps} (hr : AxOk a R R') (hc : AxOk b C C') (ha : a.length ≤ 1048576) (hb : b.length ≤ 1048576) (r : Rc) (h : lies r R C = true) : C_grid_through F_grid_through r a b = some (ret_grid_through (thrG a b r) (okR (thrG a b r))) := by
  obtain ⟨h1, h2, h3, h4, h5, h6, h7, h8⟩ := (liesI r R C).1 h
  have hn := hr.n1
  rw [e_grid_through, len_pos]
  by_cases e : a = []
  · have eh : hlG a (r0 r) (r0 r + r2 r) = (r0 r, r0 r + r2 r) := by unfold hlG; rw [if_pos e]
    rw [decide_eq_true e, Bool.not_true, bF, J_thr hc hb r _ h2 h4 h8 (by omega) (by omega)]
    unfold thrG
    rw [eh]
    simp only
    rw [show r0 r + r2 r - r0 r = r2 r by omega]
  · have hh := hl_walk hr ha e h1 h3 h7
    have hh' : C_axis_Hull F_axis_Hull a r.1 (IntKind.i64.wrap (r.1 + r.2.2.1)) = _ := hh
    have hi := hl_in hr (p := r0 r) (q := r0 r + r2 r) h1 (by omega) (by omega)
    have hm := hr.m
    rw [decide_eq_false e, Bool.not_false, bT, hh', Option.bind_some, rh0, rh1]
    unfold thrG
    generalize (hlG a (r0 r) (r0 r + r2 r)).1 = p at hi ⊢
    generalize (hlG a (r0 r) (r0 r + r2 r)).2 = q at hi ⊢
    rw [w64 (x := q - p) (by omega) (by omega)]
    have hJ := J_thr hc hb (mkR p (r1 r) (q - p) (r3 r)) (0, (0, (0, 0))) h2 h4 h8 (by rw [r2_mk]; omega) (by rw [r2_mk]; omega) big
    exact hJ
theorem rect_beq (q x : Rc) : (((q.1 : Int) == x.1) && (((q.2.1 : Int) == x.2.1) && (((q.2.2.1 : Int) == x.2.2.1) && (((q.2.2.2 : Int) == x.2.2.2) && true)))) = (q == x) := by
  have e : (q == x) = (((q.1 : Int) == x.1) && (((q.2.1 : Int) == x.2.1) && (((q.2.2.1 : Int) == x.2.2.1) && ((q.2.2.2 : Int) == x.2.2.2)))) := rfl
  rw [e, Bool.and_true]
theorem rcontains_eq (l : List Rc) (hl : l.length ≤ 1048576) (q : Rc) : C_slices_Contains_Rect F_slices_Contains_Rect l q = some (ret_slices_Contains_Rect (l.contains q)) := by
  have key : ∀ (n d i m : Nat), i + d = l.length → d < m → ∃ k : Int, L_slices_Index_Rect_0 n m l q.1 q.2.1 q.2.2.1 q.2.2.2 (l.length : Int) (i : Int) = some (ret_slices_Index_Rect k) ∧ decide (k ≥ 0) = (l.drop i).contains q := by
    intro n d
    induction d with
    | zero =>
      intro i m hi hm
      obtain ⟨m, rfl⟩ : ∃ q, m = q + 1 := ⟨m - 1, by omega⟩
      obtain rfl : i = l.length := by omega
      rw [L_slices_Index_Rect_0_step, dlt_self, List.drop_length]
      exact ⟨-1, rfl, rfl⟩
    | succ d ih =>
      intro i m hi hm
      obtain ⟨m, rfl⟩ : ∃ q, m = q + 1 := ⟨m - 1, by omega⟩
      have h : i < l.length := by omega
      obtain ⟨k, k1, k2⟩ := ih (i + 1) m (by omega) (by omega)
      rw [L_slices_Index_Rect_0_step, dlt h, bT, if_pos ((inb i l.length).2 h), at_get (e := YRect) l i h, wsucc h (by omega), rect_beq, k1, List.drop_eq_getElem_cons h, List.contains_cons]
      cases hb : (q == l[i])
      · exact ⟨k, rfl, by rw [k2]; rfl⟩
      · exact ⟨(i : Int), rfl, decide_eq_true (by omega)⟩
  obtain ⟨k, k1, k2⟩ := key big l.length 0 big (by omega) (big_ge (n := l.length + 1) (by omega))
  have k1' : L_slices_Index_Rect_0 big big l q.1 q.2.1 q.2.2.1 q.2.2.2 (l.length : Int) 0 = _ := k1
  rw [List.drop_zero] at k2
  rw [e_slices_Contains_Rect, e_slices_Index_Rect, k1', Option.bind_some, ← k2]
  rfl
theorem c1_meets (hR : 0 ≤ R ∧ R ≤ 2147483648) (hC : 0 ≤ C ∧ C ≤ 2147483648) (q r : Rc) (hq : lies q R C = true) (hr : lies r R C = true) : C_grid_Raw_c1 F_grid_Raw_c1 q r.1 r.2.1 r.2.2.1 r.2.2.2 = some (ret_grid_Raw_c1 (mts q r) r.1 r.2.1 r.2.2.1 r.2.2.2) := by
  have hm : C_grid_meets F_grid_meets q (r.1, (r.2.1, (r.2.2.1, r.2.2.2))) = some (ret_grid_meets (mts q r)) := meets_eq q r R C hR hC hq hr
  rw [e_grid_Raw_c1, hm]
  rfl
theorem idx_walk (hR : 0 ≤ R ∧ R ≤ 2147483648) (hC : 0 ≤ C ∧ C ≤ 2147483648) (r : Rc) (hr : lies r R C = true) (l : List Rc) (hl : l.length ≤ 4194304) (ha : ∀ q ∈ l, lies q R C = true) : ∀ (n d i m : Nat), i + d = l.length → d < m →
    ((∀ q ∈ l.drop i, mts q r = false) ∧ L_slices_IndexFunc_Rect_grid_Raw_c1_0 n m (l.length : Int) (i : Int) r.1 r.2.1 r.2.2.1 r.2.2.2 l = some (ret_slices_IndexFunc_Rect_grid_Raw_c1 (-1) r.1 r.2.1 r.2.2.1 r.2.2.2 l)) ∨
    (∃ k : Nat, i ≤ k ∧ ∃ hk : k < l.length, (∀ j, i ≤ j → (hj : j < k) → mts (l[j]'(by omega)) r = false) ∧ mts l[k] r = true ∧ L_slices_IndexFunc_Rect_grid_Raw_c1_0 n m (l.length : Int) (i : Int) r.1 r.2.1 r.2.2.1 r.2.2.2 l = some (ret_slices_IndexFunc_Rect_grid_Raw_c1 (k : Int) r.1 r.2.1 r.2.2.1 r.2.2.2 l)) := by
  intro n d
  induction d with
  | zero =>
    intro i m hi hm
    obtain ⟨m, rfl⟩ : ∃ q, m = q + 1 := ⟨m - 1, by omega⟩
    obtain rfl : i = l.length := by omega
    left
    rw [L_slices_IndexFunc_Rect_grid_Raw_c1_0_step, dlt_self, List.drop_length]
    exact ⟨(fun q hq => by cases hq), rfl⟩
  | succ d ih =>
    intro i m hi hm
    obtain ⟨m, rfl⟩ : ∃ q, m = q + 1 := ⟨m - 1, by omega⟩
    have h : i < l.length := by omega
    rw [L_slices_IndexFunc_Rect_grid_Raw_c1_0_step, dlt h, bT, if_pos ((inb i l.length).2 h), at_get (e := YRect) l i h, c1_meets hR hC l[i] r (ha _ (List.getElem_mem h)) hr, wsucc h (by omega)]
    simp only [Option.bind_some, res_grid_Raw_c1_0_ret, res_grid_Raw_c1_1_ret, res_grid_Raw_c1_2_ret, res_grid_Raw_c1_3_ret, res_grid_Raw_c1_4_ret]
    cases hm' : mts l[i] r
    · rw [bF]
      rcases ih (i + 1) m (by omega) (by omega) with ⟨q1, q2⟩ | ⟨k, k1, k2, k3, k4, k5⟩
      · left
        refine ⟨fun q hq => ?_, q2⟩
        rw [List.drop_eq_getElem_cons h] at hq
        rcases List.mem_cons.1 hq with hq | hq
        · rw [hq]; exact hm'
        · exact q1 q hq
      · right
        refine ⟨k, by omega, k2, fun j j1 j2 => ?_, k4, k5⟩
        by_cases e : i = j
        · subst e; exact hm'
        · exact k3 j (by omega) j2
    · right
      exact ⟨i, Nat.le_refl _, h, fun j j1 j2 => by omega, hm', rfl⟩
theorem del_loop (hR : 0 ≤ R ∧ R ≤ 2147483648) (hC : 0 ≤ C ∧ C ≤ 2147483648) (r : Rc) (hr : lies r R C = true) (l : List Rc) (hl : l.length ≤ 4194304) (ha : ∀ q ∈ l, lies q R C = true) (n : Nat) : ∀ (d j m : Nat) (x : List Rc) (i : Nat), j + d = l.length → d < m → x.length = l.length → i < j → x.drop j = l.drop j →
    L_slices_DeleteFunc_Rect_grid_Raw_c1_0 n m x (i : Int) (j : Int) r.1 r.2.1 r.2.2.1 r.2.2.2 = some (ret_slices_DeleteFunc_Rect_grid_Raw_c1 (x.take i ++ (l.drop j).filter fun q => !(mts q r)) r.1 r.2.1 r.2.2.1 r.2.2.2) := by
  intro d
  induction d with
  | zero =>
    intro j m x i hj hm hx hi hd
    obtain ⟨m, rfl⟩ : ∃ q, m = q + 1 := ⟨m - 1, by omega⟩
    obtain rfl : j = l.length := by omega
    have hxl : (x.take i).length = i := by rw [List.length_take]; omega
    rw [L_slices_DeleteFunc_Rect_grid_Raw_c1_0_step, hx, dlt_self, bF, List.drop_length, List.filter_nil, List.append_nil, if_pos (by omega)]
    simp only [Int.toNat_natCast]
    rw [if_pos (by rw [List.length_append, hxl]; omega)]
    rw [List.take_append_of_le_length (by rw [hxl]; exact Nat.le_refl _), List.take_take, Nat.min_self]
  | succ d ih =>
    intro j m x i hj hm hx hi hd
    obtain ⟨m, rfl⟩ : ∃ q, m = q + 1 := ⟨m - 1, by omega⟩
    have h : j < l.length := by omega
    have h' : j < x.length := by omega
    have ex : x[j] = l[j] := by
      have e1 := List.drop_eq_getElem_cons h'
      have e2 := List.drop_eq_getElem_cons h
      rw [hd, e2] at e1
      injection e1 with e1 _
      exact e1.symm
    have wi := wsucc (show i < x.length by omega) (show x.length ≤ 4611686018427387904 by omega)
    have wj := wsucc h' (show x.length ≤ 4611686018427387904 by omega)
    have ed : x.drop (j + 1) = l.drop (j + 1) := by
      have := congrArg (List.drop 1) hd
      rw [List.drop_drop, List.drop_drop] at this
      exact this
    rw [L_slices_DeleteFunc_Rect_grid_Raw_c1_0_step, dlt h', bT, if_pos ((inb j x.length).2 h'), at_get (e := YRect) x j h', ex, c1_meets hR hC l[j] r (ha _ (List.getElem_mem h)) hr, wi, wj]
    simp only [Option.bind_some, res_grid_Raw_c1_0_ret, res_grid_Raw_c1_1_ret, res_grid_Raw_c1_2_ret, res_grid_Raw_c1_3_ret, res_grid_Raw_c1_4_ret, Int.toNat_natCast]
    rw [List.drop_eq_getElem_cons h, List.filter_cons]
    cases hm' : mts l[j] r
    · rw [Bool.not_false, bT, if_pos ((inb i x.length).2 (by omega)), ih (j + 1) m (x.set i l[j]) (i + 1) (by omega) (by omega) (by rw [List.length_set]; exact hx) (by omega) (by rw [List.drop_set_of_lt (by omega)]; exact ed)]
      have e1 : (x.set i l[j]).take (i + 1) = x.take i ++ [l[j]] := by
        rw [List.take_succ_eq_append_getElem (by rw [List.length_set]; omega), List.getElem_set_self, List.take_set_of_le (Nat.le_refl _)]
      rw [e1, List.append_assoc]
      rfl
    · rw [Bool.not_true, bF, ih (j + 1) m x i (by omega) (by omega) hx (by omega) ed]
      rfl
theorem del_eq (hR : 0 ≤ R ∧ R ≤ 2147483648) (hC : 0 ≤ C ∧ C ≤ 2147483648) (r : Rc) (hr : lies r R C = true) (l : List Rc) (hl : l.length ≤ 4194304) (ha : ∀ q ∈ l, lies q R C = true) :
    C_slices_DeleteFunc_Rect_grid_Raw_c1 F_slices_DeleteFunc_Rect_grid_Raw_c1 l r.1 r.2.1 r.2.2.1 r.2.2.2 = some (ret_slices_DeleteFunc_Rect_grid_Raw_c1 (l.filter fun q => !(mts q r)) r.1 r.2.1 r.2.2.1 r.2.2.2) := by
  rw [e_slices_DeleteFunc_Rect_grid_Raw_c1, e_slices_IndexFunc_Rect_grid_Raw_c1]
  rcases idx_walk hR hC r hr l hl ha big l.length 0 big (by omega) (big_ge (n := l.length + 1) (by omega)) with ⟨q1, q2⟩ | ⟨k, _, k2, k3, k4, k5⟩
  · rw [show ((0 : Nat) : Int) = 0 from rfl] at q2
    rw [q2]
    simp only [Option.bind_some, res_slices_IndexFunc_Rect_grid_Raw_c1_0_ret, res_slices_IndexFunc_Rect_grid_Raw_c1_1_ret, res_slices_IndexFunc_Rect_grid_Raw_c1_2_ret, res_slices_IndexFunc_Rect_grid_Raw_c1_3_ret, res_slices_IndexFunc_Rect_grid_Raw_c1_4_ret, res_slices_IndexFunc_Rect_grid_Raw_c1_5_ret]
    rw [List.drop_zero] at q1
    have e : l.filter (fun q => !(mts q r)) = l := List.filter_eq_self.2 fun q hq => by rw [q1 q hq]; rfl
    rw [e]
    rfl
  · rw [show ((0 : Nat) : Int) = 0 from rfl] at k5
    rw [k5]
    simp only [Option.bind_some, res_slices_IndexFunc_Rect_grid_Raw_c1_0_ret, res_slices_IndexFunc_Rect_grid_Raw_c1_1_ret, res_slices_IndexFunc_Rect_grid_Raw_c1_2_ret, res_slices_IndexFunc_Rect_grid_Raw_c1_3_ret, res_slices_IndexFunc_Rect_grid_Raw_c1_4_ret, res_slices_IndexFunc_Rect_grid_Raw_c1_5_ret]
    rw [show ((k : Int) == -1) = false from beq_false_of_ne (by omega), bF, wsucc k2 (by omega), del_loop hR hC r hr l hl ha big (l.length - (k + 1)) (k + 1) big l k (by omega) (big_ge (n := l.length - (k + 1) + 1) (by omega)) rfl (by omega) rfl]
    have e : l.filter (fun q => !(mts q r)) = l.take k ++ (l.drop (k + 1)).filter fun q => !(mts q r) := by
      conv => lhs; rw [← List.take_append_drop k l, List.drop_eq_getElem_cons k2]
      rw [List.filter_append, List.filter_cons, k4]
      have : (l.take k).filter (fun q => !(mts q r)) = l.take k := List.filter_eq_self.2 fun q hq => by
        obtain ⟨j, hj, rfl⟩ := List.mem_iff_getElem.1 hq
        have hj' : j < k := by rw [List.length_take] at hj; omega
        rw [List.getElem_take, k3 j (Nat.zero_le _) hj']
        rfl
      rw [this]
      rfl
    rw [e]
theorem rd0 (l : List Rc) (a b c d : Int) : res_slices_DeleteFunc_Rect_grid_Raw_c1_0 (ret_slices_DeleteFunc_Rect_grid_Raw_c1 l a b c d) = l := id rfl
theorem rd1 (l : List Rc) (a b c d : Int) : res_slices_DeleteFunc_Rect_grid_Raw_c1_1 (ret_slices_DeleteFunc_Rect_grid_Raw_c1 l a b c d) = a := id rfl
theorem rd2 (l : List Rc) (a b c d : Int) : res_slices_DeleteFunc_Rect_grid_Raw_c1_2 (ret_slices_DeleteFunc_Rect_grid_Raw_c1 l a b c d) = b := id rfl
theorem rd3 (l : List Rc) (a b c d : Int) : res_slices_DeleteFunc_Rect_grid_Raw_c1_3 (ret_slices_DeleteFunc_Rect_grid_Raw_c1 l a b c d) = c := id rfl
theorem rd4 (l : List Rc) (a b c d : Int) : res_slices_DeleteFunc_Rect_grid_Raw_c1_4 (ret_slices_DeleteFunc_Rect_grid_Raw_c1 l a b c d) = d := id rfl
theorem rt0 (q : Rc) (b : Bool) : res_grid_through_0 (ret_grid_through q b) = q := id rfl
theorem rt1 (q : Rc) (b : Bool) : res_grid_through_1 (ret_grid_through q b) = b := id rfl
theorem cap32 {k : Nat} (h : k ≤ 4194304) : (k + 1) * 32 ≤ 140737488355328 := Nat.le_trans (Nat.mul_le_mul_right 32 (show k + 1 ≤ 4194305 by omega)) (by decide)
theorem c2_eq (x y : Rc) : C_grid_Raw_c2 F_grid_Raw_c2 x y = some (ret_grid_Raw_c2 (cfR x y)) := by
  rw [e_grid_Raw_c2, cmp_eq, cmp_eq]
  simp only [Option.bind_some, res_cmp_Compare_int_0_ret, or_eq, res_cmp_Or_int_0_ret]
  rfl
theorem sort_eq {l : List Rc} (h : Apart R C l) (hl : l.length ≤ 4194304) : C_slices_SortFunc_Rect_grid_Raw_c2 F_slices_SortFunc_Rect_grid_Raw_c2 l = some (ret_slices_SortFunc_Rect_grid_Raw_c2 (sorted cfR l)) :=
  sortF_eq (G := F_grid_Raw_c2) (cf := cfR) (fun x y => c2_eq x y) swoR (tieR h) (by omega)
theorem join_cons (l : List Rc) (r : Rc) (ms : List Rc) : joinR l (r :: ms) = joinR (l.filter (fun q => !(mts q r)) ++ [r]) ms := rfl
theorem graw1 (hR : 0 ≤ R ∧ R ≤ 2147483648) (hC : 0 ≤ C ∧ C ≤ 2147483648) (ms : List Rc) (hl : ms.length ≤ 1048576) (hm : ∀ r ∈ ms, lies r R C = true) (p q s t : Int) (cs : List Cl) (n : Nat) : ∀ (d i m : Nat) (out : List Rc), i + d = ms.length → d < m → out.length ≤ 1048576 + i → Apart R C out →
    L_grid_Raw_1 n m p q s t cs out ms (ms.length : Int) (i : Int) = some (ret_grid_Raw (s, (t, (cs, sorted cfR (joinR out (ms.drop i)))))) := by
  intro d
  induction d with
  | zero =>
    intro i m out hi hm' ho ha
    obtain ⟨m, rfl⟩ : ∃ q, m = q + 1 := ⟨m - 1, by omega⟩
    obtain rfl : i = ms.length := by omega
    rw [L_grid_Raw_1_step, dlt_self, bF, sort_eq ha (by omega), List.drop_length]
    simp only [Option.bind_some, res_slices_SortFunc_Rect_grid_Raw_c2_0_ret]
    rfl
  | succ d ih =>
    intro i m out hi hm' ho ha
    obtain ⟨m, rfl⟩ : ∃ q, m = q + 1 := ⟨m - 1, by omega⟩
    have h : i < ms.length := by omega
    have hli := hm _ (List.getElem_mem h)
    have hfl : (out.filter fun q => !(mts q ms[i])).length ≤ out.length := List.length_filter_le _ _
    have hap : Apart R C (out.filter (fun q => !(mts q ms[i])) ++ [ms[i]]) := by
      have := join_apart (ms := [ms[i]]) ha (fun r hr => by rw [List.mem_singleton.1 hr]; exact hli)
      exact this
    have hc : ((out.filter fun q => !(mts q ms[i])).length + [ms[i]].length) * 32 ≤ 140737488355328 := cap32 (by omega)
    rw [L_grid_Raw_1_step, dlt h, bT, if_pos ((inb i ms.length).2 h), at_get (e := YRect) ms i h, del_eq hR hC ms[i] hli out (by omega) ha.in_, wsucc h (by omega)]
    simp only [Option.bind_some, rd0, rd1, rd2, rd3, rd4]
    have em : ((ms[i].1, (ms[i].2.1, (ms[i].2.2.1, ms[i].2.2.2))) : Rc) = ms[i] := rfl
    rw [em, if_pos hc, ih (i + 1) m _ (by omega) (by omega) (by rw [List.length_append]; simp; omega) hap, List.drop_eq_getElem_cons h, join_cons]
theorem graw0 {a b : Axis.Steps} (hr : AxOk a R R') (hc : AxOk b C C') (ha : a.length ≤ 1048576) (hb : b.length ≤ 1048576) (l : List Rc) (hl : l.length ≤ 1048576) (hap : Apart R C l) (split ms : List Rc) (hs : split.length ≤ 1048576) (hml : ms.length ≤ 1048576) (hm : ∀ r ∈ ms, lies r R' C' = true) (ce : List Cl) (p q s t : Int) (cs : List Cl) : ∀ (d i m : Nat) (out : List Rc), i + d = l.length → d < m → out.length ≤ i → out = stayR a b split (l.take i) →
    L_grid_Raw_0 big m a b ce split ms p q s t cs out l (l.length : Int) (i : Int) = some (ret_grid_Raw (s, (t, (cs, sorted cfR (joinR (stayR a b split l) ms))))) := by
  intro d
  induction d with
  | zero =>
    intro i m out hi hm' ho he
    obtain ⟨m, rfl⟩ : ∃ q, m = q + 1 := ⟨m - 1, by omega⟩
    obtain rfl : i = l.length := by omega
    rw [List.take_length] at he
    have x1 := hr.m
    have x2 := hc.m
    have h1 := graw1 (R := R') (C := C') (by omega) (by omega) ms hml hm p q s t cs big ms.length 0 big out (by omega) (big_ge (n := ms.length + 1) (by omega)) (by omega) (by rw [he]; exact stay_apart hr hc split hap)
    rw [List.drop_zero, he] at h1
    rw [L_grid_Raw_0_step, dlt_self, bF, he]
    exact h1
  | succ d ih =>
    intro i m out hi hm' ho he
    obtain ⟨m, rfl⟩ : ∃ q, m = q + 1 := ⟨m - 1, by omega⟩
    have h : i < l.length := by omega
    have hc32 : (out.length + [thrG a b l[i]].length) * 32 ≤ 140737488355328 := cap32 (by omega)
    have et : stayR a b split (l.take (i + 1)) = out ++ (if okR (thrG a b l[i]) && !(split.contains (thrG a b l[i])) then [thrG a b l[i]] else []) := by
      rw [List.take_succ_eq_append_getElem h, he]
      unfold stayR
      rw [List.map_append, List.filter_append, List.map_cons, List.filter_cons, List.map_nil, List.filter_nil]
    rw [L_grid_Raw_0_step, dlt h, bT, if_pos ((inb i l.length).2 h), at_get (e := YRect) l i h, thr_eq hr hc ha hb l[i] (hap.in_ _ (List.getElem_mem h)), wsucc h (by omega)]
    simp only [Option.bind_some, rt1, rt0, rcontains_eq split hs, res_slices_Contains_Rect_0_ret]
    rw [if_pos hc32]
    cases h1 : okR (thrG a b l[i])
    · rw [h1] at et
      have := ih (i + 1) m out (by omega) (by omega) (by omega) (by rw [et]; simp)
      exact this
    · cases h2 : split.contains (thrG a b l[i])
      · rw [h1, h2] at et
        have := ih (i + 1) m (out ++ [thrG a b l[i]]) (by omega) (by omega) (by simp; omega) (by rw [et]; rfl)
        exact this
      · rw [h1, h2] at et
        have := ih (i + 1) m out (by omega) (by omega) (by omega) (by rw [et]; simp)
        exact this
/-- A grid behind an edit. -/
noncomputable def rawG (g : Grid) (e : Edit) : Grid := (newR g e, (newC' g e, (putL posC emc (movedC (er e) (el e) (gc g)) (ec e), sorted cfR (joinR (stayR (er e) (el e) (es e) (gm g)) (em e)))))
theorem graw_eq {g : Grid} {e : Edit} (hg : Gs g) (he : Es e) (h : Fits g e) : C_grid_Raw F_grid_Raw g e = some (ret_grid_Raw (rawG g e)) := by
  have s1 : C_grid_size F_grid_size g.1 e.1 = _ := gsize_eq (gR g) (er e) he.r h.er0
  have s2 : C_grid_size F_grid_size g.2.1 e.2.1 = _ := gsize_eq (gC g) (el e) he.l h.el0
  have hca : ∀ c ∈ gc g, (ca c).length ≤ 1048576 := fun c hc => (hg.a c hc).1
  have s3 : C_grid_Moved F_grid_Moved g.2.2.1 e.1 e.2.1 = _ := moved_eq h.r h.l he.r he.l (gc g) hg.c hca h.c
  have s4 : C_grid_put F_grid_put (movedC (er e) (el e) (gc g)) e.2.2.1 = _ := gput_eq _ (Nat.le_trans (moved_len _ _ _) hg.c) (ec e) he.c fun c hc => (he.a c hc).1.1
  have s5 := graw0 h.r h.l he.r he.l (gm g) hg.m h.m (es e) (em e) he.s he.m h.j (ec e) 0 0 (newR g e) (newC' g e) (putL posC emc (movedC (er e) (el e) (gc g)) (ec e)) (gm g).length 0 big [] (by omega) (big_ge (n := (gm g).length + 1) (by have := hg.m; omega)) (Nat.zero_le _) rfl
  rw [e_grid_Raw, s1, s2, s3]
  simp only [Option.bind_some, res_grid_Moved_0_ret]
  rw [s4]
  simp only [Option.bind_some, res_grid_put_0_ret, res_grid_size_0_ret]
  exact s5
/-- The grid without anything. -/
def grid0 : Grid := (0, (0, ([], [])))
theorem gapply_eq (g : Grid) (e : Edit) (hg : Gs g) (he : Es e) : C_grid_Apply F_grid_Apply g e = some (if allE g e = 0 then ret_grid_Apply (rawG g e) 0 else ret_grid_Apply grid0 (allE g e)) := by
  rw [e_grid_Apply, fits_eq g e hg he]
  by_cases h : allE g e = 0
  · rw [if_pos h, if_pos h]
    simp only [Option.bind_some, res_grid_fits_2_ret]
    rw [graw_eq hg he (fits_ok h)]
    rfl
  · rw [if_neg h, if_neg h]
    simp only [Option.bind_some, res_grid_fits_2_ret]
    rw [bne_E, decide_eq_false h]
    rfl
def gEx : Grid := (2, (1, ([(1, (0, ([120], (0, []))))], [])))
def eEx : Edit := ([(1, 1), (0, 2)], ([], ([], ([], []))))
theorem grids_eq : C_law_grids F_law_grids = some (ret_law_grids true) := by
  have hg : Gs gEx := ⟨by decide, by decide, fun c hc => by
    rw [List.mem_singleton.1 hc]; exact ⟨by decide, fun i => by
      have : ([] : List UInt8).length ≤ 1048576 := by decide
      cases i <;> exact ⟨this, this⟩⟩, fun c hc => by
    rw [List.mem_singleton.1 hc]; decide⟩
  have he : Es eEx := ⟨by decide, by decide, by decide, fun c hc => (by cases hc), by decide, by decide⟩
  have h := gapply_eq gEx eEx hg he
  have ha : allE gEx eEx = 0 := by kernel_rfl
  rw [if_pos ha] at h
  have h' : C_grid_Apply F_grid_Apply (2, (1, ([(1, (0, ([120], (0, []))))], []))) ([(1, 1), (0, 2)], ([], ([], ([], [])))) = _ := h
  have e1 : ((rawG gEx eEx).1 : Int) = 3 := by kernel_rfl
  have e2 : (rawG gEx eEx).2.2.1 = [((2, (0, ([120], (0, [])))) : Cl)] := by kernel_rfl
  rw [e_law_grids, h']
  have q0 : ∀ (v : Grid) (e : Int), res_grid_Apply_0 (ret_grid_Apply v e) = v := fun _ _ => id rfl
  have q1 : ∀ (v : Grid) (e : Int), res_grid_Apply_1 (ret_grid_Apply v e) = e := fun _ _ => id rfl
  simp only [Option.bind_some, q0, q1, e1, e2]
  rfl
end Go.Ev.Doc
