
import Derived.Test.YtpmeeopafdgbpaaDoorPGrH
namespace Go.Ev.Doc
open Go.Ev Go.Ev.Attr Go.Ev.Track Go.Ev.Delta Go.Ev.Axis Go.Ev.Hul Go.Ev.Lex
set_option linter.unusedVariables false
set_option linter.unusedSimpArgs false
set_option maxRecDepth 100000
theorem flat_len {A : Type} (f : Nat → List A) (h : ∀ x, (f x).length ≤ 1) : ∀ (d c : Nat), ((List.range' c d).flatMap f).length ≤ d
  | 0, c => by simp
  | d + 1, c => by
    rw [List.range'_succ, List.flatMap_cons, List.length_append]
    have := flat_len f h d (c + 1)
    have := h c
    omega
def fresh (x : Cl) : List Cl := if emc x = true then [] else [x]
theorem fresh_len (x : Cl) : (fresh x).length ≤ 1 := by unfold fresh; split <;> simp
section cells
variable (p q : Int) (cs : List Cl) (ms : List Rc) (a b : Axis.Steps) (ns : List Cl) (sp jn : List Rc) (z0 z1 : Int) (x5 x6 x7 x9 : List Int) (u v : Int)
theorem ed2 (hl : ns.length ≤ 1048576) (out : List Cl) (ho : out.length ≤ 1048576) (r c : Int) (w x y z : Int) (n m1 m2 : Nat) : ∀ (d i m : Nat) (t : Cl), i + d = ns.length → d < m →
    L_R_Edited_2 n m1 m2 m p q cs ms a b ns sp jn z0 z1 x5 x6 x7 x9 u v out r c t.1 t.2.1 t.2.2.1 t.2.2.2.1 t.2.2.2.2 w x y z (ns.length : Int) (i : Int) =
      L_R_Edited_1 n m1 m2 p q cs ms a b ns sp jn z0 z1 x5 x6 x7 x9 u v (out ++ fresh (newC (ns.drop i) r c t)) r w x y (IntKind.i64.wrap (z + 1)) := by
  intro d
  induction d with
  | zero =>
    intro i m t hi hm
    obtain ⟨m, rfl⟩ : ∃ q, m = q + 1 := ⟨m - 1, by omega⟩
    obtain rfl : i = ns.length := by omega
    have he : C_R_EmptyCell F_R_EmptyCell (t.1, (t.2.1, (t.2.2.1, (t.2.2.2.1, t.2.2.2.2)))) = some (ret_R_EmptyCell (emc t)) := (empty_eq t).2
    rw [L_R_Edited_2_step, dlt_self, bF, he, List.drop_length]
    simp only [Option.bind_some, res_R_EmptyCell_0_ret]
    rw [show newC [] r c t = t from rfl]
    unfold fresh
    cases h : emc t
    · rw [Bool.not_false, bT, if_pos, if_neg Bool.false_ne_true]
      exact cap64 (by omega)
    · rw [Bool.not_true, bF, if_pos rfl, List.append_nil]
  | succ d ih =>
    intro i m t hi hm
    obtain ⟨m, rfl⟩ : ∃ q, m = q + 1 := ⟨m - 1, by omega⟩
    have h : i < ns.length := by omega
    rw [L_R_Edited_2_step, dlt h, bT]
    simp only [if_pos ((inb i ns.length).2 h)]
    rw [at_get (e := YCell) ns i h, wsucc h (by omega), List.drop_eq_getElem_cons h]
    unfold newC
    rw [List.foldl_cons]
    by_cases k1 : c0 ns[i] = r
    · rw [show ((ns[i].1 : Int) == r) = true from beq_iff_eq.2 k1]
      by_cases k2 : c1 ns[i] = c
      · rw [show ((ns[i].2.1 : Int) == c) = true from beq_iff_eq.2 k2, if_pos (by unfold posC; rw [k1, k2])]
        exact ih (i + 1) m ns[i] (by omega) (by omega)
      · rw [show ((ns[i].2.1 : Int) == c) = false from beq_false_of_ne k2, if_neg fun z => k2 (congrArg (fun p : Int × Int => p.2) z)]
        exact ih (i + 1) m t (by omega) (by omega)
    · rw [show ((ns[i].1 : Int) == r) = false from beq_false_of_ne k1, if_neg fun z => k1 (congrArg (fun p : Int × Int => p.1) z)]
      exact ih (i + 1) m t (by omega) (by omega)
theorem ed2a (hl : ns.length ≤ 1048576) (out : List Cl) (ho : out.length ≤ 1048576) (r c : Int) (w x y z : Int) (n m1 m2 : Nat) : ∀ (d i m : Nat), i + d = ns.length → d < m →
    L_R_Edited_2a n m1 m2 m p q cs ms a b ns sp jn z0 z1 x5 x6 x7 x9 u v out r c r c [] 0 w x y z (ns.length : Int) (i : Int) =
      L_R_Edited_1 n m1 m2 p q cs ms a b ns sp jn z0 z1 x5 x6 x7 x9 u v (out ++ fresh (newC (ns.drop i) r c (blank r c))) r w x y (IntKind.i64.wrap (z + 1)) := by
  intro d
  induction d with
  | zero =>
    intro i m hi hm
    obtain ⟨m, rfl⟩ : ∃ q, m = q + 1 := ⟨m - 1, by omega⟩
    obtain rfl : i = ns.length := by omega
    have he : C_R_EmptyCell F_R_EmptyCell (r, (c, ([], (0, [])))) = some (ret_R_EmptyCell true) := (empty_eq (blank r c)).2
    rw [L_R_Edited_2a_step, dlt_self, bF, he, List.drop_length]
    simp only [Option.bind_some, res_R_EmptyCell_0_ret]
    rw [show newC [] r c (blank r c) = blank r c from rfl]
    unfold fresh
    rw [Bool.not_true, bF, if_pos (emc_blank r c), List.append_nil]
  | succ d ih =>
    intro i m hi hm
    obtain ⟨m, rfl⟩ : ∃ q, m = q + 1 := ⟨m - 1, by omega⟩
    have h : i < ns.length := by omega
    rw [L_R_Edited_2a_step, dlt h, bT]
    simp only [if_pos ((inb i ns.length).2 h)]
    rw [at_get (e := YCell) ns i h, wsucc h (by omega), List.drop_eq_getElem_cons h]
    unfold newC
    rw [List.foldl_cons]
    by_cases k1 : c0 ns[i] = r
    · rw [show ((ns[i].1 : Int) == r) = true from beq_iff_eq.2 k1]
      by_cases k2 : c1 ns[i] = c
      · rw [show ((ns[i].2.1 : Int) == c) = true from beq_iff_eq.2 k2, if_pos (by unfold posC; rw [k1, k2])]
        exact ed2 p q cs ms a b ns sp jn z0 z1 x5 x6 x7 x9 u v hl out ho r c w x y z n m1 m2 d (i + 1) m ns[i] (by omega) (by omega)
      · rw [show ((ns[i].2.1 : Int) == c) = false from beq_false_of_ne k2, if_neg fun z => k2 (congrArg (fun p : Int × Int => p.2) z)]
        exact ih (i + 1) m (by omega) (by omega)
    · rw [show ((ns[i].1 : Int) == r) = false from beq_false_of_ne k1, if_neg fun z => k1 (congrArg (fun p : Int × Int => p.1) z)]
      exact ih (i + 1) m (by omega) (by omega)
theorem ed1 (hl : ns.length ≤ 1048576) (hcs : cs.length ≤ 1048576) (h9 : x9.length ≤ 1000) (r : Nat) (hr : r < x7.length) (w : Int) (m1 : Nat) : ∀ (d c m : Nat) (out : List Cl), c + d = x9.length → d < m → out.length + d ≤ 1048576 →
    L_R_Edited_1 big m1 m p q cs ms a b ns sp jn z0 z1 x5 x6 x7 x9 u v out (r : Int) w (r : Int) (x9.length : Int) (c : Int) =
      L_R_Edited_0 big m1 p q cs ms a b ns sp jn z0 z1 x5 x6 x7 x9 u v (out ++ (List.range' c d).flatMap fun c : Nat => fresh (newC ns r c (oldC cs x7 x9 r c))) w (IntKind.i64.wrap ((r : Int) + 1)) := by
  intro d
  induction d with
  | zero =>
    intro c m out hi hm ho
    obtain ⟨m, rfl⟩ : ∃ q, m = q + 1 := ⟨m - 1, by omega⟩
    obtain rfl : c = x9.length := by omega
    rw [L_R_Edited_1_step, dlt_self, bF, List.range'_zero, List.flatMap_nil, List.append_nil]
  | succ d ih =>
    intro c m out hi hm ho
    obtain ⟨m, rfl⟩ : ∃ q, m = q + 1 := ⟨m - 1, by omega⟩
    have h : c < x9.length := by omega
    have bn := big_ge (n := ns.length + 1) (by omega)
    rw [L_R_Edited_1_step, dlt h, bT]
    simp only [if_pos ((inb r x7.length).2 hr), if_pos ((inb c x9.length).2 h)]
    rw [at_get (e := .int .i64) x7 r hr, at_get (e := .int .i64) x9 c h, rcellat_eq cs hcs]
    have fl := fresh_len (newC ns r c (oldC cs x7 x9 r c))
    have fin : L_R_Edited_1 big m1 m p q cs ms a b ns sp jn z0 z1 x5 x6 x7 x9 u v (out ++ fresh (newC ns r c (oldC cs x7 x9 r c))) (r : Int) w (r : Int) (x9.length : Int) (IntKind.i64.wrap ((c : Int) + 1)) =
      L_R_Edited_0 big m1 p q cs ms a b ns sp jn z0 z1 x5 x6 x7 x9 u v (out ++ (List.range' c (d + 1)).flatMap fun c : Nat => fresh (newC ns r c (oldC cs x7 x9 r c))) w (IntKind.i64.wrap ((r : Int) + 1)) := by
      rw [wsucc h (by omega), ih (c + 1) m _ (by omega) (by omega) (by rw [List.length_append]; omega), List.range'_succ, List.flatMap_cons, List.append_assoc]
    have g7 : x7.getD r 0 = x7[r] := by rw [List.getD_eq_getElem?_getD, List.getElem?_eq_getElem hr]; rfl
    have g9 : x9.getD c 0 = x9[c] := by rw [List.getD_eq_getElem?_getD, List.getElem?_eq_getElem h]; rfl
    have old : oldC cs x7 x9 r c = if 0 ≤ x7[r] ∧ 0 ≤ x9[c] then putP r c (cellAt cs x7[r] x9[c]) else blank r c := by
      unfold oldC; rw [g7, g9]
    have other : ¬ (0 ≤ x7[r] ∧ 0 ≤ x9[c]) → L_R_Edited_2a big m1 m big p q cs ms a b ns sp jn z0 z1 x5 x6 x7 x9 u v out (r : Int) (c : Int) (r : Int) (c : Int) [] 0 w (r : Int) (x9.length : Int) (c : Int) (ns.length : Int) 0 =
      L_R_Edited_0 big m1 p q cs ms a b ns sp jn z0 z1 x5 x6 x7 x9 u v (out ++ (List.range' c (d + 1)).flatMap fun c : Nat => fresh (newC ns r c (oldC cs x7 x9 r c))) w (IntKind.i64.wrap ((r : Int) + 1)) := fun hn => by
      have := ed2a p q cs ms a b ns sp jn z0 z1 x5 x6 x7 x9 u v hl out (by omega) r c w r x9.length c big m1 m ns.length 0 big (by omega) bn
      rw [List.drop_zero] at this
      rw [if_neg hn] at old
      rw [old] at fin
      exact this.trans fin
    by_cases k1 : x7[r] ≥ 0
    · rw [decide_eq_true k1]
      by_cases k2 : x9[c] ≥ 0
      · rw [decide_eq_true k2]
        have := ed2 p q cs ms a b ns sp jn z0 z1 x5 x6 x7 x9 u v hl out (by omega) r c w r x9.length c big m1 m ns.length 0 big (putP r c (cellAt cs x7[r] x9[c])) (by omega) bn
        rw [List.drop_zero] at this
        rw [if_pos ⟨k1, k2⟩] at old
        rw [old] at fin
        exact this.trans fin
      · rw [decide_eq_false k2]
        exact other fun z => k2 z.2
    · rw [decide_eq_false k1]
      exact other fun z => k1 z.1
theorem ed0 (hl : ns.length ≤ 1048576) (hcs : cs.length ≤ 1048576) (h7 : x7.length ≤ 1000) (h9 : x9.length ≤ 1000) : ∀ (d r m : Nat) (out : List Cl), r + d = x7.length → d < m → out.length + d * 1000 ≤ 1048576 →
    L_R_Edited_0 big m p q cs ms a b ns sp jn z0 z1 x5 x6 x7 x9 u v out (x7.length : Int) (r : Int) =
      L_R_Edited_3 big big p q cs ms a b ns sp jn z0 z1 x5 x6 u v (out ++ (List.range' r d).flatMap fun r : Nat => (List.range' 0 x9.length).flatMap fun c : Nat => fresh (newC ns r c (oldC cs x7 x9 r c))) [] (ms.length : Int) 0 := by
  intro d
  induction d with
  | zero =>
    intro r m out hi hm ho
    obtain ⟨m, rfl⟩ : ∃ q, m = q + 1 := ⟨m - 1, by omega⟩
    obtain rfl : r = x7.length := by omega
    rw [L_R_Edited_0_step, dlt_self, bF, List.range'_zero, List.flatMap_nil, List.append_nil]
  | succ d ih =>
    intro r m out hi hm ho
    obtain ⟨m, rfl⟩ : ∃ q, m = q + 1 := ⟨m - 1, by omega⟩
    have h : r < x7.length := by omega
    have := ed1 p q cs ms a b ns sp jn z0 z1 x5 x6 x7 x9 u v hl hcs h9 r h x7.length m x9.length 0 big out (by omega) (big_ge (n := x9.length + 1) (by omega)) (by omega)
    have fl := flat_len (fun c : Nat => fresh (newC ns r c (oldC cs x7 x9 r c))) (fun c => fresh_len _) x9.length 0
    rw [L_R_Edited_0_step, dlt h, bT]
    refine this.trans ?_
    rw [wsucc h (by omega), ih (r + 1) m _ (by omega) (by omega) (by rw [List.length_append]; omega), List.range'_succ, List.flatMap_cons, List.append_assoc]
end cells
section merges
variable (p q : Int) (cs : List Cl) (ms : List Rc) (a b : Axis.Steps) (ns : List Cl) (sp jn : List Rc) (z0 z1 : Int) (x5 x6 : List Int) (u v : Int) (ce : List Cl)
theorem ed4 (hs : sp.length ≤ 1048576) (out : List Rc) (ho : out.length ≤ 1048576) (t : Rc) (w x : Int) (n m1 : Nat) : ∀ (d i m : Nat) (k : Bool), i + d = sp.length → d < m →
    L_R_Edited_4 n m1 m p q cs ms a b ns sp jn z0 z1 x5 x6 u v ce out t.1 t.2.1 t.2.2.1 t.2.2.2 k w x (sp.length : Int) (i : Int) =
      L_R_Edited_3 n m1 p q cs ms a b ns sp jn z0 z1 x5 x6 u v ce (out ++ if (k && (sp.drop i).all fun s => !(s == t)) = true then [t] else []) w (IntKind.i64.wrap (x + 1)) := by
  intro d
  induction d with
  | zero =>
    intro i m k hi hm
    obtain ⟨m, rfl⟩ : ∃ q, m = q + 1 := ⟨m - 1, by omega⟩
    obtain rfl : i = sp.length := by omega
    rw [L_R_Edited_4_step, dlt_self, bF, List.drop_length, List.all_nil, Bool.and_true]
    cases k
    · rw [bF, if_neg Bool.false_ne_true, List.append_nil]
    · rw [bT, if_pos, if_pos rfl]
      exact cap32 (by omega)
  | succ d ih =>
    intro i m k hi hm
    obtain ⟨m, rfl⟩ : ∃ q, m = q + 1 := ⟨m - 1, by omega⟩
    have h : i < sp.length := by omega
    rw [L_R_Edited_4_step, dlt h, bT, if_pos ((inb i sp.length).2 h), at_get (e := YRect) sp i h, rect_beq, wsucc h (by omega), List.drop_eq_getElem_cons h, List.all_cons, ih (i + 1) m _ (by omega) (by omega), ih (i + 1) m _ (by omega) (by omega)]
    cases k
    · rfl
    · rw [Bool.true_and]; rfl
theorem ed3 (f : Rc → Rc) (hf : ∀ r ∈ ms, C_R_MovedRect F_R_MovedRect r x5 x6 = some (ret_R_MovedRect (f r))) (hm' : ms.length ≤ 1048576) (hs : sp.length ≤ 1048576) : ∀ (d i m : Nat) (out : List Rc), i + d = ms.length → d < m → out.length ≤ i →
    L_R_Edited_3 big m p q cs ms a b ns sp jn z0 z1 x5 x6 u v ce out (ms.length : Int) (i : Int) =
      L_R_Edited_5 big big a b ns sp jn z0 z1 u v ce (out ++ ((ms.drop i).map f).filter fun t => decide (r2 t > 0) && sp.all fun s => !(s == t)) (jn.length : Int) 0 := by
  intro d
  induction d with
  | zero =>
    intro i m out hi hm ho
    obtain ⟨m, rfl⟩ : ∃ q, m = q + 1 := ⟨m - 1, by omega⟩
    obtain rfl : i = ms.length := by omega
    rw [L_R_Edited_3_step, dlt_self, bF, List.drop_length, List.map_nil, List.filter_nil, List.append_nil]
  | succ d ih =>
    intro i m out hi hm ho
    obtain ⟨m, rfl⟩ : ∃ q, m = q + 1 := ⟨m - 1, by omega⟩
    have h : i < ms.length := by omega
    have t0 : ∀ r : Rc, res_R_MovedRect_0 (ret_R_MovedRect r) = r := fun _ => id rfl
    have := ed4 p q cs ms a b ns sp jn z0 z1 x5 x6 u v ce hs out (by omega) (f ms[i]) ms.length i big m sp.length 0 big (decide (r2 (f ms[i]) > 0)) (by omega) (big_ge (n := sp.length + 1) (by omega))
    rw [List.drop_zero] at this
    rw [L_R_Edited_3_step, dlt h, bT, if_pos ((inb i ms.length).2 h), at_get (e := YRect) ms i h, hf _ (List.getElem_mem h)]
    simp only [Option.bind_some, t0]
    refine this.trans ?_
    rw [wsucc h (by omega), List.drop_eq_getElem_cons h, List.map_cons, List.filter_cons]
    cases hk : (decide (r2 (f ms[i]) > 0) && sp.all fun s => !(s == f ms[i]))
    · rw [if_neg Bool.false_ne_true, if_neg Bool.false_ne_true, List.append_nil]
      exact ih (i + 1) m out (by omega) (by omega) (by omega)
    · rw [if_pos rfl, if_pos rfl, ih (i + 1) m _ (by omega) (by omega) (by rw [List.length_append]; exact Nat.add_le_add_right ho 1), List.append_assoc]
      rfl
end merges
section joins
variable {R C : Int} (a b : Axis.Steps) (ns : List Cl) (sp jn : List Rc) (z0 z1 : Int) (u v : Int) (ce : List Cl)
theorem ed6 (hR : 0 ≤ R ∧ R ≤ 2147483648) (hC : 0 ≤ C ∧ C ≤ 2147483648) (l : List Rc) (hl : l.length ≤ 4194303) (hin : ∀ r ∈ l, lies r R C = true) (j : Nat) (hj : j < jn.length) (hj2 : jn.length ≤ 1048576) (hjl : lies jn[j] R C = true) (w : Int) (n m1 : Nat) : ∀ (d i m : Nat) (acc : List Rc), i + d = l.length → d < m → acc.length ≤ i →
    L_R_Edited_6 n m1 m a b ns sp jn z0 z1 u v ce l (j : Int) acc w (j : Int) (l.length : Int) (i : Int) =
      L_R_Edited_5 n m1 a b ns sp jn z0 z1 u v ce (acc ++ ((l.drop i).filter (fun t => !(mts t jn[j])) ++ [jn[j]])) w ((j + 1 : Nat) : Int) := by
  intro d
  induction d with
  | zero =>
    intro i m acc hi hm ho
    obtain ⟨m, rfl⟩ : ∃ q, m = q + 1 := ⟨m - 1, by omega⟩
    obtain rfl : i = l.length := by omega
    rw [L_R_Edited_6_step, dlt_self, bF, if_pos ((inb j jn.length).2 hj), at_get (e := YRect) jn j hj, wsucc hj (by omega), List.drop_length, List.filter_nil, List.nil_append, if_pos]
    exact cap32 (by omega)
  | succ d ih =>
    intro i m acc hi hm ho
    obtain ⟨m, rfl⟩ : ∃ q, m = q + 1 := ⟨m - 1, by omega⟩
    have h : i < l.length := by omega
    rw [L_R_Edited_6_step, dlt h, bT]
    simp only [if_pos ((inb i l.length).2 h), if_pos ((inb j jn.length).2 hj)]
    rw [at_get (e := YRect) jn j hj, at_get (e := YRect) l i h, share_eq l[i] jn[j] R C hR hC (hin _ (List.getElem_mem h)) hjl, wsucc h (by omega), List.drop_eq_getElem_cons h, List.filter_cons]
    simp only [Option.bind_some, res_R_Share_0_ret]
    cases hk : mts l[i] jn[j]
    · rw [Bool.not_false, bT, if_pos rfl, if_pos (show (List.length acc + List.length [l[i]]) * 32 ≤ 140737488355328 from cap32 (by omega)), ih (i + 1) m _ (by omega) (by omega) (by rw [List.length_append]; exact Nat.add_le_add_right ho 1), List.append_assoc]
      rfl
    · rw [Bool.not_true, bF, if_neg Bool.false_ne_true]
      exact ih (i + 1) m acc (by omega) (by omega) (by omega)
theorem ed5 (hR : 0 ≤ R ∧ R ≤ 2147483648) (hC : 0 ≤ C ∧ C ≤ 2147483648) (hj : jn.length ≤ 1048576) (hjl : ∀ r ∈ jn, lies r R C = true) : ∀ (d j m : Nat) (out : List Rc), j + d = jn.length → d < m → out.length ≤ 1048576 + j → Apart R C out →
    L_R_Edited_5 big m a b ns sp jn z0 z1 u v ce out (jn.length : Int) (j : Int) = L_R_Edited_7 big big z0 z1 u v ce [] (joinR out (jn.drop j)) u 0 := by
  intro d
  induction d with
  | zero =>
    intro j m out hi hm ho hp
    obtain ⟨m, rfl⟩ : ∃ q, m = q + 1 := ⟨m - 1, by omega⟩
    obtain rfl : j = jn.length := by omega
    rw [L_R_Edited_5_step, dlt_self, bF, List.drop_length]
    rfl
  | succ d ih =>
    intro j m out hi hm ho hp
    obtain ⟨m, rfl⟩ : ∃ q, m = q + 1 := ⟨m - 1, by omega⟩
    have h : j < jn.length := by omega
    have hr := hjl _ (List.getElem_mem h)
    have := ed6 a b ns sp jn z0 z1 u v ce hR hC out (by omega) hp.in_ j h hj hr jn.length big m out.length 0 big [] (by omega) (big_ge (n := out.length + 1) (by omega)) (Nat.zero_le _)
    rw [List.drop_zero, List.nil_append] at this
    have hf := List.length_filter_le (fun t => !(mts t jn[j])) out
    have h2 : Apart R C (out.filter (fun t => !(mts t jn[j])) ++ [jn[j]]) := show Apart R C (joinR out [jn[j]]) from join_apart hp fun r hr' => by rw [List.mem_singleton.1 hr']; exact hr
    rw [L_R_Edited_5_step, dlt h, bT]
    refine this.trans ?_
    rw [ih (j + 1) m _ (by omega) (by omega) (by rw [List.length_append, List.length_singleton]; omega) h2, List.drop_eq_getElem_cons h, join_cons]
end joins
section order
variable (z0 z1 : Int) (ce : List Cl) (Rn Cn : Nat)
theorem ed9 (u v : Int) (l : List Rc) (hl : l.length ≤ 2097152) (r c : Int) (x y z : Int) (w : Int) (n m1 m2 : Nat) : ∀ (d i m : Nat) (acc : List Rc), i + d = l.length → d < m → acc.length + d ≤ 4194304 →
    L_R_Edited_9 n m1 m2 m z0 z1 u v ce acc l r c w x y z (l.length : Int) (i : Int) =
      L_R_Edited_8 n m1 m2 z0 z1 u v ce (acc ++ (l.drop i).filter fun t => decide (posR t = (r, c))) l r w x y (IntKind.i64.wrap (z + 1)) := by
  intro d
  induction d with
  | zero =>
    intro i m acc hi hm ho
    obtain ⟨m, rfl⟩ : ∃ q, m = q + 1 := ⟨m - 1, by omega⟩
    obtain rfl : i = l.length := by omega
    rw [L_R_Edited_9_step, dlt_self, bF, List.drop_length, List.filter_nil, List.append_nil]
  | succ d ih =>
    intro i m acc hi hm ho
    obtain ⟨m, rfl⟩ : ∃ q, m = q + 1 := ⟨m - 1, by omega⟩
    have h : i < l.length := by omega
    rw [L_R_Edited_9_step, dlt h, bT]
    simp only [if_pos ((inb i l.length).2 h)]
    rw [at_get (e := YRect) l i h, wsucc h (by omega), List.drop_eq_getElem_cons h, List.filter_cons, if_pos (show (List.length acc + List.length [l[i]]) * 32 ≤ 140737488355328 from cap32 (by omega))]
    by_cases k1 : r0 l[i] = r
    · rw [show ((l[i].1 : Int) == r) = true from beq_iff_eq.2 k1]
      by_cases k2 : r1 l[i] = c
      · have i1 := ih (i + 1) m (acc ++ [l[i]]) (by omega) (by omega) (by rw [List.length_append, List.length_singleton]; omega)
        rw [List.append_assoc] at i1
        rw [show ((l[i].2.1 : Int) == c) = true from beq_iff_eq.2 k2, if_pos (decide_eq_true (show posR l[i] = (r, c) by unfold posR; rw [k1, k2]))]
        exact i1
      · rw [show ((l[i].2.1 : Int) == c) = false from beq_false_of_ne k2, if_neg (fun z => k2 (congrArg (fun p : Int × Int => p.2) (of_decide_eq_true z))), ← ih (i + 1) m _ (by omega) (by omega) (by omega)]
        rfl
    · rw [show ((l[i].1 : Int) == r) = false from beq_false_of_ne k1, if_neg (fun z => k1 (congrArg (fun p : Int × Int => p.1) (of_decide_eq_true z))), ← ih (i + 1) m _ (by omega) (by omega) (by omega)]
      rfl
variable {R C : Int}
theorem ed8 (l : List Rc) (hl : l.length ≤ 2097152) (hp : Apart R C l) (hC : Cn ≤ 1000) (u : Int) (r : Nat) (m1 : Nat) : ∀ (d c m : Nat) (acc : List Rc), c + d = Cn → d < m → acc.length + d ≤ 2000000 →
    L_R_Edited_8 big m1 m z0 z1 u (Cn : Int) ce acc l (r : Int) u (r : Int) (Cn : Int) (c : Int) =
      L_R_Edited_7 big m1 z0 z1 u (Cn : Int) ce (acc ++ (List.range' c d).flatMap fun c : Nat => l.filter fun t => decide (posR t = ((r : Int), (c : Int)))) l u (IntKind.i64.wrap ((r : Int) + 1)) := by
  intro d
  induction d with
  | zero =>
    intro c m acc hi hm ho
    obtain ⟨m, rfl⟩ : ∃ q, m = q + 1 := ⟨m - 1, by omega⟩
    obtain rfl : c = Cn := by omega
    rw [L_R_Edited_8_step, dlt_self, bF, List.range'_zero, List.flatMap_nil, List.append_nil]
  | succ d ih =>
    intro c m acc hi hm ho
    obtain ⟨m, rfl⟩ : ∃ q, m = q + 1 := ⟨m - 1, by omega⟩
    have h : c < Cn := by omega
    have := ed9 z0 z1 ce u Cn l hl r c r Cn c u big m1 m l.length 0 big acc (by omega) (big_ge (n := l.length + 1) (by omega)) (by omega)
    rw [List.drop_zero] at this
    have fl := filter_one hp ((r : Int), (c : Int))
    rw [L_R_Edited_8_step, dlt h, bT]
    refine this.trans ?_
    rw [wsucc h (by omega), ih (c + 1) m _ (by omega) (by omega) (by rw [List.length_append]; omega), List.range'_succ, List.flatMap_cons, List.append_assoc]
theorem ed7 (l : List Rc) (hl : l.length ≤ 2097152) (hp : Apart R C l) (hR : Rn ≤ 1000) (hC : Cn ≤ 1000) : ∀ (d r m : Nat) (acc : List Rc), r + d = Rn → d < m → acc.length + d * 1000 ≤ 1000000 →
    L_R_Edited_7 big m z0 z1 (Rn : Int) (Cn : Int) ce acc l (Rn : Int) (r : Int) =
      some (ret_R_Edited ((Rn : Int), ((Cn : Int), (ce, acc ++ (List.range' r d).flatMap fun r : Nat => (List.range' 0 Cn).flatMap fun c : Nat => l.filter fun t => decide (posR t = ((r : Int), (c : Int))))))) := by
  intro d
  induction d with
  | zero =>
    intro r m acc hi hm ho
    obtain ⟨m, rfl⟩ : ∃ q, m = q + 1 := ⟨m - 1, by omega⟩
    obtain rfl : r = Rn := by omega
    rw [L_R_Edited_7_step, dlt_self, bF, List.range'_zero, List.flatMap_nil, List.append_nil]
  | succ d ih =>
    intro r m acc hi hm ho
    obtain ⟨m, rfl⟩ : ∃ q, m = q + 1 := ⟨m - 1, by omega⟩
    have h : r < Rn := by omega
    have := ed8 z0 z1 ce Cn l hl hp hC Rn r m Cn 0 big acc (by omega) (big_ge (n := Cn + 1) (by omega)) (by omega)
    have fl := flat_len (fun c : Nat => l.filter fun t => decide (posR t = ((r : Int), (c : Int)))) (fun c => filter_one hp _) Cn 0
    rw [L_R_Edited_7_step, dlt h, bT]
    refine this.trans ?_
    rw [wsucc h (by omega), ih (r + 1) m _ (by omega) (by omega) (by rw [List.length_append]; omega), List.range'_succ, List.flatMap_cons, List.append_assoc]
end order
theorem new_small {a : Axis.Steps} {n m : Int} (h : AxOk a n m) (hn : n ≤ 30) (hN : Axis.sumN a ≤ 60) : m ≤ 60 := by
  rcases h.ok with ⟨e1, e2⟩ | ⟨e1, e2, e3, e4⟩
  · omega
  · have := Axis.sum_pos (Axis.E_good e2).1
    omega
theorem redited_eq {g : Grid} {e : Edit} (hg : Gs g) (he : Es e) (h : Fits g e) (k1 : gR g ≤ 30) (k2 : gC g ≤ 30) (k3 : Axis.sumN (er e) ≤ 60) (k4 : Axis.sumN (el e) ≤ 60) : C_R_Edited F_R_Edited g e = some (ret_R_Edited (rawG g e)) := by
  have u1 : C_R_units F_R_units e.1 g.1 = some (ret_R_units (unitsG (er e) (gR g))) := runits_eq (a := er e) (n := gR g) (m := newR g e) h.r he.r (show Axis.sumN (er e) ≤ 1048576 by omega) (show gR g ≤ 1048576 by omega)
  have u2 : C_R_units F_R_units e.2.1 g.2.1 = some (ret_R_units (unitsG (el e) (gC g))) := runits_eq (a := el e) (n := gC g) (m := newC' g e) h.l he.l (show Axis.sumN (el e) ≤ 1048576 by omega) (show gC g ≤ 1048576 by omega)
  have o1 := Axis.olds_eq (unitsG (er e) (gR g)) (unitsG_len h.r (by omega) (by omega))
  have o2 := Axis.olds_eq (unitsG (el e) (gC g)) (unitsG_len h.l (by omega) (by omega))
  have l1 := old_len h.r
  have l2 := old_len h.l
  have s1 := new_small h.r k1 k3
  have s2 := new_small h.l k2 k4
  have m1 := h.r.m
  have m2 := h.l.m
  have q0 : ∀ l : List Int, res_R_units_0 (ret_R_units l) = l := fun _ => id rfl
  have q1 : ∀ l m : List Int, res_R_Olds_0 (ret_R_Olds l m) = l := fun _ _ => id rfl
  rw [e_R_Edited, u1, u2]
  simp only [Option.bind_some, q0]
  rw [o1, o2]
  simp only [Option.bind_some, q1]
  have c := ed0 g.1 g.2.1 (gc g) (gm g) (er e) (el e) (ec e) (es e) (em e) 0 0 (unitsG (er e) (gR g)) (unitsG (el e) (gC g)) (oldG (er e) (gR g)) (oldG (el e) (gC g)) ((oldG (er e) (gR g)).length : Int) ((oldG (el e) (gC g)).length : Int) he.c hg.c (by omega) (by omega) (oldG (er e) (gR g)).length 0 big [] (by omega) (big_ge (n := (oldG (er e) (gR g)).length + 1) (by omega)) (by rw [List.length_nil]; omega)
  refine Eq.trans c ?_
  have hm : ∀ r ∈ gm g, C_R_MovedRect F_R_MovedRect r (unitsG (er e) (gR g)) (unitsG (el e) (gC g)) = some (ret_R_MovedRect (mrR (er e) (el e) r)) := fun r hr => rmoved_eq h.r h.l (by omega) (by omega) (by omega) (by omega) r (h.m.in_ r hr)
  have d := ed3 g.1 g.2.1 (gc g) (gm g) (er e) (el e) (ec e) (es e) (em e) 0 0 (unitsG (er e) (gR g)) (unitsG (el e) (gC g)) ((oldG (er e) (gR g)).length : Int) ((oldG (el e) (gC g)).length : Int) ([] ++ (List.range' 0 (oldG (er e) (gR g)).length).flatMap fun r : Nat => (List.range' 0 (oldG (el e) (gC g)).length).flatMap fun c : Nat => fresh (newC (ec e) r c (oldC (gc g) (oldG (er e) (gR g)) (oldG (el e) (gC g)) r c)))
    (mrR (er e) (el e)) hm hg.m he.s (gm g).length 0 big [] (by omega) (big_ge (n := (gm g).length + 1) (by have := hg.m; omega)) (Nat.zero_le _)
  refine Eq.trans d ?_
  rw [List.drop_zero, List.nil_append, List.nil_append, mr_stay]
  have ap : Apart (newR g e) (newC' g e) (stayR (er e) (el e) (es e) (gm g)) := stay_apart h.r h.l (es e) h.m
  have sl := stay_len (er e) (el e) (es e) (gm g)
  have hgm := hg.m
  have hem := he.m
  have f := ed5 (er e) (el e) (ec e) (es e) (em e) 0 0 ((oldG (er e) (gR g)).length : Int) ((oldG (el e) (gC g)).length : Int) ((List.range' 0 (oldG (er e) (gR g)).length).flatMap fun r : Nat => (List.range' 0 (oldG (el e) (gC g)).length).flatMap fun c : Nat => fresh (newC (ec e) r c (oldC (gc g) (oldG (er e) (gR g)) (oldG (el e) (gC g)) r c)))
    (R := newR g e) (C := newC' g e) (by omega) (by omega) hem h.j (em e).length 0 big (stayR (er e) (el e) (es e) (gm g)) (by omega) (big_ge (n := (em e).length + 1) (by omega)) (by omega) ap
  refine Eq.trans f ?_
  rw [List.drop_zero]
  have apj : Apart (newR g e) (newC' g e) (joinR (stayR (er e) (el e) (es e) (gm g)) (em e)) := join_apart ap h.j
  have jl : ∀ (ms l : List Rc), (joinR l ms).length ≤ l.length + ms.length := by
    intro ms
    induction ms with
    | nil => intro l; exact Nat.le_refl _
    | cons r ms ih =>
      intro l
      rw [join_cons]
      have h1 := ih (l.filter (fun q => !(mts q r)) ++ [r])
      have h2 := List.length_filter_le (fun q => !(mts q r)) l
      rw [List.length_append, List.length_singleton] at h1
      rw [List.length_cons]
      omega
  have jl' := jl (em e) (stayR (er e) (el e) (es e) (gm g))
  have k := ed7 0 0 ((List.range' 0 (oldG (er e) (gR g)).length).flatMap fun r : Nat => (List.range' 0 (oldG (el e) (gC g)).length).flatMap fun c : Nat => fresh (newC (ec e) r c (oldC (gc g) (oldG (er e) (gR g)) (oldG (el e) (gC g)) r c)))
    (oldG (er e) (gR g)).length (oldG (el e) (gC g)).length (joinR (stayR (er e) (el e) (es e) (gm g)) (em e)) (by omega) apj (by omega) (by omega) (oldG (er e) (gR g)).length 0 big [] (by omega) (big_ge (n := (oldG (er e) (gR g)).length + 1) (by omega)) (by rw [List.length_nil]; omega)
  refine Eq.trans k ?_
  have dC := docC_eq h.r h.l h.c h.n h.ne
  have apj' : Apart (((oldG (er e) (gR g)).length : Nat) : Int) (((oldG (el e) (gC g)).length : Nat) : Int) (joinR (stayR (er e) (el e) (es e) (gm g)) (em e)) := by rw [l1, l2]; exact apj
  have dM := docM_eq apj'
  unfold docC scan at dC
  unfold docM scan at dM
  simp only [List.range_eq_range'] at dC dM
  rw [List.nil_append, dM]
  unfold rawG
  rw [← dC, ← l1, ← l2]
  rfl
end Go.Ev.Doc
