/- Tracked changes: the plain side, first part: errors of elements, what is shown. -/
import Derived.Test.YtphlkpahfcainaaPAttrF
import Derived.Test.YtphlkpahfcainaaPAxisD
import Derived.Test.YtphlkpahfcainaaGTrack
namespace Go.Ev.Track
open Go.Ev Go.Ev.Attr
set_option linter.unusedVariables false
set_option linter.unusedSimpArgs false

abbrev Flow := List YElem.den
def ec (x : YElem.den) : Int := x.1
def er (x : YElem.den) : Int := x.2.1
def ea (x : YElem.den) : Attrs := x.2.2
def mkE (c r : Int) (a : Attrs) : YElem.den := (c, r, a)
@[simp] theorem ec_mk (c r : Int) (a : Attrs) : ec (mkE c r a) = c := rfl
@[simp] theorem er_mk (c r : Int) (a : Attrs) : er (mkE c r a) = r := rfl
@[simp] theorem ea_mk (c r : Int) (a : Attrs) : ea (mkE c r a) = a := rfl
def atE (l : Flow) (i : Nat) : YElem.den := at_ (e := YElem) l (i : Int)
theorem drop_elem (l : Flow) {i : Nat} (h : i < l.length) : l.drop i = atE l i :: l.drop (i + 1) := drop_at' l h
/-- Flows and their attributes are short enough. -/
def Fs (f : Flow) : Prop := f.length ≤ 1048576 ∧ ∀ i, Sh (ea (atE f i))

theorem two (a b : Str) : (a = b ∧ (a == b) = true) ∨ (a ≠ b ∧ (a == b) = false) := by
  by_cases h : a = b
  · exact .inl ⟨h, by simp [h]⟩
  · exact .inr ⟨h, by simp [h]⟩
theorem twoI (a b : Int) : (a = b ∧ (a == b) = true) ∨ (a ≠ b ∧ (a == b) = false) := by
  by_cases h : a = b
  · exact .inl ⟨h, by simp [h]⟩
  · exact .inr ⟨h, by simp [h]⟩
/-! ### Errors of elements -/
def chr (c : Int) : Bool := c == 9 || c == 10 || (decide (32 ≤ c) && decide (c ≤ 126)) || (decide (160 ≤ c) && decide (c ≤ 55295)) || (decide (57344 ≤ c) && decide (c ≤ 1114111))
theorem char_eq (c : Int) : C120 F120 c = some (ret120 (chr c)) := by
  rw [e120]
  unfold chr
  have q1 : decide (c < 127) = decide (c ≤ 126) := by
    by_cases h : c ≤ 126
    · rw [decide_eq_true h, decide_eq_true (by omega)]
    · rw [decide_eq_false h, decide_eq_false (by omega)]
  have q2 : decide (c < 55296) = decide (c ≤ 55295) := by
    by_cases h : c ≤ 55295
    · rw [decide_eq_true h, decide_eq_true (by omega)]
    · rw [decide_eq_false h, decide_eq_false (by omega)]
  have q3 : decide (c > 57343) = decide (57344 ≤ c) := by
    by_cases h : 57344 ≤ c
    · rw [decide_eq_true h, decide_eq_true (by omega)]
    · rw [decide_eq_false h, decide_eq_false (by omega)]
  have q4 : decide (c ≥ 32) = decide (32 ≤ c) := rfl
  have q5 : decide (c ≥ 160) = decide (160 ≤ c) := rfl
  rw [q1, q2, q3, q4, q5]
  simp only [bcond_if]
  cases (c == 9) <;> cases (c == 10) <;> cases decide (32 ≤ c) <;> cases decide (c ≤ 126) <;> cases decide (160 ≤ c) <;> cases decide (c ≤ 55295) <;> cases decide (57344 ≤ c) <;> simp
theorem rchar_eq (c : Int) : C114 F114 c = some (ret114 (chr c)) := by
  rw [e114]
  unfold chr
  simp only [bcond_if, Axis.in_eq, Option.bind_some, res32_0_ret]
  cases (c == 9) <;> cases (c == 10) <;> cases decide (32 ≤ c) <;> cases decide (c ≤ 126) <;> cases decide (160 ≤ c) <;> cases decide (c ≤ 55295) <;> cases decide (57344 ≤ c) <;> simp
def eErr (x : YElem.den) : Int :=
  if (ec x = 0 ∧ er x = 0) ∨ (ec x ≠ 0 ∧ er x ≠ 0) then 4 else if (er x = 0 ∧ chr (ec x) = false) ∨ (er x ≠ 0 ∧ (er x < 1 ∨ 1073741824 < er x)) then 2 else err false (ea x)
theorem elem_eq (x : YElem.den) (h : Sh (ea x)) : C112 F112 x = some (ret112 (eErr x)) := by
  have e1 : x.1 = ec x := rfl
  have e2 : x.2.1 = er x := rfl
  have e3 : x.2.2 = ea x := rfl
  rw [e112]
  simp only [e1, e2, e3, char_eq, Option.bind_some, res120_0_ret, check_eq _ h, res38_0_ret, bcond_if]
  unfold eErr
  by_cases h1 : ec x = 0
  · by_cases h2 : er x = 0
    · simp [h1, h2]
    · by_cases h3 : er x < 1
      · simp [h1, h2, h3]
      · by_cases h4 : 1073741824 < er x
        · simp [h1, h2, h3, h4]
        · simp [h1, h2, h3, h4]
  · by_cases h2 : er x = 0
    · cases hc : chr (ec x) <;> simp [h1, h2, hc]
    · have b1 : (ec x != 0) = true := by simpa using h1
      have b2 : (er x != 0) = true := by simpa using h2
      simp [h1, h2, b1, b2]
theorem relem_eq (x : YElem.den) (h : Sh (ea x)) : C94 F94 x = some (ret94 (eErr x)) := by
  have e1 : x.1 = ec x := rfl
  have e2 : x.2.1 = er x := rfl
  have e3 : x.2.2 = ea x := rfl
  rw [e94]
  simp only [e1, e2, e3, rchar_eq, Option.bind_some, res114_0_ret, rerr_eq _ h, res39_0_ret, bcond_if, Axis.in_eq, res32_0_ret]
  unfold eErr
  by_cases h1 : ec x = 0
  · by_cases h2 : er x = 0
    · simp [h1, h2]
    · by_cases h3 : er x < 1
      · have h3' : ¬ 1 ≤ er x := by omega
        simp [h1, h2, h3, h3']
      · have h3' : 1 ≤ er x := by omega
        by_cases h4 : 1073741824 < er x
        · have h4' : ¬ er x ≤ 1073741824 := by omega
          simp [h1, h2, h3, h3', h4, h4']
        · have h4' : er x ≤ 1073741824 := by omega
          simp [h1, h2, h3, h3', h4, h4']
  · by_cases h2 : er x = 0
    · cases hc : chr (ec x) <;> simp [h1, h2, hc]
    · simp [h1, h2]
def pErr : Flow → Int
  | [] => 0
  | x :: l => if eErr x ≠ 0 then eErr x else pErr l
theorem part_loop (f : Flow) (hf : Fs f) (n : Nat) : ∀ (d i m : Nat), i + d = f.length → d < m → L92_0 F112 n m f (f.length : Int) i = some (ret92 (pErr (f.drop i))) ∧ L51_0 F94 n m f (f.length : Int) i = some (ret51 (pErr (f.drop i))) := by
  have hl := hf.1
  intro d
  induction d with
  | zero =>
    intro i m hi hm
    cases m with
    | zero => omega
    | succ m =>
    have : i = f.length := by omega
    subst this
    have c1 : decide ((f.length : Int) < (f.length : Int)) = false := decide_eq_false (by omega)
    rw [L92_0_step, L51_0_step, List.drop_length]
    simp [bcond_if, c1, pErr]
  | succ d ih =>
    intro i m hi hm
    cases m with
    | zero => omega
    | succ m =>
    have hil : i < f.length := by omega
    have c1 : decide ((i : Int) < (f.length : Int)) = true := decide_eq_true (by omega)
    have w1 : IntKind.i64.wrap ((i : Int) + 1) = ((i + 1 : Nat) : Int) := wnat (by omega) (by omega)
    have ex : at_ (e := YElem) f (i : Int) = atE f i := rfl
    rw [L92_0_step, L51_0_step, drop_elem f hil]
    simp only [bcond_if, inb, hil, c1, if_true, w1, ex, elem_eq _ (hf.2 i), relem_eq _ (hf.2 i), Option.bind_some, res112_0_ret, res94_0_ret, pErr, (ih (i + 1) m (by omega) (by omega)).1, (ih (i + 1) m (by omega) (by omega)).2]
    by_cases h : eErr (atE f i) = 0
    · simp [h]
    · simp [h]
theorem part_eq (f : Flow) (hf : Fs f) : C92 F92 f = some (ret92 (pErr f)) ∧ C51 F51 f = some (ret51 (pErr f)) := by
  have hl := hf.1
  obtain ⟨m, hm⟩ := big_succ (n := 1048577) (by omega)
  rw [e92, e51]
  have := part_loop f hf big f.length 0 big (by omega) (by omega)
  simpa using this
theorem pErr_full : ∀ (f : Flow), pErr f = 0 → ∀ x ∈ f, err false (ea x) = 0
  | [], _, x, hx => by simp at hx
  | y :: f, h, x, hx => by
    simp only [pErr] at h
    split at h
    · rename_i h1; exact absurd h h1
    · rename_i h1
      have h1 : eErr y = 0 := Decidable.not_not.1 h1
      rcases List.mem_cons.1 hx with rfl | hx
      · unfold eErr at h1
        split at h1
        · cases h1
        · split at h1
          · cases h1
          · exact h1
      · exact pErr_full f h x hx

/-! ### What is shown -/
def on (b : Str) : Bool := b == [111, 110]
def hid (x : YElem.den) (mode : Int) : Bool := (get [104, 105, 100, 100, 101, 110] (ea x) == [111, 110]) || ((mode == 0) && !(get [99, 117, 116] (ea x) == [])) || ((mode == 1) && !(get [97, 100, 100] (ea x) == []))
theorem hidden_eq (x : YElem.den) (h : Sh (ea x)) (mode : Int) : C113 F113 x mode = some (ret113 (hid x mode)) := by
  have e3 : x.2.2 = ea x := rfl
  rw [e113]
  simp only [e3, get_eq _ h.1, Option.bind_some, res41_0_ret, bcond_if]
  unfold hid
  rcases two (get [104, 105, 100, 100, 101, 110] (ea x)) [111, 110] with ⟨p1, b1⟩ | ⟨p1, b1⟩ <;> rcases twoI mode 0 with ⟨p2, b2⟩ | ⟨p2, b2⟩ <;> rcases two (get [99, 117, 116] (ea x)) [] with ⟨p3, b3⟩ | ⟨p3, b3⟩ <;> rcases twoI mode 1 with ⟨p4, b4⟩ | ⟨p4, b4⟩ <;> rcases two (get [97, 100, 100] (ea x)) [] with ⟨p5, b5⟩ | ⟨p5, b5⟩ <;> simp [p1, p2, p3, p4, p5, b1, b2, b3, b4, b5]
def plc (n : Int) (mode : Int) : Int → Flow → List Int
  | _, [] => []
  | i, x :: l => (if hid x mode = false ∨ (i = n - 1 ∧ ec x = 10) then [i] else []) ++ plc n mode (i + 1) l
theorem plc_len (n mode : Int) : ∀ (l : Flow) (i : Int), (plc n mode i l).length ≤ l.length
  | [], i => by simp [plc]
  | x :: l, i => by
    have := plc_len n mode l (i + 1)
    simp only [plc, List.length_append, List.length_cons]
    split <;> simp <;> omega
theorem places_loop (f : Flow) (hf : Fs f) (mode : Int) (n : Nat) : ∀ (d i m : Nat) (out : List Int), i + d = f.length → d < m → out.length ≤ i → L93_0 F113 n m f mode out f (f.length : Int) i = some (ret93 (out ++ plc f.length mode i (f.drop i))) := by
  have hl := hf.1
  intro d
  induction d with
  | zero =>
    intro i m out hi hm ho
    cases m with
    | zero => omega
    | succ m =>
    have : i = f.length := by omega
    subst this
    have c1 : decide ((f.length : Int) < (f.length : Int)) = false := decide_eq_false (by omega)
    rw [L93_0_step, List.drop_length]
    simp [bcond_if, c1, plc]
  | succ d ih =>
    intro i m out hi hm ho
    cases m with
    | zero => omega
    | succ m =>
    have hil : i < f.length := by omega
    have c1 : decide ((i : Int) < (f.length : Int)) = true := decide_eq_true (by omega)
    have w1 : IntKind.i64.wrap ((i : Int) + 1) = ((i + 1 : Nat) : Int) := wnat (by omega) (by omega)
    have w2 : IntKind.i64.wrap ((f.length : Int) - 1) = (f.length : Int) - 1 := w64 (by omega) (by omega)
    have ex : at_ (e := YElem) f (i : Int) = atE f i := rfl
    have e1 : (atE f i).1 = ec (atE f i) := rfl
    have b1 : (out.length + [(i : Int)].length) * 8 ≤ 140737488355328 := Nat.le_trans (Nat.mul_le_mul_right 8 (Nat.add_le_add_right (show out.length ≤ 1048576 by omega) 1)) (by decide)
    rw [L93_0_step, drop_elem f hil]
    simp only [bcond_if, inb, hil, c1, if_true, w1, w2, ex, e1, hidden_eq _ (hf.2 i), Option.bind_some, res113_0_ret, plc, b1, ih (i + 1) m (out ++ [(i : Int)]) (by omega) (by omega) (by simp; omega), ih (i + 1) m out (by omega) (by omega) (by omega)]
    have e9 : ((i + 1 : Nat) : Int) = (i : Int) + 1 := by omega
    rw [e9]
    cases hid (atE f i) mode <;> by_cases h1 : (i : Int) = (f.length : Int) - 1 <;> by_cases h2 : ec (atE f i) = 10 <;> simp [h1, h2]
theorem shown_eq (f : Flow) (hf : Fs f) (mode : Int) : C49 F49 f mode = some (if pErr f ≠ 0 then ret49 [] (pErr f) else if mode < 0 ∨ 2 < mode then ret49 [] 1 else ret49 (plc f.length mode 0 f) 0) := by
  have hl := hf.1
  obtain ⟨m, hm⟩ := big_succ (n := 1048577) (by omega)
  have hp := places_loop f hf mode big f.length 0 big [] (by omega) (by omega) (by simp)
  have h93 : C93 F93 f mode = some (ret93 (plc f.length mode 0 f)) := by
    rw [e93]
    simpa using hp
  rw [e49, (part_eq f hf).1, h93]
  simp only [Option.bind_some, res92_0_ret, res93_0_ret, bcond_if]
  by_cases h : pErr f = 0
  · by_cases h1 : mode < 0
    · simp [h, h1]
    · by_cases h2 : 2 < mode
      · simp [h, h1, h2]
      · simp [h, h1, h2]
  · simp [h]
theorem has_get {a : Attrs} (h : Full a) (s : Str) : has s a = !(get s a == []) := by
  obtain ⟨sa, na, va⟩ := h
  cases hc : has s a with
  | true =>
    obtain ⟨x, h1, h2⟩ := (has_iff s a).1 hc
    have := get_some sa x h1
    rw [h2] at this
    rw [this]
    have := va x h1
    simp [this]
  | false =>
    have : get s a = [] := get_none (fun x hx e => by
      have := (has_iff s a).2 ⟨x, hx, e⟩
      rw [hc] at this; cases this)
    rw [this]; rfl
theorem rshown_loop (f : Flow) (hf : Fs f) (hv : ∀ i, i < f.length → Full (ea (atE f i))) (mode : Int) (n : Nat) : ∀ (d i m : Nat) (out : List Int), i + d = f.length → d < m → out.length ≤ i → L52_0 F42 F95 n m f mode out (f.length : Int) i = some (ret52 (out ++ plc f.length mode i (f.drop i))) := by
  have hl := hf.1
  intro d
  induction d with
  | zero =>
    intro i m out hi hm ho
    cases m with
    | zero => omega
    | succ m =>
    have : i = f.length := by omega
    subst this
    have c1 : decide ((f.length : Int) < (f.length : Int)) = false := decide_eq_false (by omega)
    rw [L52_0_step, List.drop_length]
    simp [bcond_if, c1, plc]
  | succ d ih =>
    intro i m out hi hm ho
    cases m with
    | zero => omega
    | succ m =>
    have hil : i < f.length := by omega
    have c1 : decide ((i : Int) < (f.length : Int)) = true := decide_eq_true (by omega)
    have w1 : IntKind.i64.wrap ((i : Int) + 1) = ((i + 1 : Nat) : Int) := wnat (by omega) (by omega)
    have w2 : IntKind.i64.wrap ((f.length : Int) - 1) = (f.length : Int) - 1 := w64 (by omega) (by omega)
    have ex : at_ (e := YElem) f (i : Int) = atE f i := rfl
    have e1 : (atE f i).1 = ec (atE f i) := rfl
    have e3 : (atE f i).2.2 = ea (atE f i) := rfl
    have b1 : (out.length + [(i : Int)].length) * 8 ≤ 140737488355328 := Nat.le_trans (Nat.mul_le_mul_right 8 (Nat.add_le_add_right (show out.length ≤ 1048576 by omega) 1)) (by decide)
    rw [L52_0_step, drop_elem f hil]
    simp only [bcond_if, inb, hil, c1, if_true, w1, w2, ex, e1, e3, rget_eq _ (hf.2 i).1, has_eq _ (hf.2 i).1, has_get (hv i hil), Option.bind_some, res42_0_ret, res95_0_ret, plc, b1, ih (i + 1) m (out ++ [(i : Int)]) (by omega) (by omega) (by simp; omega), ih (i + 1) m out (by omega) (by omega) (by omega)]
    have e9 : ((i + 1 : Nat) : Int) = (i : Int) + 1 := by omega
    rw [e9]
    unfold hid
    rcases two (get [104, 105, 100, 100, 101, 110] (ea (atE f i))) [111, 110] with ⟨p1, b1⟩ | ⟨p1, b1⟩ <;> rcases twoI mode 0 with ⟨p2, b2⟩ | ⟨p2, b2⟩ <;> rcases two (get [99, 117, 116] (ea (atE f i))) [] with ⟨p3, b3⟩ | ⟨p3, b3⟩ <;> rcases twoI mode 1 with ⟨p4, b4⟩ | ⟨p4, b4⟩ <;> rcases two (get [97, 100, 100] (ea (atE f i))) [] with ⟨p5, b5⟩ | ⟨p5, b5⟩ <;> by_cases h1 : (i : Int) = (f.length : Int) - 1 <;> by_cases h2 : ec (atE f i) = 10 <;> simp [p1, p2, p3, p4, p5, b1, b2, b3, b4, b5, h1, h2]
theorem atE_mem (f : Flow) {i : Nat} (hi : i < f.length) : atE f i ∈ f := by
  unfold atE at_
  simp [List.getD_eq_getElem?_getD, hi]
theorem rshown_eq (f : Flow) (hf : Fs f) (hp : pErr f = 0) (mode : Int) : C52 F52 f mode = some (ret52 (plc f.length mode 0 f)) := by
  have hl := hf.1
  obtain ⟨m, hm⟩ := big_succ (n := 1048577) (by omega)
  rw [e52]
  have := rshown_loop f hf (fun i hi => full_of (pErr_full f hp _ (atE_mem f hi))) mode big f.length 0 big [] (by omega) (by omega) (by simp)
  simpa using this
end Go.Ev.Track
