
import Derived.Test.YtpmeeopafdgbpaaDoorPElem
import Derived.Test.YtpmeeopafdgbpaaDoorGUtf
namespace Go.Ev.Utf
open Go.Ev Go.Ev.Attr Go.Ev.Track
set_option linter.unusedVariables false
set_option linter.unusedSimpArgs false
def okF (b : Nat) : Bool := let x := at_ (e := .int .u8) vtabF (b : Int)
  decide (240 ≤ x) || (decide (0 ≤ shrI .u8 x 4) && decide (shrI .u8 x 4 < 16) && decide (2 ≤ IntKind.i64.wrap (andI .u8 x 7)) && decide (IntKind.i64.wrap (andI .u8 x 7) ≤ 4))
theorem okF_all : (List.range 256).all okF = true := by kernel_rfl
theorem lenF : List.length vtabF = 256 := by kernel_rfl
theorem lenA : List.length vtabA = 16 := by kernel_rfl
theorem okF_byte (b : UInt8) : okF b.toNat = true := List.all_eq_true.1 okF_all _ (List.mem_range.2 b.toNat_lt)
/-- A code point comes back, of bytes that are there. -/
def Rs (n0 : Nat) (o : Option sig_unicode_utf8_decodeRuneInStringSlow.Out) : Prop := ∃ c n : Int, o = some (ret_unicode_utf8_decodeRuneInStringSlow c n) ∧ 1 ≤ n ∧ n ≤ (n0 : Int)
theorem rs_if {n0 : Nat} {p : Prop} [Decidable p] {x y : Option sig_unicode_utf8_decodeRuneInStringSlow.Out} (h1 : p → Rs n0 x) (h2 : ¬ p → Rs n0 y) : Rs n0 (if p then x else y) := by
  by_cases h : p
  · rw [if_pos h]; exact h1 h
  · rw [if_neg h]; exact h2 h
theorem slow_some (s : List UInt8) (h : 1 ≤ s.length) : Rs s.length (C_unicode_utf8_decodeRuneInStringSlow F_unicode_utf8_decodeRuneInStringSlow s) := by
  rw [e_unicode_utf8_decodeRuneInStringSlow]
  have hb := okF_byte (List.getD (s : List UInt8) (Int.toNat 0) 0)
  have hlt : (List.getD (s : List UInt8) (Int.toNat 0) 0).toNat < 256 := UInt8.toNat_lt _
  have lF : ((List.length vtabF : Nat) : Int) = 256 := by rw [lenF]; rfl
  have lA : ((List.length vtabA : Nat) : Int) = 16 := by rw [lenA]; rfl
  generalize (List.getD (s : List UInt8) (Int.toNat 0) 0).toNat = b at hb hlt ⊢
  simp only [okF] at hb
  generalize hx : at_ (e := .int .u8) vtabF (b : Int) = x at hb ⊢
  generalize shrI .u8 x 4 = p at hb ⊢
  generalize IntKind.i64.wrap (andI .u8 x 7) = z at hb ⊢
  simp only [Bool.or_eq_true, Bool.and_eq_true, decide_eq_true_eq] at hb
  simp only [bcond_if, decide_eq_true_eq]
  have e1 : Rs s.length (some (ret_unicode_utf8_decodeRuneInStringSlow 65533 1)) := ⟨_, _, rfl, by omega, by omega⟩
  refine rs_if (fun h => by omega) fun _ => rs_if (fun _ => ?_) fun h => by omega
  refine rs_if (fun _ => ?_) fun h => by omega
  refine rs_if (fun h => rs_if (fun _ => ⟨_, _, rfl, by omega, by omega⟩) fun h => by omega) fun h1 => ?_
  have hb := hb.resolve_left h1
  refine rs_if (fun _ => ?_) fun h => by omega
  refine rs_if (fun _ => e1) fun h2 => rs_if (fun _ => ?_) fun h => by omega
  refine rs_if (fun _ => ?_) fun _ => e1
  refine rs_if (fun _ => e1) fun _ => ?_
  refine rs_if (fun h3 => ⟨_, _, rfl, by omega, by omega⟩) fun h3 => rs_if (fun _ => ?_) fun h => by omega
  refine rs_if (fun _ => ?_) fun _ => e1
  refine rs_if (fun _ => e1) fun _ => ?_
  refine rs_if (fun h4 => ⟨_, _, rfl, by omega, by omega⟩) fun h4 => rs_if (fun _ => ?_) fun h => by omega
  refine rs_if (fun _ => ?_) fun _ => e1
  exact rs_if (fun _ => e1) fun _ => ⟨_, _, rfl, by omega, by omega⟩
/-- What is read first: a code point, and of how many bytes. -/
theorem dec_some (s : List UInt8) (h : 1 ≤ s.length) : ∃ c n : Int, C_unicode_utf8_DecodeRuneInString F_unicode_utf8_DecodeRuneInString s = some (ret_unicode_utf8_DecodeRuneInString c n) ∧ 1 ≤ n ∧ n ≤ (s.length : Int) := by
  rw [e_unicode_utf8_DecodeRuneInString]
  obtain ⟨c, n, h1, h2, h3⟩ := slow_some s h
  simp only [bcond_if, h1, Option.bind_some, res_unicode_utf8_decodeRuneInStringSlow_0_ret, res_unicode_utf8_decodeRuneInStringSlow_1_ret]
  split
  · rw [if_pos (by omega)]
    split
    · rw [if_pos (by omega)]; exact ⟨_, _, rfl, by omega, by omega⟩
    · exact ⟨_, _, rfl, h2, h3⟩
  · exact ⟨_, _, rfl, h2, h3⟩
noncomputable def dR (s : List UInt8) : sig_unicode_utf8_DecodeRuneInString.Out := (C_unicode_utf8_DecodeRuneInString F_unicode_utf8_DecodeRuneInString s).getD (ret_unicode_utf8_DecodeRuneInString 0 1)
noncomputable def dc (s : List UInt8) : Int := res_unicode_utf8_DecodeRuneInString_0 (dR s)
noncomputable def dn (s : List UInt8) : Nat := (res_unicode_utf8_DecodeRuneInString_1 (dR s)).toNat
theorem dec_eq (s : List UInt8) (h : 1 ≤ s.length) : C_unicode_utf8_DecodeRuneInString F_unicode_utf8_DecodeRuneInString s = some (ret_unicode_utf8_DecodeRuneInString (dc s) (dn s : Int)) ∧ 1 ≤ dn s ∧ dn s ≤ s.length := by
  obtain ⟨c, n, h1, h2, h3⟩ := dec_some s h
  unfold dn dc dR
  rw [h1]
  simp only [Option.getD_some, res_unicode_utf8_DecodeRuneInString_0_ret, res_unicode_utf8_DecodeRuneInString_1_ret]
  rw [Int.toNat_of_nonneg (by omega)]
  exact ⟨rfl, by omega, by omega⟩
theorem rd0 (c n : Int) : res_unicode_utf8_DecodeRuneInString_0 (ret_unicode_utf8_DecodeRuneInString c n) = c := id rfl
theorem rd1 (c n : Int) : res_unicode_utf8_DecodeRuneInString_1 (ret_unicode_utf8_DecodeRuneInString c n) = n := id rfl
/-- A letter of ASCII. -/
theorem dec_asc (b : UInt8) (s : List UInt8) (h : b.toNat < 128) : C_unicode_utf8_DecodeRuneInString F_unicode_utf8_DecodeRuneInString (b :: s) = some (ret_unicode_utf8_DecodeRuneInString (b.toNat : Int) 1) := by
  rw [e_unicode_utf8_DecodeRuneInString]
  have h0 : (List.getD (b :: s) (Int.toNat 0) 0) = b := rfl
  have hl : (0 ≤ (0 : Int) ∧ (0 : Int) < ((b :: s).length : Int)) := by simp only [List.length_cons]; omega
  have hd : decide ((b.toNat : Int) < 128) = true := decide_eq_true (by omega)
  have hw : IntKind.i32.wrap (b.toNat : Int) = (b.toNat : Int) := by
    simp only [IntKind.wrap, IntKind.signed, IntKind.bits]
    simp; omega
  have hn : (!((b :: s : List UInt8) == [])) = true := rfl
  simp only [bcond_if, h0, hd, hw, hn, if_pos hl, if_true, beq_self_eq_true]
theorem dc_asc (b : UInt8) (s : List UInt8) (h : b.toNat < 128) : dc (b :: s) = (b.toNat : Int) ∧ dn (b :: s) = 1 := by
  unfold dc dn dR
  rw [dec_asc b s h]
  exact ⟨rfl, rfl⟩
end Go.Ev.Utf
