
import Derived.Test.YtpmeeopafdgbpaaDoorPTxtB
import Derived.Test.YtpmeeopafdgbpaaDoorGValid
namespace Go.Ev.Utf
open Go.Ev
set_option linter.unusedVariables false
set_option linter.unusedSimpArgs false
set_option maxRecDepth 100000
theorem wr64 (n : Nat) (h : n < 2 ^ 64) : IntKind.u64.wrap (n : Int) = (n : Int) := by
  simp only [IntKind.wrap, IntKind.signed, IntKind.bits]
  have : ((2 : Int) ^ 64) = ((2 ^ 64 : Nat) : Int) := rfl
  simp
  omega
theorem bv64 (n : Nat) (h : n < 2 ^ 64) : (BitVec.ofInt IntKind.u64.bits (n : Int)).toNat = n := by
  rw [BitVec.toNat_ofInt]
  show (((n : Int) % (2 ^ 64 : Nat)).toNat) = n
  have : ((2 ^ 64 : Nat) : Int) = 18446744073709551616 := rfl
  rw [this]
  omega
theorem or64 (a b : Nat) (ha : a < 2 ^ 64) (hb : b < 2 ^ 64) : orI .u64 (a : Int) (b : Int) = ((a ||| b : Nat) : Int) := by
  unfold orI
  have e : (BitVec.ofInt IntKind.u64.bits (a : Int) ||| BitVec.ofInt IntKind.u64.bits (b : Int)).toNat = a ||| b := by
    rw [BitVec.toNat_or, bv64 a ha, bv64 b hb]
  rw [e]
  exact wr64 _ (Nat.or_lt_two_pow ha hb)
theorem and64 (a b : Nat) (ha : a < 2 ^ 64) (hb : b < 2 ^ 64) : andI .u64 (a : Int) (b : Int) = ((a &&& b : Nat) : Int) := by
  unfold andI
  have e : (BitVec.ofInt IntKind.u64.bits (a : Int) &&& BitVec.ofInt IntKind.u64.bits (b : Int)).toNat = a &&& b := by
    rw [BitVec.toNat_and, bv64 a ha, bv64 b hb]
  rw [e]
  exact wr64 _ (Nat.and_lt_two_pow _ hb)
theorem shl64 (b : UInt8) (k : Nat) (hk : k ≤ 56) : shlI .u64 (IntKind.u64.wrap (b.toNat : Int)) (k : Int) = ((b.toNat * 2 ^ k : Nat) : Int) ∧ b.toNat * 2 ^ k < 2 ^ 64 := by
  have hb := b.toNat_lt
  have hlt : b.toNat * 2 ^ k < 2 ^ 64 := by
    have h1 : 2 ^ k ≤ 2 ^ 56 := Nat.pow_le_pow_right (by decide) hk
    have h2 : b.toNat * 2 ^ k ≤ 255 * 2 ^ 56 := Nat.mul_le_mul (by omega) h1
    have h3 : 255 * 2 ^ 56 < 2 ^ 64 := by decide
    omega
  refine ⟨?_, hlt⟩
  rw [wr64 _ (by omega)]
  unfold shlI
  have e : min (Int.toNat (k : Int)) IntKind.u64.bits = k := by
    rw [Int.toNat_natCast]
    exact Nat.min_eq_left (by show k ≤ 64; omega)
  rw [e]
  have : (b.toNat : Int) * 2 ^ k = ((b.toNat * 2 ^ k : Nat) : Int) := by push_cast; rfl
  rw [this, wr64 _ hlt]
def mask : Nat := 9259542123273814144
def wd (t : List UInt8) : Nat := ((((((bn t 0 ||| bn t 1 * 2 ^ 8) ||| bn t 2 * 2 ^ 16) ||| bn t 3 * 2 ^ 24) ||| bn t 4 * 2 ^ 32) ||| bn t 5 * 2 ^ 40) ||| bn t 6 * 2 ^ 48) ||| bn t 7 * 2 ^ 56
theorem wd_lt (t : List UInt8) : wd t < 2 ^ 64 := by
  have h0 : bn t 0 < 2 ^ 64 := Nat.lt_trans (bn_lt t 0) (by decide)
  have h : ∀ k i, i ≤ 56 → bn t k * 2 ^ i < 2 ^ 64 := fun k i hi => (shl64 (t.getD k 0) i hi).2
  unfold wd
  exact Nat.or_lt_two_pow (Nat.or_lt_two_pow (Nat.or_lt_two_pow (Nat.or_lt_two_pow (Nat.or_lt_two_pow (Nat.or_lt_two_pow (Nat.or_lt_two_pow h0 (h 1 8 (by decide))) (h 2 16 (by decide))) (h 3 24 (by decide))) (h 4 32 (by decide))) (h 5 40 (by decide))) (h 6 48 (by decide))) (h 7 56 (by decide))
theorem word_eq (t : List UInt8) (h : 8 ≤ t.length) : C_unicode_utf8_word_string F_unicode_utf8_word_string t = some (ret_unicode_utf8_word_string (wd t : Int)) := by
  have p : ∀ k : Int, 0 ≤ k → k < 8 → (0 : Int) ≤ k ∧ k < (t.length : Int) := fun k h1 h2 => by omega
  rw [e_unicode_utf8_word_string, if_pos (p 0 (by decide) (by decide)), if_pos (p 1 (by decide) (by decide)), if_pos (p 2 (by decide) (by decide)), if_pos (p 3 (by decide) (by decide)), if_pos (p 4 (by decide) (by decide)), if_pos (p 5 (by decide) (by decide)), if_pos (p 6 (by decide) (by decide)), if_pos (p 7 (by decide) (by decide))]
  have w0 : IntKind.u64.wrap ((List.getD t (Int.toNat 0) 0).toNat : Int) = ((bn t 0 : Nat) : Int) := wr64 _ (Nat.lt_trans (bn_lt t 0) (by decide))
  have s1 : shlI .u64 (IntKind.u64.wrap ((List.getD t (Int.toNat 1) 0).toNat : Int)) 8 = ((bn t 1 * 2 ^ 8 : Nat) : Int) := (shl64 (t.getD 1 0) 8 (by decide)).1
  have s2 : shlI .u64 (IntKind.u64.wrap ((List.getD t (Int.toNat 2) 0).toNat : Int)) 16 = ((bn t 2 * 2 ^ 16 : Nat) : Int) := (shl64 (t.getD 2 0) 16 (by decide)).1
  have s3 : shlI .u64 (IntKind.u64.wrap ((List.getD t (Int.toNat 3) 0).toNat : Int)) 24 = ((bn t 3 * 2 ^ 24 : Nat) : Int) := (shl64 (t.getD 3 0) 24 (by decide)).1
  have s4 : shlI .u64 (IntKind.u64.wrap ((List.getD t (Int.toNat 4) 0).toNat : Int)) 32 = ((bn t 4 * 2 ^ 32 : Nat) : Int) := (shl64 (t.getD 4 0) 32 (by decide)).1
  have s5 : shlI .u64 (IntKind.u64.wrap ((List.getD t (Int.toNat 5) 0).toNat : Int)) 40 = ((bn t 5 * 2 ^ 40 : Nat) : Int) := (shl64 (t.getD 5 0) 40 (by decide)).1
  have s6 : shlI .u64 (IntKind.u64.wrap ((List.getD t (Int.toNat 6) 0).toNat : Int)) 48 = ((bn t 6 * 2 ^ 48 : Nat) : Int) := (shl64 (t.getD 6 0) 48 (by decide)).1
  have s7 : shlI .u64 (IntKind.u64.wrap ((List.getD t (Int.toNat 7) 0).toNat : Int)) 56 = ((bn t 7 * 2 ^ 56 : Nat) : Int) := (shl64 (t.getD 7 0) 56 (by decide)).1
  have l0 : bn t 0 < 2 ^ 64 := Nat.lt_trans (bn_lt t 0) (by decide)
  have l : ∀ k i, i ≤ 56 → bn t k * 2 ^ i < 2 ^ 64 := fun k i hi => (shl64 (t.getD k 0) i hi).2
  have m1 := Nat.or_lt_two_pow l0 (l 1 8 (by decide))
  have m2 := Nat.or_lt_two_pow m1 (l 2 16 (by decide))
  have m3 := Nat.or_lt_two_pow m2 (l 3 24 (by decide))
  have m4 := Nat.or_lt_two_pow m3 (l 4 32 (by decide))
  have m5 := Nat.or_lt_two_pow m4 (l 5 40 (by decide))
  have m6 := Nat.or_lt_two_pow m5 (l 6 48 (by decide))
  rw [w0, s1, s2, s3, s4, s5, s6, s7, or64 _ _ l0 (l 1 8 (by decide)), or64 _ _ m1 (l 2 16 (by decide)), or64 _ _ m2 (l 3 24 (by decide)), or64 _ _ m3 (l 4 32 (by decide)), or64 _ _ m4 (l 5 40 (by decide)), or64 _ _ m5 (l 6 48 (by decide)), or64 _ _ m6 (l 7 56 (by decide))]
  rfl
/-- Each of eight bytes is a letter of ASCII. -/
def asc8 (t : List UInt8) : Prop := ∀ k, k < 8 → bn t k < 128
theorem bit_all : (List.range 8).all (fun i => (List.range 256).all fun b => decide ((b * 2 ^ (8 * i)) &&& mask = 0 → b < 128)) = true := by kernel_rfl
theorem bit_one (b i : Nat) (hb : b < 256) (hi : i < 8) (h : (b * 2 ^ (8 * i)) &&& mask = 0) : b < 128 := by
  have h1 := List.all_eq_true.1 bit_all i (List.mem_range.2 hi)
  have h2 := List.all_eq_true.1 h1 b (List.mem_range.2 hb)
  exact of_decide_eq_true h2 h
theorem wd_asc (t : List UInt8) (h : wd t &&& mask = 0) : asc8 t := by
  have hor : ∀ a b : Nat, (a ||| b) &&& mask = 0 → a &&& mask = 0 ∧ b &&& mask = 0 := fun a b h => by
    rw [Nat.and_or_distrib_right] at h
    exact Nat.or_eq_zero_iff.1 h
  unfold wd at h
  obtain ⟨h, h7⟩ := hor _ _ h
  obtain ⟨h, h6⟩ := hor _ _ h
  obtain ⟨h, h5⟩ := hor _ _ h
  obtain ⟨h, h4⟩ := hor _ _ h
  obtain ⟨h, h3⟩ := hor _ _ h
  obtain ⟨h, h2⟩ := hor _ _ h
  obtain ⟨h, h1⟩ := hor _ _ h
  intro k hk
  have hb := bn_lt t k
  match k, hk with
  | 0, _ => exact bit_one _ 0 hb (by decide) (by simpa using h)
  | 1, _ => exact bit_one _ 1 hb (by decide) h1
  | 2, _ => exact bit_one _ 2 hb (by decide) h2
  | 3, _ => exact bit_one _ 3 hb (by decide) h3
  | 4, _ => exact bit_one _ 4 hb (by decide) h4
  | 5, _ => exact bit_one _ 5 hb (by decide) h5
  | 6, _ => exact bit_one _ 6 hb (by decide) h6
  | 7, _ => exact bit_one _ 7 hb (by decide) h7
end Go.Ev.Utf
