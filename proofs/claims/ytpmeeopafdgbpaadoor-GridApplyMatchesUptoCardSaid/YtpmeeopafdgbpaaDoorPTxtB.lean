
import Derived.Test.YtpmeeopafdgbpaaDoorPUtf
namespace Go.Ev.Utf
open Go.Ev
set_option linter.unusedVariables false
set_option linter.unusedSimpArgs false
set_option maxRecDepth 100000
theorem and63 : (List.range 256).all (fun b => andI .u8 (b : Int) 63 == ((b % 64 : Nat) : Int)) = true := by kernel_rfl
theorem and31 : (List.range 256).all (fun b => andI .u8 (b : Int) 31 == ((b % 32 : Nat) : Int)) = true := by kernel_rfl
theorem and15 : (List.range 256).all (fun b => andI .u8 (b : Int) 15 == ((b % 16 : Nat) : Int)) = true := by kernel_rfl
theorem and7 : (List.range 256).all (fun b => andI .u8 (b : Int) 7 == ((b % 8 : Nat) : Int)) = true := by kernel_rfl
theorem all256 {f : Nat → Bool} (h : (List.range 256).all f = true) (b : UInt8) : f b.toNat = true := List.all_eq_true.1 h _ (List.mem_range.2 b.toNat_lt)
theorem a63 (b : UInt8) : andI .u8 (b.toNat : Int) 63 = ((b.toNat % 64 : Nat) : Int) := by simpa using all256 and63 b
theorem a31 (b : UInt8) : andI .u8 (b.toNat : Int) 31 = ((b.toNat % 32 : Nat) : Int) := by simpa using all256 and31 b
theorem a15 (b : UInt8) : andI .u8 (b.toNat : Int) 15 = ((b.toNat % 16 : Nat) : Int) := by simpa using all256 and15 b
theorem a7 (b : UInt8) : andI .u8 (b.toNat : Int) 7 = ((b.toNat % 8 : Nat) : Int) := by simpa using all256 and7 b
theorem w32 {x : Int} (h0 : 0 ≤ x) (h1 : x < 2147483648) : IntKind.i32.wrap x = x := by
  simp only [IntKind.wrap, IntKind.signed, IntKind.bits]
  simp; omega
theorem shl32 (a k : Nat) (hk : k ≤ 32) (h : a * 2 ^ k < 2147483648) : shlI .i32 (a : Int) (k : Int) = ((a * 2 ^ k : Nat) : Int) := by
  unfold shlI
  have e : min (Int.toNat (k : Int)) IntKind.i32.bits = k := by
    rw [Int.toNat_natCast]; exact Nat.min_eq_left hk
  rw [e]
  have : (a : Int) * 2 ^ k = ((a * 2 ^ k : Nat) : Int) := by push_cast; rfl
  rw [this]
  exact w32 (Int.natCast_nonneg _) (show _ < ((2147483648 : Nat) : Int) from Int.ofNat_lt.2 h)
theorem or32 (a b k : Nat) (hb : b < 2 ^ k) (h : a * 2 ^ k + b < 2147483648) : orI .i32 ((a * 2 ^ k : Nat) : Int) (b : Int) = ((a * 2 ^ k + b : Nat) : Int) := by
  unfold orI
  have e : (BitVec.ofInt IntKind.i32.bits ((a * 2 ^ k : Nat) : Int) ||| BitVec.ofInt IntKind.i32.bits (b : Int)).toNat = a * 2 ^ k + b := by
    rw [BitVec.toNat_or]
    have q : ∀ n : Nat, n < 4294967296 → (BitVec.ofInt IntKind.i32.bits (n : Int)).toNat = n := fun n hn => by
      rw [BitVec.toNat_ofInt]
      show (((n : Int) % (2 ^ 32 : Nat)).toNat) = n
      have : ((2 ^ 32 : Nat) : Int) = 4294967296 := rfl
      rw [this]
      omega
    rw [q _ (by omega), q _ (by omega), Nat.mul_comm a, ← Nat.two_pow_add_eq_or_of_lt hb a, Nat.mul_comm]
  rw [e]
  exact w32 (Int.natCast_nonneg _) (show _ < ((2147483648 : Nat) : Int) from Int.ofNat_lt.2 h)
def x0 (b : Nat) : Int := at_ (e := .int .u8) vtabF (b : Int)
def sz (b : Nat) : Int := IntKind.i64.wrap (andI .u8 (x0 b) 7)
def lo (b : Nat) : Int := (at_ (e := .pair (.int .u8) (.int .u8)) vtabA (shrI .u8 (x0 b) 4)).1
def hi (b : Nat) : Int := (at_ (e := .pair (.int .u8) (.int .u8)) vtabA (shrI .u8 (x0 b) 4)).2
def e8 (b : Nat) : Int := orI .i32 (clrI .i32 (IntKind.i32.wrap (b : Int)) (shrI .i32 (shlI .i32 (IntKind.i32.wrap (x0 b)) 31) 31)) (andI .i32 65533 (shrI .i32 (shlI .i32 (IntKind.i32.wrap (x0 b)) 31) 31))
def cls (b : Nat) : Bool :=
  if b < 128 then true
  else if b < 194 ∨ 244 < b then decide (240 ≤ x0 b) && (e8 b == 65533)
  else decide (x0 b < 240) &&
    (if b < 224 then sz b == 2 && lo b == 128 && hi b == 191
    else if b < 240 then sz b == 3 && lo b == (if b = 224 then 160 else 128) && hi b == (if b = 237 then 159 else 191)
    else sz b == 4 && lo b == (if b = 240 then 144 else 128) && hi b == (if b = 244 then 143 else 191))
theorem cls_all : (List.range 256).all cls = true := by kernel_rfl
theorem cls_byte (b : UInt8) : cls b.toNat = true := all256 cls_all b
/-- What the model reads first. -/
def bn (t : List UInt8) (k : Nat) : Nat := (t.getD k 0).toNat
def cont (t : List UInt8) (k : Nat) : Bool := decide (k < t.length) && (bn t k / 64 == 2)
def mdec (t : List UInt8) : Nat × Nat :=
  if bn t 0 < 128 then (bn t 0, 1)
  else if (bn t 0 / 32 == 6 && cont t 1) = true then
    if (bn t 0 % 32) * 64 + bn t 1 % 64 ≥ 128 then ((bn t 0 % 32) * 64 + bn t 1 % 64, 2) else (65533, 1)
  else if (bn t 0 / 16 == 14 && cont t 1 && cont t 2) = true then
    if ((bn t 0 % 16) * 4096 + (bn t 1 % 64) * 64 + bn t 2 % 64 ≥ 2048 ∧ Utf8.valid ((bn t 0 % 16) * 4096 + (bn t 1 % 64) * 64 + bn t 2 % 64 : Nat) = true) then ((bn t 0 % 16) * 4096 + (bn t 1 % 64) * 64 + bn t 2 % 64, 3) else (65533, 1)
  else if (bn t 0 / 8 == 30 && cont t 1 && cont t 2 && cont t 3) = true then
    if ((bn t 0 % 8) * 262144 + (bn t 1 % 64) * 4096 + (bn t 2 % 64) * 64 + bn t 3 % 64 ≥ 65536 ∧ Utf8.valid ((bn t 0 % 8) * 262144 + (bn t 1 % 64) * 4096 + (bn t 2 % 64) * 64 + bn t 3 % 64 : Nat) = true) then ((bn t 0 % 8) * 262144 + (bn t 1 % 64) * 4096 + (bn t 2 % 64) * 64 + bn t 3 % 64, 4) else (65533, 1)
  else (65533, 1)
theorem valid_iff (n : Nat) : Utf8.valid (n : Int) = true ↔ n < 55296 ∨ (57344 ≤ n ∧ n ≤ 1114111) := by
  simp only [Utf8.valid, Bool.or_eq_true, Bool.and_eq_true, decide_eq_true_eq]
  omega
/-- What Go's code gives, in numbers. -/
def gdec (t : List UInt8) : Nat × Nat :=
  if bn t 0 < 128 then (bn t 0, 1)
  else if 240 ≤ x0 (bn t 0) then ((e8 (bn t 0)).toNat, 1)
  else if (t.length : Int) < sz (bn t 0) then (65533, 1)
  else if (bn t 1 : Int) < lo (bn t 0) ∨ hi (bn t 0) < (bn t 1 : Int) then (65533, 1)
  else if sz (bn t 0) ≤ 2 then ((bn t 0 % 32) * 64 + bn t 1 % 64, 2)
  else if bn t 2 < 128 ∨ 191 < bn t 2 then (65533, 1)
  else if sz (bn t 0) ≤ 3 then ((bn t 0 % 16) * 4096 + (bn t 1 % 64) * 64 + bn t 2 % 64, 3)
  else if bn t 3 < 128 ∨ 191 < bn t 3 then (65533, 1)
  else ((bn t 0 % 8) * 262144 + (bn t 1 % 64) * 4096 + (bn t 2 % 64) * 64 + bn t 3 % 64, 4)
theorem bn_lt (t : List UInt8) (k : Nat) : bn t k < 256 := UInt8.toNat_lt _
theorem bn_len {t : List UInt8} {k : Nat} (h : bn t k ≠ 0) : k < t.length := by
  apply Classical.byContradiction
  intro hk
  apply h
  unfold bn
  rw [List.getD_eq_getElem?_getD, List.getElem?_eq_none (by omega)]; rfl
theorem cont_iff (t : List UInt8) (k : Nat) : cont t k = true ↔ 128 ≤ bn t k ∧ bn t k ≤ 191 := by
  have h1 := bn_lt t k
  unfold cont
  rw [Bool.and_eq_true, decide_eq_true_eq, beq_iff_eq]
  constructor
  · rintro ⟨_, h⟩; omega
  · intro h
    exact ⟨bn_len (by omega), by omega⟩
theorem gdec_mdec (t : List UInt8) (h : 1 ≤ t.length) : gdec t = mdec t := by
  have c := cls_byte (t.getD 0 0)
  have e0 : (t.getD 0 0).toNat = bn t 0 := rfl
  rw [e0] at c
  have l1 := @bn_len t 1
  have l2 := @bn_len t 2
  have l3 := @bn_len t 3
  have k1 := cont_iff t 1
  have k2 := cont_iff t 2
  have k3 := cont_iff t 3
  have b0 := bn_lt t 0
  have b1 := bn_lt t 1
  have b2 := bn_lt t 2
  have b3 := bn_lt t 3
  unfold gdec mdec
  simp only [valid_iff, Bool.and_eq_true, beq_iff_eq, k1, k2, k3]
  generalize bn t 0 = a at *
  generalize bn t 1 = p at *
  generalize bn t 2 = q at *
  generalize bn t 3 = r at *
  by_cases h0 : a < 128
  · rw [if_pos h0, if_pos h0]
  rw [if_neg h0, if_neg h0]
  unfold cls at c
  rw [if_neg h0] at c
  by_cases h1 : a < 194 ∨ 244 < a
  · rw [if_pos h1, Bool.and_eq_true, decide_eq_true_eq, beq_iff_eq] at c
    rw [if_pos c.1, c.2]
    have e : Int.toNat 65533 = 65533 := rfl
    rw [e]
    split
    · rename_i g; rw [if_neg (by omega)]
    · split
      · rename_i g; exfalso; omega
      · split
        · rename_i g; rw [if_neg (by omega)]
        · rfl
  rw [if_neg h1, Bool.and_eq_true, decide_eq_true_eq] at c
  obtain ⟨c1, c2⟩ := c
  rw [if_neg (by omega)]
  by_cases h2 : a < 224
  · rw [if_pos h2] at c2
    simp only [Bool.and_eq_true, beq_iff_eq] at c2
    obtain ⟨⟨s1, s2⟩, s3⟩ := c2
    rw [s1, s2, s3]
    by_cases g : 128 ≤ p ∧ p ≤ 191
    · rw [if_neg (by have := l1 (by omega); omega), if_neg (by omega), if_pos (by omega), if_pos ⟨by omega, g⟩, if_pos (by omega)]
    · have z : ¬ (a / 32 = 6 ∧ 128 ≤ p ∧ p ≤ 191) := fun z => g z.2
      have z2 : ¬ ((a / 16 = 14 ∧ 128 ≤ p ∧ p ≤ 191) ∧ 128 ≤ q ∧ q ≤ 191) := fun z => by omega
      have z3 : ¬ (((a / 8 = 30 ∧ 128 ≤ p ∧ p ≤ 191) ∧ 128 ≤ q ∧ q ≤ 191) ∧ 128 ≤ r ∧ r ≤ 191) := fun z => by omega
      have d2 : (p : Int) < 128 ∨ 191 < (p : Int) := by omega
      rw [if_neg z, if_neg z2, if_neg z3, if_pos d2]
      split <;> rfl
  · rw [if_neg h2] at c2
    have z : ¬ (a / 32 = 6 ∧ 128 ≤ p ∧ p ≤ 191) := fun z => by omega
    by_cases h3 : a < 240
    · rw [if_pos h3] at c2
      simp only [Bool.and_eq_true, beq_iff_eq] at c2
      obtain ⟨⟨s1, s2⟩, s3⟩ := c2
      have z3 : ¬ (((a / 8 = 30 ∧ 128 ≤ p ∧ p ≤ 191) ∧ 128 ≤ q ∧ q ≤ 191) ∧ 128 ≤ r ∧ r ≤ 191) := fun z => by omega
      have y2 : ¬ ((3 : Int) ≤ 2) := by decide
      have y3 : (3 : Int) ≤ 3 := by decide
      rw [s1, s2, s3, if_neg z, if_neg z3, if_neg y2, if_pos y3]
      generalize hL : (if a = 224 then (160 : Int) else 128) = L
      generalize hH : (if a = 237 then (159 : Int) else 191) = H
      have hLH : (a = 224 ∧ L = 160 ∨ a ≠ 224 ∧ L = 128) ∧ (a = 237 ∧ H = 159 ∨ a ≠ 237 ∧ H = 191) := by
        constructor
        · by_cases e : a = 224
          · rw [if_pos e] at hL; exact .inl ⟨e, hL.symm⟩
          · rw [if_neg e] at hL; exact .inr ⟨e, hL.symm⟩
        · by_cases e : a = 237
          · rw [if_pos e] at hH; exact .inl ⟨e, hH.symm⟩
          · rw [if_neg e] at hH; exact .inr ⟨e, hH.symm⟩
      by_cases g : (128 ≤ p ∧ p ≤ 191) ∧ (128 ≤ q ∧ q ≤ 191)
      · have hlen := l2 (by omega)
        have d1 : ¬ ((t.length : Int) < 3) := by omega
        have y : (a / 16 = 14 ∧ 128 ≤ p ∧ p ≤ 191) ∧ 128 ≤ q ∧ q ≤ 191 := ⟨⟨by omega, g.1⟩, g.2⟩
        have d3 : ¬ (q < 128 ∨ 191 < q) := by omega
        rw [if_neg d1, if_pos y, if_neg d3]
        by_cases g2 : (p : Int) < L ∨ H < (p : Int)
        · rw [if_pos g2, if_neg (by omega)]
        · rw [if_neg g2, if_pos (by omega)]
      · have z2 : ¬ ((a / 16 = 14 ∧ 128 ≤ p ∧ p ≤ 191) ∧ 128 ≤ q ∧ q ≤ 191) := fun z => g ⟨z.1.2, z.2⟩
        rw [if_neg z2]
        by_cases d1 : (t.length : Int) < 3
        · rw [if_pos d1]
        · rw [if_neg d1]
          by_cases g2 : (p : Int) < L ∨ H < (p : Int)
          · rw [if_pos g2]
          · have d3 : q < 128 ∨ 191 < q := by omega
            rw [if_neg g2, if_pos d3]
    · rw [if_neg h3] at c2
      simp only [Bool.and_eq_true, beq_iff_eq] at c2
      obtain ⟨⟨s1, s2⟩, s3⟩ := c2
      have z2 : ¬ ((a / 16 = 14 ∧ 128 ≤ p ∧ p ≤ 191) ∧ 128 ≤ q ∧ q ≤ 191) := fun z => by omega
      have y2 : ¬ ((4 : Int) ≤ 2) := by decide
      have y3 : ¬ ((4 : Int) ≤ 3) := by decide
      rw [s1, s2, s3, if_neg z, if_neg z2, if_neg y2, if_neg y3]
      generalize hL : (if a = 240 then (144 : Int) else 128) = L
      generalize hH : (if a = 244 then (143 : Int) else 191) = H
      have hLH : (a = 240 ∧ L = 144 ∨ a ≠ 240 ∧ L = 128) ∧ (a = 244 ∧ H = 143 ∨ a ≠ 244 ∧ H = 191) := by
        constructor
        · by_cases e : a = 240
          · rw [if_pos e] at hL; exact .inl ⟨e, hL.symm⟩
          · rw [if_neg e] at hL; exact .inr ⟨e, hL.symm⟩
        · by_cases e : a = 244
          · rw [if_pos e] at hH; exact .inl ⟨e, hH.symm⟩
          · rw [if_neg e] at hH; exact .inr ⟨e, hH.symm⟩
      by_cases g : ((128 ≤ p ∧ p ≤ 191) ∧ (128 ≤ q ∧ q ≤ 191)) ∧ (128 ≤ r ∧ r ≤ 191)
      · have hlen := l3 (by omega)
        have d1 : ¬ ((t.length : Int) < 4) := by omega
        have y : ((a / 8 = 30 ∧ 128 ≤ p ∧ p ≤ 191) ∧ 128 ≤ q ∧ q ≤ 191) ∧ 128 ≤ r ∧ r ≤ 191 := ⟨⟨⟨by omega, g.1.1⟩, g.1.2⟩, g.2⟩
        have d3 : ¬ (q < 128 ∨ 191 < q) := by omega
        have d4 : ¬ (r < 128 ∨ 191 < r) := by omega
        rw [if_neg d1, if_pos y, if_neg d3, if_neg d4]
        by_cases g2 : (p : Int) < L ∨ H < (p : Int)
        · rw [if_pos g2, if_neg (by omega)]
        · rw [if_neg g2, if_pos (by omega)]
      · have z4 : ¬ (((a / 8 = 30 ∧ 128 ≤ p ∧ p ≤ 191) ∧ 128 ≤ q ∧ q ≤ 191) ∧ 128 ≤ r ∧ r ≤ 191) := fun z => g ⟨⟨z.1.1.2, z.1.2⟩, z.2⟩
        rw [if_neg z4]
        by_cases d1 : (t.length : Int) < 4
        · rw [if_pos d1]
        · rw [if_neg d1]
          by_cases g2 : (p : Int) < L ∨ H < (p : Int)
          · rw [if_pos g2]
          · rw [if_neg g2]
            by_cases d3 : q < 128 ∨ 191 < q
            · rw [if_pos d3]
            · have d4 : r < 128 ∨ 191 < r := by omega
              rw [if_neg d3, if_pos d4]
end Go.Ev.Utf
namespace Go.Ev.Utf
open Go.Ev
set_option linter.unusedVariables false
set_option linter.unusedSimpArgs false
set_option maxRecDepth 100000
theorem code2 (a b : UInt8) : orI .i32 (shlI .i32 (IntKind.i32.wrap (andI .u8 (a.toNat : Int) 31)) 6) (IntKind.i32.wrap (andI .u8 (b.toNat : Int) 63)) = (((a.toNat % 32) * 64 + b.toNat % 64 : Nat) : Int) := by
  rw [a31, a63, w32 (Int.natCast_nonneg _) (by omega), w32 (Int.natCast_nonneg _) (by omega)]
  have h1 := shl32 (a.toNat % 32) 6 (by omega) (by omega)
  have h2 := or32 (a.toNat % 32) (b.toNat % 64) 6 (by omega) (by omega)
  exact (congrArg (fun z => orI .i32 z _) h1).trans h2
theorem code3 (a b c : UInt8) : orI .i32 (orI .i32 (shlI .i32 (IntKind.i32.wrap (andI .u8 (a.toNat : Int) 15)) 12) (shlI .i32 (IntKind.i32.wrap (andI .u8 (b.toNat : Int) 63)) 6)) (IntKind.i32.wrap (andI .u8 (c.toNat : Int) 63)) = (((a.toNat % 16) * 4096 + (b.toNat % 64) * 64 + c.toNat % 64 : Nat) : Int) := by
  rw [a15, a63, a63, w32 (Int.natCast_nonneg _) (by omega), w32 (Int.natCast_nonneg _) (by omega), w32 (Int.natCast_nonneg _) (by omega)]
  have h1 := shl32 (a.toNat % 16) 12 (by omega) (by omega)
  have h2 := shl32 (b.toNat % 64) 6 (by omega) (by omega)
  have h3 := or32 (a.toNat % 16) ((b.toNat % 64) * 64) 12 (by omega) (by omega)
  have h4 := or32 ((a.toNat % 16) * 64 + b.toNat % 64) (c.toNat % 64) 6 (by omega) (by omega)
  have e : (a.toNat % 16) * 2 ^ 12 + (b.toNat % 64) * 64 = ((a.toNat % 16) * 64 + b.toNat % 64) * 2 ^ 6 := by omega
  rw [e] at h3
  have h5 : orI .i32 (shlI .i32 ((a.toNat % 16 : Nat) : Int) 12) (shlI .i32 ((b.toNat % 64 : Nat) : Int) 6) = ((((a.toNat % 16) * 64 + b.toNat % 64) * 2 ^ 6 : Nat) : Int) := by
    have q := congrArg (fun z => orI .i32 z (shlI .i32 ((b.toNat % 64 : Nat) : Int) 6)) h1
    refine q.trans ?_
    have q2 := congrArg (fun z => orI .i32 (((a.toNat % 16) * 2 ^ 12 : Nat) : Int) z) h2
    exact q2.trans h3
  have q := congrArg (fun z => orI .i32 z ((c.toNat % 64 : Nat) : Int)) h5
  refine q.trans (h4.trans ?_)
  congr 1
  omega
theorem code4 (a b c d : UInt8) : orI .i32 (orI .i32 (orI .i32 (shlI .i32 (IntKind.i32.wrap (andI .u8 (a.toNat : Int) 7)) 18) (shlI .i32 (IntKind.i32.wrap (andI .u8 (b.toNat : Int) 63)) 12)) (shlI .i32 (IntKind.i32.wrap (andI .u8 (c.toNat : Int) 63)) 6)) (IntKind.i32.wrap (andI .u8 (d.toNat : Int) 63)) = (((a.toNat % 8) * 262144 + (b.toNat % 64) * 4096 + (c.toNat % 64) * 64 + d.toNat % 64 : Nat) : Int) := by
  rw [a7, a63, a63, a63, w32 (Int.natCast_nonneg _) (by omega), w32 (Int.natCast_nonneg _) (by omega), w32 (Int.natCast_nonneg _) (by omega), w32 (Int.natCast_nonneg _) (by omega)]
  have h1 := shl32 (a.toNat % 8) 18 (by omega) (by omega)
  have h2 := shl32 (b.toNat % 64) 12 (by omega) (by omega)
  have h3 := shl32 (c.toNat % 64) 6 (by omega) (by omega)
  have o1 := or32 (a.toNat % 8) ((b.toNat % 64) * 4096) 18 (by omega) (by omega)
  have o2 := or32 ((a.toNat % 8) * 64 + b.toNat % 64) ((c.toNat % 64) * 64) 12 (by omega) (by omega)
  have o3 := or32 (((a.toNat % 8) * 64 + b.toNat % 64) * 64 + c.toNat % 64) (d.toNat % 64) 6 (by omega) (by omega)
  have e1 : (a.toNat % 8) * 2 ^ 18 + (b.toNat % 64) * 4096 = ((a.toNat % 8) * 64 + b.toNat % 64) * 2 ^ 12 := by omega
  have e2 : ((a.toNat % 8) * 64 + b.toNat % 64) * 2 ^ 12 + (c.toNat % 64) * 64 = (((a.toNat % 8) * 64 + b.toNat % 64) * 64 + c.toNat % 64) * 2 ^ 6 := by omega
  rw [e1] at o1
  rw [e2] at o2
  have g1 : orI .i32 (shlI .i32 ((a.toNat % 8 : Nat) : Int) 18) (shlI .i32 ((b.toNat % 64 : Nat) : Int) 12) = ((((a.toNat % 8) * 64 + b.toNat % 64) * 2 ^ 12 : Nat) : Int) := by
    have q := congrArg (fun z => orI .i32 z (shlI .i32 ((b.toNat % 64 : Nat) : Int) 12)) h1
    refine q.trans ?_
    have q2 := congrArg (fun z => orI .i32 (((a.toNat % 8) * 2 ^ 18 : Nat) : Int) z) h2
    exact q2.trans o1
  have g2 : orI .i32 (orI .i32 (shlI .i32 ((a.toNat % 8 : Nat) : Int) 18) (shlI .i32 ((b.toNat % 64 : Nat) : Int) 12)) (shlI .i32 ((c.toNat % 64 : Nat) : Int) 6) = (((((a.toNat % 8) * 64 + b.toNat % 64) * 64 + c.toNat % 64) * 2 ^ 6 : Nat) : Int) := by
    have q := congrArg (fun z => orI .i32 z (shlI .i32 ((c.toNat % 64 : Nat) : Int) 6)) g1
    refine q.trans ?_
    have q2 := congrArg (fun z => orI .i32 ((((a.toNat % 8) * 64 + b.toNat % 64) * 2 ^ 12 : Nat) : Int) z) h3
    exact q2.trans o2
  have q := congrArg (fun z => orI .i32 z ((d.toNat % 64 : Nat) : Int)) g2
  refine q.trans (o3.trans ?_)
  congr 1
  omega
theorem e8_nat (t : List UInt8) (h : ¬ bn t 0 < 128) (h2 : 240 ≤ x0 (bn t 0)) : e8 (bn t 0) = (((e8 (bn t 0)).toNat : Nat) : Int) := by
  have c := cls_byte (t.getD 0 0)
  have e0 : (t.getD 0 0).toNat = bn t 0 := rfl
  rw [e0] at c
  unfold cls at c
  rw [if_neg h] at c
  by_cases h1 : bn t 0 < 194 ∨ 244 < bn t 0
  · rw [if_pos h1, Bool.and_eq_true, decide_eq_true_eq, beq_iff_eq] at c
    rw [c.2]; rfl
  · rw [if_neg h1, Bool.and_eq_true, decide_eq_true_eq] at c
    omega
theorem slow_gdec (t : List UInt8) (h : 1 ≤ t.length) (h1 : ¬ bn t 0 < 128) : C_unicode_utf8_decodeRuneInStringSlow F_unicode_utf8_decodeRuneInStringSlow t = some (ret_unicode_utf8_decodeRuneInStringSlow ((gdec t).1 : Int) ((gdec t).2 : Int)) := by
  have f0 : at_ (e := .int .u8) vtabF ((List.getD t (Int.toNat 0) 0).toNat : Int) = x0 (bn t 0) := rfl
  have f1 : ((List.getD t (Int.toNat 1) 0).toNat : Int) = (bn t 1 : Int) := rfl
  have f2 : ((List.getD t (Int.toNat 2) 0).toNat : Int) = (bn t 2 : Int) := rfl
  have f3 : ((List.getD t (Int.toNat 3) 0).toNat : Int) = (bn t 3 : Int) := rfl
  have fs : IntKind.i64.wrap (andI .u8 (x0 (bn t 0)) 7) = sz (bn t 0) := rfl
  have fl : (at_ (e := .pair (.int .u8) (.int .u8)) vtabA (shrI .u8 (x0 (bn t 0)) 4)).1 = lo (bn t 0) := rfl
  have fh : (at_ (e := .pair (.int .u8) (.int .u8)) vtabA (shrI .u8 (x0 (bn t 0)) 4)).2 = hi (bn t 0) := rfl
  have k2 := code2 (List.getD t (Int.toNat 0) 0) (List.getD t (Int.toNat 1) 0)
  have k3 := code3 (List.getD t (Int.toNat 0) 0) (List.getD t (Int.toNat 1) 0) (List.getD t (Int.toNat 2) 0)
  have k4 := code4 (List.getD t (Int.toNat 0) 0) (List.getD t (Int.toNat 1) 0) (List.getD t (Int.toNat 2) 0) (List.getD t (Int.toNat 3) 0)
  have hok := okF_byte (List.getD t (Int.toNat 0) 0)
  have hlt : (List.getD t (Int.toNat 0) 0).toNat < 256 := UInt8.toNat_lt _
  have lF : ((List.length vtabF : Nat) : Int) = 256 := by rw [lenF]; rfl
  have lA : ((List.length vtabA : Nat) : Int) = 16 := by rw [lenA]; rfl
  have he := e8_nat t h1
  rw [e_unicode_utf8_decodeRuneInStringSlow]
  simp only [k2, k3, k4]
  unfold gdec
  rw [if_neg h1]
  have h8 : orI .i32 (clrI .i32 (IntKind.i32.wrap ((List.getD t (Int.toNat 0) 0).toNat : Int)) (shrI .i32 (shlI .i32 (IntKind.i32.wrap (at_ (e := .int .u8) vtabF ((List.getD t (Int.toNat 0) 0).toNat : Int))) 31) 31)) (andI .i32 65533 (shrI .i32 (shlI .i32 (IntKind.i32.wrap (at_ (e := .int .u8) vtabF ((List.getD t (Int.toNat 0) 0).toNat : Int))) 31) 31)) = e8 (bn t 0) := rfl
  rw [h8]
  have hok' : okF (bn t 0) = true := hok
  simp only [okF] at hok'
  have fx : at_ (e := .int .u8) vtabF ((bn t 0 : Nat) : Int) = x0 (bn t 0) := rfl
  rw [fx, fs] at hok'
  simp only [Bool.or_eq_true, Bool.and_eq_true, decide_eq_true_eq] at hok'
  simp only [f0, fs, fl, fh, f1, f2, f3, bcond_if, decide_eq_true_eq]
  rw [if_neg (show ¬ (t.length : Int) < 1 by omega), if_pos (show (0 : Int) ≤ 0 ∧ (0 : Int) < (t.length : Int) by omega), if_pos (show (0 : Int) ≤ ((List.getD t (Int.toNat 0) 0).toNat : Int) ∧ ((List.getD t (Int.toNat 0) 0).toNat : Int) < (List.length vtabF : Int) by omega)]
  by_cases h2 : 240 ≤ x0 (bn t 0)
  · rw [if_pos (show x0 (bn t 0) ≥ 240 from h2), if_pos h2, if_pos (show (0 : Int) ≤ 0 ∧ (0 : Int) < (t.length : Int) by omega), he h2]
    simp
  have hz := hok'.resolve_left h2
  rw [if_neg (show ¬ x0 (bn t 0) ≥ 240 from h2), if_neg h2, if_pos (show 0 ≤ shrI .u8 (x0 (bn t 0)) 4 ∧ shrI .u8 (x0 (bn t 0)) 4 < (List.length vtabA : Int) by rw [lA]; omega)]
  by_cases h3 : (t.length : Int) < sz (bn t 0)
  · rw [if_pos h3, if_pos h3]; rfl
  rw [if_neg h3, if_neg h3, if_pos (show (0 : Int) ≤ 1 ∧ (1 : Int) < (t.length : Int) by omega)]
  have e1 : ∀ (p : Prop) [Decidable p], ((decide p) == false) = true ↔ ¬ p := fun p _ => by by_cases hp : p <;> simp [hp]
  simp only [e1]
  by_cases h4 : (bn t 1 : Int) < lo (bn t 0)
  · rw [if_neg (fun z => z h4), if_pos (.inl h4)]; rfl
  rw [if_pos h4]
  by_cases h5 : hi (bn t 0) < (bn t 1 : Int)
  · rw [if_pos h5, if_pos (.inr h5)]; rfl
  rw [if_neg h5, if_neg (show ¬ ((bn t 1 : Int) < lo (bn t 0) ∨ hi (bn t 0) < (bn t 1 : Int)) from fun z => z.elim h4 h5)]
  by_cases h6 : sz (bn t 0) ≤ 2
  · rw [if_pos h6, if_pos h6]; rfl
  rw [if_neg h6, if_neg h6, if_pos (show (0 : Int) ≤ 2 ∧ (2 : Int) < (t.length : Int) by omega)]
  by_cases h7 : (bn t 2 : Int) < 128
  · rw [if_neg (fun z => z h7), if_pos (.inl (by omega))]; rfl
  rw [if_pos h7]
  by_cases h9 : (191 : Int) < (bn t 2 : Int)
  · rw [if_pos h9, if_pos (.inr (by omega))]; rfl
  rw [if_neg h9, if_neg (show ¬ (bn t 2 < 128 ∨ 191 < bn t 2) by omega)]
  by_cases h10 : sz (bn t 0) ≤ 3
  · rw [if_pos h10, if_pos h10]; rfl
  rw [if_neg h10, if_neg h10, if_pos (show (0 : Int) ≤ 3 ∧ (3 : Int) < (t.length : Int) by omega)]
  by_cases h11 : (bn t 3 : Int) < 128
  · rw [if_neg (fun z => z h11), if_pos (.inl (by omega))]; rfl
  rw [if_pos h11]
  by_cases h12 : (191 : Int) < (bn t 3 : Int)
  · rw [if_pos h12, if_pos (.inr (by omega))]; rfl
  rw [if_neg h12, if_neg (show ¬ (bn t 3 < 128 ∨ 191 < bn t 3) by omega)]
  rfl
/-- What DecodeRuneInString reads is what the model reads. -/
theorem dec_mdec (t : List UInt8) (h : 1 ≤ t.length) : dc t = ((mdec t).1 : Int) ∧ dn t = (mdec t).2 := by
  have hg := gdec_mdec t h
  by_cases h1 : bn t 0 < 128
  · match t, h with
    | b :: t, _ =>
      obtain ⟨q1, q2⟩ := dc_asc b t h1
      have : mdec (b :: t) = (b.toNat, 1) := by unfold mdec; rw [if_pos h1]; rfl
      rw [this, q1, q2]; exact ⟨rfl, rfl⟩
  · have hs := slow_gdec t h h1
    have hd : C_unicode_utf8_DecodeRuneInString F_unicode_utf8_DecodeRuneInString t = some (ret_unicode_utf8_DecodeRuneInString ((gdec t).1 : Int) ((gdec t).2 : Int)) := by
      have hf : decide (((List.getD t (Int.toNat 0) 0).toNat : Int) < 128) = false := decide_eq_false (by
        have : (List.getD t (Int.toNat 0) 0).toNat = bn t 0 := rfl
        omega)
      have hi : (0 : Int) ≤ 0 ∧ (0 : Int) < (t.length : Int) := by omega
      rw [e_unicode_utf8_DecodeRuneInString, hs, hf]
      simp only [bcond_if, if_pos hi]
      split <;> rfl
    unfold dc dn dR
    rw [hd, ← hg]
    exact ⟨rfl, by simp [Int.toNat_natCast]⟩
theorem get_bn (a : List UInt8) (i k : Nat) : (ByteArray.get! ⟨a.toArray⟩ (i + k)).toNat = bn (a.drop i) k := by
  unfold bn
  rw [List.getD_eq_getElem?_getD, List.getElem?_drop]
  show (ByteArray.get! ⟨a.toArray⟩ (i + k)).toNat = _
  simp only [ByteArray.get!]
  by_cases h : i + k < a.length
  · simp [h]
  · simp [h]; rfl
/-- A range over a text tells what DecodeRuneInString reads. -/
theorem udec_mdec (a : List UInt8) (i : Nat) : udec a i = mdec (a.drop i) := by
  unfold udec Utf8.decode mdec
  have hl : ∀ k, decide (i + k < (⟨a.toArray⟩ : ByteArray).size) = decide (k < (a.drop i).length) := fun k => by
    have : (⟨a.toArray⟩ : ByteArray).size = a.length := by simp [ByteArray.size]
    rw [this, List.length_drop]
    by_cases h : i + k < a.length
    · rw [decide_eq_true h, decide_eq_true (by omega)]
    · rw [decide_eq_false h, decide_eq_false (by omega)]
  simp only [get_bn, hl]
  have g : ∀ k, (decide (k < (a.drop i).length) && bn (a.drop i) k / 64 == 2) = cont (a.drop i) k := fun k => rfl
  simp only [g, ge_iff_le, Bool.and_eq_true, decide_eq_true_eq, Utf8.runeError]
end Go.Ev.Utf
