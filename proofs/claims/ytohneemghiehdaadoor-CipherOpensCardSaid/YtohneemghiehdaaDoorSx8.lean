/- SX, eighth part: whole numbers as words. -/
import Derived.Test.YtohneemghiehdaaDoorSx7
set_option linter.unusedVariables false
set_option linter.unusedSimpArgs false
namespace Go.Sx
open Go

theorem wI {n : Int} (h0 : -9223372036854775808 ≤ n) (h1 : n ≤ 9223372036854775807) : IntKind.i64.wrap n = n := by rw [IntKind.wrap_i64]; omega
theorem wI32 {n : Int} (h0 : -2147483648 ≤ n) (h1 : n ≤ 2147483647) : IntKind.i32.wrap n = n := by rw [IntKind.wrap_i32]; omega
theorem wU32 (n : Int) : IntKind.u32.wrap n = n % 4294967296 := by simp [IntKind.wrap, IntKind.bits, IntKind.signed]
theorem wU64 (n : Int) : IntKind.u64.wrap n = n % 18446744073709551616 := by simp [IntKind.wrap, IntKind.bits, IntKind.signed]
theorem wU8 (n : Int) : IntKind.u8.wrap n = n % 256 := by simp [IntKind.wrap, IntKind.bits, IntKind.signed]

theorem add32 (a b : BitVec 32) : IntKind.u32.wrap ((a.toNat : Int) + (b.toNat : Int)) = ((a + b).toNat : Int) := by
  rw [wU32, BitVec.toNat_add]; omega
theorem sub32 (a b : BitVec 32) : IntKind.u32.wrap ((a.toNat : Int) - (b.toNat : Int)) = ((a - b).toNat : Int) := by
  have := a.isLt; have := b.isLt
  rw [wU32, BitVec.toNat_sub]; omega
theorem mul32 (a b : BitVec 32) : IntKind.u32.wrap ((a.toNat : Int) * (b.toNat : Int)) = ((a * b).toNat : Int) := by
  rw [wU32, BitVec.toNat_mul]; simp
theorem add64 (a b : BitVec 64) : IntKind.u64.wrap ((a.toNat : Int) + (b.toNat : Int)) = ((a + b).toNat : Int) := by
  rw [wU64, BitVec.toNat_add]; omega
theorem sub64 (a b : BitVec 64) : IntKind.u64.wrap ((a.toNat : Int) - (b.toNat : Int)) = ((a - b).toNat : Int) := by
  have := a.isLt; have := b.isLt
  rw [wU64, BitVec.toNat_sub]; omega
theorem mul64 (a b : BitVec 64) : IntKind.u64.wrap ((a.toNat : Int) * (b.toNat : Int)) = ((a * b).toNat : Int) := by
  rw [wU64, BitVec.toNat_mul]; simp
theorem add8 (a b : UInt8) : IntKind.u8.wrap ((a.toNat : Int) + (b.toNat : Int)) = ((a + b).toNat : Int) := by
  rw [wU8, UInt8.toNat_add]; omega

theorem ofInt_nat (n : Nat) (w : Nat) : BitVec.ofInt w (n : Int) = BitVec.ofNat w n := by simp
theorem lt32 (n : Nat) (h : n < 4294967296) : IntKind.u32.wrap (n : Int) = n := by rw [wU32]; omega
theorem lt64 (n : Nat) (h : n < 18446744073709551616) : IntKind.u64.wrap (n : Int) = n := by rw [wU64]; omega
theorem lt8 (n : Nat) (h : n < 256) : IntKind.u8.wrap (n : Int) = n := by rw [wU8]; omega

theorem xor32 (a b : BitVec 32) : IntKind.u32.wrap ((BitVec.ofInt IntKind.u32.bits (a.toNat : Int) ^^^ BitVec.ofInt IntKind.u32.bits (b.toNat : Int)).toNat : Int) = ((a ^^^ b).toNat : Int) := by
  show IntKind.u32.wrap ((BitVec.ofInt 32 (a.toNat : Int) ^^^ BitVec.ofInt 32 (b.toNat : Int)).toNat : Int) = _
  simp only [ofInt_nat, BitVec.ofNat_toNat, BitVec.setWidth_eq]
  exact lt32 _ (a ^^^ b).isLt
theorem and32 (a b : BitVec 32) : IntKind.u32.wrap ((BitVec.ofInt IntKind.u32.bits (a.toNat : Int) &&& BitVec.ofInt IntKind.u32.bits (b.toNat : Int)).toNat : Int) = ((a &&& b).toNat : Int) := by
  show IntKind.u32.wrap ((BitVec.ofInt 32 (a.toNat : Int) &&& BitVec.ofInt 32 (b.toNat : Int)).toNat : Int) = _
  simp only [ofInt_nat, BitVec.ofNat_toNat, BitVec.setWidth_eq]
  exact lt32 _ (a &&& b).isLt
theorem or32 (a b : BitVec 32) : IntKind.u32.wrap ((BitVec.ofInt IntKind.u32.bits (a.toNat : Int) ||| BitVec.ofInt IntKind.u32.bits (b.toNat : Int)).toNat : Int) = ((a ||| b).toNat : Int) := by
  show IntKind.u32.wrap ((BitVec.ofInt 32 (a.toNat : Int) ||| BitVec.ofInt 32 (b.toNat : Int)).toNat : Int) = _
  simp only [ofInt_nat, BitVec.ofNat_toNat, BitVec.setWidth_eq]
  exact lt32 _ (a ||| b).isLt
theorem xor64 (a b : BitVec 64) : IntKind.u64.wrap ((BitVec.ofInt IntKind.u64.bits (a.toNat : Int) ^^^ BitVec.ofInt IntKind.u64.bits (b.toNat : Int)).toNat : Int) = ((a ^^^ b).toNat : Int) := by
  show IntKind.u64.wrap ((BitVec.ofInt 64 (a.toNat : Int) ^^^ BitVec.ofInt 64 (b.toNat : Int)).toNat : Int) = _
  simp only [ofInt_nat, BitVec.ofNat_toNat, BitVec.setWidth_eq]
  exact lt64 _ (a ^^^ b).isLt
theorem and64 (a b : BitVec 64) : IntKind.u64.wrap ((BitVec.ofInt IntKind.u64.bits (a.toNat : Int) &&& BitVec.ofInt IntKind.u64.bits (b.toNat : Int)).toNat : Int) = ((a &&& b).toNat : Int) := by
  show IntKind.u64.wrap ((BitVec.ofInt 64 (a.toNat : Int) &&& BitVec.ofInt 64 (b.toNat : Int)).toNat : Int) = _
  simp only [ofInt_nat, BitVec.ofNat_toNat, BitVec.setWidth_eq]
  exact lt64 _ (a &&& b).isLt
theorem or64 (a b : BitVec 64) : IntKind.u64.wrap ((BitVec.ofInt IntKind.u64.bits (a.toNat : Int) ||| BitVec.ofInt IntKind.u64.bits (b.toNat : Int)).toNat : Int) = ((a ||| b).toNat : Int) := by
  show IntKind.u64.wrap ((BitVec.ofInt 64 (a.toNat : Int) ||| BitVec.ofInt 64 (b.toNat : Int)).toNat : Int) = _
  simp only [ofInt_nat, BitVec.ofNat_toNat, BitVec.setWidth_eq]
  exact lt64 _ (a ||| b).isLt
theorem bv8 (a : UInt8) : BitVec.ofInt 8 (a.toNat : Int) = a.toBitVec := by
  rw [ofInt_nat]
  show BitVec.ofNat 8 a.toBitVec.toNat = _
  simp
theorem xor8 (a b : UInt8) : IntKind.u8.wrap ((BitVec.ofInt IntKind.u8.bits (a.toNat : Int) ^^^ BitVec.ofInt IntKind.u8.bits (b.toNat : Int)).toNat : Int) = ((a ^^^ b).toNat : Int) := by
  show IntKind.u8.wrap ((BitVec.ofInt 8 (a.toNat : Int) ^^^ BitVec.ofInt 8 (b.toNat : Int)).toNat : Int) = _
  rw [bv8, bv8]
  exact lt8 _ (a ^^^ b).toBitVec.isLt
theorem or8 (a b : UInt8) : IntKind.u8.wrap ((BitVec.ofInt IntKind.u8.bits (a.toNat : Int) ||| BitVec.ofInt IntKind.u8.bits (b.toNat : Int)).toNat : Int) = ((a ||| b).toNat : Int) := by
  show IntKind.u8.wrap ((BitVec.ofInt 8 (a.toNat : Int) ||| BitVec.ofInt 8 (b.toNat : Int)).toNat : Int) = _
  rw [bv8, bv8]
  exact lt8 _ (a ||| b).toBitVec.isLt

/-- a shift by a number of bits that is written out: n at most the width -/
theorem shl32 (a : BitVec 32) (n : Nat) (hn : n ≤ 32) : IntKind.u32.wrap ((a.toNat : Int) * 2 ^ (min (n : Int).toNat IntKind.u32.bits)) = ((a <<< n).toNat : Int) := by
  have e : min (n : Int).toNat IntKind.u32.bits = n := by show min _ 32 = n; omega
  rw [e, wU32, BitVec.toNat_shiftLeft, Nat.shiftLeft_eq]
  simp
theorem shr32 (a : BitVec 32) (n : Nat) (hn : n ≤ 32) : (a.toNat : Int).fdiv (2 ^ (min (n : Int).toNat IntKind.u32.bits)) = ((a >>> n).toNat : Int) := by
  have e : min (n : Int).toNat IntKind.u32.bits = n := by show min _ 32 = n; omega
  rw [e, BitVec.toNat_ushiftRight, Nat.shiftRight_eq_div_pow]
  rw [Int.fdiv_eq_ediv_of_nonneg _ (by exact Int.le_of_lt (Int.pow_pos (by decide)))]
  simp
theorem shl64 (a : BitVec 64) (n : Nat) (hn : n ≤ 64) : IntKind.u64.wrap ((a.toNat : Int) * 2 ^ (min (n : Int).toNat IntKind.u64.bits)) = ((a <<< n).toNat : Int) := by
  have e : min (n : Int).toNat IntKind.u64.bits = n := by show min _ 64 = n; omega
  rw [e, wU64, BitVec.toNat_shiftLeft, Nat.shiftLeft_eq]
  simp
theorem shr64 (a : BitVec 64) (n : Nat) (hn : n ≤ 64) : (a.toNat : Int).fdiv (2 ^ (min (n : Int).toNat IntKind.u64.bits)) = ((a >>> n).toNat : Int) := by
  have e : min (n : Int).toNat IntKind.u64.bits = n := by show min _ 64 = n; omega
  rw [e, BitVec.toNat_ushiftRight, Nat.shiftRight_eq_div_pow]
  rw [Int.fdiv_eq_ediv_of_nonneg _ (by exact Int.le_of_lt (Int.pow_pos (by decide)))]
  simp

/-! ### from kind to kind -/
theorem c8_32 (a : UInt8) : IntKind.u32.wrap (a.toNat : Int) = ((a.toBitVec.setWidth 32).toNat : Int) := by
  have := a.toBitVec.isLt
  rw [wU32, BitVec.toNat_setWidth]; show ((a.toBitVec.toNat : Int)) % _ = _; omega
theorem c8_64 (a : UInt8) : IntKind.u64.wrap (a.toNat : Int) = ((a.toBitVec.setWidth 64).toNat : Int) := by
  have := a.toBitVec.isLt
  rw [wU64, BitVec.toNat_setWidth]; show ((a.toBitVec.toNat : Int)) % _ = _; omega
theorem c8_I (a : UInt8) : IntKind.i64.wrap (a.toNat : Int) = (a.toNat : Int) := by
  have : a.toNat < 256 := a.toBitVec.isLt
  exact wI (by omega) (by omega)
theorem c32_I (a : BitVec 32) : IntKind.i64.wrap (a.toNat : Int) = (a.toNat : Int) := by
  have := a.isLt
  exact wI (by omega) (by omega)
theorem c32_8 (a : BitVec 32) : IntKind.u8.wrap (a.toNat : Int) = ((UInt8.ofBitVec (a.setWidth 8)).toNat : Int) := by
  rw [wU8]; show _ = (((a.setWidth 8).toNat : Nat) : Int); rw [BitVec.toNat_setWidth]; omega
theorem c64_8 (a : BitVec 64) : IntKind.u8.wrap (a.toNat : Int) = ((UInt8.ofBitVec (a.setWidth 8)).toNat : Int) := by
  rw [wU8]; show _ = (((a.setWidth 8).toNat : Nat) : Int); rw [BitVec.toNat_setWidth]; omega
theorem c64_32 (a : BitVec 64) : IntKind.u32.wrap (a.toNat : Int) = ((a.setWidth 32).toNat : Int) := by
  rw [wU32, BitVec.toNat_setWidth]; omega
theorem c32_64 (a : BitVec 32) : IntKind.u64.wrap (a.toNat : Int) = ((a.setWidth 64).toNat : Int) := by
  have := a.isLt
  rw [wU64, BitVec.toNat_setWidth]; omega
theorem c64_64 (a : BitVec 64) : IntKind.u64.wrap (a.toNat : Int) = (a.toNat : Int) := lt64 _ a.isLt
theorem c32_32 (a : BitVec 32) : IntKind.u32.wrap (a.toNat : Int) = (a.toNat : Int) := lt32 _ a.isLt
theorem c8_8 (a : UInt8) : IntKind.u8.wrap (a.toNat : Int) = (a.toNat : Int) := lt8 _ a.toBitVec.isLt
theorem cI_64 (n : Int) : IntKind.u64.wrap n = ((BitVec.ofInt 64 n).toNat : Int) := by
  rw [wU64, BitVec.toNat_ofInt]; omega
theorem cI_32 (n : Int) : IntKind.u32.wrap n = ((BitVec.ofInt 32 n).toNat : Int) := by
  rw [wU32, BitVec.toNat_ofInt]; omega
theorem cI_8 (n : Int) : IntKind.u8.wrap n = ((UInt8.ofBitVec (BitVec.ofInt 8 n)).toNat : Int) := by
  rw [wU8]; show _ = (((BitVec.ofInt 8 n).toNat : Nat) : Int); rw [BitVec.toNat_ofInt]; omega
theorem c64_I (a : BitVec 64) (h : (a.toNat : Int) ≤ 9223372036854775807) : IntKind.i64.wrap (a.toNat : Int) = (a.toNat : Int) := wI (by omega) h
end Go.Sx
