/- PLAIN: what is put is read again; what is opened. -/
import Derived.Test.YtdnpdljnjoegiaaDoorP2d
import Derived.Test.YtdnpdljnjoegiaaDoorP2w
set_option linter.unusedVariables false
set_option linter.unusedSimpArgs false
namespace Go.Lx
theorem numE_be8 {n : Nat} {b r : List UInt8} (hb : b = be8 n ++ r) (h : n ≤ 9223372036854775807) : numE b = ((n : Int), (0 : Int)) := by
  subst hb
  have h8 : (be8 n ++ r).take 8 = be8 n := List.take_left' rfl
  rw [numE, if_neg (by rw [List.length_append, be8_len]; omega), h8, num_be8 (by omega), if_neg (by omega)]
theorem bytesR_be8 {n p : Nat} {most : Int} {b r : List UInt8} (hb : b.drop p = be8 n ++ r) (h : n ≤ 9223372036854775807) :
    bytesR b p 0 most = if max most 0 < (n : Int) then ([], p, 4) else if r.length < n then ([], p, 2) else (r.take n, p + 8 + n, 0) := by
  have hn := numE_be8 hb h
  have hd : b.drop (p + 8) = r := by rw [← List.drop_drop, hb]; exact List.drop_left' rfl
  have hl : b.length - (p + 8) = r.length := by rw [← List.length_drop, hd]
  rw [bytesR, if_neg (by decide), hn, if_neg (by simp), hd, hl]
  simp only [Int.toNat_natCast]
theorem numR_be8 {n p : Nat} {b r : List UInt8} (hb : b.drop p = be8 n ++ r) (h : n ≤ 9223372036854775807) : numR b p 0 = ((n : Int), p + 8, (0 : Int)) := by
  rw [numR_ok (by rw [numE_be8 hb h]), numE_be8 hb h]
theorem openR_block {d r : List UInt8} (h : d.length ≤ 16384) : openR (blockOf d ++ r) = (d, ((d.length + 12 : Nat) : Int), (0 : Int)) := by
  have hb : (blockOf d ++ r).drop 0 = be8 d.length ++ (d ++ be4 (sumOf (be8 d.length ++ d)) ++ r) := by simp [blockOf]
  have h1 := bytesR_be8 (most := 16384) hb (by omega)
  rw [if_neg (by omega), if_neg (by simp)] at h1
  have h2 : (d ++ be4 (sumOf (be8 d.length ++ d)) ++ r).take d.length = d := by rw [List.append_assoc]; exact List.take_left' rfl
  rw [h2] at h1
  have e1 : (blockOf d ++ r).take (8 + d.length) = be8 d.length ++ d := by
    rw [blockOf, List.append_assoc]; exact List.take_left' (by rw [List.length_append, be8_len])
  have e2 : (blockOf d ++ r).drop (8 + d.length) = be4 (sumOf (be8 d.length ++ d)) ++ r := by
    rw [blockOf, List.append_assoc]; exact List.drop_left' (by rw [List.length_append, be8_len])
  have hl := blockOf_len d
  unfold openR
  simp only [h1, Nat.zero_add]
  rw [if_neg (by simp), if_neg (by rw [List.length_append]; omega), e1, e2, if_neg (by simp [List.take_left' (be4_len _)])]
  simp only [Prod.mk.injEq, and_true, true_and]
  omega
theorem openR_ok {b : List UInt8} (h : (openR b).2.2 = 0) : (openR b).1.length ≤ 16384 ∧ (openR b).2.1 = (((openR b).1.length + 12 : Nat) : Int) ∧ (openR b).1.length + 12 ≤ b.length ∧ b.take ((openR b).1.length + 12) = blockOf (openR b).1 := by
  have hok := bytesR_ok (b := b) (p := 0) (most := 16384)
  unfold openR at h ⊢
  generalize bytesR b 0 0 16384 = r at h hok ⊢
  obtain ⟨d, q, e⟩ := r
  dsimp only at h hok ⊢
  split at h
  · rename_i he; exact absurd h he
  · rename_i he
    rw [if_neg he]
    obtain ⟨hq, hle, hm, h8, hd⟩ := hok (by simpa using he)
    split at h
    · cases h
    · rename_i h4
      rw [if_neg h4]
      split at h
      · cases h
      · rename_i hs
        rw [if_neg hs]
        dsimp only
        have hs' : (b.drop q).take 4 = be4 (sumOf (b.take q)) := by simpa using hs
        have hb : b.take q = be8 d.length ++ d := by
          simp only [Nat.zero_add, List.drop_zero] at hq hd h8
          rw [hq, List.take_add, h8, hd]
        have ht : b.take (d.length + 12) = blockOf d := by
          rw [show d.length + 12 = q + 4 by omega, List.take_add, hs', hb]; rfl
        exact ⟨by omega, by omega, by omega, ht⟩
theorem openR_bad {b : List UInt8} (h : (openR b).2.2 ≠ 0) : (openR b).1 = [] ∧ (openR b).2.1 = 0 := by
  unfold openR at h ⊢
  dsimp only at h ⊢
  split
  · exact ⟨rfl, rfl⟩
  · rename_i h1
    rw [if_neg h1] at h
    split
    · exact ⟨rfl, rfl⟩
    · rename_i h2
      rw [if_neg h2] at h
      split
      · exact ⟨rfl, rfl⟩
      · rename_i h3
        rw [if_neg h3] at h
        exact absurd rfl h
/-- a block that is cut off is too short -/
theorem openR_cut {d : List UInt8} {j : Nat} (h : d.length ≤ 16384) (hj : j < d.length + 12) : openR ((blockOf d).take j) = ([], 0, 2) := by
  have hl := blockOf_len d
  have hlj : ((blockOf d).take j).length = j := by rw [List.length_take]; omega
  by_cases h8 : j < 8
  · have hn : numE (((blockOf d).take j).drop 0) = (0, 2) := by rw [List.drop_zero, numE, if_pos (by omega)]
    have hb : bytesR ((blockOf d).take j) 0 0 16384 = ([], 0, 2) := by rw [bytesR, if_neg (by decide), hn, if_pos (by decide)]
    rw [openR, hb]; rfl
  · have hb : ((blockOf d).take j).drop 0 = be8 d.length ++ (d ++ be4 (sumOf (be8 d.length ++ d))).take (j - 8) := by
      rw [List.drop_zero, blockOf, List.append_assoc, List.take_append, List.take_of_length_le (by rw [be8_len]; omega), be8_len]
    have h1 := bytesR_be8 (most := 16384) hb (by omega)
    rw [if_neg (by omega)] at h1
    have hr : ((d ++ be4 (sumOf (be8 d.length ++ d))).take (j - 8)).length = j - 8 := by rw [List.length_take, List.length_append, be4_len]; omega
    rw [hr] at h1
    by_cases h2 : j - 8 < d.length
    · rw [if_pos h2] at h1
      rw [openR, h1]; rfl
    · rw [if_neg h2] at h1
      rw [openR, h1]
      dsimp only
      rw [if_neg (by simp), hlj, if_pos (by omega)]
theorem ofInt_nat {n : Nat} (hn2 : n ≤ 1000000000) : (BitVec.ofInt 64 (n : Int)).toNat = n := by
  rw [BitVec.ofInt_natCast, BitVec.toNat_ofNat]; exact Nat.mod_eq_of_lt (by omega)
theorem ofNat_mod {x : Int} {n : Nat} (hn : 0 < n) (hn2 : n ≤ 1000000000) : (((BitVec.ofInt 64 x) % (BitVec.ofInt 64 (n : Int))).toNat) < n := by
  rw [BitVec.toNat_umod, ofInt_nat hn2]
  exact Nat.mod_lt _ hn
theorem ofNat_ne {n : Nat} (hn : 0 < n) (hn2 : n ≤ 1000000000) : (((BitVec.ofInt 64 (n : Int)).toNat : Int)) ≠ 0 := by
  rw [ofInt_nat hn2]; omega
end Go.Lx
