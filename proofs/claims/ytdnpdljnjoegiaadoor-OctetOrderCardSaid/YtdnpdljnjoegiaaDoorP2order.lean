/- PLAIN: OctetOrder: the eight bytes of the lesser number stand ahead. -/
import Derived.Test.YtdnpdljnjoegiaaDoorP2w
import Derived.Test.YtdnpdljnjoegiaaDoorOep
import Derived.Test.YtdnpdljnjoegiaaDoorOmOrderp
set_option linter.unusedVariables false
set_option linter.unusedSimpArgs false
namespace Go.Lx
def dgs (n : Nat) : Nat → List UInt8
  | 0 => []
  | k + 1 => dig n k :: dgs n k
theorem be8_dgs (n : Nat) : be8 n = dgs n 8 := rfl
theorem dig_nat (n k : Nat) : (dig n k).toNat = n / 256 ^ k % 256 := by simp [dig]
theorem cmp_dgs (a b : Nat) : ∀ (k : Nat), (Lib.compareBytes (dgs a k) (dgs b k) < 0 ↔ a % 256 ^ k < b % 256 ^ k) ∧ (Lib.compareBytes (dgs a k) (dgs b k) = 0 ↔ a % 256 ^ k = b % 256 ^ k)
  | 0 => by
    have e : Lib.compareBytes (dgs a 0) (dgs b 0) = 0 := rfl
    rw [e, Nat.pow_zero, Nat.mod_one, Nat.mod_one]; exact ⟨⟨fun h => absurd h (by decide), fun h => absurd h (by decide)⟩, ⟨fun _ => rfl, fun _ => rfl⟩⟩
  | k + 1 => by
    have ih := cmp_dgs a b k
    have ha : a % 256 ^ (k + 1) = a % 256 ^ k + 256 ^ k * (dig a k).toNat := by rw [dig_nat, Nat.mod_pow_succ]
    have hb : b % 256 ^ (k + 1) = b % 256 ^ k + 256 ^ k * (dig b k).toNat := by rw [dig_nat, Nat.mod_pow_succ]
    have la : a % 256 ^ k < 256 ^ k := Nat.mod_lt _ (Nat.pow_pos (by decide))
    have lb : b % 256 ^ k < 256 ^ k := Nat.mod_lt _ (Nat.pow_pos (by decide))
    rw [ha, hb]
    unfold dgs Lib.compareBytes
    rcases Nat.lt_trichotomy (dig a k).toNat (dig b k).toNat with h | h | h
    · have h1 : dig a k < dig b k := UInt8.lt_iff_toNat_lt.2 h
      have h2 := Nat.mul_le_mul_left (256 ^ k) (Nat.succ_le_of_lt h)
      rw [Nat.mul_succ] at h2
      rw [if_pos h1]
      exact ⟨⟨fun _ => by omega, fun _ => by decide⟩, ⟨fun h => absurd h (by decide), fun h => by omega⟩⟩
    · have h1 : dig a k = dig b k := UInt8.toNat_inj.1 h
      rw [h1, if_neg (UInt8.lt_irrefl _), if_neg (UInt8.lt_irrefl _)]
      exact ⟨ih.1.trans ⟨fun h => by omega, fun h => by omega⟩, ih.2.trans ⟨fun h => by omega, fun h => by omega⟩⟩
    · have h1 : dig b k < dig a k := UInt8.lt_iff_toNat_lt.2 h
      have h3 : ¬ dig a k < dig b k := fun h4 => by have := UInt8.lt_iff_toNat_lt.1 h4; omega
      have h2 := Nat.mul_le_mul_left (256 ^ k) (Nat.succ_le_of_lt h)
      rw [Nat.mul_succ] at h2
      rw [if_neg h3, if_pos h1]
      exact ⟨⟨fun h => absurd h (by decide), fun _ => by omega⟩, ⟨fun h => absurd h (by decide), fun h => by omega⟩⟩
theorem OctetOrder_all (a b : Int) (wa : -9223372036854775808 ≤ a ∧ a ≤ 9223372036854775807) (wb : -9223372036854775808 ≤ b ∧ b ≤ 9223372036854775807) : sealskinlaw02_OctetOrder a b (fun r => r = true) := by
  unfold sealskinlaw02_OctetOrder
  refine octet_Put_of (by simp) (octet_Put_of (by simp) ?_)
  have h := cmp_dgs (max a 0).toNat (max b 0).toNat 8
  rw [← be8_dgs, ← be8_dgs] at h
  have ea : (max a 0).toNat % 256 ^ 8 = (max a 0).toNat := Nat.mod_eq_of_lt (by omega)
  have eb : (max b 0).toNat % 256 ^ 8 = (max b 0).toNat := Nat.mod_eq_of_lt (by omega)
  rw [ea, eb] at h
  have pa : ∀ n : Int, ([] : List UInt8) ++ putAll [n] = be8 n.toNat := fun n => by simp [putAll]
  show bytes_Compare _ _ _
  rw [pa, pa]
  unfold bytes_Compare
  have e1 : (decide (Lib.compareBytes (be8 (max a 0).toNat) (be8 (max b 0).toNat) < 0) == decide (max a 0 < max b 0)) = true := by
    rw [beq_iff_eq, decide_eq_decide]; exact h.1.trans ⟨fun h => by omega, fun h => by omega⟩
  have e2 : (decide (Lib.compareBytes (be8 (max a 0).toNat) (be8 (max b 0).toNat) = 0) == decide (max a 0 = max b 0)) = true := by
    rw [beq_iff_eq, decide_eq_decide]; exact h.2.trans ⟨fun h => by omega, fun h => by omega⟩
  exact ⟨fun _ => ⟨fun _ => awake_of rfl, fun h => absurd (h.symm.trans e2) (by decide)⟩, fun h => absurd (h.symm.trans e1) (by decide)⟩
end Go.Lx
