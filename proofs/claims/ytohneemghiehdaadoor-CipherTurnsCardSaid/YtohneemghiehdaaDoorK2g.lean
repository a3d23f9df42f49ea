/- PLAIN: the reference's stream. -/
import Derived.Test.YtohneemghiehdaaDoorK2e
import Derived.Test.YtohneemghiehdaaDoorBr
set_option linter.unusedVariables false
set_option linter.unusedSimpArgs false
namespace Go.Lx
open Go.Sx
def lstep (x : BitVec 32) : BitVec 32 := ((2#32) * x) + (x / (2147483648#32))
def lN (x : BitVec 32) : Nat → BitVec 32
  | 0 => x
  | k + 1 => lstep (lN x k)
theorem lstep_ror (x : BitVec 32) : lstep x = Bl.ror x 31 := by
  apply BitVec.eq_of_toNat_eq
  have hx := x.isLt
  rw [lstep, Bl.ror, BitVec.toNat_or, BitVec.toNat_shiftLeft, BitVec.toNat_ushiftRight, BitVec.toNat_add, BitVec.toNat_mul, BitVec.toNat_udiv]
  have h1 : x.toNat <<< (32 - 31) % 2 ^ 32 = (x.toNat % 2147483648) <<< 1 := by
    rw [Nat.shiftLeft_eq, Nat.shiftLeft_eq]; omega
  rw [h1, ← Nat.shiftLeft_add_eq_or_of_lt (by rw [Nat.shiftRight_eq_div_pow]; omega), Nat.shiftLeft_eq, Nat.shiftRight_eq_div_pow]
  have e1 : (2#32).toNat = 2 := rfl
  have e2 : (2147483648#32).toNat = 2147483648 := rfl
  rw [e1, e2]
  omega
theorem lN_bit (x : BitVec 32) : ∀ (k i : Nat), i < 32 → (lN x k).getLsbD i = x.getLsbD ((i + 31 * k) % 32)
  | 0, i, hi => by rw [lN, Nat.mul_zero, Nat.add_zero, Nat.mod_eq_of_lt hi]
  | k + 1, i, hi => by
    rw [lN, lstep_ror, ror_bit _ 31 _ (by decide) hi, lN_bit x k _ (Nat.mod_lt _ (by decide))]
    congr 1
    omega
theorem lN_rl (x : BitVec 32) (k : Nat) (h0 : 0 < k) (hk : k < 32) : lN x k = rl x k := by
  have e : rl x k = Bl.ror x (32 - k) := by
    rw [rl, Bl.ror, show 32 - (32 - k) = k by omega, BitVec.or_comm]
  rw [e]
  apply BitVec.eq_of_getLsbD_eq
  intro i hi
  rw [lN_bit x k i hi, ror_bit x (32 - k) i (by omega) hi]
  congr 1
  omega
theorem left_of {x : BitVec 32} {k : Nat} {Q : BitVec 32 → Prop} (h0 : 0 < k) (hk : k < 32) (hQ : Q (rl x k)) : sealskinref08_left x (k : Int) Q := by
  unfold sealskinref08_left
  refine ⟨fun y => y = rl x k, fun y hy => hy ▸ hQ, ?_⟩
  refine lp2_inv k (fun j y i => i = (j : Int) ∧ y = lN x j) ⟨rfl, rfl⟩ ?_ ?_
  · rintro j hj y i ⟨rfl, rfl⟩ next hnext
    exact ⟨fun _ => ⟨by unfold Ck; omega, hnext _ _ ⟨by omega, rfl⟩⟩, fun h => absurd (by omega) h⟩
  · rintro y i ⟨rfl, rfl⟩ next
    exact ⟨fun h => absurd h (by omega), fun _ => lN_rl x k h0 hk⟩
theorem left_16 {x : BitVec 32} {Q : BitVec 32 → Prop} (hQ : Q (rl x 16)) : sealskinref08_left x 16 Q := left_of (k := 16) (by decide) (by decide) hQ
theorem left_12 {x : BitVec 32} {Q : BitVec 32 → Prop} (hQ : Q (rl x 12)) : sealskinref08_left x 12 Q := left_of (k := 12) (by decide) (by decide) hQ
theorem left_8 {x : BitVec 32} {Q : BitVec 32 → Prop} (hQ : Q (rl x 8)) : sealskinref08_left x 8 Q := left_of (k := 8) (by decide) (by decide) hQ
theorem left_7 {x : BitVec 32} {Q : BitVec 32 → Prop} (hQ : Q (rl x 7)) : sealskinref08_left x 7 Q := left_of (k := 7) (by decide) (by decide) hQ
theorem rquarter_of {x : Arr 16 (BitVec 32)} {a b c d : Nat} {Q : Arr 16 (BitVec 32) → Prop} (hx : x.l.length = 16) (ha : a < 16) (hb : b < 16) (hc : c < 16) (hd : d < 16) (hQ : Q ⟨qrF x.l a b c d⟩) : sealskinref08_quarter x a b c d Q := by
  unfold sealskinref08_quarter
  simp only [put_nat]
  have L : ∀ {l : List (BitVec 32)} {k : Nat}, k < 16 → l.length = 16 → At l (k : Int) (l.getD k 0) := fun hk hl => atD (by omega)
  repeat (first | refine ⟨_, L ha (by simp only [List.length_set, hx]), ?_⟩ | refine ⟨_, L hb (by simp only [List.length_set, hx]), ?_⟩ | refine ⟨_, L hc (by simp only [List.length_set, hx]), ?_⟩ | refine ⟨_, L hd (by simp only [List.length_set, hx]), ?_⟩ | refine left_16 ?_ | refine left_12 ?_ | refine left_8 ?_ | refine left_7 ?_)
  exact hQ
end Go.Lx
