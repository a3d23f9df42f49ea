/- PLAIN: numbers as eight bytes; what is put. -/
import Derived.Test.YtohneemghiehdaaDoorPl
import Derived.Test.YtohneemghiehdaaDoorCtAp
set_option linter.unusedVariables false
set_option linter.unusedSimpArgs false
namespace Go.Lx
def dig (n k : Nat) : UInt8 := UInt8.ofNat (n / 256 ^ k)
def be8 (n : Nat) : List UInt8 := [dig n 7, dig n 6, dig n 5, dig n 4, dig n 3, dig n 2, dig n 1, dig n 0]
def putAll (l : List Int) : List UInt8 := l.flatMap fun n => be8 n.toNat
theorem putAll_snoc (l : List Int) (n : Int) : putAll (l ++ [n]) = putAll l ++ be8 n.toNat := by simp [putAll]
theorem putAll_len (l : List Int) : (putAll l).length = 8 * l.length := by
  induction l with
  | nil => rfl
  | cons n l ih => rw [putAll, List.flatMap_cons, List.length_append, show (l.flatMap _).length = _ from ih, List.length_cons]; simp [be8]; omega
theorem be8_at {n j : Nat} (h : j < 8) : (be8 n)[j]? = some (dig n (7 - j)) := by
  have : j = 0 ∨ j = 1 ∨ j = 2 ∨ j = 3 ∨ j = 4 ∨ j = 5 ∨ j = 6 ∨ j = 7 := by omega
  rcases this with rfl | rfl | rfl | rfl | rfl | rfl | rfl | rfl <;> rfl
theorem be8_take {n j : Nat} (h : j < 8) : (be8 n).take (j + 1) = (be8 n).take j ++ [dig n (7 - j)] := by
  have h1 : j < (be8 n).length := h
  rw [take_succ' h1]
  have := be8_at (n := n) h
  rw [List.getElem?_eq_getElem h1] at this
  rw [Option.some.inj this]
theorem dig_shr (x : Int) (k : Nat) (hk : k < 8) : UInt8.ofBitVec (BitVec.ofInt 8 (shrI (max x 0) (8 * (k : Int)))) = dig x.toNat k := by
  have e1 : max x 0 = (x.toNat : Int) := by omega
  have e2 : (8 * (k : Int)).toNat = 8 * k := by omega
  have e3 : (2 : Int) ^ (8 * k) = ((256 ^ k : Nat) : Int) := by rw [show (256 : Nat) = 2 ^ 8 from rfl, ← Nat.pow_mul]; simp
  rw [e1, shrI, e2, Nat.min_eq_left (by omega : 8 * k ≤ 64), e3, Int.fdiv_eq_ediv_of_nonneg _ (Int.natCast_nonneg _), ← Int.natCast_ediv, dig]
  rw [BitVec.ofInt_natCast]
  rfl
theorem octet_Put_of {b : List UInt8} {l : List Int} {Q : List UInt8 → Prop} (hb : b.length + 8 * l.length ≤ 1000000000000) (hQ : Q (b ++ putAll l)) : octet_Put b l Q := by
  unfold octet_Put
  refine ⟨by unfold Ck; omega, by unfold Ck; omega, by omega, by unfold Rm; omega, by unfold Rm; simp; omega, fun x => x = b ++ putAll l, fun x hx => hx ▸ hQ, ?_⟩
  refine lp2_inv l.length (fun k acc i => i = (k : Int) ∧ acc = b ++ putAll (l.take k)) ⟨rfl, by simp [putAll]⟩ ?_ ?_
  · rintro k hk acc i ⟨rfl, rfl⟩ next hnext
    refine ⟨fun _ => ?_, fun h => absurd (by omega) h⟩
    have ht : putAll (l.take (k + 1)) = putAll (l.take k) ++ be8 (l[k]).toNat := by rw [take_succ' hk, putAll_snoc]
    have hlen : (putAll (l.take k)).length = 8 * k := by rw [putAll_len, List.length_take]; omega
    refine ⟨fun x => x = b ++ putAll (l.take (k + 1)), fun x hx => ⟨by unfold Ck; omega, hnext _ _ ⟨by omega, hx⟩⟩, l[k], At.get hk, ?_⟩
    refine lp2_inv 8 (fun j acc i => i = 7 - (j : Int) ∧ acc = b ++ putAll (l.take k) ++ (be8 (l[k]).toNat).take j) ⟨rfl, by simp⟩ ?_ ?_
    · rintro j hj acc i ⟨rfl, rfl⟩ next2 hnext2
      have e : (7 - (j : Int)) = ((7 - j : Nat) : Int) := by omega
      refine ⟨fun _ => ⟨by unfold Ck; omega, by omega, ?_, by unfold Ck; omega, hnext2 _ _ ⟨by omega, ?_⟩⟩, fun h => absurd (by omega) h⟩
      · unfold Rm; simp only [List.length_append, List.length_take, hlen, List.length_cons, List.length_nil]; omega
      · rw [e, dig_shr _ _ (by omega), be8_take hj, List.append_assoc]
    · rintro acc i ⟨rfl, rfl⟩ next2
      refine ⟨fun h => absurd h (by omega), fun _ => ?_⟩
      rw [ht, ← List.append_assoc]; rfl
  · rintro acc i ⟨rfl, rfl⟩ next
    refine ⟨fun h => absurd h (by omega), fun _ => ?_⟩
    rw [List.take_length]
end Go.Lx
