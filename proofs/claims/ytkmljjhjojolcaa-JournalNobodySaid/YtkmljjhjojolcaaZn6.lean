/- What is shown of the program on the way to the law. -/
import Derived.Test.YtkmljjhjojolcaaZn1
import Derived.Test.YtkmljjhjojolcaaZn3
set_option linter.unusedVariables false
set_option linter.unusedSimpArgs false
namespace Go.Lx
theorem lp2_inv {S0 S1 : Type} {body : S0 → S1 → (S0 → S1 → Prop) → Prop} {a0 : S0} {a1 : S1} (n : Nat) (I : Nat → S0 → S1 → Prop) (h0 : I 0 a0 a1)
  (step : ∀ k, k < n → ∀ x0 x1, I k x0 x1 → ∀ next, (∀ y0 y1, I (k + 1) y0 y1 → next y0 y1) → body x0 x1 next) (hend : ∀ x0 x1, I n x0 x1 → ∀ next, body x0 x1 next) : Lp2 body a0 a1 :=
 ⟨fun m x0 x1 => ∃ k, k ≤ n ∧ m = n - k ∧ I k x0 x1, n, ⟨0, by omega, by omega, h0⟩, by
  rintro m x0 x1 ⟨k, hk, rfl, hI⟩
  rcases Nat.lt_or_eq_of_le hk with h | rfl
  ·
   exact step k h x0 x1 hI _ fun y0 y1 hy => ⟨n - (k + 1), by omega, k + 1, h, rfl, hy⟩
  ·
   exact hend x0 x1 hI _⟩
theorem lp3_inv {S0 S1 S2 : Type} {body : S0 → S1 → S2 → (S0 → S1 → S2 → Prop) → Prop} {a0 : S0} {a1 : S1} {a2 : S2} (n : Nat) (I : Nat → S0 → S1 → S2 → Prop) (h0 : I 0 a0 a1 a2)
  (step : ∀ k, k < n → ∀ x0 x1 x2, I k x0 x1 x2 → ∀ next, (∀ y0 y1 y2, I (k + 1) y0 y1 y2 → next y0 y1 y2) → body x0 x1 x2 next) (hend : ∀ x0 x1 x2, I n x0 x1 x2 → ∀ next, body x0 x1 x2 next) : Lp3 body a0 a1 a2 :=
 ⟨fun m x0 x1 x2 => ∃ k, k ≤ n ∧ m = n - k ∧ I k x0 x1 x2, n, ⟨0, by omega, by omega, h0⟩, by
  rintro m x0 x1 x2 ⟨k, hk, rfl, hI⟩
  rcases Nat.lt_or_eq_of_le hk with h | rfl
  ·
   exact step k h x0 x1 x2 hI _ fun y0 y1 y2 hy => ⟨n - (k + 1), by omega, k + 1, h, rfl, hy⟩
  ·
   exact hend x0 x1 x2 hI _⟩
theorem lp4_inv {S0 S1 S2 S3 : Type} {body : S0 → S1 → S2 → S3 → (S0 → S1 → S2 → S3 → Prop) → Prop} {a0 : S0} {a1 : S1} {a2 : S2} {a3 : S3} (n : Nat) (I : Nat → S0 → S1 → S2 → S3 → Prop) (h0 : I 0 a0 a1 a2 a3)
  (step : ∀ k, k < n → ∀ x0 x1 x2 x3, I k x0 x1 x2 x3 → ∀ next, (∀ y0 y1 y2 y3, I (k + 1) y0 y1 y2 y3 → next y0 y1 y2 y3) → body x0 x1 x2 x3 next) (hend : ∀ x0 x1 x2 x3, I n x0 x1 x2 x3 → ∀ next, body x0 x1 x2 x3 next) : Lp4 body a0 a1 a2 a3 :=
 ⟨fun m x0 x1 x2 x3 => ∃ k, k ≤ n ∧ m = n - k ∧ I k x0 x1 x2 x3, n, ⟨0, by omega, by omega, h0⟩, by
  rintro m x0 x1 x2 x3 ⟨k, hk, rfl, hI⟩
  rcases Nat.lt_or_eq_of_le hk with h | rfl
  ·
   exact step k h x0 x1 x2 x3 hI _ fun y0 y1 y2 y3 hy => ⟨n - (k + 1), by omega, k + 1, h, rfl, hy⟩
  ·
   exact hend x0 x1 x2 x3 hI _⟩
def Wb (x : List UInt8) : Prop := x.length ≤ 9223372036854775807 ∧ ∀ y ∈ x, True
theorem At.nat {α : Type} {xs : List α} {k : Nat} {x : α} (h : xs[k]? = some x) : At xs (k : Int) x := ⟨Int.natCast_nonneg _, by simpa using h⟩
theorem At.get {α : Type} {xs : List α} {k : Nat} (h : k < xs.length) : At xs (k : Int) xs[k] := At.nat (List.getElem?_eq_getElem h)
theorem cut_nat {α : Type} (xs : List α) (a b : Nat) : cut xs (a : Int) (b : Int) = (xs.drop a).take (b - a) := by simp [cut]
theorem cut_all {α : Type} (xs : List α) : cut xs 0 (xs.length : Int) = xs := by simp [cut]
theorem cut_front {α : Type} (xs : List α) (n : Nat) : cut xs 0 (n : Int) = xs.take n := by simp [cut]
theorem cut_back {α : Type} (xs : List α) (n : Nat) : cut xs (n : Int) (xs.length : Int) = xs.drop n := by simp [cut]; rw [List.take_of_length_le (by simp)]
theorem take_succ' {α : Type} {xs : List α} {k : Nat} (h : k < xs.length) : xs.take (k + 1) = xs.take k ++ [xs[k]] := List.take_succ_eq_append_getElem h
theorem guard {p : Prop} {A B : Prop} (h : p → A) (k : ¬ p → B) : (p → A) ∧ (¬ p → B) := ⟨h, k⟩
end Go.Lx

namespace Go.Lx
def dig (n k : Nat) : UInt8 := UInt8.ofNat (n / 256 ^ k)
def be8 (n : Nat) : List UInt8 := [dig n 7, dig n 6, dig n 5, dig n 4, dig n 3, dig n 2, dig n 1, dig n 0]
def putAll (l : List Int) : List UInt8 := l.flatMap fun n => be8 n.toNat
theorem putAll_snoc (l : List Int) (n : Int) : putAll (l ++ [n]) = putAll l ++ be8 n.toNat := by simp [putAll]
theorem putAll_len (l : List Int) : (putAll l).length = 8 * l.length := by
 induction l with
 | nil => rfl
 | cons n l ih => rw [putAll, List.flatMap_cons, List.length_append, show (l.flatMap _).length = _ from ih, List.length_cons]; simp [be8]; omega
theorem be8_at {n j : Nat} (h : j < 8) : (be8 n)[j]? = some (dig n (7 - j)) := by
 have : j = 0 ∨ j = 1 ∨ j = 2 ∨ j = 3 ∨ j = 4 ∨ j = 5 ∨ j = 6 ∨ j = 7 := by omega
 rcases this with rfl | rfl | rfl | rfl | rfl | rfl | rfl | rfl <;> rfl
theorem be8_take {n j : Nat} (h : j < 8) : (be8 n).take (j + 1) = (be8 n).take j ++ [dig n (7 - j)] := by
 have h1 : j < (be8 n).length := h
 rw [take_succ' h1]
 have := be8_at (n := n) h
 rw [List.getElem?_eq_getElem h1] at this
 rw [Option.some.inj this]
theorem dig_shr (x : Int) (k : Nat) (hk : k < 8) : UInt8.ofBitVec (BitVec.ofInt 8 (shrI (max x 0) (8 * (k : Int)))) = dig x.toNat k := by
 have e1 : max x 0 = (x.toNat : Int) := by omega
 have e2 : (8 * (k : Int)).toNat = 8 * k := by omega
 have e3 : (2 : Int) ^ (8 * k) = ((256 ^ k : Nat) : Int) := by rw [show (256 : Nat) = 2 ^ 8 from rfl, ← Nat.pow_mul]; simp
 rw [e1, shrI, e2, Nat.min_eq_left (by omega : 8 * k ≤ 64), e3, Int.fdiv_eq_ediv_of_nonneg _ (Int.natCast_nonneg _), ← Int.natCast_ediv, dig]
 rw [BitVec.ofInt_natCast]
 rfl
theorem octet_Put_of {b : List UInt8} {l : List Int} {Q : List UInt8 → Prop} (hb : b.length + 8 * l.length ≤ 1000000000000) (hQ : Q (b ++ putAll l)) : octet_Put b l Q := by
 unfold octet_Put
 refine ⟨by unfold Ck; omega, by unfold Ck; omega, by omega, by unfold Rm; omega, by unfold Rm; simp; omega, fun x => x = b ++ putAll l, fun x hx => hx ▸ hQ, ?_⟩
 refine lp2_inv l.length (fun k acc i => i = (k : Int) ∧ acc = b ++ putAll (l.take k)) ⟨rfl, by simp [putAll]⟩ ?_ ?_
 ·
  rintro k hk acc i ⟨rfl, rfl⟩ next hnext
  refine ⟨fun _ => ?_, fun h => absurd (by omega) h⟩
  have ht : putAll (l.take (k + 1)) = putAll (l.take k) ++ be8 (l[k]).toNat := by rw [take_succ' hk, putAll_snoc]
  have hlen : (putAll (l.take k)).length = 8 * k := by rw [putAll_len, List.length_take]; omega
  refine ⟨fun x => x = b ++ putAll (l.take (k + 1)), fun x hx => ⟨by unfold Ck; omega, hnext _ _ ⟨by omega, hx⟩⟩, l[k], At.get hk, ?_⟩
  refine lp2_inv 8 (fun j acc i => i = 7 - (j : Int) ∧ acc = b ++ putAll (l.take k) ++ (be8 (l[k]).toNat).take j) ⟨rfl, by simp⟩ ?_ ?_
  ·
   rintro j hj acc i ⟨rfl, rfl⟩ next2 hnext2
   have e : (7 - (j : Int)) = ((7 - j : Nat) : Int) := by omega
   refine ⟨fun _ => ⟨by unfold Ck; omega, by omega, ?_, by unfold Ck; omega, hnext2 _ _ ⟨by omega, ?_⟩⟩, fun h => absurd (by omega) h⟩
   ·
    unfold Rm; simp only [List.length_append, List.length_take, hlen, List.length_cons, List.length_nil]; omega
   ·
    rw [e, dig_shr _ _ (by omega), be8_take hj, List.append_assoc]
  ·
   rintro acc i ⟨rfl, rfl⟩ next2
   refine ⟨fun h => absurd h (by omega), fun _ => ?_⟩
   rw [ht, ← List.append_assoc]; rfl
 ·
  rintro acc i ⟨rfl, rfl⟩ next
  refine ⟨fun h => absurd h (by omega), fun _ => ?_⟩
  rw [List.take_length]
end Go.Lx


namespace Go.Lx
theorem octet_PutBytes_of {b d : List UInt8} {Q : List UInt8 → Prop} (hb : b.length + d.length ≤ 1000000000) (hQ : Q (b ++ be8 d.length ++ d)) : octet_PutBytes b d Q := by
 unfold octet_PutBytes
 refine octet_Put_of (by simp; omega) ⟨?_, ?_⟩
 ·
  unfold Rm; simp [putAll_len]; omega
 ·
  simpa [putAll] using hQ
def bit1 (c : BitVec 32) : BitVec 32 := (c <<< 1) ^^^ ((c >>> 31) * 2168537515#32)
def bitN : Nat → BitVec 32 → BitVec 32
 | 0, c => c
 | j + 1, c => bit1 (bitN j c)
def sumB (c : BitVec 32) (b : UInt8) : BitVec 32 := bitN 8 (c ^^^ ((b.toBitVec.setWidth 32) <<< 24))
def sumOf (bs : List UInt8) : BitVec 32 := bs.foldl sumB 4294967295#32
theorem sumOf_snoc (bs : List UInt8) (b : UInt8) : sumOf (bs ++ [b]) = sumB (sumOf bs) b := by simp [sumOf, List.foldl_append]
theorem octet_Sum_of {b : List UInt8} {Q : BitVec 32 → Prop} (hb : b.length ≤ 1000000000000) (hQ : Q (sumOf b)) : octet_Sum b Q := by
 unfold octet_Sum
 refine ⟨fun x => x = sumOf b, fun x hx => hx ▸ hQ, ?_⟩
 refine lp2_inv b.length (fun k c i => i = (k : Int) ∧ c = sumOf (b.take k)) ⟨rfl, rfl⟩ ?_ ?_
 ·
  rintro k hk c i ⟨rfl, rfl⟩ next hnext
  refine ⟨fun _ => ?_, fun h => absurd (by omega) h⟩
  refine ⟨fun x => x = sumOf (b.take (k + 1)), fun x hx => ⟨by unfold Ck; omega, hnext _ _ ⟨by omega, hx⟩⟩, b[k], At.get hk, ?_⟩
  refine lp2_inv 8 (fun j c i => i = (j : Int) ∧ c = bitN j (sumOf (b.take k) ^^^ (((b[k]).toBitVec.setWidth 32) <<< 24))) ⟨rfl, rfl⟩ ?_ ?_
  ·
   rintro j hj c i ⟨rfl, rfl⟩ next2 hnext2
   exact ⟨fun _ => ⟨by unfold Ck; omega, hnext2 _ _ ⟨by omega, rfl⟩⟩, fun h => absurd (by omega) h⟩
  ·
   rintro c i ⟨rfl, rfl⟩ next2
   refine ⟨fun h => absurd h (by omega), fun _ => ?_⟩
   rw [take_succ' hk, sumOf_snoc]; rfl
 ·
  rintro c i ⟨rfl, rfl⟩ next
  refine ⟨fun h => absurd h (by omega), fun _ => ?_⟩
  rw [List.take_length]
def be4 (c : BitVec 32) : List UInt8 := [UInt8.ofBitVec ((c >>> 24).setWidth 8), UInt8.ofBitVec ((c >>> 16).setWidth 8), UInt8.ofBitVec ((c >>> 8).setWidth 8), UInt8.ofBitVec (c.setWidth 8)]
def blockOf (d : List UInt8) : List UInt8 := be8 d.length ++ d ++ be4 (sumOf (be8 d.length ++ d))
theorem be8_len (n : Nat) : (be8 n).length = 8 := rfl
theorem be4_len (c : BitVec 32) : (be4 c).length = 4 := rfl
theorem blockOf_len (d : List UInt8) : (blockOf d).length = d.length + 12 := by simp [blockOf, be8_len, be4_len]; omega
theorem octet_Seal_of {d : List UInt8} {Q : List UInt8 → Int → Prop} (h1 : 16384 < d.length → Q [] 4) (h2 : d.length ≤ 16384 → Q (blockOf d) 0) : octet_Seal d Q := by
 unfold octet_Seal
 refine ⟨fun h => h1 (by omega), fun h => octet_PutBytes_of (by simp; omega) (octet_Sum_of (by simp [be8_len]; omega) ⟨?_, ?_⟩)⟩
 ·
  unfold Rm; simp [be8_len]; omega
 ·
  have := h2 (by omega)
  simpa [blockOf, be4] using this
end Go.Lx


namespace Go.Lx
def rdr (b : List UInt8) (p : Nat) (e : Int) : octet_Reader := ⟨⟨b, p, e, true⟩⟩
def numOf (b : List UInt8) : Nat := b.foldl (fun n x => 256 * n + x.toNat) 0
theorem numOf_snoc (b : List UInt8) (x : UInt8) : numOf (b ++ [x]) = 256 * numOf b + x.toNat := by simp [numOf, List.foldl_append]
theorem numOf_lt' : ∀ (b : List UInt8) (a : Nat), b.foldl (fun n x => 256 * n + x.toNat) a < (a + 1) * 256 ^ b.length
 | [], a => by simp
 | x :: b, a => by
  have h1 := numOf_lt' b (256 * a + x.toNat)
  have h2 := x.toNat_lt
  rw [List.foldl_cons, List.length_cons, Nat.pow_succ, Nat.mul_comm (256 ^ _) 256, ← Nat.mul_assoc]
  refine Nat.lt_of_lt_of_le h1 (Nat.mul_le_mul_right _ (by omega))
theorem numOf_lt (b : List UInt8) : numOf b < 256 ^ b.length := by simpa [numOf] using numOf_lt' b 0
def numE (b : List UInt8) : Int × Int := if b.length < 8 then (0, 2) else if 9223372036854775807 < numOf (b.take 8) then (0, 5) else (numOf (b.take 8), 0)
theorem shl_or (v : BitVec 64) (x : UInt8) (h : v.toNat < 2 ^ 56) : ((v <<< 8) ||| (x.toBitVec.setWidth 64)).toNat = 256 * v.toNat + x.toNat := by
 have hx := x.toNat_lt
 rw [BitVec.toNat_or, BitVec.toNat_shiftLeft, BitVec.toNat_setWidth]
 have e1 : v.toNat <<< 8 % 2 ^ 64 = v.toNat <<< 8 := by rw [Nat.shiftLeft_eq]; omega
 have e2 : x.toBitVec.toNat % 2 ^ 64 = x.toNat := by show x.toNat % _ = _; omega
 rw [e1, e2, ← Nat.shiftLeft_add_eq_or_of_lt (by simpa using hx), Nat.shiftLeft_eq]
 omega
theorem octet_Read_of {b : List UInt8} {Q : octet_Reader → Prop} (hb : b.length ≤ 1000000000000) (hQ : Q (rdr b 0 0)) : octet_Read b Q := ⟨by unfold Rm; simp; omega, by simpa [rdr] using hQ⟩
theorem octet_Reader_dead_of {b : List UInt8} {p : Nat} {e : Int} {Q : Bool → Prop} (hQ : Q false) : octet_Reader_dead (rdr b p e) Q := hQ
theorem octet_source_left_of {b : List UInt8} {p : Nat} {e : Int} {Q : Int → Prop} (hb : b.length ≤ 1000000000000) (hp : p ≤ b.length) (hQ : Q ((b.length - p : Nat) : Int)) : octet_source_left ⟨b, p, e, true⟩ Q := by
 unfold octet_source_left
 have e1 : ((b.length : Int) - (p : Int)) = ((b.length - p : Nat) : Int) := by omega
 refine ⟨by unfold Ck; dsimp only; omega, ?_⟩
 dsimp only
 rw [e1]; exact hQ
theorem octet_Reader_Left_of {b : List UInt8} {p : Nat} {e : Int} {Q : Int → Prop} (hb : b.length ≤ 1000000000000) (hp : p ≤ b.length) (hQ : Q ((b.length - p : Nat) : Int)) : octet_Reader_Left (rdr b p e) Q := octet_source_left_of hb hp hQ
theorem octet_Reader_Err_of {b : List UInt8} {p : Nat} {e : Int} {Q : Int → Prop} (hQ : Q e) : octet_Reader_Err (rdr b p e) Q := ⟨fun h => absurd h (by simp [rdr]), fun _ => hQ⟩
def endE (b : List UInt8) (p : Nat) (e : Int) : Int := if e = 0 ∧ p < b.length then 3 else e
theorem octet_Reader_End_of {b : List UInt8} {p : Nat} {e : Int} {Q : Int → Prop} (hb : b.length ≤ 1000000000000) (hp : p ≤ b.length) (hQ : Q (endE b p e)) : octet_Reader_End (rdr b p e) Q := by
 unfold octet_Reader_End
 refine octet_Reader_Err_of ⟨_, fun _ h => h, fun h0 => octet_source_left_of hb hp ⟨fun h => ?_, fun h => ?_⟩, fun h0 => ⟨fun h => by simp at h, fun _ => ?_⟩⟩
 ·
  have : p < b.length := by simp at h; omega
  rwa [endE, if_pos ⟨h0, this⟩] at hQ
 ·
  have : ¬ p < b.length := by simp at h; omega
  rwa [endE, if_neg (fun h => this h.2)] at hQ
 ·
  rwa [endE, if_neg (fun h => h0 h.1)] at hQ
theorem octet_source_take_of {b : List UInt8} {p : Nat} {e : Int} {n : Nat} {Q : List UInt8 → octet_source → Prop} (hb : b.length ≤ 1000000000000) (hp : p ≤ b.length)
  (h1 : e ≠ 0 → Q [] ⟨b, p, e, true⟩) (h2 : e = 0 → b.length - p < n → Q [] ⟨b, p, 2, true⟩) (h3 : e = 0 → p + n ≤ b.length → Q ((b.drop p).take n) ⟨b, (p + n : Nat), 0, true⟩) : octet_source_take ⟨b, p, e, true⟩ n Q := by
 unfold octet_source_take
 refine ⟨h1, fun h => ?_⟩
 have h0 : e = 0 := by simpa using h
 subst h0
 refine ⟨by unfold Ck; dsimp only; omega, fun h => h2 rfl (by dsimp only at h; omega), fun h => ?_⟩
 dsimp only at h ⊢
 have e1 : ((p : Int) + (n : Int)) = ((p + n : Nat) : Int) := by omega
 have e2 : ((p : Int) + (n : Int)) - (n : Int) = (p : Int) := by omega
 refine ⟨by unfold Ck; omega, by unfold Ck; omega, by omega, by omega, by omega, ?_⟩
 have := h3 rfl (by omega)
 rw [e2, e1, cut_nat, Nat.add_sub_cancel_left]; exact this
def numR (b : List UInt8) (p : Nat) (e : Int) : Int × Nat × Int :=
 if e ≠ 0 then (0, p, e) else if (numE (b.drop p)).2 ≠ 0 then (0, p, (numE (b.drop p)).2) else ((numE (b.drop p)).1, p + 8, 0)
theorem octet_Reader_Number_of {b : List UInt8} {p : Nat} {e : Int} {Q : Int → octet_Reader → Prop} (hb : b.length ≤ 1000000000000) (hp : p ≤ b.length)
  (hQ : Q (numR b p e).1 (rdr b (numR b p e).2.1 (numR b p e).2.2)) : octet_Reader_Number (rdr b p e) Q := by
 unfold octet_Reader_Number
 refine octet_Reader_dead_of ⟨fun h => by simp at h, fun _ => ?_⟩
 refine octet_source_take_of (n := 8) hb hp (fun h => ?_) (fun h0 h => ?_) (fun h0 h => ?_)
 ·
  refine ⟨_, fun _ h => h, lp2_inv 0 (fun k v i => v = 0#64 ∧ i = 0) ⟨rfl, rfl⟩ (fun k hk => by omega) ?_⟩
  rintro v i ⟨rfl, rfl⟩ next
  refine ⟨fun h => by simp at h, fun _ => ⟨fun h => by simp at h, fun _ => ⟨by decide, ?_⟩⟩⟩
  rw [numR, if_pos h] at hQ
  exact hQ
 ·
  refine ⟨_, fun _ h => h, lp2_inv 0 (fun k v i => v = 0#64 ∧ i = 0) ⟨rfl, rfl⟩ (fun k hk => by omega) ?_⟩
  rintro v i ⟨rfl, rfl⟩ next
  refine ⟨fun h => by simp at h, fun _ => ⟨fun h => by simp at h, fun _ => ⟨by decide, ?_⟩⟩⟩
  have hl : (b.drop p).length < 8 := by rw [List.length_drop]; omega
  have hne : (numE (b.drop p)).2 = 2 := by rw [numE, if_pos hl]
  rw [numR, if_neg (by simpa using h0), hne, if_pos (by decide)] at hQ
  exact hQ
 ·
  subst h0
  have hl : ¬ (b.drop p).length < 8 := by rw [List.length_drop]; omega
  have hl8 : ((b.drop p).take 8).length = 8 := by rw [List.length_take]; omega
  generalize hd : (b.drop p).take 8 = d at hl8 ⊢
  have hne : numE (b.drop p) = if 9223372036854775807 < numOf d then ((0 : Int), (5 : Int)) else ((numOf d : Int), 0) := by rw [numE, if_neg hl, hd]
  refine ⟨_, fun _ h => h, lp2_inv 8 (fun k v i => i = (k : Int) ∧ v.toNat = numOf (d.take k)) ⟨rfl, rfl⟩ ?_ ?_⟩
  ·
   rintro k hk v i ⟨rfl, hv⟩ next hnext
   refine ⟨fun _ => ⟨d[k], At.get (by omega), by unfold Ck; omega, hnext _ _ ⟨by omega, ?_⟩⟩, fun h => absurd (by omega) h⟩
   have h1 := numOf_lt (d.take k)
   have h2 : 256 ^ (d.take k).length ≤ 256 ^ 7 := Nat.pow_le_pow_right (by decide) (by rw [List.length_take]; omega)
   rw [shl_or _ _ (by omega), hv, take_succ' (by omega), numOf_snoc]
  ·
   rintro v i ⟨rfl, hv⟩ next
   rw [show d.take 8 = d from by rw [← hl8, List.take_length]] at hv
   refine ⟨fun h => by rw [hl8] at h; omega, fun _ => ⟨fun h => ⟨by unfold Ck; dsimp only; omega, ?_⟩, fun h => ⟨by omega, ?_⟩⟩⟩
   ·
    rw [if_pos (by omega)] at hne
    rw [numR, if_neg (by decide), hne, if_pos (by decide)] at hQ
    have e1 : (((p + 8 : Nat) : Int) - 8) = (p : Int) := by omega
    dsimp only
    rw [e1]; exact hQ
   ·
    rw [if_neg (by omega)] at hne
    rw [numR, if_neg (by decide), hne, if_neg (by simp)] at hQ
    rw [hv]; exact hQ

theorem numE_ok {b : List UInt8} (h : (numE b).2 = 0) : 8 ≤ b.length ∧ 0 ≤ (numE b).1 ∧ (numE b).1 ≤ 9223372036854775807 ∧ (numE b).1 = numOf (b.take 8) := by
 unfold numE at h ⊢
 split at h
 ·
  cases h
 ·
  rename_i hl
  rw [if_neg hl]
  split at h
  ·
   cases h
  ·
   rename_i hn
   rw [if_neg hn]
   exact ⟨by omega, by dsimp only; omega, by dsimp only; omega, rfl⟩
def withR (b : List UInt8) (p : Nat) (e lo hi : Int) : Int × Nat × Int :=
 if e ≠ 0 then (0, p, e) else if (numE (b.drop p)).2 ≠ 0 then (0, p, (numE (b.drop p)).2) else if (numE (b.drop p)).1 < lo ∨ hi < (numE (b.drop p)).1 then (0, p, 5) else ((numE (b.drop p)).1, p + 8, 0)
theorem numR_err {b : List UInt8} {p : Nat} (h : (numE (b.drop p)).2 ≠ 0) : numR b p 0 = (0, p, (numE (b.drop p)).2) := by rw [numR, if_neg (by decide), if_pos h]
theorem numR_ok {b : List UInt8} {p : Nat} (h : (numE (b.drop p)).2 = 0) : numR b p 0 = ((numE (b.drop p)).1, p + 8, 0) := by rw [numR, if_neg (by decide), if_neg (by simpa using h)]
theorem octet_Reader_Within_of {b : List UInt8} {p : Nat} {e lo hi : Int} {Q : Int → octet_Reader → Prop} (hb : b.length ≤ 1000000000000) (hp : p ≤ b.length)
  (hQ : Q (withR b p e lo hi).1 (rdr b (withR b p e lo hi).2.1 (withR b p e lo hi).2.2)) : octet_Reader_Within (rdr b p e) lo hi Q := by
 unfold octet_Reader_Within
 refine ⟨fun x => x = decide (e ≠ 0), ?_, octet_Reader_dead_of ⟨fun h => by simp at h, fun _ => rfl⟩⟩
 rintro x rfl
 by_cases he : e = 0
 ·
  subst he
  refine ⟨fun h => by simp at h, fun _ => octet_Reader_Number_of hb hp ?_⟩
  by_cases h2 : (numE (b.drop p)).2 = 0
  ·
   obtain ⟨h8, hlo, hhi, _⟩ := numE_ok h2
   rw [numR_ok h2]
   rw [List.length_drop] at h8
   refine ⟨_, fun _ h => h, fun x => x = decide ((numE (b.drop p)).1 < lo ∨ hi < (numE (b.drop p)).1), ?_, ?_⟩
   ·
    rintro x rfl
    by_cases h3 : (numE (b.drop p)).1 < lo ∨ hi < (numE (b.drop p)).1
    ·
     refine ⟨fun _ => ⟨by unfold Ck; simp [rdr]; omega, fun _ => ?_, fun h => absurd (show (5 : Int) ≠ 0 by decide) h⟩, fun h => by simp at h; omega⟩
     rw [withR, if_neg (by decide), if_neg (by simpa using h2), if_pos h3] at hQ
     have e1 : ((p + 8 : Nat) : Int) - 8 = (p : Int) := by omega
     simp only [rdr, e1] at hQ ⊢; exact hQ
    ·
     refine ⟨fun h => by simp at h; omega, fun _ => ⟨fun h => absurd rfl h, fun _ => ?_⟩⟩
     rw [withR, if_neg (by decide), if_neg (by simpa using h2), if_neg h3] at hQ
     exact hQ
   ·
    refine ⟨fun _ => ⟨fun h => ?_, fun h => ?_⟩, fun h => absurd rfl h⟩
    ·
     dsimp only at h; simp [h]
    ·
     dsimp only at h; simp only [h, false_or]
  ·
   rw [numR_err h2]
   refine ⟨_, fun _ h => h, fun x => x = false, ?_, ⟨fun h => absurd h h2, fun _ => rfl⟩⟩
   rintro x rfl
   refine ⟨fun h => by simp at h, fun _ => ⟨fun _ => ?_, fun h => absurd h2 h⟩⟩
   rw [withR, if_neg (by decide), if_pos h2] at hQ
   exact hQ
 ·
  refine ⟨fun _ => ?_, fun h => by simp [he] at h⟩
  rw [withR, if_pos he] at hQ
  exact hQ
def bytesR (b : List UInt8) (p : Nat) (e most : Int) : List UInt8 × Nat × Int :=
 if e ≠ 0 then ([], p, e) else if (numE (b.drop p)).2 ≠ 0 then ([], p, (numE (b.drop p)).2) else if max most 0 < (numE (b.drop p)).1 then ([], p, 4)
 else if b.length - (p + 8) < (numE (b.drop p)).1.toNat then ([], p, 2) else ((b.drop (p + 8)).take (numE (b.drop p)).1.toNat, p + 8 + (numE (b.drop p)).1.toNat, 0)
theorem octet_Reader_Bytes_of {b : List UInt8} {p : Nat} {e most : Int} {Q : List UInt8 → octet_Reader → Prop} (hb : b.length ≤ 1000000000000) (hp : p ≤ b.length)
  (hQ : Q (bytesR b p e most).1 (rdr b (bytesR b p e most).2.1 (bytesR b p e most).2.2)) : octet_Reader_Bytes (rdr b p e) most Q := by
 unfold octet_Reader_Bytes
 refine ⟨fun x => x = decide (e ≠ 0), ?_, octet_Reader_dead_of ⟨fun h => by simp at h, fun _ => rfl⟩⟩
 rintro x rfl
 by_cases he : e = 0
 ·
  subst he
  refine ⟨fun h => by simp at h, fun _ => octet_Reader_Number_of hb hp ?_⟩
  by_cases h2 : (numE (b.drop p)).2 = 0
  ·
   obtain ⟨h8, hlo, hhi, _⟩ := numE_ok h2
   rw [numR_ok h2]
   rw [List.length_drop] at h8
   obtain ⟨n, hn⟩ : ∃ n : Nat, (numE (b.drop p)).1 = (n : Int) := ⟨(numE (b.drop p)).1.toNat, by omega⟩
   simp only [bytesR, h2, ne_eq, not_true_eq_false, if_false, hn, Int.toNat_natCast] at hQ
   dsimp only
   rw [hn]
   refine ⟨_, fun _ h => h, fun x => x = decide ((n : Int) > max most 0), ?_, ⟨fun _ => rfl, fun h => absurd rfl h⟩⟩
   rintro x rfl
   by_cases h3 : (n : Int) > max most 0
   ·
    refine ⟨fun _ => ?_, fun h => by simp at h; omega⟩
    rw [if_pos h3] at hQ
    exact octet_source_take_of (b := b) (p := p + 8) hb (by omega) (fun _ => ⟨fun _ => hQ, fun h => absurd (by decide : (4 : Int) ≠ 0) h⟩) (fun h => absurd h (by decide)) (fun h => absurd h (by decide))
   ·
    refine ⟨fun h => by simp at h; omega, fun _ => ?_⟩
    rw [if_neg h3] at hQ
    refine octet_source_take_of (b := b) (p := p + 8) hb (by omega) (fun h => absurd rfl h) (fun _ h => ⟨fun _ => ?_, fun h => absurd (by decide : (2 : Int) ≠ 0) h⟩) (fun _ h => ⟨fun h => absurd rfl h, fun _ => ⟨?_, ?_⟩⟩)
    ·
     rw [if_pos h] at hQ; exact hQ
    ·
     have h' : p + 8 + n ≤ b.length := h
     unfold Rm; simp [rdr]; omega
    ·
     have h' : p + 8 + n ≤ b.length := h
     rw [if_neg (by omega)] at hQ
     rw [List.nil_append]; exact hQ
  ·
   rw [numR_err h2]
   rw [bytesR, if_neg (by decide), if_pos h2] at hQ
   refine ⟨_, fun _ h => h, fun x => x = false, ?_, ⟨fun h => absurd h h2, fun _ => rfl⟩⟩
   rintro x rfl
   refine ⟨fun h => by simp at h, fun _ => octet_source_take_of (b := b) (n := 0) hb hp (fun _ => ⟨fun _ => hQ, fun h => absurd h2 h⟩) (fun h => absurd h h2) (fun h => absurd h h2)⟩
 ·
  refine ⟨fun _ => ?_, fun h => by simp [he] at h⟩
  rw [bytesR, if_pos he] at hQ
  exact hQ
end Go.Lx


namespace Go.Lx
def digs : Nat → Nat → List UInt8
 | 0, _ => []
 | k + 1, n => digs k (n / 256) ++ [UInt8.ofNat n]
theorem be8_digs (n : Nat) : be8 n = digs 8 n := by
 simp only [be8, digs, dig, Nat.div_div_eq_div_mul, List.nil_append, List.cons_append]
 simp only [show 256 ^ 7 = 256 * 256 * 256 * 256 * 256 * 256 * 256 from rfl, show 256 ^ 6 = 256 * 256 * 256 * 256 * 256 * 256 from rfl, show 256 ^ 5 = 256 * 256 * 256 * 256 * 256 from rfl, show 256 ^ 4 = 256 * 256 * 256 * 256 from rfl, show 256 ^ 3 = 256 * 256 * 256 from rfl, show 256 ^ 2 = 256 * 256 from rfl, Nat.pow_one, Nat.pow_zero, Nat.div_one]
theorem digs_num : ∀ (k : Nat) (l : List UInt8), l.length = k → digs k (numOf l) = l
 | 0, l, h => by simp [digs, List.eq_nil_of_length_eq_zero h]
 | k + 1, l, h => by
  obtain ⟨m, x, rfl⟩ : ∃ m x, l = m ++ [x] := ⟨l.dropLast, l.getLast (by intro e; simp [e] at h), (List.dropLast_concat_getLast _).symm⟩
  rw [numOf_snoc, digs]
  have hx := x.toNat_lt
  rw [show (256 * numOf m + x.toNat) / 256 = numOf m by omega, digs_num k m (by simpa using h)]
  rw [show UInt8.ofNat (256 * numOf m + x.toNat) = x from UInt8.toNat.inj (by rw [UInt8.toNat_ofNat']; omega)]
theorem be8_num {l : List UInt8} (h : l.length = 8) : be8 (numOf l) = l := by rw [be8_digs]; exact digs_num 8 l h
theorem bytesR_ok {b : List UInt8} {p : Nat} {most : Int} (h : (bytesR b p 0 most).2.2 = 0) :
  (bytesR b p 0 most).2.1 = p + 8 + (bytesR b p 0 most).1.length ∧ p + 8 + (bytesR b p 0 most).1.length ≤ b.length ∧ ((bytesR b p 0 most).1.length : Int) ≤ max most 0 ∧ (b.drop p).take 8 = be8 (bytesR b p 0 most).1.length ∧ (b.drop (p + 8)).take (bytesR b p 0 most).1.length = (bytesR b p 0 most).1 := by
 by_cases h2 : (numE (b.drop p)).2 = 0
 ·
  obtain ⟨h8, hlo, hhi, hnum⟩ := numE_ok h2
  rw [List.length_drop] at h8
  obtain ⟨n, hn⟩ : ∃ n : Nat, (numE (b.drop p)).1 = (n : Int) := ⟨(numE (b.drop p)).1.toNat, by omega⟩
  simp only [bytesR, h2, ne_eq, not_true_eq_false, if_false, hn, Int.toNat_natCast] at h ⊢
  split at h
  ·
   cases h
  ·
   rename_i h3
   rw [if_neg h3]
   split at h
   ·
    cases h
   ·
    rename_i h4
    rw [if_neg h4]
    have hl : ((b.drop (p + 8)).take n).length = n := by rw [List.length_take, List.length_drop]; omega
    dsimp only
    rw [hl]
    refine ⟨rfl, by omega, by omega, ?_, rfl⟩
    have h5 : n = numOf ((b.drop p).take 8) := by rw [hn] at hnum; exact_mod_cast hnum
    rw [h5, be8_num (by rw [List.length_take, List.length_drop]; omega)]
 ·
  rw [bytesR, if_neg (by decide), if_pos h2] at h
  exact absurd h h2
theorem bytesR_le {b : List UInt8} {p : Nat} {e most : Int} (hp : p ≤ b.length) : (bytesR b p e most).2.1 ≤ b.length := by
 unfold bytesR
 split
 ·
  exact hp
 ·
  split
  ·
   exact hp
  ·
   rename_i h2
   have h2 : (numE (b.drop p)).2 = 0 := by simpa using h2
   obtain ⟨h8, _⟩ := numE_ok h2
   rw [List.length_drop] at h8
   split
   ·
    exact hp
   ·
    split
    ·
     exact hp
    ·
     dsimp only; omega
def openR (b : List UInt8) : List UInt8 × Int × Int :=
 let r := bytesR b 0 0 16384
 if r.2.2 ≠ 0 then ([], 0, r.2.2) else if b.length - r.2.1 < 4 then ([], 0, 2) else if (b.drop r.2.1).take 4 ≠ be4 (sumOf (b.take r.2.1)) then ([], 0, 20) else (r.1, (r.2.1 + 4 : Nat), 0)
theorem octet_Open_of {b : List UInt8} {Q : List UInt8 → Int → Int → Prop} (hb : b.length ≤ 1000000000000) (hQ : Q (openR b).1 (openR b).2.1 (openR b).2.2) : octet_Open b Q := by
 unfold octet_Open
 refine octet_Read_of hb (octet_Reader_Bytes_of hb (Nat.zero_le _) ?_)
 have hle := bytesR_le (b := b) (p := 0) (e := 0) (most := 16384) (Nat.zero_le _)
 unfold openR at hQ
 generalize bytesR b 0 0 16384 = r at hQ hle ⊢
 obtain ⟨d, q, e2⟩ := r
 dsimp only at hQ hle ⊢
 refine octet_Reader_Err_of ⟨fun h => octet_Reader_Err_of (by rw [if_pos h] at hQ; exact hQ), fun h => ?_⟩
 have h0 : e2 = 0 := by simpa using h
 subst h0
 rw [if_neg (by decide)] at hQ
 refine octet_Reader_Left_of hb hle ⟨by unfold Ck; omega, octet_source_take_of (b := b) (n := 4) hb hle (fun h => absurd rfl h) (fun _ h => ?_) (fun _ h => ?_)⟩
 ·
  rw [if_pos h] at hQ
  exact ⟨fun _ => hQ, fun h => absurd (by decide) h⟩
 ·
  rw [if_neg (by omega)] at hQ
  have hl : ((b.drop q).take 4).length = 4 := by rw [List.length_take, List.length_drop]; omega
  generalize hd : (b.drop q).take 4 = l at hl hQ ⊢
  have e1 : ((b.length : Int) - ((b.length - q : Nat) : Int)) = (q : Int) := by omega
  refine ⟨fun h => by rw [hl] at h; omega, fun _ => ⟨by omega, by omega, ?_⟩⟩
  rw [e1, cut_front]
  refine octet_Sum_of (by rw [List.length_take]; omega) ?_
  generalize sumOf (b.take q) = c at hQ ⊢
  match l, hl with
  | [a0, a1, a2, a3], _ =>
   refine ⟨fun x => x = decide ([a0, a1, a2, a3] ≠ be4 c), ?_, ?_⟩
   ·
    rintro x rfl
    by_cases hc : [a0, a1, a2, a3] = be4 c
    ·
     rw [if_neg (by simpa using hc)] at hQ
     refine ⟨fun h => by simp [hc] at h, fun _ => ⟨by unfold Ck; omega, ?_⟩⟩
     have e2 : ((q : Int) + 4) = ((q + 4 : Nat) : Int) := by omega
     rw [e2]; exact hQ
    ·
     rw [if_pos hc] at hQ
     exact ⟨fun _ => hQ, fun h => by simp [hc] at h⟩
   ·
    have tn : ∀ x y : UInt8, ((x.toNat : Int) ≠ (y.toNat : Int)) ↔ y ≠ x := fun x y => ⟨fun h e => h (by rw [e]), fun h e => h (UInt8.toNat.inj (by omega))⟩
    refine ⟨a0, ⟨by decide, rfl⟩, fun h => ?_, fun h => ⟨a1, ⟨by decide, rfl⟩, fun h' => ?_, fun h' => ⟨a2, ⟨by decide, rfl⟩, fun h2 => ?_, fun h2 => ⟨a3, ⟨by decide, rfl⟩, ?_⟩⟩⟩⟩
    all_goals simp only [tn, Decidable.not_not] at *
    all_goals simp_all [be4]
end Go.Lx


namespace Go.Lx
theorem slices_Clone_of {a : List UInt8} {Q : List UInt8 → Prop} (ha : a.length ≤ 1000000000000) (hQ : Q a) : slices_Clone_sl_byte_byte a Q := by
 intro b hb
 refine ⟨fun h => ?_, fun _ => ⟨by unfold Rm; simp; omega, by simpa using hQ⟩⟩
 rw [hb h] at hQ; exact hQ
end Go.Lx


namespace Go.Lx
theorem openR_ok {b : List UInt8} (h : (openR b).2.2 = 0) : (openR b).1.length ≤ 16384 ∧ (openR b).2.1 = (((openR b).1.length + 12 : Nat) : Int) ∧ (openR b).1.length + 12 ≤ b.length ∧ b.take ((openR b).1.length + 12) = blockOf (openR b).1 := by
 have hok := bytesR_ok (b := b) (p := 0) (most := 16384)
 unfold openR at h ⊢
 generalize bytesR b 0 0 16384 = r at h hok ⊢
 obtain ⟨d, q, e⟩ := r
 dsimp only at h hok ⊢
 split at h
 ·
  rename_i he; exact absurd h he
 ·
  rename_i he
  rw [if_neg he]
  obtain ⟨hq, hle, hm, h8, hd⟩ := hok (by simpa using he)
  split at h
  ·
   cases h
  ·
   rename_i h4
   rw [if_neg h4]
   split at h
   ·
    cases h
   ·
    rename_i hs
    rw [if_neg hs]
    dsimp only
    have hs' : (b.drop q).take 4 = be4 (sumOf (b.take q)) := by simpa using hs
    have hb : b.take q = be8 d.length ++ d := by
     simp only [Nat.zero_add, List.drop_zero] at hq hd h8
     rw [hq, List.take_add, h8, hd]
    have ht : b.take (d.length + 12) = blockOf d := by
     rw [show d.length + 12 = q + 4 by omega, List.take_add, hs', hb]; rfl
    exact ⟨by omega, by omega, by omega, ht⟩
theorem ofInt_nat {n : Nat} (hn2 : n ≤ 1000000000) : (BitVec.ofInt 64 (n : Int)).toNat = n := by
 rw [BitVec.ofInt_natCast, BitVec.toNat_ofNat]; exact Nat.mod_eq_of_lt (by omega)
end Go.Lx


namespace Go.Lx
def allF : Nat → List UInt8 → List (List UInt8) × Nat
 | 0, _ => ([], 0)
 | f + 1, b => if (openR b).2.2 ≠ 0 then ([], 0) else ((openR b).1 :: (allF f (b.drop ((openR b).1.length + 12))).1, (openR b).1.length + 12 + (allF f (b.drop ((openR b).1.length + 12))).2)
theorem allF_stable : ∀ (f g : Nat) (b : List UInt8), b.length ≤ f → b.length ≤ g → allF f b = allF g b
 | 0, 0, _, _, _ => rfl
 | 0, g + 1, b, h, _ => by
  obtain rfl : b = [] := List.eq_nil_of_length_eq_zero (by omega)
  rfl
 | f + 1, 0, b, _, h => by
  obtain rfl : b = [] := List.eq_nil_of_length_eq_zero (by omega)
  rfl
 | f + 1, g + 1, b, h, k => by
  unfold allF
  split
  ·
   rfl
  ·
   rename_i h0
   obtain ⟨h1, h2, h3, h4⟩ := openR_ok (Decidable.not_not.1 h0)
   rw [allF_stable f g _ (by rw [List.length_drop]; omega) (by rw [List.length_drop]; omega)]
def allR (b : List UInt8) : List (List UInt8) × Nat := allF b.length b
def AllAt (b : List UInt8) (out : List (List UInt8)) (a : Nat) : Prop := a ≤ b.length ∧ out.length * 12 ≤ a ∧ allR b = (out ++ (allR (b.drop a)).1, a + (allR (b.drop a)).2)
theorem allR_bad {b : List UInt8} (h : (openR b).2.2 ≠ 0) : allR b = ([], 0) := by
 unfold allR
 cases hb : b.length with
 | zero => rfl
 | succ n => rw [allF, if_pos h]
theorem AllAt.start (b : List UInt8) : AllAt b [] 0 := ⟨Nat.zero_le _, by simp, by simp⟩
theorem AllAt.step {b : List UInt8} {out : List (List UInt8)} {a : Nat} (h : AllAt b out a) (h0 : (openR (b.drop a)).2.2 = 0) : AllAt b (out ++ [(openR (b.drop a)).1]) (a + ((openR (b.drop a)).1.length + 12)) := by
 obtain ⟨h1, h2, h3⟩ := h
 obtain ⟨g1, g2, g3, g4⟩ := openR_ok h0
 rw [List.length_drop] at g3
 refine ⟨by omega, by rw [List.length_append, List.length_singleton]; omega, ?_⟩
 have e : allR (b.drop a) = ((openR (b.drop a)).1 :: (allR (b.drop (a + ((openR (b.drop a)).1.length + 12)))).1, (openR (b.drop a)).1.length + 12 + (allR (b.drop (a + ((openR (b.drop a)).1.length + 12)))).2) := by
  have hs : allR (b.drop a) = allF ((b.drop a).length - 1 + 1) (b.drop a) := by rw [allR, Nat.sub_add_cancel (by rw [List.length_drop]; omega)]
  rw [hs, allF, if_neg (by simpa using h0), List.drop_drop, allR, allF_stable ((b.drop a).length - 1) (b.drop (a + ((openR (b.drop a)).1.length + 12))).length _ (by simp only [List.length_drop]; omega) (Nat.le_refl _)]
 rw [h3, e]
 simp [Nat.add_assoc]
theorem AllAt.done {b : List UInt8} {out : List (List UInt8)} {a : Nat} (h : AllAt b out a) (h0 : (openR (b.drop a)).2.2 ≠ 0) : allR b = (out, a) := by
 rw [h.2.2, allR_bad h0]; simp
theorem octet_All_of {b : List UInt8} {Q : List (List UInt8) → Int → Prop} (hb : b.length ≤ 1000000000) (hQ : Q (allR b).1 ((allR b).2 : Nat)) : octet_All b Q := by
 unfold octet_All
 refine ⟨fun m out i => ∃ a : Nat, i = (a : Int) ∧ m = b.length - a ∧ AllAt b out a, b.length, ⟨0, rfl, rfl, AllAt.start b⟩, ?_⟩
 rintro m out i ⟨a, rfl, rfl, hA⟩
 have hle := hA.1
 refine ⟨by omega, by omega, ?_⟩
 rw [cut_back]
 refine octet_Open_of (by rw [List.length_drop]; omega) ⟨fun h => ?_, fun h => ?_⟩
 ·
  rw [hA.done h] at hQ; exact hQ
 ·
  have h0 := Decidable.not_not.1 h
  obtain ⟨g1, g2, g3, g4⟩ := openR_ok h0
  rw [List.length_drop] at g3
  have h12 := hA.2.1
  rw [g2]
  exact ⟨by unfold Rm; simp; omega, by unfold Ck; omega, b.length - (a + ((openR (b.drop a)).1.length + 12)), by omega, a + ((openR (b.drop a)).1.length + 12), by omega, rfl, hA.step h0⟩
end Go.Lx


namespace Go.Lx
def fileD (d : disk_Disk) (i : Int) : List UInt8 := if i = 0 then d.files_.e0_ else if i = 1 then d.files_.e1_ else d.files_.e2_
def setD (d : disk_Disk) (i : Int) (b : List UInt8) : disk_Disk :=
 ⟨if i = 0 then ⟨b, d.files_.e1_, d.files_.e2_⟩ else if i = 1 then ⟨d.files_.e0_, b, d.files_.e2_⟩ else ⟨d.files_.e0_, d.files_.e1_, b⟩, d.room_, d.off_, d.armed_, d.left_⟩
def usedD (d : disk_Disk) : Nat := d.files_.e0_.length + d.files_.e1_.length + d.files_.e2_.length
def ableD (d : disk_Disk) (i : Int) : Int := if d.room_ = 0 then 6 else if d.off_ = true then 50 else if i < 0 ∨ 3 ≤ i then 51 else 0
def burnD (d : disk_Disk) (n : Nat) : Nat × disk_Disk :=
 if d.armed_ = false then (n, d) else if (n : Int) < d.left_ then (n, ⟨d.files_, d.room_, d.off_, d.armed_, d.left_ - n⟩) else (d.left_.toNat, ⟨d.files_, d.room_, true, false, 0⟩)
def doneD (d : disk_Disk) : Int := if d.off_ = true then 50 else 0
def appendD (d : disk_Disk) (i : Int) (b : List UInt8) : Int × disk_Disk :=
 if ableD d i ≠ 0 then (ableD d i, d) else if d.room_ - usedD d < b.length then (7, d) else
  (doneD (burnD d b.length).2, setD (burnD d b.length).2 i (fileD d i ++ b.take (burnD d b.length).1))
def wipeD (d : disk_Disk) (i : Int) : Int × disk_Disk :=
 if ableD d i ≠ 0 then (ableD d i, d) else
  (doneD (burnD d 1).2, if (burnD d 1).1 = 1 then setD (burnD d 1).2 i [] else (burnD d 1).2)
def readD (d : disk_Disk) (i : Int) : List UInt8 × Int := if ableD d i ≠ 0 then ([], ableD d i) else (fileD d i, 0)
def DiskOk (d : disk_Disk) : Prop := 1 ≤ d.room_ ∧ d.room_ ≤ 16777216 ∧ (usedD d : Int) ≤ d.room_ ∧ 0 ≤ d.left_ ∧ d.left_ ≤ 1000000000
theorem disk_New_of {n : Int} {Q0 : Int → Prop} {Q1 : Int → disk_Disk → Prop} (h : 1 ≤ n ∧ n ≤ 16777216) (hQ : Q1 0 ⟨⟨[], [], []⟩, n, false, false, 0⟩) : disk_New n Q0 Q1 := by
 unfold disk_New
 refine ⟨_, fun _ h => h, fun h => by omega, fun _ => ⟨fun h => ?_, fun _ => hQ⟩⟩
 have := of_decide_eq_true h; omega
theorem disk_Disk_able_of {d : disk_Disk} {i : Int} {Q : Int → Prop} (hQ : Q (ableD d i)) : disk_Disk_able d i Q := by
 unfold disk_Disk_able
 unfold ableD at hQ
 refine ⟨_, fun _ h => h, fun h => ?_, fun h => ⟨fun h1 => ?_, fun h1 => ⟨_, fun _ h => h, fun h2 => ⟨fun _ => ?_, fun h => by simp at h⟩, fun h2 => ⟨fun h3 => ?_, fun h3 => ?_⟩⟩⟩⟩
 ·
  have := of_decide_eq_true h
  rw [if_pos this] at hQ; exact hQ
 ·
  have := of_decide_eq_false h
  rw [if_neg this, if_pos h1] at hQ; exact hQ
 ·
  have := of_decide_eq_false h
  rw [if_neg this, if_neg (by simp [h1]), if_pos (by omega)] at hQ; exact hQ
 ·
  have := of_decide_eq_false h
  have h3 := of_decide_eq_true h3
  rw [if_neg this, if_neg (by simp [h1]), if_pos (by omega)] at hQ; exact hQ
 ·
  have := of_decide_eq_false h
  have h3 := of_decide_eq_false h3
  rw [if_neg this, if_neg (by simp [h1]), if_neg (by omega)] at hQ; exact hQ
theorem ableD_ok {d : disk_Disk} {i : Int} (h : ableD d i = 0) : d.off_ = false ∧ (i = 0 ∨ i = 1 ∨ i = 2) := by
 unfold ableD at h
 split at h
 ·
  cases h
 ·
  split at h
  ·
   cases h
  ·
   split at h
   ·
    cases h
   ·
    exact ⟨by simpa using ‹¬ d.off_ = true›, by omega⟩
theorem fileD_len (d : disk_Disk) (i : Int) : (fileD d i).length ≤ usedD d := by
 unfold fileD usedD; split
 ·
  omega
 ·
  split <;> omega
theorem DiskOk.file {d : disk_Disk} (h : DiskOk d) (i : Int) : (fileD d i).length ≤ 16777216 := by
 have := fileD_len d i
 obtain ⟨h1, h2, h3, h4, h5⟩ := h
 omega
theorem disk_Disk_Read_of {d : disk_Disk} {i : Int} {Q : List UInt8 → Int → Prop} (hd : DiskOk d) (hQ : Q (readD d i).1 (readD d i).2) : disk_Disk_Read d i Q := by
 unfold disk_Disk_Read
 refine disk_Disk_able_of ⟨fun h => ?_, fun h => ?_⟩
 ·
  rw [readD, if_pos h] at hQ; exact hQ
 ·
  rw [readD, if_neg h] at hQ
  obtain ⟨h1, h2⟩ := ableD_ok (Decidable.not_not.1 h)
  have hf := hd.file i
  have hR : Rm 1 (([] : List UInt8).length + (fileD d i).length) := by unfold Rm; simp; omega
  refine ⟨by omega, fun hi => ?_, fun hi => ?_, fun hi => ?_⟩ <;> subst hi <;> exact ⟨hR, by simpa [fileD] using hQ⟩
theorem disk_Disk_Used_of {d : disk_Disk} {Q : Int → Prop} (hd : DiskOk d) (hQ : Q (usedD d)) : disk_Disk_Used d Q := by
 obtain ⟨h1, h2, h3, h4, h5⟩ := hd
 unfold usedD at h3
 unfold disk_Disk_Used
 refine ⟨fun n => n = (usedD d : Int), fun n hn => hn ▸ hQ, ?_⟩
 refine lp2_inv 3 (fun k s i => i = (k : Int) ∧ s = (if k = 0 then (0 : Int) else if k = 1 then (d.files_.e0_.length : Int) else if k = 2 then (d.files_.e0_.length : Int) + (d.files_.e1_.length : Int) else (usedD d : Int))) ⟨rfl, rfl⟩ ?_ ?_
 ·
  rintro k hk s i ⟨rfl, rfl⟩ next hnext
  refine ⟨fun _ => ⟨by omega, fun h => ?_, fun h => ?_, fun h => ?_⟩, fun h => absurd (by omega) h⟩
  ·
   obtain rfl : k = 0 := by omega
   exact ⟨by unfold Ck; simp; omega, by unfold Ck; omega, hnext _ _ ⟨by omega, by simp⟩⟩
  ·
   obtain rfl : k = 1 := by omega
   exact ⟨by unfold Ck; simp; omega, by unfold Ck; omega, hnext _ _ ⟨by omega, by simp⟩⟩
  ·
   obtain rfl : k = 2 := by omega
   exact ⟨by unfold Ck; simp; omega, by unfold Ck; omega, hnext _ _ ⟨by omega, by simp [usedD]⟩⟩
 ·
  rintro s i ⟨rfl, rfl⟩ next
  exact ⟨fun h => absurd h (by omega), fun _ => by simp⟩
theorem disk_Disk_burn_of {d : disk_Disk} {n : Nat} {Q : Int → disk_Disk → Prop} (hd : DiskOk d) (hn : n ≤ 1000000000) (hQ : Q ((burnD d n).1 : Int) (burnD d n).2) : disk_Disk_burn d n Q := by
 obtain ⟨h1, h2, h3, h4, h5⟩ := hd
 unfold disk_Disk_burn
 unfold burnD at hQ
 refine ⟨fun h => ?_, fun h => ⟨fun h6 => ?_, fun h6 => ?_⟩⟩
 ·
  rw [if_pos (by simpa using h)] at hQ; exact hQ
 ·
  rw [if_neg (by simpa using h), if_pos h6] at hQ
  exact ⟨by unfold Ck; omega, hQ⟩
 ·
  rw [if_neg (by simpa using h), if_neg h6] at hQ
  dsimp only at hQ
  rw [Int.toNat_of_nonneg h4] at hQ
  exact hQ
theorem disk_Disk_done_of {d : disk_Disk} {Q : Int → Prop} (hQ : Q (doneD d)) : disk_Disk_done d Q := by
 unfold disk_Disk_done
 unfold doneD at hQ
 exact ⟨fun h => by rw [if_pos h] at hQ; exact hQ, fun h => by rw [if_neg (by simp [h])] at hQ; exact hQ⟩
theorem burnD_le (d : disk_Disk) (hd : DiskOk d) (n : Nat) : (burnD d n).1 ≤ n ∧ (burnD d n).2.files_ = d.files_ ∧ (burnD d n).2.room_ = d.room_ ∧ 0 ≤ (burnD d n).2.left_ ∧ (burnD d n).2.left_ ≤ 1000000000 := by
 obtain ⟨h1, h2, h3, h4, h5⟩ := hd
 unfold burnD
 split
 ·
  exact ⟨Nat.le_refl _, rfl, rfl, h4, h5⟩
 ·
  split
  ·
   exact ⟨Nat.le_refl _, rfl, rfl, by dsimp only; omega, by dsimp only; omega⟩
  ·
   exact ⟨by dsimp only; omega, rfl, rfl, Int.le_refl _, by dsimp only; omega⟩
theorem setD_used (d : disk_Disk) (i : Int) (b : List UInt8) : usedD (setD d i b) + (fileD d i).length = usedD d + b.length := by
 unfold usedD setD fileD
 by_cases h0 : i = 0
 ·
  simp only [h0, if_true]; omega
 ·
  by_cases h1 : i = 1
  ·
   simp only [h1, if_true]; simp; omega
  ·
   simp only [if_neg h0, if_neg h1]; omega
theorem usedD_files {d e : disk_Disk} (h : d.files_ = e.files_) : usedD d = usedD e := by unfold usedD; rw [h]
theorem fileD_files {d e : disk_Disk} (i : Int) (h : d.files_ = e.files_) : fileD d i = fileD e i := by unfold fileD; rw [h]
theorem appendD_ok {d : disk_Disk} (hd : DiskOk d) (i : Int) (b : List UInt8) : DiskOk (appendD d i b).2 := by
 unfold appendD
 split
 ·
  exact hd
 ·
  split
  ·
   exact hd
  ·
   rename_i h0 h
   obtain ⟨g1, g2, g3, g4, g5⟩ := burnD_le d hd b.length
   have h6 := setD_used (burnD d b.length).2 i (fileD d i ++ b.take (burnD d b.length).1)
   rw [fileD_files i g2, usedD_files g2, List.length_append, List.length_take] at h6
   obtain ⟨h1, h2, h3, h4, h5⟩ := hd
   refine ⟨by simp only [setD]; rw [g3]; exact h1, by simp only [setD]; rw [g3]; exact h2, ?_, by simp only [setD]; exact g4, by simp only [setD]; exact g5⟩
   have : (setD (burnD d b.length).2 i (fileD d i ++ b.take (burnD d b.length).1)).room_ = d.room_ := by simp only [setD]; exact g3
   dsimp only
   rw [this]
   omega
theorem wipeD_ok {d : disk_Disk} (hd : DiskOk d) (i : Int) : DiskOk (wipeD d i).2 := by
 unfold wipeD
 split
 ·
  exact hd
 ·
  rename_i h0
  obtain ⟨g1, g2, g3, g4, g5⟩ := burnD_le d hd 1
  obtain ⟨h1, h2, h3, h4, h5⟩ := hd
  have h6 := setD_used (burnD d 1).2 i []
  rw [fileD_files i g2, usedD_files g2, List.length_nil] at h6
  dsimp only
  split
  ·
   refine ⟨by simp only [setD]; rw [g3]; exact h1, by simp only [setD]; rw [g3]; exact h2, ?_, by simp only [setD]; exact g4, by simp only [setD]; exact g5⟩
   have : (setD (burnD d 1).2 i []).room_ = d.room_ := by simp only [setD]; exact g3
   rw [this]
   omega
  ·
   exact ⟨by rw [g3]; exact h1, by rw [g3]; exact h2, by rw [g3, usedD_files g2]; exact h3, g4, g5⟩
theorem disk_Disk_Wipe_of {d : disk_Disk} {i : Int} {Q : Int → disk_Disk → Prop} (hd : DiskOk d) (hQ : Q (wipeD d i).1 (wipeD d i).2) : disk_Disk_Wipe d i Q := by
 unfold disk_Disk_Wipe
 refine disk_Disk_able_of ⟨fun h => ?_, fun h => ?_⟩
 ·
  rw [wipeD, if_pos h] at hQ; exact hQ
 ·
  rw [wipeD, if_neg h] at hQ
  obtain ⟨h1, h2⟩ := ableD_ok (Decidable.not_not.1 h)
  obtain ⟨g1, g2, g3, g4, g5⟩ := burnD_le d hd 1
  refine ⟨_, fun _ h => h, disk_Disk_burn_of (n := 1) hd (by omega) ⟨fun h3 => ?_, fun h3 => ?_⟩⟩
  ·
   have h3 : (burnD d 1).1 = 1 := by omega
   dsimp only at hQ
   rw [if_pos h3] at hQ
   refine ⟨by omega, fun hi => ?_, fun hi => ?_, fun hi => ?_⟩ <;> subst hi <;> exact disk_Disk_done_of hQ
  ·
   have h3 : ¬ (burnD d 1).1 = 1 := by omega
   dsimp only at hQ
   rw [if_neg h3] at hQ
   exact disk_Disk_done_of hQ
theorem disk_Disk_Append_of {d : disk_Disk} {i : Int} {b : List UInt8} {Q : Int → disk_Disk → Prop} (hd : DiskOk d) (hQ : Q (appendD d i b).1 (appendD d i b).2) : disk_Disk_Append d i b Q := by
 unfold disk_Disk_Append
 refine disk_Disk_able_of ⟨fun h => ?_, fun h => ?_⟩
 ·
  rw [appendD, if_pos h] at hQ; exact hQ
 ·
  rw [appendD, if_neg h] at hQ
  obtain ⟨h1, h2⟩ := ableD_ok (Decidable.not_not.1 h)
  obtain ⟨g1, g2, g3, g4, g5⟩ := burnD_le d hd b.length
  have hf := hd.file i
  have hd' := hd
  obtain ⟨k1, k2, k3, k4, k5⟩ := hd
  refine disk_Disk_Used_of hd' ⟨by unfold Ck; omega, fun h3 => ?_, fun h3 => ?_⟩
  ·
   rw [if_pos (by omega)] at hQ; exact hQ
  ·
   rw [if_neg (by omega)] at hQ
   have ht : cut b 0 ((burnD d b.length).1 : Int) = b.take (burnD d b.length).1 := by rw [cut_front]
   have hR : ∀ f : List UInt8, f.length ≤ 16777216 → Rm 1 (f.length + (b.take (burnD d b.length).1).length) := by intro f hf; unfold Rm; rw [List.length_take]; omega
   refine ⟨by omega, fun hi => ?_, fun hi => ?_, fun hi => ?_⟩ <;> subst hi <;>
    refine disk_Disk_burn_of hd' (by omega) ⟨by omega, by omega, by omega, ?_⟩ <;>
    rw [ht, cut_front, List.take_length] <;>
    exact ⟨hR _ hf, disk_Disk_done_of hQ⟩
def armD (d : disk_Disk) (n : Int) : Int × disk_Disk := if ableD d 0 ≠ 0 then (ableD d 0, d) else if n < 1 then (1, d) else (0, ⟨d.files_, d.room_, d.off_, true, n⟩)
def startD (d : disk_Disk) : Int × disk_Disk := if d.room_ = 0 then (6, d) else (0, ⟨d.files_, d.room_, false, d.armed_, d.left_⟩)
theorem disk_Disk_Arm_of {d : disk_Disk} {n : Int} {Q : Int → disk_Disk → Prop} (hQ : Q (armD d n).1 (armD d n).2) : disk_Disk_Arm d n Q := by
 unfold disk_Disk_Arm
 unfold armD at hQ
 refine disk_Disk_able_of ⟨fun h => ?_, fun h => ⟨fun h1 => ?_, fun h1 => ?_⟩⟩
 ·
  rw [if_pos h] at hQ; exact hQ
 ·
  rw [if_neg h, if_pos h1] at hQ; exact hQ
 ·
  rw [if_neg h, if_neg h1] at hQ; exact hQ
theorem disk_Disk_Start_of {d : disk_Disk} {Q : Int → disk_Disk → Prop} (hQ : Q (startD d).1 (startD d).2) : disk_Disk_Start d Q := by
 unfold disk_Disk_Start
 unfold startD at hQ
 refine ⟨_, fun _ h => h, fun h => ?_, fun h => ?_⟩
 ·
  rw [if_pos (of_decide_eq_true h)] at hQ; exact hQ
 ·
  rw [if_neg (of_decide_eq_false h)] at hQ; exact hQ
end Go.Lx

namespace Go.Lx
theorem numR_le {b : List UInt8} {p : Nat} {e : Int} (hp : p ≤ b.length) : (numR b p e).2.1 ≤ b.length := by
 unfold numR
 split
 ·
  exact hp
 ·
  split
  ·
   exact hp
  ·
   rename_i h2
   obtain ⟨h8, _⟩ := numE_ok (Decidable.not_not.1 h2)
   rw [List.length_drop] at h8
   dsimp only; omega
theorem withR_le {b : List UInt8} {p : Nat} {e lo hi : Int} (hp : p ≤ b.length) : (withR b p e lo hi).2.1 ≤ b.length := by
 unfold withR
 split
 ·
  exact hp
 ·
  split
  ·
   exact hp
  ·
   rename_i h2
   obtain ⟨h8, _⟩ := numE_ok (Decidable.not_not.1 h2)
   rw [List.length_drop] at h8
   split
   ·
    exact hp
   ·
    dsimp only; omega
def sealE (d : List UInt8) : List UInt8 := if d.length ≤ 16384 then blockOf d else []
def headB (g m : Int) : List UInt8 := blockOf (putAll [g, m])
def tellD (n : Int) (r : journal_record) : List UInt8 := putAll [n, r.label_] ++ be8 r.data_.length ++ r.data_
def tellB (n : Int) (r : journal_record) : List UInt8 := blockOf (tellD n r)
theorem tellD_len (n : Int) (r : journal_record) : (tellD n r).length = r.data_.length + 24 := by
 simp [tellD, putAll_len, be8_len]; omega
theorem tellB_len (n : Int) (r : journal_record) : (tellB n r).length = r.data_.length + 36 := by rw [tellB, blockOf_len, tellD_len]
theorem headB_len (g m : Int) : (headB g m).length = 28 := by simp [headB, blockOf_len, putAll_len]
theorem journal_seal_of {d : List UInt8} {Q : List UInt8 → Prop} (hQ : Q (sealE d)) : journal_seal d Q := by
 unfold journal_seal
 unfold sealE at hQ
 refine octet_Seal_of (fun h => ?_) (fun h => ?_)
 ·
  rw [if_neg (by omega)] at hQ; exact hQ
 ·
  rw [if_pos h] at hQ; exact hQ
theorem journal_head_of {g m : Int} {Q : List UInt8 → Prop} (hQ : Q (headB g m)) : journal_head g m Q := by
 unfold journal_head
 refine octet_Put_of (by simp) (journal_seal_of ?_)
 rw [List.nil_append, sealE, if_pos (by rw [putAll_len]; simp)]; exact hQ
theorem journal_tell_of {n : Int} {r : journal_record} {Q : List UInt8 → Prop} (hr : r.data_.length ≤ 16320) (hQ : Q (tellB n r)) : journal_tell n r Q := by
 unfold journal_tell
 refine octet_Put_of (by simp) (octet_PutBytes_of (by simp [putAll_len]; omega) (journal_seal_of ?_))
 have h := tellD_len n r
 rw [List.nil_append]
 change Q (sealE (tellD n r))
 rw [sealE, if_pos (by omega)]; exact hQ
def rd1 (x : List UInt8) : Int × Nat × Int := numR x 0 0
def rd2 (x : List UInt8) : Int × Nat × Int := withR x (rd1 x).2.1 (rd1 x).2.2 0 31
def rd3 (x : List UInt8) : List UInt8 × Nat × Int := bytesR x (rd2 x).2.1 (rd2 x).2.2 16320
def readR (x : List UInt8) (n : Int) : journal_record × Bool := (⟨(rd2 x).1, (rd3 x).1⟩, decide (endE x (rd3 x).2.1 (rd3 x).2.2 = 0 ∧ (rd1 x).1 = n))
theorem rd1_le (x : List UInt8) : (rd1 x).2.1 ≤ x.length := numR_le (Nat.zero_le _)
theorem rd2_le (x : List UInt8) : (rd2 x).2.1 ≤ x.length := withR_le (rd1_le x)
theorem rd3_le (x : List UInt8) : (rd3 x).2.1 ≤ x.length := bytesR_le (rd2_le x)
theorem journal_read_of {x : List UInt8} {n : Int} {Q : journal_record → Bool → Prop} (hx : x.length ≤ 1000000000) (hQ : Q (readR x n).1 (readR x n).2) : journal_read x n Q := by
 unfold journal_read
 unfold readR at hQ
 refine octet_Read_of (by omega) (octet_Reader_Number_of (by omega) (Nat.zero_le _) ?_)
 change octet_Reader_Within (rdr x (rd1 x).2.1 (rd1 x).2.2) 0 31 _
 refine octet_Reader_Within_of (by omega) (rd1_le x) ?_
 change octet_Reader_Bytes (rdr x (rd2 x).2.1 (rd2 x).2.2) 16320 _
 refine octet_Reader_Bytes_of (by omega) (rd2_le x) ?_
 change octet_Reader_End (rdr x (rd3 x).2.1 (rd3 x).2.2) _
 refine octet_Reader_End_of (by omega) (rd3_le x) ⟨fun h => ?_, fun h => ?_⟩
 ·
  simp only [h, true_and] at hQ; exact hQ
 ·
  simp only [h, false_and, decide_false] at hQ; exact hQ
def hd1 (x : List UInt8) : Int × Nat × Int := withR x 0 0 1 1099511627776
def hd2 (x : List UInt8) : Int × Nat × Int := withR x (hd1 x).2.1 (hd1 x).2.2 0 1099511627776
def hdE (x : List UInt8) : Int := endE x (hd2 x).2.1 (hd2 x).2.2
theorem hd1_le (x : List UInt8) : (hd1 x).2.1 ≤ x.length := withR_le (Nat.zero_le _)
theorem hd2_le (x : List UInt8) : (hd2 x).2.1 ≤ x.length := withR_le (hd1_le x)
def readsR : List (List UInt8) → Int → List journal_record × Bool
 | [], _ => ([], true)
 | x :: t, n => if (readR x n).2 = false then ([], false) else ((readR x n).1 :: (readsR t (n + 1)).1, (readsR t (n + 1)).2)
def openedR (b : List UInt8) (kn : Int → Int → Int × Bool) : Int × Int × List journal_record × Bool × Bool :=
 match (allR b).1 with
 | [] => (0, 0, [], false, false)
 | x :: t => if hdE x ≠ 0 then (0, 0, [], false, false) else if (kn (hd1 x).1 (hd2 x).1).2 = false then (0, 0, [], false, false) else
  ((hd1 x).1, (hd2 x).1, (readsR t (kn (hd1 x).1 (hd2 x).1).1).1, (readsR t (kn (hd1 x).1 (hd2 x).1).1).2 && decide (((allR b).2 : Int) = (b.length : Int)), true)
theorem allF_sum : ∀ (f : Nat) (b : List UInt8), ((allF f b).1.map fun x => x.length + 12).sum = (allF f b).2 ∧ (allF f b).2 ≤ b.length
 | 0, _ => ⟨rfl, Nat.zero_le _⟩
 | f + 1, b => by
  unfold allF
  split
  ·
   exact ⟨rfl, Nat.zero_le _⟩
  ·
   rename_i h0
   obtain ⟨h1, h2, h3, h4⟩ := openR_ok (Decidable.not_not.1 h0)
   have ih := allF_sum f (b.drop ((openR b).1.length + 12))
   rw [List.length_drop] at ih
   exact ⟨by simp only [List.map_cons, List.sum_cons, ih.1], by dsimp only; omega⟩
theorem allR_sum (b : List UInt8) : ((allR b).1.map fun x => x.length + 12).sum = (allR b).2 ∧ (allR b).2 ≤ b.length := allF_sum _ b
theorem sum_mem {l : List (List UInt8)} {x : List UInt8} (h : x ∈ l) : x.length + 12 ≤ (l.map fun x => x.length + 12).sum := by
 induction l with
 | nil => cases h
 | cons y l ih =>
  rw [List.map_cons, List.sum_cons]
  rcases List.mem_cons.1 h with rfl | h
  ·
   omega
  ·
   have := ih h; omega
theorem sum_len (l : List (List UInt8)) : 12 * l.length ≤ (l.map fun x => x.length + 12).sum := by
 induction l with
 | nil => simp
 | cons y l ih => rw [List.map_cons, List.sum_cons, List.length_cons]; omega
theorem allR_mem {b x : List UInt8} (h : x ∈ (allR b).1) : x.length + 12 ≤ b.length := by
 have := sum_mem h
 have := allR_sum b
 omega
theorem allR_len (b : List UInt8) : 12 * (allR b).1.length ≤ b.length := by
 have := sum_len (allR b).1
 have := allR_sum b
 omega
theorem reads_loop {t : List (List UInt8)} {s g m : Int} {J : Int → Int → List journal_record → Prop} {Q : Int → Int → List journal_record → Bool → Bool → Prop}
  (ht : ∀ x ∈ t, x.length ≤ 1000000000) (hl : t.length ≤ 1000000000) (hs : 0 ≤ s ∧ s ≤ 1000000000)
  (hJ : (readsR t s).2 = true → J g m (readsR t s).1) (hQ : (readsR t s).2 = false → Q g m (readsR t s).1 false true) :
  Lp4 (fun (x4_36 : Int) (x5_36 : Int) (x6_36 : List journal_record) (x48_36 : Int) next36_ => ((x48_36 < (t.length : Int)) → (∃ x42_, At t x48_36 x42_ ∧ Ck (s + (x6_36.length : Int)) ∧ journal_read x42_ (s + (x6_36.length : Int)) fun (r45_0 : journal_record) (r45_1 : Bool) => (((!r45_1) = true) → (Q x4_36 x5_36 x6_36 false true)) ∧ (((!r45_1) = false) → (Rm 32 (x6_36.length + ([r45_0] : List journal_record).length) ∧ Ck (x48_36 + 1) ∧ next36_ x4_36 x5_36 (x6_36 ++ ([r45_0] : List journal_record)) (x48_36 + 1))))) ∧ (¬ (x48_36 < (t.length : Int)) → (J x4_36 x5_36 x6_36))) g m [] 0 := by
 refine lp4_inv t.length (fun k a b l i => a = g ∧ b = m ∧ i = (k : Int) ∧ l.length = k ∧ readsR t s = (l ++ (readsR (t.drop k) (s + k)).1, (readsR (t.drop k) (s + k)).2)) ⟨rfl, rfl, rfl, rfl, by simp⟩ ?_ ?_
 ·
  rintro k hk a b l i ⟨rfl, rfl, rfl, hlen, he⟩ next hnext
  refine ⟨fun _ => ⟨t[k], At.get hk, by unfold Ck; omega, ?_⟩, fun h => absurd (by omega) h⟩
  have hd : t.drop k = t[k] :: t.drop (k + 1) := List.drop_eq_getElem_cons hk
  rw [hd, readsR] at he
  rw [hlen]
  refine journal_read_of (ht _ (List.getElem_mem hk)) ⟨fun h => ?_, fun h => ?_⟩
  ·
   have h : (readR t[k] (s + k)).2 = false := by simpa using h
   rw [if_pos h] at he
   simp only [List.append_nil] at he
   rw [he] at hQ
   exact hQ rfl
  ·
   have h : ¬ (readR t[k] (s + k)).2 = false := by simpa using h
   rw [if_neg h] at he
   refine ⟨by unfold Rm; simp; omega, by unfold Ck; omega, hnext _ _ _ _ ⟨rfl, rfl, by omega, by simp [hlen], ?_⟩⟩
   rw [he]
   have e : s + (k : Int) + 1 = s + ((k + 1 : Nat) : Int) := by omega
   simp [e]
 ·
  rintro a b l i ⟨rfl, rfl, rfl, hlen, he⟩ next
  refine ⟨fun h => absurd h (by omega), fun _ => ?_⟩
  rw [List.drop_length] at he
  simp only [readsR, List.append_nil] at he
  rw [he] at hJ
  exact hJ rfl
theorem cut_tail {α : Type} (x : α) (t : List α) : cut (x :: t) 1 ((x :: t).length : Int) = t := by simp [cut]
theorem journal_Open_1_of {g m : Int} {Q : Int → Bool → Prop} (hQ : Q 0 true) : journal_Open_1 g m Q := hQ
theorem journal_opened_of {b : List UInt8} {Q : Int → Int → List journal_record → Bool → Bool → Prop} (hb : b.length ≤ 1000000000)
  (hQ : Q (openedR b fun _ _ => (0, true)).1 (openedR b fun _ _ => (0, true)).2.1 (openedR b fun _ _ => (0, true)).2.2.1 (openedR b fun _ _ => (0, true)).2.2.2.1 (openedR b fun _ _ => (0, true)).2.2.2.2) : journal_opened b Q := by
 unfold journal_opened
 unfold openedR at hQ
 have hmem := @allR_mem b
 have hlen := allR_len b
 refine octet_All_of hb ?_
 generalize (allR b).1 = L at hQ hmem hlen
 generalize (allR b).2 = n at hQ
 cases L with
 | nil => exact ⟨fun _ => hQ, fun h => absurd rfl h⟩
 | cons x t =>
  have hx := hmem (List.mem_cons_self ..)
  refine ⟨fun h => absurd h (by rw [List.length_cons]; omega), fun _ => ⟨x, At.nat (k := 0) rfl, octet_Read_of (by omega) (octet_Reader_Within_of (by omega) (Nat.zero_le _) ?_)⟩⟩
  change octet_Reader_Within (rdr x (hd1 x).2.1 (hd1 x).2.2) 0 1099511627776 _
  refine octet_Reader_Within_of (by omega) (hd1_le x) ?_
  change octet_Reader_End (rdr x (hd2 x).2.1 (hd2 x).2.2) _
  refine octet_Reader_End_of (by omega) (hd2_le x) ⟨fun h => ?_, fun h => ?_⟩
  ·
   have h : hdE x ≠ 0 := h
   dsimp only at hQ; rw [if_pos h] at hQ; exact hQ
  ·
   have h : ¬ hdE x ≠ 0 := h
   dsimp only at hQ
   rw [if_neg h, if_neg (by decide)] at hQ
   refine journal_Open_1_of ⟨fun h => by simp at h, fun _ => ?_⟩
   refine ⟨_, fun _ _ _ h => h, by rw [List.length_cons]; omega, ?_⟩
   rw [cut_tail]
   rw [List.length_cons] at hlen
   refine reads_loop (s := 0) (fun y hy => by have := hmem (List.mem_cons_of_mem _ hy); omega) (by omega) (by omega) (fun h => ?_) (fun h => ?_)
   ·
    rw [h] at hQ
    exact hQ
   ·
    rw [h] at hQ
    exact hQ
theorem journal_Open_2_of {g m : Int} {l : List journal_record} {z1 : Unit} {j : journal_Journal} {z3 : List (Int × Int)} {z4 : disk_Disk} {Q : Int → Bool → Prop} (hQ : Q (l.length : Int) (decide (g = j.gen_ ∧ m = (l.length : Int)))) : journal_Open_2 g m l z1 j z3 z4 Q := by
 unfold journal_Open_2
 refine ⟨fun h => ?_, fun h => ?_⟩
 ·
  simp only [h, true_and] at hQ; exact hQ
 ·
  simp only [h, false_and, decide_false] at hQ; exact hQ
def kn2 (g : Int) (l : List journal_record) (a b : Int) : Int × Bool := ((l.length : Int), decide (a = g ∧ b = (l.length : Int)))
theorem journal_opened_v1_of {b : List UInt8} {l : List journal_record} {z1 : Unit} {j : journal_Journal} {z3 : List (Int × Int)} {z4 : disk_Disk} {Q : Int → Int → List journal_record → Bool → Bool → Prop} (hb : b.length ≤ 1000000000) (hl : l.length ≤ 1000000000)
  (hQ : Q (openedR b (kn2 j.gen_ l)).1 (openedR b (kn2 j.gen_ l)).2.1 (openedR b (kn2 j.gen_ l)).2.2.1 (openedR b (kn2 j.gen_ l)).2.2.2.1 (openedR b (kn2 j.gen_ l)).2.2.2.2) : journal_opened_v1 b l z1 j z3 z4 Q := by
 unfold journal_opened_v1
 unfold openedR at hQ
 have hmem := @allR_mem b
 have hlen := allR_len b
 refine octet_All_of hb ?_
 generalize (allR b).1 = L at hQ hmem hlen
 generalize (allR b).2 = n at hQ
 cases L with
 | nil => exact ⟨fun _ => hQ, fun h => absurd rfl h⟩
 | cons x t =>
  have hx := hmem (List.mem_cons_self ..)
  refine ⟨fun h => absurd h (by rw [List.length_cons]; omega), fun _ => ⟨x, At.nat (k := 0) rfl, octet_Read_of (by omega) (octet_Reader_Within_of (by omega) (Nat.zero_le _) ?_)⟩⟩
  change octet_Reader_Within (rdr x (hd1 x).2.1 (hd1 x).2.2) 0 1099511627776 _
  refine octet_Reader_Within_of (by omega) (hd1_le x) ?_
  change octet_Reader_End (rdr x (hd2 x).2.1 (hd2 x).2.2) _
  refine octet_Reader_End_of (by omega) (hd2_le x) ⟨fun h => ?_, fun h => ?_⟩
  ·
   have h : hdE x ≠ 0 := h
   dsimp only at hQ; rw [if_pos h] at hQ; exact hQ
  ·
   have h : ¬ hdE x ≠ 0 := h
   dsimp only at hQ
   rw [if_neg h] at hQ
   refine journal_Open_2_of ⟨fun h2 => ?_, fun h2 => ?_⟩
   ·
    have h2 : (!(kn2 j.gen_ l (hd1 x).1 (hd2 x).1).2) = true := h2
    have h2 : (kn2 j.gen_ l (hd1 x).1 (hd2 x).1).2 = false := by simpa using h2
    rw [if_pos h2] at hQ; exact hQ
   ·
    have h2 : (!(kn2 j.gen_ l (hd1 x).1 (hd2 x).1).2) = false := h2
    have h2 : ¬ (kn2 j.gen_ l (hd1 x).1 (hd2 x).1).2 = false := by simpa using h2
    rw [if_neg h2] at hQ
    refine ⟨_, fun _ _ _ h => h, by rw [List.length_cons]; omega, ?_⟩
    rw [cut_tail]
    rw [List.length_cons] at hlen
    have e : (kn2 j.gen_ l (hd1 x).1 (hd2 x).1).1 = (l.length : Int) := rfl
    rw [e] at hQ
    refine reads_loop (fun y hy => by have := hmem (List.mem_cons_of_mem _ hy); omega) (by omega) (by omega) (fun h => ?_) (fun h => ?_)
    ·
     rw [h] at hQ
     exact hQ
    ·
     rw [h] at hQ
     exact hQ
end Go.Lx

namespace Go.Lx
def RecOk (r : journal_record) : Prop := 0 ≤ r.label_ ∧ r.label_ ≤ 31 ∧ r.data_.length ≤ 16320
def JB (l : List journal_record) : Prop := (∀ r ∈ l, RecOk r) ∧ l.length ≤ 100000000
def tellsB : Int → List journal_record → List UInt8
 | _, [] => []
 | n, r :: t => tellB n r ++ tellsB (n + 1) t
theorem tellsB_append (n : Int) (l m : List journal_record) : tellsB n (l ++ m) = tellsB n l ++ tellsB (n + l.length) m := by
 induction l generalizing n with
 | nil => simp [tellsB]
 | cons r l ih => rw [List.cons_append, tellsB, ih, tellsB, List.append_assoc, List.length_cons]; congr 3; omega
theorem tellsB_snoc (n : Int) (l : List journal_record) (r : journal_record) : tellsB n (l ++ [r]) = tellsB n l ++ tellB (n + l.length) r := by
 rw [tellsB_append]; simp [tellsB]
theorem tellsB_len (n : Int) (l : List journal_record) (h : ∀ r ∈ l, RecOk r) : (tellsB n l).length ≤ 16356 * l.length := by
 induction l generalizing n with
 | nil => simp [tellsB]
 | cons r l ih =>
  have h1 := (h r (List.mem_cons_self ..)).2.2
  have h2 := ih (n + 1) (fun x hx => h x (List.mem_cons_of_mem _ hx))
  rw [tellsB, List.length_append, tellB_len, List.length_cons]; omega
def addM (m : List (Int × Int)) (r : journal_record) : List (Int × Int) := mput m r.label_ ((mget m r.label_).getD 0 + (r.data_.length : Int))
def mapL (l : List journal_record) : List (Int × Int) := l.foldl addM []
def cntL (k : Int) (l : List journal_record) : Nat := (l.map fun r => if r.label_ = k then r.data_.length else 0).sum
theorem mapL_snoc (l : List journal_record) (r : journal_record) : mapL (l ++ [r]) = addM (mapL l) r := by simp [mapL, List.foldl_append]
theorem mget_mput {α : Type} (m : List (Int × α)) (a k : Int) (v : α) : mget (mput m a v) k = if k = a then some v else mget m k := by
 induction m with
 | nil => simp [mput, mget]
 | cons x m ih =>
  obtain ⟨b, w⟩ := x
  by_cases h : a = b
  ·
   subst h
   by_cases hk : k = a <;> simp [mput, mget, hk]
  ·
   by_cases hk : k = b
   ·
    subst hk
    simp [mput, mget, h, Ne.symm h]
   ·
    simp [mput, mget, h, hk, ih]
theorem mapL_get (l : List journal_record) (k : Int) : (mget (mapL l) k).getD 0 = (cntL k l : Int) := by
 have : ∀ (m : List journal_record) (a : List (Int × Int)) (c : Nat), (mget a k).getD 0 = (c : Int) → (mget (m.foldl addM a) k).getD 0 = ((c + cntL k m : Nat) : Int) := by
  intro m
  induction m with
  | nil => intro a c h; simpa [cntL] using h
  | cons r m ih =>
   intro a c h
   rw [List.foldl_cons, ih (addM a r) (c + if r.label_ = k then r.data_.length else 0)]
   ·
    simp [cntL, Nat.add_assoc]
   ·
    rw [addM, mget_mput]
    by_cases hk : k = r.label_
    ·
     subst hk; simp [h]
    ·
     rw [if_neg hk, if_neg (fun e => hk e.symm), h, Nat.add_zero]
 have h := this l [] 0 rfl
 simpa [mapL] using h
theorem cntL_le (k : Int) {l : List journal_record} (h : ∀ r ∈ l, RecOk r) : cntL k l ≤ 16320 * l.length := by
 induction l with
 | nil => simp [cntL]
 | cons r l ih =>
  have h1 := (h r (List.mem_cons_self ..)).2.2
  have h2 := ih (fun x hx => h x (List.mem_cons_of_mem _ hx))
  simp only [cntL, List.map_cons, List.sum_cons, List.length_cons] at h2 ⊢
  split <;> omega
theorem JB.nil : JB [] := ⟨fun r h => (List.not_mem_nil h).elim, by simp⟩
theorem journal_book_add_of {j : journal_Journal} {d : disk_Disk} {r : journal_record} {Q : journal_Journal → List (Int × Int) → Prop} (hj : JB j.book_.l_) (hr : RecOk r)
  (hQ : Q ⟨⟨j.book_.l_ ++ [r]⟩, j.gen_, j.place_⟩ (mapL (j.book_.l_ ++ [r]))) : journal_book_add j (mapL j.book_.l_) d r Q := by
 unfold journal_book_add
 obtain ⟨h1, h2⟩ := hj
 have h3 := cntL_le r.label_ h1
 have h4 := hr.2.2
 rw [cut_all, mapL_get]
 refine ⟨by omega, by unfold Rm; simp; omega, by unfold Ck; omega, ?_⟩
 rw [mapL_snoc, addM, mapL_get] at hQ
 exact hQ
def ck2 (j : journal_Journal) (d : disk_Disk) : Int × journal_Journal × disk_Disk :=
 if (wipeD d 0).1 ≠ 0 then ((wipeD d 0).1, j, (wipeD d 0).2) else
  ((appendD (wipeD d 0).2 0 (headB j.gen_ (j.book_.l_.length : Int))).1, j, (appendD (wipeD d 0).2 0 (headB j.gen_ (j.book_.l_.length : Int))).2)
def saveB (g : Int) (l : List journal_record) : List UInt8 := headB g (l.length : Int) ++ tellsB 0 l
def ck1 (j : journal_Journal) (p : Int) (d : disk_Disk) : Int × journal_Journal × disk_Disk :=
 if (appendD d p (saveB (j.gen_ + 1) j.book_.l_)).1 ≠ 0 then ((appendD d p (saveB (j.gen_ + 1) j.book_.l_)).1, j, (appendD d p (saveB (j.gen_ + 1) j.book_.l_)).2) else
  ck2 ⟨j.book_, j.gen_ + 1, p⟩ (appendD d p (saveB (j.gen_ + 1) j.book_.l_)).2
def otherP (p : Int) : Int := if p = 1 then 2 else 1
def checkJ (j : journal_Journal) (d : disk_Disk) : Int × journal_Journal × disk_Disk :=
 if j.gen_ ≥ 1099511627776 then (5, j, d) else if (wipeD d (otherP j.place_)).1 ≠ 0 then ((wipeD d (otherP j.place_)).1, j, (wipeD d (otherP j.place_)).2) else
  ck1 j (otherP j.place_) (wipeD d (otherP j.place_)).2
theorem journal_Journal_Check_of {j : journal_Journal} {m : List (Int × Int)} {d : disk_Disk} {Q : Int → journal_Journal → disk_Disk → Prop} (hj : JB j.book_.l_) (hg : 0 ≤ j.gen_) (hd : DiskOk d)
  (hQ : Q (checkJ j d).1 (checkJ j d).2.1 (checkJ j d).2.2) : journal_Journal_Check j m d Q := by
 unfold journal_Journal_Check
 unfold checkJ at hQ
 obtain ⟨hj1, hj2⟩ := hj
 refine ⟨fun h => by simp at h, fun _ => ⟨fun h => ?_, fun h => ⟨by unfold Ck; omega, ?_⟩⟩⟩
 ·
  rw [if_pos h] at hQ; exact hQ
 ·
  rw [if_neg h] at hQ
  refine ⟨fun p => p = otherP j.place_, ?_, ⟨fun h => by rw [otherP, if_pos h], fun h => by rw [otherP, if_neg h]⟩⟩
  rintro p rfl
  refine journal_head_of ⟨fun s => s = saveB (j.gen_ + 1) j.book_.l_, ?_, ?_⟩
  ·
   rintro s rfl
   refine disk_Disk_Wipe_of hd ⟨fun h => ?_, fun h => ?_⟩
   ·
    rw [if_pos h] at hQ; exact hQ
   ·
    rw [if_neg h] at hQ
    have hd1 := wipeD_ok hd (otherP j.place_)
    unfold ck1 at hQ
    refine disk_Disk_Append_of hd1 ⟨fun h => ?_, fun h => ?_⟩
    ·
     rw [if_pos h] at hQ; exact hQ
    ·
     rw [if_neg h] at hQ
     have hd2 := appendD_ok hd1 (otherP j.place_) (saveB (j.gen_ + 1) j.book_.l_)
     unfold ck2 at hQ
     refine disk_Disk_Wipe_of hd2 ⟨fun h => ?_, fun h => ?_⟩
     ·
      rw [if_pos h] at hQ; exact hQ
     ·
      rw [if_neg h] at hQ
      exact journal_head_of (disk_Disk_Append_of (wipeD_ok hd2 0) hQ)
  ·
   refine lp2_inv j.book_.l_.length (fun k s i => i = (k : Int) ∧ s = headB (j.gen_ + 1) (j.book_.l_.length : Int) ++ tellsB 0 (j.book_.l_.take k)) ⟨rfl, by simp [tellsB]⟩ ?_ ?_
   ·
    rintro k hk s i ⟨rfl, rfl⟩ next hnext
    refine ⟨fun _ => ⟨j.book_.l_[k], At.get hk, journal_tell_of (hj1 _ (List.getElem_mem hk)).2.2 ?_⟩, fun h => absurd (by omega) h⟩
    have h1 := tellsB_len 0 (j.book_.l_.take k) (fun r hr => hj1 r (List.mem_of_mem_take hr))
    have h2 := (hj1 _ (List.getElem_mem hk)).2.2
    rw [List.length_take] at h1
    refine ⟨?_, by unfold Ck; omega, hnext _ _ ⟨by omega, ?_⟩⟩
    ·
     unfold Rm; rw [List.length_append, headB_len, tellB_len]; omega
    ·
     rw [take_succ' hk, tellsB_snoc, List.length_take, Nat.min_eq_left (by omega), List.append_assoc, Int.zero_add]
   ·
    rintro s i ⟨rfl, rfl⟩ next
    exact ⟨fun h => absurd h (by omega), fun _ => by rw [List.take_length]; rfl⟩
def putJ (j : journal_Journal) (d : disk_Disk) (w : Int) (b : List UInt8) : Int × journal_Journal × disk_Disk :=
 if w < 0 ∨ 32 ≤ w then (10, j, d) else if 16320 < b.length then (4, j, d) else
  if (appendD d 0 (tellB (j.book_.l_.length : Int) ⟨w, b⟩)).1 ≠ 0 then ((appendD d 0 (tellB (j.book_.l_.length : Int) ⟨w, b⟩)).1, j, (appendD d 0 (tellB (j.book_.l_.length : Int) ⟨w, b⟩)).2)
  else (0, ⟨⟨j.book_.l_ ++ [⟨w, b⟩]⟩, j.gen_, j.place_⟩, (appendD d 0 (tellB (j.book_.l_.length : Int) ⟨w, b⟩)).2)
theorem journal_Journal_Put_of {j : journal_Journal} {d : disk_Disk} {w : Int} {b : List UInt8} {Q : Int → journal_Journal → List (Int × Int) → disk_Disk → Prop} (hj : JB j.book_.l_) (hd : DiskOk d)
  (hQ : Q (putJ j d w b).1 (putJ j d w b).2.1 (mapL (putJ j d w b).2.1.book_.l_) (putJ j d w b).2.2) : journal_Journal_Put j (mapL j.book_.l_) d w b Q := by
 unfold journal_Journal_Put
 unfold putJ at hQ
 refine ⟨fun h => by simp at h, fun _ => ⟨fun x => x = decide (w < 0 ∨ 32 ≤ w), ?_, ⟨fun h => by simp [h], fun h => ?_⟩⟩⟩
 ·
  rintro x rfl
  refine ⟨fun h => ?_, fun h => ⟨fun h1 => ?_, fun h1 => ?_⟩⟩
  ·
   rw [if_pos (of_decide_eq_true h)] at hQ; exact hQ
  ·
   rw [if_neg (of_decide_eq_false h), if_pos (by omega)] at hQ; exact hQ
  ·
   have h0 := of_decide_eq_false h
   rw [if_neg h0, if_neg (by omega)] at hQ
   refine slices_Clone_of (by omega) (journal_tell_of (by dsimp only; omega) (disk_Disk_Append_of hd ⟨fun h => ?_, fun h => ?_⟩))
   ·
    rw [if_pos h] at hQ; exact hQ
   ·
    rw [if_neg h] at hQ
    exact journal_book_add_of hj ⟨by dsimp only; omega, by dsimp only; omega, by dsimp only; omega⟩ hQ
 ·
  show decide _ = decide _
  congr 1
  exact propext ⟨fun k => Or.inr k, fun k => by omega⟩
end Go.Lx

namespace Go.Lx
theorem endE_zero {b : List UInt8} {p : Nat} {e : Int} (h : endE b p e = 0) : e = 0 ∧ b.length ≤ p := by
 unfold endE at h
 split at h
 ·
  cases h
 ·
  rename_i h2
  exact ⟨h, Nat.not_lt.1 fun k => h2 ⟨h, k⟩⟩
theorem withR_zero {b : List UInt8} {p : Nat} {e lo hi : Int} (h : (withR b p e lo hi).2.2 = 0) : e = 0 ∧ lo ≤ (withR b p e lo hi).1 ∧ (withR b p e lo hi).1 ≤ hi := by
 unfold withR at h ⊢
 split at h
 ·
  rename_i h1; exact absurd h h1
 ·
  rename_i h1
  rw [if_neg h1]
  split at h
  ·
   rename_i h2; exact absurd h h2
  ·
   rename_i h2
   rw [if_neg h2]
   split at h
   ·
    cases h
   ·
    rename_i h3
    rw [if_neg h3]
    exact ⟨Decidable.not_not.1 h1, by dsimp only; omega, by dsimp only; omega⟩
theorem bytesR_zero {b : List UInt8} {p : Nat} {e most : Int} (h : (bytesR b p e most).2.2 = 0) : e = 0 := by
 unfold bytesR at h
 split at h
 ·
  rename_i h1; exact absurd h h1
 ·
  rename_i h1; exact Decidable.not_not.1 h1
theorem readR_ok {x : List UInt8} {n : Int} (h : (readR x n).2 = true) : RecOk (readR x n).1 := by
 have h := (of_decide_eq_true h).1
 have h3 := (endE_zero h).1
 have h2 : (rd2 x).2.2 = 0 := bytesR_zero (p := (rd2 x).2.1) (most := 16320) h3
 obtain ⟨_, h4, h5⟩ := withR_zero (b := x) (p := (rd1 x).2.1) (e := (rd1 x).2.2) (lo := 0) (hi := 31) h2
 refine ⟨h4, h5, ?_⟩
 show (rd3 x).1.length ≤ 16320
 unfold rd3 at h3 ⊢
 rw [h2] at h3 ⊢
 have := (bytesR_ok h3).2.2.1
 omega
theorem hdE_ok {x : List UInt8} (h : hdE x = 0) : 1 ≤ (hd1 x).1 ∧ (hd1 x).1 ≤ 1099511627776 ∧ 0 ≤ (hd2 x).1 ∧ (hd2 x).1 ≤ 1099511627776 := by
 have h3 := (endE_zero h).1
 obtain ⟨h2, h4, h5⟩ := withR_zero (b := x) (p := (hd1 x).2.1) (e := (hd1 x).2.2) (lo := 0) (hi := 1099511627776) h3
 obtain ⟨_, h6, h7⟩ := withR_zero (b := x) (p := 0) (e := 0) (lo := 1) (hi := 1099511627776) h2
 exact ⟨h6, h7, h4, h5⟩
theorem readsR_ok : ∀ (t : List (List UInt8)) (s : Int), (∀ r ∈ (readsR t s).1, RecOk r) ∧ (readsR t s).1.length ≤ t.length
 | [], s => ⟨fun r h => (List.not_mem_nil h).elim, Nat.le_refl _⟩
 | x :: t, s => by
  have ih := readsR_ok t (s + 1)
  unfold readsR
  split
  ·
   exact ⟨fun r h => (List.not_mem_nil h).elim, Nat.zero_le _⟩
  ·
   rename_i h
   refine ⟨fun r hr => ?_, by simp only [List.length_cons]; omega⟩
   rcases List.mem_cons.1 hr with rfl | hr
   ·
    exact readR_ok (by simpa using h)
   ·
    exact ih.1 r hr
theorem openedR_ok (b : List UInt8) (kn : Int → Int → Int × Bool) :
  (∀ r ∈ (openedR b kn).2.2.1, RecOk r) ∧ 12 * (openedR b kn).2.2.1.length ≤ b.length ∧ ((openedR b kn).2.2.2.2 = false → openedR b kn = (0, 0, [], false, false)) ∧ 0 ≤ (openedR b kn).1 ∧ (openedR b kn).1 ≤ 1099511627776 := by
 have hlen := allR_len b
 unfold openedR
 split
 ·
  exact ⟨fun r h => (List.not_mem_nil h).elim, by simp, fun _ => rfl, by decide, by decide⟩
 ·
  rename_i x t hx
  rw [hx, List.length_cons] at hlen
  split
  ·
   exact ⟨fun r h => (List.not_mem_nil h).elim, by simp, fun _ => rfl, by decide, by decide⟩
  ·
   rename_i he
   split
   ·
    exact ⟨fun r h => (List.not_mem_nil h).elim, by simp, fun _ => rfl, by decide, by decide⟩
   ·
    have h := readsR_ok t (kn (hd1 x).1 (hd2 x).1).1
    have h2 := hdE_ok (Decidable.not_not.1 he)
    exact ⟨h.1, by dsimp only; omega, fun h => by simp at h, by dsimp only; omega, by dsimp only; omega⟩
def kn1 : Int → Int → Int × Bool := fun _ _ => (0, true)
def goodSave (o : Int × Int × List journal_record × Bool × Bool) : Bool := o.2.2.2.2 && (o.2.2.2.1 && decide (o.2.1 = (o.2.2.1.length : Int)))
def bestStep (d : disk_Disk) (a : Int × Int × List journal_record) (i : Int) : Int × Int × List journal_record :=
 if goodSave (openedR (fileD d i) kn1) = true ∧ a.1 < (openedR (fileD d i) kn1).1 then ((openedR (fileD d i) kn1).1, i, (openedR (fileD d i) kn1).2.2.1) else a
def bestD (d : disk_Disk) : Int × Int × List journal_record := bestStep d (bestStep d (0, 0, []) 1) 2
def openK (a : Int × Int × List journal_record) (d : disk_Disk) : Int × disk_Disk × Option journal_Journal :=
 if (openedR (fileD d 0) (kn2 a.1 a.2.2)).2.2.2.1 = true then (0, d, some ⟨⟨a.2.2 ++ (openedR (fileD d 0) (kn2 a.1 a.2.2)).2.2.1⟩, a.1, a.2.1⟩)
 else if (checkJ ⟨⟨a.2.2 ++ (openedR (fileD d 0) (kn2 a.1 a.2.2)).2.2.1⟩, a.1, a.2.1⟩ d).1 ≠ 0 then
  ((checkJ ⟨⟨a.2.2 ++ (openedR (fileD d 0) (kn2 a.1 a.2.2)).2.2.1⟩, a.1, a.2.1⟩ d).1, (checkJ ⟨⟨a.2.2 ++ (openedR (fileD d 0) (kn2 a.1 a.2.2)).2.2.1⟩, a.1, a.2.1⟩ d).2.2, none)
 else (0, (checkJ ⟨⟨a.2.2 ++ (openedR (fileD d 0) (kn2 a.1 a.2.2)).2.2.1⟩, a.1, a.2.1⟩ d).2.2, some (checkJ ⟨⟨a.2.2 ++ (openedR (fileD d 0) (kn2 a.1 a.2.2)).2.2.1⟩, a.1, a.2.1⟩ d).2.1)
def openJ (d : disk_Disk) : Int × disk_Disk × Option journal_Journal := if ableD d 0 ≠ 0 then (ableD d 0, d, none) else openK (bestD d) d
theorem bestStep_ok (d : disk_Disk) (hd : DiskOk d) (a : Int × Int × List journal_record) (i : Int) (h : (∀ r ∈ a.2.2, RecOk r) ∧ a.2.2.length ≤ 2000000 ∧ 0 ≤ a.1) :
  (∀ r ∈ (bestStep d a i).2.2, RecOk r) ∧ (bestStep d a i).2.2.length ≤ 2000000 ∧ 0 ≤ (bestStep d a i).1 := by
 unfold bestStep
 have ho := openedR_ok (fileD d i) kn1
 have hf := hd.file i
 split
 ·
  exact ⟨ho.1, by dsimp only; omega, ho.2.2.2.1⟩
 ·
  exact h
theorem bestD_ok {d : disk_Disk} (hd : DiskOk d) : (∀ r ∈ (bestD d).2.2, RecOk r) ∧ (bestD d).2.2.length ≤ 2000000 ∧ 0 ≤ (bestD d).1 :=
 bestStep_ok d hd _ 2 (bestStep_ok d hd _ 1 ⟨fun r h => (List.not_mem_nil h).elim, by simp, by simp⟩)
theorem ableD_in (d : disk_Disk) {i : Int} (h : 0 ≤ i ∧ i < 3) : ableD d i = ableD d 0 := by
 unfold ableD
 rw [if_neg (show ¬ (i < 0 ∨ 3 ≤ i) by omega), if_neg (show ¬ ((0 : Int) < 0 ∨ 3 ≤ (0 : Int)) by omega)]
theorem JB.append {l : List journal_record} (hl : JB l) {r : journal_record} (hr : RecOk r) (h : l.length < 100000000) : JB (l ++ [r]) := by
 refine ⟨fun x hx => ?_, by simp; omega⟩
 rcases List.mem_append.1 hx with hx | hx
 ·
  exact hl.1 x hx
 ·
  rw [List.mem_singleton.1 hx]; exact hr
theorem adds_loop {l0 : List journal_record} {g p : Int} {d : disk_Disk} {t : List journal_record} {J : journal_Journal → List (Int × Int) → Prop}
  (hl0 : JB (l0 ++ t)) (hJ : J ⟨⟨l0 ++ t⟩, g, p⟩ (mapL (l0 ++ t))) :
  Lp3 (fun (x111_72 : Int) (yb4__72 : journal_Journal) (ym3__72 : List (Int × Int)) next72_ => ((x111_72 < (t.length : Int)) → (∃ x78_, At t x111_72 x78_ ∧ journal_book_add yb4__72 ym3__72 d x78_ fun (y82_o0 : journal_Journal) (y82_o1 : List (Int × Int)) => Ck (x111_72 + 1) ∧ next72_ (x111_72 + 1) y82_o0 y82_o1)) ∧ (¬ (x111_72 < (t.length : Int)) → (J yb4__72 ym3__72))) 0 ⟨⟨l0⟩, g, p⟩ (mapL l0) := by
 obtain ⟨h1, h2⟩ := hl0
 rw [List.length_append] at h2
 refine lp3_inv t.length (fun k i j m => i = (k : Int) ∧ j = ⟨⟨l0 ++ t.take k⟩, g, p⟩ ∧ m = mapL (l0 ++ t.take k)) ⟨rfl, by simp, by simp⟩ ?_ ?_
 ·
  rintro k hk i j m ⟨rfl, rfl, rfl⟩ next hnext
  refine ⟨fun _ => ⟨t[k], At.get hk, journal_book_add_of (j := ⟨⟨l0 ++ t.take k⟩, g, p⟩) ⟨fun r hr => h1 r ?_, ?_⟩ (h1 _ (List.mem_append_right _ (List.getElem_mem hk))) ⟨by unfold Ck; omega, hnext _ _ _ ⟨by omega, ?_, ?_⟩⟩⟩, fun h => absurd (by omega) h⟩
  ·
   rcases List.mem_append.1 hr with hr | hr
   ·
    exact List.mem_append_left _ hr
   ·
    exact List.mem_append_right _ (List.mem_of_mem_take hr)
  ·
   simp only [List.length_append, List.length_take]; omega
  ·
   rw [take_succ' hk, List.append_assoc]
  ·
   rw [take_succ' hk, List.append_assoc]
 ·
  rintro i j m ⟨rfl, rfl, rfl⟩ next
  exact ⟨fun h => absurd h (by omega), fun _ => by rw [List.take_length]; exact hJ⟩
theorem journal_Open_of {d : disk_Disk} {Q0 : Int → disk_Disk → Prop} {Q1 : Int → disk_Disk → journal_Journal → List (Int × Int) → Prop} (hd : DiskOk d)
  (h0 : (openJ d).2.2 = none → Q0 (openJ d).1 (openJ d).2.1) (h1 : ∀ j, (openJ d).2.2 = some j → Q1 0 (openJ d).2.1 j (mapL j.book_.l_)) : journal_Open d Q0 Q1 := by
 unfold journal_Open
 unfold openJ at h0 h1
 have hb := bestD_ok hd
 by_cases ha : ableD d 0 ≠ 0
 ·
  rw [if_pos ha] at h0
  refine ⟨_, fun _ _ h => h, ?_⟩
  refine lp3_inv 3 (fun k i _ _ => k = 0 ∧ i = 1) ⟨rfl, rfl⟩ ?_ (fun _ _ _ h => absurd h.1 (by omega))
  rintro k hk i j l ⟨rfl, rfl⟩ next hnext
  refine ⟨fun _ => ⟨_, fun _ _ h => h, disk_Disk_Read_of hd ?_⟩, fun h => absurd (by omega) h⟩
  have hi := ableD_in d (i := 1) (by omega)
  rw [readD, hi, if_pos ha]
  exact ⟨fun _ => h0 rfl, fun h => absurd ha h⟩
 ·
  rw [if_neg ha] at h0 h1
  refine ⟨fun j l => j = ⟨⟨[]⟩, (bestD d).1, (bestD d).2.1⟩ ∧ l = (bestD d).2.2, ?_, ?_⟩
  ·
   rintro j l ⟨rfl, rfl⟩
   refine ⟨fun j m => j = ⟨⟨(bestD d).2.2⟩, (bestD d).1, (bestD d).2.1⟩ ∧ m = mapL (bestD d).2.2, ?_, ?_⟩
   ·
    rintro j m ⟨rfl, rfl⟩
    refine disk_Disk_Read_of hd ?_
    rw [readD, if_neg ha]
    refine ⟨fun h => absurd rfl h, fun _ => ?_⟩
    unfold openK at h0 h1
    have hf := hd.file 0
    refine journal_opened_v1_of (by dsimp only; omega) (by omega) ?_
    dsimp only
    have ho := openedR_ok (fileD d 0) (kn2 (bestD d).1 (bestD d).2.2)
    generalize openedR (fileD d 0) (kn2 (bestD d).1 (bestD d).2.2) = o at h0 h1 ho ⊢
    obtain ⟨g, m, rs, w, gd⟩ := o
    dsimp only at h0 h1 ho ⊢
    have hall : ∀ r ∈ (bestD d).2.2 ++ rs, RecOk r := by
     intro r hr
     rcases List.mem_append.1 hr with hr | hr
     ·
      exact hb.1 r hr
     ·
      exact ho.1 r hr
    have hJB : JB ((bestD d).2.2 ++ rs) := ⟨hall, by rw [List.length_append]; omega⟩
    refine ⟨fun j m => j = ⟨⟨(bestD d).2.2 ++ rs⟩, (bestD d).1, (bestD d).2.1⟩ ∧ m = mapL ((bestD d).2.2 ++ rs), ?_, fun hg => ?_, fun hg => ?_⟩
    ·
     rintro j m ⟨rfl, rfl⟩
     refine ⟨_, fun _ _ h => h, fun x => x = !w, ?_, ⟨fun h => ?_, fun _ => rfl⟩⟩
     ·
      rintro x rfl
      refine ⟨fun h => ?_, fun h => ?_⟩
      ·
       have hw : ¬ w = true := by simpa using h
       rw [if_neg hw] at h0 h1
       refine journal_Journal_Check_of hJB hb.2.2 hd ⟨fun h => ?_, fun h => ?_⟩
       ·
        rw [if_pos h] at h0; exact h0 rfl
       ·
        rw [if_neg h] at h1
        have h2 := h1 _ rfl
        have e : (checkJ ⟨⟨(bestD d).2.2 ++ rs⟩, (bestD d).1, (bestD d).2.1⟩ d).2.1.book_.l_ = (bestD d).2.2 ++ rs := by
         unfold checkJ
         split
         ·
          rfl
         ·
          split
          ·
           rfl
          ·
           unfold ck1; split
           ·
            rfl
           ·
            unfold ck2; split <;> rfl
        rw [e] at h2
        exact h2
      ·
       have hw : w = true := by simpa using h
       rw [if_pos hw] at h1
       exact h1 _ rfl
     ·
      have hg : gd = false := by simpa using h
      have := ho.2.2.1 hg
      simp only [Prod.mk.injEq] at this
      rw [this.2.2.2.1]; rfl
    ·
     exact adds_loop hJB ⟨rfl, rfl⟩
    ·
     have := ho.2.2.1 hg
     simp only [Prod.mk.injEq] at this
     rw [this.2.2.1, List.append_nil]
     exact ⟨rfl, rfl⟩
   ·
    have := adds_loop (l0 := []) (g := (bestD d).1) (p := (bestD d).2.1) (d := d) (t := (bestD d).2.2) (J := fun j m => j = ⟨⟨(bestD d).2.2⟩, (bestD d).1, (bestD d).2.1⟩ ∧ m = mapL (bestD d).2.2) (by rw [List.nil_append]; exact ⟨hb.1, by omega⟩) ⟨rfl, rfl⟩
    exact this
  ·
   have hstep : ∀ k : Nat, ∀ a : Int × Int × List journal_record, ∀ {next : Int → journal_Journal → List journal_record → Prop}, k < 3 → 0 < k → (next ((k : Int) + 1) ⟨⟨[]⟩, (bestStep d a k).1, (bestStep d a k).2.1⟩ (bestStep d a k).2.2) →
     Jn2 (fun (yb4__16 : journal_Journal) (yb9__16 : List journal_record) => Ck ((k : Int) + 1) ∧ next ((k : Int) + 1) yb4__16 yb9__16) fun J16_ => disk_Disk_Read d k fun (r18_0 : List UInt8) (r18_1 : Int) => ((r18_1 ≠ 0) → (Q0 r18_1 d)) ∧ (¬ (r18_1 ≠ 0) → (journal_opened r18_0 fun (r27_0 : Int) (r27_1 : Int) (r27_2 : List journal_record) (r27_3 : Bool) (r27_4 : Bool) => Jn1 (fun (x69_30 : Bool) => ((x69_30 = true) → (J16_ (journal_Journal.mk (⟨[]⟩ : journal_book) r27_0 k) r27_2)) ∧ ((x69_30 = false) → (J16_ ⟨⟨[]⟩, a.1, a.2.1⟩ a.2.2))) fun J30_ => ((r27_4 = true) → (((r27_3 = true) → (((r27_1 = (r27_2.length : Int)) → (J30_ (decide (r27_0 > a.1)))) ∧ (¬ (r27_1 = (r27_2.length : Int)) → (J30_ false)))) ∧ ((r27_3 = false) → (J30_ false)))) ∧ ((r27_4 = false) → (J30_ false)))) := by
    intro k a next hk hk0 hnext
    refine ⟨_, fun _ _ h => h, disk_Disk_Read_of hd ?_⟩
    have hi := ableD_in d (i := (k : Int)) (by omega)
    rw [readD, hi, if_neg ha]
    refine ⟨fun h => absurd rfl h, fun _ => ?_⟩
    have hf := hd.file (k : Int)
    refine journal_opened_of (by dsimp only; omega) ?_
    unfold bestStep goodSave kn1 at hnext
    dsimp only
    generalize openedR (fileD d (k : Int)) (fun _ _ => (0, true)) = o at hnext ⊢
    obtain ⟨g, m, rs, w, gd⟩ := o
    dsimp only at hnext ⊢
    refine ⟨fun x => x = decide ((gd && (w && decide (m = (rs.length : Int)))) = true ∧ a.1 < g), ?_, ?_⟩
    ·
     rintro x rfl
     refine ⟨fun h => ?_, fun h => ?_⟩
     ·
      rw [if_pos (of_decide_eq_true h)] at hnext
      exact ⟨by unfold Ck; omega, hnext⟩
     ·
      rw [if_neg (of_decide_eq_false h)] at hnext
      exact ⟨by unfold Ck; omega, hnext⟩
    ·
     refine ⟨fun hgd => ⟨fun hw => ⟨fun hm => ?_, fun hm => ?_⟩, fun hw => ?_⟩, fun hgd => ?_⟩
     ·
      rw [hgd, hw, decide_eq_true hm]; simp
     ·
      rw [hgd, hw, decide_eq_false hm]; simp
     ·
      rw [hgd, hw]; simp
     ·
      rw [hgd]; simp
   refine lp3_inv 2 (fun k i j l => i = (k : Int) + 1 ∧ (k = 0 → j = ⟨⟨[]⟩, 0, 0⟩ ∧ l = []) ∧ (k = 1 → j = ⟨⟨[]⟩, (bestStep d (0, 0, []) 1).1, (bestStep d (0, 0, []) 1).2.1⟩ ∧ l = (bestStep d (0, 0, []) 1).2.2) ∧ (k = 2 → j = ⟨⟨[]⟩, (bestD d).1, (bestD d).2.1⟩ ∧ l = (bestD d).2.2)) ⟨rfl, fun _ => ⟨rfl, rfl⟩, fun h => absurd h (by omega), fun h => absurd h (by omega)⟩ ?_ ?_
   ·
    rintro k hk i j l ⟨rfl, e0, e1, e2⟩ next hnext
    refine ⟨fun _ => ?_, fun h => absurd (by omega) h⟩
    obtain rfl | rfl : k = 0 ∨ k = 1 := by omega
    ·
     obtain ⟨rfl, rfl⟩ := e0 rfl
     exact hstep 1 (0, 0, []) (by omega) (by omega) (hnext _ _ _ ⟨by omega, fun h => absurd h (by omega), fun _ => ⟨rfl, rfl⟩, fun h => absurd h (by omega)⟩)
    ·
     obtain ⟨rfl, rfl⟩ := e1 rfl
     exact hstep 2 (bestStep d (0, 0, []) 1) (by omega) (by omega) (hnext _ _ _ ⟨by omega, fun h => absurd h (by omega), fun h => absurd h (by omega), fun _ => ⟨rfl, rfl⟩⟩)
   ·
    rintro i j l ⟨rfl, e0, e1, e2⟩ next
    exact ⟨fun h => absurd h (by omega), fun _ => e2 rfl⟩
end Go.Lx

namespace Go.Lx
def PlaceOk (p : Int) : Prop := p = 1 ∨ p = 2
theorem PlaceOk.ne {p : Int} (h : PlaceOk p) : otherP p ≠ p ∧ p ≠ 0 ∧ otherP p ≠ 0 ∧ otherP (otherP p) = p := by
 rcases h with rfl | rfl <;> decide
theorem JB.take {l : List journal_record} (h : JB l) (m : Nat) : JB (l.take m) := ⟨fun r hr => h.1 r (List.mem_of_mem_take hr), by have := h.2; rw [List.length_take]; omega⟩
theorem JB.drop {l : List journal_record} (h : JB l) (m : Nat) : JB (l.drop m) := ⟨fun r hr => h.1 r (List.mem_of_mem_drop hr), by have := h.2; rw [List.length_drop]; omega⟩
end Go.Lx

namespace Go.Lx
theorem journal_Journal_At_of {j : journal_Journal} {m : List (Int × Int)} {d : disk_Disk} {i : Nat} {r : journal_record} {Q : Int → List UInt8 → Bool → Prop} (hr : j.book_.l_[i]? = some r) (hR : RecOk r) (hQ : Q r.label_ r.data_ true) : journal_Journal_At j m d i Q := by
 unfold journal_Journal_At
 obtain ⟨hi, _⟩ := List.getElem?_eq_some_iff.1 hr
 have h3 := hR.2.2
 refine ⟨fun x => x = false, ?_, ⟨fun h => by simp at h, fun _ => ⟨fun h => absurd h (by omega), fun _ => decide_eq_false (by omega)⟩⟩⟩
 rintro x rfl
 exact ⟨fun h => by simp at h, fun _ => ⟨r, At.nat hr, r, At.nat hr, slices_Clone_of (by omega) hQ⟩⟩
theorem journal_Journal_Len_of {j : journal_Journal} {m : List (Int × Int)} {d : disk_Disk} {Q : Int → Prop} (hQ : Q (j.book_.l_.length : Int)) : journal_Journal_Len j m d Q := ⟨fun h => by simp at h, fun _ => hQ⟩
theorem journal_Journal_Bytes_of {j : journal_Journal} {d : disk_Disk} {k : Int} {Q : Int → Prop} (hQ : Q (cntL k j.book_.l_ : Int)) : journal_Journal_Bytes j (mapL j.book_.l_) d k Q := by
 unfold journal_Journal_Bytes
 refine ⟨fun h => by simp at h, fun _ => ?_⟩
 rw [mapL_get]; exact hQ
end Go.Lx

namespace Go.Lx
def dk0 : disk_Disk := ⟨⟨[], [], []⟩, 8388608, false, false, 0⟩
def dk1 : disk_Disk := ⟨⟨headB 1 0, headB 1 0, []⟩, 8388608, false, false, 0⟩
def jn1 : journal_Journal := ⟨⟨[]⟩, 1, 1⟩
theorem open_dk0 : openJ dk0 = (0, dk1, some jn1) := by decide +kernel
theorem dk1_used : usedD dk1 = 56 := by
 show (headB 1 0).length + (headB 1 0).length + 0 = 56
 rw [headB_len]
theorem dk1_ok : DiskOk dk1 := ⟨by decide, by decide, by rw [dk1_used]; decide, by decide, by decide⟩
theorem dk0_ok : DiskOk dk0 := ⟨by decide, by decide, by decide, by decide, by decide⟩
theorem begun_of {Q : Bool → disk_Disk → journal_Journal → List (Int × Int) → Prop} (hQ : Q true dk1 jn1 (mapL [])) : sealskinlaw06_begun Q := by
 unfold sealskinlaw06_begun
 refine disk_New_of (by omega) ?_
 change journal_Open dk0 _ _
 refine journal_Open_of dk0_ok ?_ ?_
 ·
  rw [open_dk0]; intro h; cases h
 ·
  rw [open_dk0]
  intro j hj
  obtain rfl : jn1 = j := by simpa using hj
  exact hQ
def aw1 := putJ jn1 dk1 0 [97]
def aw2 := putJ aw1.2.1 aw1.2.2 3 [98, 99]
def aw3 := armD aw2.2.2 5
def aw4 := putJ aw2.2.1 aw3.2 0 [100]
def aw5 := startD aw4.2.2
def aw6 := openJ aw5.2
def jn6 : journal_Journal := ⟨⟨[⟨0, [97]⟩, ⟨3, [98, 99]⟩]⟩, 2, 2⟩
def aw7 := putJ jn6 aw6.2.1 32 []
theorem aw_facts : aw1.1 = 0 ∧ aw2.1 = 0 ∧ aw3.1 = 0 ∧ aw4.1 = 50 ∧ aw6.1 = 0 ∧ aw6.2.2 = some jn6 ∧ aw7.1 = 10 := by decide +kernel
theorem aw_disks : DiskOk aw1.2.2 ∧ DiskOk aw2.2.2 ∧ DiskOk aw3.2 ∧ DiskOk aw4.2.2 ∧ DiskOk aw5.2 ∧ DiskOk aw6.2.1 := by
 unfold DiskOk; decide +kernel
instance : DecidablePred RecOk := fun r => inferInstanceAs (Decidable (0 ≤ r.label_ ∧ r.label_ ≤ 31 ∧ r.data_.length ≤ 16320))
theorem jb_small {l : List journal_record} (h1 : (l.all fun r => decide (RecOk r)) = true) (h2 : l.length ≤ 100000000) : JB l :=
 ⟨fun r hr => of_decide_eq_true (List.all_eq_true.1 h1 r hr), h2⟩
theorem aw_books : JB jn1.book_.l_ ∧ JB aw1.2.1.book_.l_ ∧ JB aw2.2.1.book_.l_ ∧ JB jn6.book_.l_ :=
 ⟨jb_small (by decide +kernel) (by decide +kernel), jb_small (by decide +kernel) (by decide +kernel), jb_small (by decide +kernel) (by decide +kernel), jb_small (by decide +kernel) (by decide +kernel)⟩
theorem awake_of {Q : Bool → Prop} (hQ : Q true) : sealskinlaw06_awake Q := by
 obtain ⟨f1, f2, f3, f4, f5, f6, f7⟩ := aw_facts
 obtain ⟨k1, k2, k3, k4, k5, k6⟩ := aw_disks
 obtain ⟨b0, b1, b2, b3⟩ := aw_books
 unfold sealskinlaw06_awake
 refine begun_of ⟨fun x d => x = false ∧ d = aw4.2.2, ?_, ⟨fun h => by simp at h, fun _ => ?_⟩⟩
 ·
  rintro x d ⟨rfl, rfl⟩
  refine ⟨fun h => by simp at h, fun _ => disk_Disk_Start_of ?_⟩
  change journal_Open aw5.2 _ _
  have e6 : openJ aw5.2 = aw6 := rfl
  refine journal_Open_of k5 ?_ ?_
  ·
   rw [e6, f6]; intro h; cases h
  ·
   intro j hj
   rw [e6, f6] at hj
   rw [e6]
   obtain rfl : jn6 = j := by simpa using hj
   refine journal_Journal_At_of (i := 1) (r := ⟨3, [98, 99]⟩) rfl (b3.1 _ (List.mem_cons_of_mem _ (List.mem_singleton.2 rfl))) ?_
   refine ⟨fun _ => journal_Journal_Len_of ⟨fun _ => journal_Journal_Bytes_of ⟨fun _ => ⟨fun _ => ⟨fun _ => ⟨fun _ => ?_, fun h => by simp at h⟩, fun h => absurd rfl h⟩, fun h => absurd rfl h⟩, fun h => absurd (by decide +kernel) h⟩, fun h => absurd (by decide +kernel) h⟩, fun h => absurd rfl h⟩
   refine journal_Journal_Put_of b3 k6 ?_
   have e7 : putJ jn6 aw6.2.1 32 [] = aw7 := rfl
   rw [e7, f7]; exact hQ
 ·
  refine journal_Journal_Put_of b0 dk1_ok ⟨fun h => absurd f1 h, fun _ => journal_Journal_Put_of b1 k1 ⟨fun h => absurd f2 h, fun _ => disk_Disk_Arm_of ⟨fun h => absurd f3 h, fun _ => journal_Journal_Put_of b2 k3 ?_⟩⟩⟩
  refine ⟨?_, rfl⟩
  have e4 : putJ aw2.2.1 aw3.2 0 [100] = aw4 := rfl
  have e4 : putJ (putJ (putJ jn1 dk1 0 [97]).2.1 (putJ jn1 dk1 0 [97]).2.2 3 [98, 99]).2.1 (armD (putJ (putJ jn1 dk1 0 [97]).2.1 (putJ jn1 dk1 0 [97]).2.2 3 [98, 99]).2.2 5).2 0 [100] = aw4 := rfl
  rw [e4, f4]; rfl
end Go.Lx

namespace Go.Lx
theorem dead1_of {Q : Bool → Prop} (h : Q true) : journal_Journal_dead_v1 Q := h
theorem dead2_of {j : journal_Journal} {Q : Bool → Prop} (h : Q true) : journal_Journal_dead_v2 j Q := h
theorem at1_of {i : Int} {Q : Int → List UInt8 → Bool → Prop} (h : Q 0 [] false) : journal_Journal_At_v1 i Q := by
 unfold journal_Journal_At_v1
 exact ⟨fun b => b = true, fun b hb => ⟨fun _ => h, fun k => by rw [hb] at k; cases k⟩, dead1_of ⟨fun _ => rfl, fun k => by cases k⟩⟩
theorem at2_of {j : journal_Journal} {i : Int} {Q : Int → List UInt8 → Bool → Prop} (h : Q 0 [] false) : journal_Journal_At_v2 j i Q := by
 unfold journal_Journal_At_v2
 exact ⟨fun b => b = true, fun b hb => ⟨fun _ => h, fun k => by rw [hb] at k; cases k⟩, dead2_of ⟨fun _ => rfl, fun k => by cases k⟩⟩
theorem put1_of {w : Int} {b : List UInt8} {Q : Int → Prop} (h : Q 6) : journal_Journal_Put_v1 w b Q := by
 unfold journal_Journal_Put_v1
 exact dead1_of ⟨fun _ => h, fun k => by cases k⟩
theorem put2_of {j : journal_Journal} {w : Int} {b : List UInt8} {Q : Int → Prop} (h : Q 6) : journal_Journal_Put_v2 j w b Q := by
 unfold journal_Journal_Put_v2
 exact dead2_of ⟨fun _ => h, fun k => by cases k⟩
theorem check1_of {Q : Int → Prop} (h : Q 6) : journal_Journal_Check_v1 Q := by
 unfold journal_Journal_Check_v1
 exact dead1_of ⟨fun _ => h, fun k => by cases k⟩
theorem check2_of {j : journal_Journal} {Q : Int → journal_Journal → Prop} (h : Q 6 j) : journal_Journal_Check_v2 j Q := by
 unfold journal_Journal_Check_v2
 exact dead2_of ⟨fun _ => h, fun k => by cases k⟩
theorem len1_of {Q : Int → Prop} (h : Q 0) : journal_Journal_Len_v1 Q := by
 unfold journal_Journal_Len_v1
 exact dead1_of ⟨fun _ => h, fun k => by cases k⟩
theorem len2_of {j : journal_Journal} {Q : Int → Prop} (h : Q 0) : journal_Journal_Len_v2 j Q := by
 unfold journal_Journal_Len_v2
 exact dead2_of ⟨fun _ => h, fun k => by cases k⟩
theorem bytes1_of {i : Int} {Q : Int → Prop} (h : Q 0) : journal_Journal_Bytes_v1 i Q := by
 unfold journal_Journal_Bytes_v1
 exact dead1_of ⟨fun _ => h, fun k => by cases k⟩
theorem bytes2_of {j : journal_Journal} {i : Int} {Q : Int → Prop} (h : Q 0) : journal_Journal_Bytes_v2 j i Q := by
 unfold journal_Journal_Bytes_v2
 exact dead2_of ⟨fun _ => h, fun k => by cases k⟩
theorem able1_of {i : Int} {Q : Int → Prop} (h : Q 6) : disk_Disk_able_v1 i Q := by
 unfold disk_Disk_able_v1
 exact ⟨fun b => b = true, fun b hb => ⟨fun _ => h, fun k => by rw [hb] at k; cases k⟩, rfl⟩
theorem open_none {Q0 : Int → Prop} {Q1 : Int → journal_Journal → List (Int × Int) → Prop} (h : Q0 6) : journal_Open_v1 Q0 Q1 := by
 unfold journal_Open_v1
 refine ⟨_, fun _ _ h => h, ?_⟩
 refine lp3_inv 3 (fun k i _ _ => k = 0 ∧ i = 1) ⟨rfl, rfl⟩ ?_ (fun _ _ _ h => absurd h.1 (by omega))
 rintro k hk i j l ⟨rfl, rfl⟩ next hnext
 refine ⟨fun _ => ⟨_, fun _ _ h => h, ?_⟩, fun h => absurd (by omega) h⟩
 unfold disk_Disk_Read_v1
 exact able1_of ⟨fun _ => ⟨fun _ => h, fun k => absurd (show (6 : Int) ≠ 0 by decide) k⟩, fun k => absurd (show (6 : Int) ≠ 0 by decide) k⟩
theorem open_zero {d : disk_Disk} {Q0 : Int → disk_Disk → Prop} {Q1 : Int → disk_Disk → journal_Journal → List (Int × Int) → Prop} (hd : d.room_ = 0) (h : Q0 6 d) : journal_Open d Q0 Q1 := by
 unfold journal_Open
 refine ⟨_, fun _ _ h => h, ?_⟩
 refine lp3_inv 3 (fun k i _ _ => k = 0 ∧ i = 1) ⟨rfl, rfl⟩ ?_ (fun _ _ _ h => absurd h.1 (by omega))
 rintro k hk i j l ⟨rfl, rfl⟩ next hnext
 refine ⟨fun _ => ⟨_, fun _ _ h => h, ?_⟩, fun h => absurd (by omega) h⟩
 unfold disk_Disk_Read
 refine disk_Disk_able_of ?_
 rw [ableD, if_pos hd]
 exact ⟨fun _ => ⟨fun _ => h, fun k => absurd (show (6 : Int) ≠ 0 by decide) k⟩, fun k => absurd (show (6 : Int) ≠ 0 by decide) k⟩
theorem JournalNobody_pure (x0 : Int) (x1 : List UInt8) : sealskinlaw06_JournalNobody x0 x1 (fun r => r = true) := by
 unfold sealskinlaw06_JournalNobody
 refine ⟨True, fun _ => ⟨True, fun _ => awake_of rfl, ?_⟩, ?_⟩
 ·
  refine lp2_inv 2 (fun k i d => i = (k : Int) ∧ d.room_ = 0) ⟨rfl, rfl⟩ ?_ ?_
  ·
   rintro k hk i d ⟨rfl, hd⟩ next hnext
   refine ⟨fun _ => ⟨by omega, fun _ => open_none ⟨_, fun _ _ _ h => h, fun h => ?_, fun _ => ⟨by unfold Ck; omega, hnext _ _ ⟨by omega, hd⟩⟩⟩, fun _ => open_zero hd ⟨_, fun _ _ _ h => h, fun h => ?_, fun _ => ⟨by unfold Ck; omega, hnext _ _ ⟨by omega, hd⟩⟩⟩⟩, fun h => absurd (by omega) h⟩
   ·
    exact absurd rfl (of_decide_eq_true h)
   ·
    exact absurd rfl (of_decide_eq_true h)
  ·
   rintro i d ⟨rfl, hd⟩ next
   exact ⟨fun h => absurd h (by omega), fun _ => trivial⟩
 ·
  refine lp2_inv 2 (fun k i j => i = (k : Int)) rfl ?_ ?_
  ·
   rintro k hk i j rfl next hnext
   refine ⟨fun _ => ⟨by omega, fun _ => at1_of ⟨fun b => b = false, ?_, put1_of ⟨fun h => absurd rfl h, fun _ => check1_of ⟨fun h => absurd rfl h, fun _ => len1_of (bytes1_of ⟨by unfold Ck; decide, by unfold Ck; decide, by unfold Ck; decide, fun h => absurd (by decide) h, fun _ => rfl⟩)⟩⟩⟩,
    fun _ => at2_of ⟨fun b _ => b = false, ?_, put2_of ⟨fun h => absurd rfl h, fun _ => check2_of ⟨fun h => absurd rfl h, fun _ => len2_of (bytes2_of ⟨by unfold Ck; decide, by unfold Ck; decide, by unfold Ck; decide, fun h => absurd (by decide) h, fun _ => rfl⟩)⟩⟩⟩⟩, fun h => absurd (by omega) h⟩
   ·
    rintro b rfl
    exact ⟨fun h => by simp at h, fun _ => ⟨by unfold Ck; omega, hnext _ _ (by omega)⟩⟩
   ·
    rintro b j rfl
    exact ⟨fun h => by simp at h, fun _ => ⟨by unfold Ck; omega, hnext _ _ (by omega)⟩⟩
  ·
   rintro i j rfl next
   exact ⟨fun h => absurd h (by omega), fun _ => trivial⟩
theorem JournalNobody_all (x0 : Int) (x1 : List UInt8) (w0 : -9223372036854775808 ≤ x0 ∧ x0 ≤ 9223372036854775807) (w1 : Wb x1) : sealskinlaw06_JournalNobody x0 x1 (fun r => r = true) := JournalNobody_pure x0 x1
end Go.Lx

