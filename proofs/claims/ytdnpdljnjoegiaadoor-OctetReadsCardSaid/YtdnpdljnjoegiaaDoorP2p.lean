/- PLAIN: the document's reader; all blocks. -/
import Derived.Test.YtdnpdljnjoegiaaDoorP2o
import Derived.Test.YtdnpdljnjoegiaaDoorP2e
set_option linter.unusedVariables false
set_option linter.unusedSimpArgs false
namespace Go.Lx
def rrd (b : List UInt8) (p : Nat) (e : Int) : sealskinref02_Reader := ⟨b, p, e⟩
theorem numOf_cons (x : UInt8) (l : List UInt8) : numOf (x :: l) = x.toNat * 256 ^ l.length + numOf l := by
  have : ∀ (l : List UInt8) (a : Nat), l.foldl (fun n x => 256 * n + x.toNat) a = a * 256 ^ l.length + numOf l := by
    intro l
    induction l with
    | nil => intro a; simp [numOf]
    | cons y l ih =>
      intro a
      have e : numOf (y :: l) = y.toNat * 256 ^ l.length + numOf l := by rw [numOf, List.foldl_cons, ih, Nat.mul_zero, Nat.zero_add]
      rw [List.foldl_cons, ih, List.length_cons, Nat.pow_succ, e, Nat.add_mul, Nat.add_assoc, Nat.mul_comm 256 a, Nat.mul_assoc, Nat.mul_comm 256]
  rw [numOf, List.foldl_cons, this, Nat.mul_zero, Nat.zero_add]
theorem numOf_big {x : UInt8} {l : List UInt8} (h : l.length = 7) : 127 < x.toNat ↔ 9223372036854775807 < numOf (x :: l) := by
  have h1 := numOf_lt l
  rw [h] at h1
  rw [numOf_cons, h]
  omega
theorem sealskinref02_number_of {b : List UInt8} {Q : Int → Int → Prop} (hQ : Q (numE b).1 (numE b).2) : sealskinref02_number b Q := by
  unfold sealskinref02_number
  refine ⟨fun h => ?_, fun h => ?_⟩
  · rw [numE, if_pos (by omega)] at hQ; exact hQ
  · have hl : 8 ≤ b.length := by omega
    have hl8 : (b.take 8).length = 8 := by rw [List.length_take]; omega
    obtain ⟨x, l, hx⟩ : ∃ x l, b.take 8 = x :: l := by
      cases hb : b.take 8 with
      | nil => rw [hb] at hl8; cases hl8
      | cons x l => exact ⟨x, l, rfl⟩
    have hll : l.length = 7 := by rw [hx, List.length_cons] at hl8; omega
    have h0 : b[0]? = some x := by have := congrArg (·[0]?) hx; simpa [List.getElem?_take] using this
    rw [numE, if_neg (by omega)] at hQ
    have hbig := numOf_big (x := x) hll
    rw [← hx] at hbig
    refine ⟨x, At.nat (k := 0) h0, fun h => ?_, fun h => ?_⟩
    · rw [if_pos (hbig.1 (by omega))] at hQ; exact hQ
    · have hn : ¬ 9223372036854775807 < numOf (b.take 8) := fun k => h (by have := hbig.2 k; omega)
      rw [if_neg hn] at hQ
      refine ⟨fun n => n = (numOf (b.take 8) : Int), fun n hn => hn ▸ hQ, ?_⟩
      have hmono : ∀ k, k ≤ 8 → numOf (b.take k) ≤ numOf (b.take 8) := by
        intro k hk
        have : ∀ j, numOf (b.take k) ≤ numOf (b.take (k + j)) := by
          intro j
          induction j with
          | zero => exact Nat.le_refl _
          | succ j ih =>
            by_cases hlt : k + j < b.length
            · rw [← Nat.add_assoc, take_succ' hlt, numOf_snoc]; omega
            · rw [← Nat.add_assoc, List.take_of_length_le (show b.length ≤ k + j + 1 by omega), ← List.take_of_length_le (show b.length ≤ k + j by omega)]
              rw [List.take_of_length_le (show b.length ≤ k + j by omega)] at ih ⊢
              exact ih
        have := this (8 - k)
        rwa [show k + (8 - k) = 8 by omega] at this
      refine lp2_inv 8 (fun k n i => i = (k : Int) ∧ n = (numOf (b.take k) : Int)) ⟨rfl, rfl⟩ ?_ ?_
      · rintro k hk n i ⟨rfl, rfl⟩ next hnext
        have h1 := hmono (k + 1) (by omega)
        rw [take_succ' (by omega), numOf_snoc] at h1
        exact ⟨fun _ => ⟨by unfold Ck; omega, b[k], At.get (by omega), by unfold Ck; omega, by unfold Ck; omega, hnext _ _ ⟨by omega, by rw [take_succ' (by omega), numOf_snoc]; omega⟩⟩, fun h => absurd (by omega) h⟩
      · rintro n i ⟨rfl, rfl⟩ next
        exact ⟨fun h => absurd h (by omega), fun _ => rfl⟩
theorem sealskinref02_Reader_Number_of {b : List UInt8} {p : Nat} {e : Int} {Q : Int → sealskinref02_Reader → Prop} (hb : b.length ≤ 1000000000000) (hp : p ≤ b.length)
    (hQ : Q (numR b p e).1 (rrd b (numR b p e).2.1 (numR b p e).2.2)) : sealskinref02_Reader_Number (rrd b p e) Q := by
  unfold sealskinref02_Reader_Number
  refine ⟨fun h => ?_, fun h => ?_⟩
  · replace h : e ≠ 0 := h
    rw [numR, if_pos h] at hQ; exact hQ
  · have h0 : e = 0 := Decidable.not_not.1 h
    subst h0
    refine ⟨by simp [rrd], by simp [rrd]; omega, ?_⟩
    show sealskinref02_number (cut b (p : Int) (b.length : Int)) _
    rw [cut_back]
    refine sealskinref02_number_of ⟨fun h2 => ?_, fun h2 => ?_⟩
    · rw [numR_err h2] at hQ; exact hQ
    · have h2 := Decidable.not_not.1 h2
      rw [numR_ok h2] at hQ
      exact ⟨by unfold Ck; simp [rrd]; omega, hQ⟩
theorem sealskinref02_Reader_Within_of {b : List UInt8} {p : Nat} {e lo hi : Int} {Q : Int → sealskinref02_Reader → Prop} (hb : b.length ≤ 1000000000000) (hp : p ≤ b.length)
    (hQ : Q (withR b p e lo hi).1 (rrd b (withR b p e lo hi).2.1 (withR b p e lo hi).2.2)) : sealskinref02_Reader_Within (rrd b p e) lo hi Q := by
  unfold sealskinref02_Reader_Within
  refine ⟨fun h => ?_, fun h => ?_⟩
  · replace h : e ≠ 0 := h
    rw [withR, if_pos h] at hQ; exact hQ
  · have h0 : e = 0 := Decidable.not_not.1 h
    subst h0
    rw [withR, if_neg (by decide)] at hQ
    refine ⟨by simp [rrd], by simp [rrd]; omega, ?_⟩
    show sealskinref02_number (cut b (p : Int) (b.length : Int)) _
    rw [cut_back]
    refine sealskinref02_number_of ?_
    generalize numE (b.drop p) = r at hQ
    obtain ⟨n, e2⟩ := r
    dsimp only at hQ ⊢
    refine ⟨_, fun _ h => h, fun x => x = decide (e2 = 0 ∧ (n < lo ∨ hi < n)), ?_, ⟨fun h1 => ⟨fun h2 => by simp [h1, h2], fun h2 => by simp [h1, h2]⟩, fun h1 => by simp [h1]⟩⟩
    rintro x rfl
    by_cases h1 : e2 = 0
    · subst h1
      rw [if_neg (by decide)] at hQ
      by_cases h2 : n < lo ∨ hi < n
      · rw [if_pos h2] at hQ
        exact ⟨fun _ => ⟨fun _ => hQ, fun h => absurd (show (5 : Int) ≠ 0 by decide) h⟩, fun h => by simp [h2] at h⟩
      · rw [if_neg h2] at hQ
        exact ⟨fun h => by simp [h2] at h, fun _ => ⟨fun h => absurd rfl h, fun _ => ⟨by unfold Ck; simp [rrd]; omega, hQ⟩⟩⟩
    · rw [if_pos h1] at hQ
      exact ⟨fun h => by simp [h1] at h, fun _ => ⟨fun _ => hQ, fun h => absurd h1 h⟩⟩
theorem sealskinref02_Reader_Bytes_of {b : List UInt8} {p : Nat} {e most : Int} {Q : List UInt8 → sealskinref02_Reader → Prop} (hb : b.length ≤ 1000000000000) (hp : p ≤ b.length)
    (hQ : Q (bytesR b p e most).1 (rrd b (bytesR b p e most).2.1 (bytesR b p e most).2.2)) : sealskinref02_Reader_Bytes (rrd b p e) most Q := by
  unfold sealskinref02_Reader_Bytes
  refine ⟨fun h => ?_, fun h => ?_⟩
  · replace h : e ≠ 0 := h
    rw [bytesR, if_pos h] at hQ; exact hQ
  · have h0 : e = 0 := Decidable.not_not.1 h
    subst h0
    rw [bytesR, if_neg (by decide)] at hQ
    refine ⟨by simp [rrd], by simp [rrd]; omega, ?_⟩
    show sealskinref02_number (cut b (p : Int) (b.length : Int)) _
    rw [cut_back]
    refine sealskinref02_number_of ?_
    have hok := numE_ok (b := b.drop p)
    generalize numE (b.drop p) = r at hQ hok
    obtain ⟨n, e2⟩ := r
    dsimp only at hQ hok ⊢
    by_cases h1 : e2 = 0
    · subst h1
      rw [if_neg (by decide)] at hQ
      obtain ⟨h8, hlo, hhi, _⟩ := hok rfl
      rw [List.length_drop] at h8
      obtain ⟨m, rfl⟩ : ∃ m : Nat, n = (m : Int) := ⟨n.toNat, by omega⟩
      rw [Int.toNat_natCast] at hQ
      refine ⟨fun x => x = if max most 0 < (m : Int) then 4 else 0, ?_, fun x => x = decide (max most 0 < (m : Int)), ?_, fun _ => ⟨fun h2 => ?_, fun h2 => ?_⟩, fun h => absurd rfl h⟩
      · rintro x rfl
        refine ⟨fun x => x = if max most 0 < (m : Int) then 4 else if b.length - (p + 8) < m then 2 else 0, ?_, fun x => x = decide (¬ max most 0 < (m : Int) ∧ b.length - (p + 8) < m), ?_, fun h2 => ⟨by unfold Ck; simp [rrd]; omega, by unfold Ck; simp [rrd]; omega, ?_⟩, fun h2 => ?_⟩
        · rintro x rfl
          by_cases h3 : max most 0 < (m : Int)
          · rw [if_pos h3] at hQ ⊢
            exact ⟨fun _ => hQ, fun h => absurd (show (4 : Int) ≠ 0 by decide) h⟩
          · rw [if_neg h3] at hQ ⊢
            by_cases h4 : b.length - (p + 8) < m
            · rw [if_pos h4] at hQ ⊢
              exact ⟨fun _ => hQ, fun h => absurd (show (2 : Int) ≠ 0 by decide) h⟩
            · rw [if_neg h4] at hQ ⊢
              have e1 : ((p : Int) + 8) = ((p + 8 : Nat) : Int) := by omega
              have e2 : ((p + 8 : Nat) : Int) + (m : Int) = ((p + 8 + m : Nat) : Int) := by omega
              refine ⟨fun h => absurd rfl h, fun _ => ?_⟩
              simp only [rrd, e1, e2, cut_nat, Nat.add_sub_cancel_left, List.nil_append]
              exact ⟨by unfold Ck; omega, by unfold Ck; omega, by omega, by omega, by omega, by unfold Rm; simp; omega, hQ⟩
        · rintro x rfl
          by_cases h3 : max most 0 < (m : Int)
          · simp [h3]
          · by_cases h4 : b.length - (p + 8) < m
            · simp [h3, h4]
            · simp [h3, h4]
        · have h3 : ¬ max most 0 < (m : Int) := fun h => by rw [if_pos h] at h2; exact absurd h2 (by decide)
          show decide _ = decide _
          congr 1
          simp only [rrd]
          refine propext ⟨fun h => ⟨h3, by omega⟩, fun h => by omega⟩
        · have h3 : max most 0 < (m : Int) := Decidable.byContradiction fun h => by rw [if_neg h] at h2; exact absurd rfl h2
          simp [h3]
      · rintro x rfl
        by_cases h3 : max most 0 < (m : Int)
        · simp [h3]
        · simp [h3]
      · show decide _ = decide _
        congr 1
        exact propext ⟨fun h => by omega, fun h => by omega⟩
      · have : ¬ max most 0 < (m : Int) := by omega
        simp [this]
    · rw [if_pos h1] at hQ
      refine ⟨fun x => x = e2, ?_, fun x => x = false, fun x hx => ⟨fun h => by simp [hx] at h, fun _ => rfl⟩, fun h => absurd h h1, fun _ => rfl⟩
      rintro x rfl
      refine ⟨fun y => y = x, fun y hy => ⟨fun _ => ?_, fun h => absurd (hy ▸ h1) h⟩, fun y => y = false, fun y hy => ⟨fun h => by simp [hy] at h, fun _ => rfl⟩, fun h => absurd h h1, fun _ => rfl⟩
      rw [hy]; exact hQ
theorem sealskinref02_Reader_Left_of {b : List UInt8} {p : Nat} {e : Int} {Q : Int → Prop} (hb : b.length ≤ 1000000000000) (hp : p ≤ b.length) (hQ : Q ((b.length - p : Nat) : Int)) : sealskinref02_Reader_Left (rrd b p e) Q := by
  unfold sealskinref02_Reader_Left
  have e1 : ((b.length : Int) - (p : Int)) = ((b.length - p : Nat) : Int) := by omega
  refine ⟨by unfold Ck; simp only [rrd]; omega, ?_⟩
  simp only [rrd]
  rw [e1]; exact hQ
theorem sealskinref02_Reader_End_of {b : List UInt8} {p : Nat} {e : Int} {Q : Int → Prop} (hb : b.length ≤ 1000000000000) (hp : p ≤ b.length) (hQ : Q (endE b p e)) : sealskinref02_Reader_End (rrd b p e) Q := by
  unfold sealskinref02_Reader_End
  refine ⟨fun x => x = decide (e = 0 ∧ p < b.length), ?_, fun h => sealskinref02_Reader_Left_of hb hp ?_, fun h => ?_⟩
  · rintro x rfl
    unfold endE at hQ
    by_cases h : e = 0 ∧ p < b.length
    · rw [if_pos h] at hQ; exact ⟨fun _ => hQ, fun k => by simp [h] at k⟩
    · rw [if_neg h] at hQ; exact ⟨fun k => absurd (of_decide_eq_true k) h, fun _ => hQ⟩
  · replace h : e = 0 := h
    show decide _ = decide _
    congr 1
    exact propext ⟨fun k => ⟨h, by omega⟩, fun k => by omega⟩
  · replace h : ¬ e = 0 := h
    simp [h]
theorem sealskinref02_Open_of {b : List UInt8} {Q : List UInt8 → Int → Int → Prop} (hb : b.length ≤ 1000000000000) (hQ : Q (openR b).1 (openR b).2.1 (openR b).2.2) : sealskinref02_Open b Q := by
  unfold sealskinref02_Open
  refine sealskinref02_Reader_Bytes_of (p := 0) hb (Nat.zero_le _) ?_
  have hle := bytesR_le (b := b) (p := 0) (e := 0) (most := 16384) (Nat.zero_le _)
  have hok := bytesR_ok (b := b) (p := 0) (most := 16384)
  unfold openR at hQ
  generalize bytesR b 0 0 16384 = r at hQ hle hok ⊢
  obtain ⟨d, q, e2⟩ := r
  dsimp only at hQ hle hok ⊢
  refine ⟨fun h => ?_, fun h => ?_⟩
  · replace h : e2 ≠ 0 := h
    rw [if_pos h] at hQ; exact hQ
  · have h0 : e2 = 0 := Decidable.not_not.1 h
    subst h0
    rw [if_neg (by decide)] at hQ
    obtain ⟨h1, h2, h3, h4, h5⟩ := hok rfl
    simp only [Nat.zero_add, List.drop_zero] at h1 h2 h4 h5
    refine sealskinref02_Reader_Left_of hb hle ⟨fun h => ?_, fun h => ?_⟩
    · rw [if_pos (by omega)] at hQ; exact hQ
    · rw [if_neg (by omega)] at hQ
      refine sealskinref02_Seal_of (fun h => by omega) fun _ => ?_
      have e1 : ((q : Int) + 4) = ((q + 4 : Nat) : Int) := by omega
      have hq : b.take q = be8 d.length ++ d := by rw [h1, List.take_add, h4, h5]
      simp only [rrd, e1, cut_front]
      have hiff : blockOf d = b.take (q + 4) ↔ (b.drop q).take 4 = be4 (sumOf (b.take q)) := by
        rw [List.take_add, blockOf, hq]
        exact ⟨fun h => (List.append_cancel_left h).symm, fun h => by rw [h]⟩
      refine ⟨by unfold Ck; omega, by omega, by omega, fun h => ?_, fun h => ?_⟩
      · rw [if_pos (fun k => h (hiff.2 k))] at hQ; exact hQ
      · rw [if_neg (fun k => k (hiff.1 (Decidable.not_not.1 h)))] at hQ
        exact ⟨by unfold Ck; omega, hQ⟩
end Go.Lx
