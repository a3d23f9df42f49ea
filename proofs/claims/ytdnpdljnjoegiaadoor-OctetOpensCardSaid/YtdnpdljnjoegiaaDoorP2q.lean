/- PLAIN: all blocks; the law OctetOpens. -/
import Derived.Test.YtdnpdljnjoegiaaDoorP2p
import Derived.Test.YtdnpdljnjoegiaaDoorOmOpensp
set_option linter.unusedVariables false
set_option linter.unusedSimpArgs false
namespace Go.Lx
def allF : Nat → List UInt8 → List (List UInt8) × Nat
  | 0, _ => ([], 0)
  | f + 1, b => if (openR b).2.2 ≠ 0 then ([], 0) else ((openR b).1 :: (allF f (b.drop ((openR b).1.length + 12))).1, (openR b).1.length + 12 + (allF f (b.drop ((openR b).1.length + 12))).2)
theorem allF_stable : ∀ (f g : Nat) (b : List UInt8), b.length ≤ f → b.length ≤ g → allF f b = allF g b
  | 0, 0, _, _, _ => rfl
  | 0, g + 1, b, h, _ => by
    obtain rfl : b = [] := List.eq_nil_of_length_eq_zero (by omega)
    rfl
  | f + 1, 0, b, _, h => by
    obtain rfl : b = [] := List.eq_nil_of_length_eq_zero (by omega)
    rfl
  | f + 1, g + 1, b, h, k => by
    unfold allF
    split
    · rfl
    · rename_i h0
      obtain ⟨h1, h2, h3, h4⟩ := openR_ok (Decidable.not_not.1 h0)
      rw [allF_stable f g _ (by rw [List.length_drop]; omega) (by rw [List.length_drop]; omega)]
def allR (b : List UInt8) : List (List UInt8) × Nat := allF b.length b
/-- where a loop over all blocks is -/
def AllAt (b : List UInt8) (out : List (List UInt8)) (a : Nat) : Prop := a ≤ b.length ∧ out.length * 12 ≤ a ∧ allR b = (out ++ (allR (b.drop a)).1, a + (allR (b.drop a)).2)
theorem allR_bad {b : List UInt8} (h : (openR b).2.2 ≠ 0) : allR b = ([], 0) := by
  unfold allR
  cases hb : b.length with
  | zero => rfl
  | succ n => rw [allF, if_pos h]
theorem AllAt.start (b : List UInt8) : AllAt b [] 0 := ⟨Nat.zero_le _, by simp, by simp⟩
theorem AllAt.step {b : List UInt8} {out : List (List UInt8)} {a : Nat} (h : AllAt b out a) (h0 : (openR (b.drop a)).2.2 = 0) : AllAt b (out ++ [(openR (b.drop a)).1]) (a + ((openR (b.drop a)).1.length + 12)) := by
  obtain ⟨h1, h2, h3⟩ := h
  obtain ⟨g1, g2, g3, g4⟩ := openR_ok h0
  rw [List.length_drop] at g3
  refine ⟨by omega, by rw [List.length_append, List.length_singleton]; omega, ?_⟩
  have e : allR (b.drop a) = ((openR (b.drop a)).1 :: (allR (b.drop (a + ((openR (b.drop a)).1.length + 12)))).1, (openR (b.drop a)).1.length + 12 + (allR (b.drop (a + ((openR (b.drop a)).1.length + 12)))).2) := by
    have hs : allR (b.drop a) = allF ((b.drop a).length - 1 + 1) (b.drop a) := by rw [allR, Nat.sub_add_cancel (by rw [List.length_drop]; omega)]
    rw [hs, allF, if_neg (by simpa using h0), List.drop_drop, allR, allF_stable ((b.drop a).length - 1) (b.drop (a + ((openR (b.drop a)).1.length + 12))).length _ (by simp only [List.length_drop]; omega) (Nat.le_refl _)]
  rw [h3, e]
  simp [Nat.add_assoc]
theorem AllAt.done {b : List UInt8} {out : List (List UInt8)} {a : Nat} (h : AllAt b out a) (h0 : (openR (b.drop a)).2.2 ≠ 0) : allR b = (out, a) := by
  rw [h.2.2, allR_bad h0]; simp
theorem octet_All_of {b : List UInt8} {Q : List (List UInt8) → Int → Prop} (hb : b.length ≤ 1000000000) (hQ : Q (allR b).1 ((allR b).2 : Nat)) : octet_All b Q := by
  unfold octet_All
  refine ⟨fun m out i => ∃ a : Nat, i = (a : Int) ∧ m = b.length - a ∧ AllAt b out a, b.length, ⟨0, rfl, rfl, AllAt.start b⟩, ?_⟩
  rintro m out i ⟨a, rfl, rfl, hA⟩
  have hle := hA.1
  refine ⟨by omega, by omega, ?_⟩
  rw [cut_back]
  refine octet_Open_of (by rw [List.length_drop]; omega) ⟨fun h => ?_, fun h => ?_⟩
  · rw [hA.done h] at hQ; exact hQ
  · have h0 := Decidable.not_not.1 h
    obtain ⟨g1, g2, g3, g4⟩ := openR_ok h0
    rw [List.length_drop] at g3
    have h12 := hA.2.1
    rw [g2]
    exact ⟨by unfold Rm; simp; omega, by unfold Ck; omega, b.length - (a + ((openR (b.drop a)).1.length + 12)), by omega, a + ((openR (b.drop a)).1.length + 12), by omega, rfl, hA.step h0⟩
theorem sealskinref02_All_of {b : List UInt8} {Q : List (List UInt8) → Int → Prop} (hb : b.length ≤ 1000000000) (hQ : Q (allR b).1 ((allR b).2 : Nat)) : sealskinref02_All b Q := by
  unfold sealskinref02_All
  refine ⟨fun out i => out = (allR b).1 ∧ i = ((allR b).2 : Nat), fun out i h => by rw [h.1, h.2]; exact hQ, ?_⟩
  refine lp3_inv b.length (fun k out i j => j = (k : Int) ∧ k ≤ out.length ∧ ∃ a : Nat, i = (a : Int) ∧ AllAt b out a) ⟨rfl, by simp, 0, rfl, AllAt.start b⟩ ?_ ?_
  · rintro k hk out i j ⟨rfl, hk2, a, rfl, hA⟩ next hnext
    have hle := hA.1
    refine ⟨fun _ => ⟨by omega, by omega, ?_⟩, fun h => absurd (by omega) h⟩
    rw [cut_back]
    refine sealskinref02_Open_of (by rw [List.length_drop]; omega) ⟨fun h => ?_, fun h => ?_⟩
    · rw [hA.done h]; exact ⟨rfl, rfl⟩
    · have h0 := Decidable.not_not.1 h
      obtain ⟨g1, g2, g3, g4⟩ := openR_ok h0
      rw [List.length_drop] at g3
      have h12 := hA.2.1
      rw [g2]
      exact ⟨by unfold Rm; simp; omega, by unfold Ck; omega, by unfold Ck; omega, hnext _ _ _ ⟨by omega, by simp; omega, a + ((openR (b.drop a)).1.length + 12), by omega, hA.step h0⟩⟩
  · rintro out i j ⟨rfl, hk2, a, rfl, hA⟩ next
    refine ⟨fun h => absurd h (by omega), fun _ => ?_⟩
    have h12 := hA.2.1
    have hle := hA.1
    have h0 : b.length = 0 := by omega
    have hd : b.drop a = [] := List.eq_nil_of_length_eq_zero (by rw [List.length_drop]; omega)
    have h3 := hA.2.2
    rw [hd, show allR [] = ([], 0) from rfl] at h3
    rw [h3]
    exact ⟨by simp, by simp⟩
theorem slices_EqualFunc_of {a : List (List UInt8)} {Q : Bool → Prop} (ha : a.length ≤ 1000000000) (hQ : Q true) : slices_EqualFunc_bytes a a Q := by
  unfold slices_EqualFunc_bytes
  refine ⟨fun h => absurd rfl h, fun _ => ⟨True, fun _ => hQ, lp1_inv a.length (fun k i => i = (k : Int)) rfl ?_ ?_⟩⟩
  · rintro k hk i rfl next hnext
    exact ⟨fun _ => ⟨a[k], At.get hk, a[k], At.get hk, bytes_Equal_of ⟨fun h => by simp at h, fun _ => ⟨by unfold Ck; omega, hnext _ (by omega)⟩⟩⟩, fun h => absurd (by omega) h⟩
  · rintro i rfl next
    exact ⟨fun h => absurd h (by omega), fun _ => trivial⟩
theorem OctetOpens_all (b : List UInt8) (w0 : Wb b) : sealskinlaw02_OctetOpens b (fun r => r = true) := by
  unfold sealskinlaw02_OctetOpens
  refine ⟨fun _ => awake_of rfl, fun hb => slices_Clone_of (by omega) (octet_Open_of (by omega) (sealskinref02_Open_of (by omega) (octet_All_of (by omega) (sealskinref02_All_of (by omega) (bytes_Equal_of ?_)))))⟩
  have hl : (allR b).1.length ≤ 1000000000 := by
    have : ∀ (f : Nat) (b : List UInt8), (allF f b).1.length ≤ f := by
      intro f
      induction f with
      | zero => intro b; simp [allF]
      | succ f ih =>
        intro b
        rw [allF]
        split
        · simp
        · have := ih (b.drop ((openR b).1.length + 12)); simp; omega
    have := this b.length b
    rw [allR]; omega
  exact ⟨fun _ => ⟨fun _ => ⟨fun _ => slices_EqualFunc_of hl ⟨fun _ => ⟨fun _ => bytes_Equal_of ⟨fun _ => awake_of rfl, fun h => by simp at h⟩, fun h => absurd rfl h⟩, fun h => by simp at h⟩, fun h => absurd rfl h⟩, fun h => absurd rfl h⟩, fun h => by simp at h⟩
end Go.Lx
