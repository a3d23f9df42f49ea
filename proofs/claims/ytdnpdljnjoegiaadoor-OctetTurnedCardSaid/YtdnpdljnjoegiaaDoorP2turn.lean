/- PLAIN: the law OctetTurned. -/
import Derived.Test.YtdnpdljnjoegiaaDoorP2o
import Derived.Test.YtdnpdljnjoegiaaDoorP2e
import Derived.Test.YtdnpdljnjoegiaaDoorOmTurnedp
set_option linter.unusedVariables false
set_option linter.unusedSimpArgs false
namespace Go.Lx
theorem bit1_eq (c : BitVec 32) : bit1 c = (c <<< 1) ^^^ (if 2147483648 ≤ c.toNat then 2168537515#32 else 0#32) := by
  rw [bit1, shr31]; split <;> simp
theorem shl_inj {c d : BitVec 32} (h : c <<< 1 = d <<< 1) (ht : 2147483648 ≤ c.toNat ↔ 2147483648 ≤ d.toNat) : c = d := by
  refine BitVec.eq_of_toNat_eq ?_
  have h1 := congrArg BitVec.toNat h
  rw [BitVec.toNat_shiftLeft, BitVec.toNat_shiftLeft, Nat.shiftLeft_eq, Nat.shiftLeft_eq] at h1
  have := c.isLt
  have := d.isLt
  by_cases h2 : 2147483648 ≤ c.toNat
  · have := ht.1 h2; omega
  · have : ¬ 2147483648 ≤ d.toNat := fun h => h2 (ht.2 h)
    omega
theorem bit1_inj {c d : BitVec 32} (h : bit1 c = bit1 d) : c = d := by
  rw [bit1_eq, bit1_eq] at h
  by_cases hc : 2147483648 ≤ c.toNat <;> by_cases hd : 2147483648 ≤ d.toNat
  · rw [if_pos hc, if_pos hd] at h
    exact shl_inj ((BitVec.xor_left_inj _).1 h) ⟨fun _ => hd, fun _ => hc⟩
  · rw [if_pos hc, if_neg hd] at h
    have := congrArg (BitVec.getLsbD · 0) h
    simp [BitVec.getLsbD_xor] at this
  · rw [if_neg hc, if_pos hd] at h
    have := congrArg (BitVec.getLsbD · 0) h
    simp [BitVec.getLsbD_xor] at this
  · rw [if_neg hc, if_neg hd] at h
    exact shl_inj ((BitVec.xor_left_inj _).1 h) ⟨fun h => absurd h hc, fun h => absurd h hd⟩
theorem bitN_inj : ∀ (n : Nat) {c d : BitVec 32}, bitN n c = bitN n d → c = d
  | 0, _, _, h => h
  | n + 1, _, _, h => bitN_inj n (bit1_inj h)
theorem sumB_inj {c d : BitVec 32} {x : UInt8} (h : sumB c x = sumB d x) : c = d := (BitVec.xor_left_inj _).1 (bitN_inj 8 h)
theorem sumB_byte {c : BitVec 32} {x y : UInt8} (h : sumB c x = sumB c y) : x = y := by
  have h1 := (BitVec.xor_right_inj _).1 (bitN_inj 8 h)
  have h2 := congrArg BitVec.toNat h1
  have hx := x.toNat_lt
  have hy := y.toNat_lt
  rw [BitVec.toNat_shiftLeft, BitVec.toNat_shiftLeft, Nat.shiftLeft_eq, Nat.shiftLeft_eq, BitVec.toNat_setWidth, BitVec.toNat_setWidth] at h2
  refine UInt8.toNat.inj ?_
  have e1 : x.toBitVec.toNat = x.toNat := rfl
  have e2 : y.toBitVec.toNat = y.toNat := rfl
  rw [e1, e2] at h2
  omega
theorem fold_inj : ∀ (l : List UInt8) {c d : BitVec 32}, l.foldl sumB c = l.foldl sumB d → c = d
  | [], _, _, h => h
  | x :: l, _, _, h => sumB_inj (fold_inj l h)
/-- another byte in one place: another sum -/
theorem sumOf_set {l : List UInt8} {i : Nat} {x : UInt8} (hi : i < l.length) (hx : x ≠ l[i]) : sumOf (l.set i x) ≠ sumOf l := by
  intro h
  have e1 : l.set i x = l.take i ++ x :: l.drop (i + 1) := List.set_eq_take_append_cons_drop.trans (if_pos hi)
  have e2 : l = l.take i ++ l[i] :: l.drop (i + 1) := by rw [List.getElem_cons_drop, List.take_append_drop]
  rw [e1] at h
  have h2 : sumOf (l.take i ++ x :: l.drop (i + 1)) = sumOf (l.take i ++ l[i] :: l.drop (i + 1)) := by rw [← e2]; exact h
  simp only [sumOf, List.foldl_append, List.foldl_cons] at h2
  exact hx (sumB_byte (fold_inj _ h2))
theorem be4_inj {c d : BitVec 32} (h : be4 c = be4 d) : c = d := by
  simp only [be4, List.cons.injEq, and_true] at h
  obtain ⟨h1, h2, h3, h4⟩ := h
  have k : ∀ {a b : BitVec 8}, UInt8.ofBitVec a = UInt8.ofBitVec b → a.toNat = b.toNat := fun h => congrArg UInt8.toNat h
  have h1 := k h1; have h2 := k h2; have h3 := k h3; have h4 := k h4
  simp only [BitVec.toNat_setWidth, BitVec.toNat_ushiftRight, Nat.shiftRight_eq_div_pow] at h1 h2 h3 h4
  have := c.isLt
  have := d.isLt
  refine BitVec.eq_of_toNat_eq ?_
  omega
/-- a block of which one byte is another one is no block of as many bytes -/
theorem blockOf_set {d d' : List UInt8} {i : Nat} {x : UInt8} (hi : i < (blockOf d).length) (hx : x ≠ (blockOf d)[i]) (h : (blockOf d).set i x = blockOf d') : False := by
  have hl := blockOf_len d
  have hl' := blockOf_len d'
  have hlen : d'.length = d.length := by have := congrArg List.length h; rw [List.length_set] at this; omega
  generalize hp : be8 d.length ++ d = p
  have hpl : p.length = 8 + d.length := by rw [← hp, List.length_append, be8_len]
  have hb : blockOf d = p ++ be4 (sumOf p) := by rw [blockOf, hp]
  have hb' : blockOf d' = (be8 d.length ++ d') ++ be4 (sumOf (be8 d.length ++ d')) := by rw [blockOf, hlen]
  generalize hp' : be8 d.length ++ d' = p' at hb'
  have hpl' : p'.length = p.length := by rw [← hp', List.length_append, be8_len]; omega
  rw [hb, hb'] at h
  have hx' : x ≠ (p ++ be4 (sumOf p))[i]'(by rw [← hb]; exact hi) := by simpa only [hb] using hx
  by_cases hip : i < p.length
  · rw [List.set_append_left _ _ hip] at h
    obtain ⟨h1, h2⟩ := List.append_inj h (by rw [List.length_set, hpl'])
    have h3 := be4_inj h2
    rw [← h1] at h3
    exact sumOf_set hip (by rwa [List.getElem_append_left hip] at hx') h3.symm
  · rw [List.set_append_right _ _ (by omega)] at h
    obtain ⟨h1, h2⟩ := List.append_inj h (by rw [hpl'])
    rw [← h1] at h2
    have hi4 : i - p.length < (be4 (sumOf p)).length := by rw [be4_len]; rw [hb, List.length_append, be4_len] at hi; omega
    have h3 := congrArg (·[i - p.length]?) h2
    simp only [List.getElem?_set_self hi4, List.getElem?_eq_getElem hi4, Option.some.injEq] at h3
    rw [List.getElem_append_right (by omega)] at hx'
    exact hx' h3
theorem turned_ne {x : UInt8} {y : Int} : x ^^^ (UInt8.ofBitVec ((1#64 + ((BitVec.ofInt 64 y) % 255#64)).setWidth 8)) ≠ x := by
  intro h
  have h0 : UInt8.ofBitVec ((1#64 + ((BitVec.ofInt 64 y) % 255#64)).setWidth 8) = 0 := by
    have := congrArg (x ^^^ ·) h
    simpa [← UInt8.xor_assoc] using this
  have h1 := congrArg UInt8.toNat h0
  rw [UInt8.toNat_ofBitVec, BitVec.toNat_setWidth, BitVec.toNat_add, BitVec.toNat_umod] at h1
  have h2 : (BitVec.ofInt 64 y).toNat % (255#64).toNat < 255 := Nat.mod_lt _ (by decide)
  have e1 : (1#64).toNat = 1 := rfl
  have e0 : (0 : UInt8).toNat = 0 := rfl
  rw [e1, e0] at h1
  omega
theorem OctetTurned_all (d : List UInt8) (a y : Int) (w0 : Wb d) (w1 : -9223372036854775808 ≤ a ∧ a ≤ 9223372036854775807) (w2 : -9223372036854775808 ≤ y ∧ y ≤ 9223372036854775807) : sealskinlaw02_OctetTurned d a y (fun r => r = true) := by
  unfold sealskinlaw02_OctetTurned
  refine octet_Seal_of (fun h => ⟨fun _ => ⟨fun _ => ⟨fun _ => awake_of rfl, fun h' => absurd (by omega) h'⟩, fun h => absurd rfl h⟩, fun h => absurd (by decide) h⟩) fun hd => ⟨fun h => absurd rfl h, fun _ => ?_⟩
  have hl := blockOf_len d
  have hm := ofNat_mod (x := a) (n := (blockOf d).length) (by omega) (by omega)
  generalize ((BitVec.ofInt 64 a) % (BitVec.ofInt 64 ((blockOf d).length : Int))).toNat = i at hm
  refine ⟨fun h => by omega, fun _ => ⟨ofNat_ne (by omega) (by omega), by omega, (blockOf d)[i], At.get hm, (blockOf d)[i], At.get hm, ?_⟩⟩
  rw [put_nat]
  refine octet_Open_of (by rw [List.length_set]; omega) ⟨fun _ => awake_of rfl, fun h => ?_⟩
  have h0 := Decidable.not_not.1 h
  obtain ⟨h1, h2, h3, h4⟩ := openR_ok h0
  refine ⟨fun _ => awake_of rfl, fun h5 => ?_⟩
  have h6 := Decidable.not_not.1 h5
  rw [h2] at h6
  rw [List.take_of_length_le (by omega)] at h4
  exact absurd h4 (fun h => blockOf_set hm turned_ne h)
end Go.Lx
