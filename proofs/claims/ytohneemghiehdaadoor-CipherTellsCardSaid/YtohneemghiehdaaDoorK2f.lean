/- PLAIN: CipherTells. -/
import Derived.Test.YtohneemghiehdaaDoorK2e
set_option linter.unusedVariables false
set_option linter.unusedSimpArgs false
namespace Go.Lx
theorem flip_ne (x5 : Int) : UInt8.ofBitVec (((1#64) + ((BitVec.ofInt 64 x5) % (255#64))).setWidth 8) ≠ 0 := by
  intro h
  have h2 := congrArg UInt8.toNat h
  have e : (UInt8.ofBitVec (((1#64) + ((BitVec.ofInt 64 x5) % (255#64))).setWidth 8)).toNat = (((1#64) + ((BitVec.ofInt 64 x5) % (255#64))).setWidth 8).toNat := rfl
  rw [e, BitVec.toNat_setWidth, BitVec.toNat_add, BitVec.toNat_umod] at h2
  have h3 : (BitVec.ofInt 64 x5).toNat % (255#64).toNat < 255 := Nat.mod_lt _ (by decide)
  have h4 : (1#64).toNat = 1 := rfl
  have h5 : UInt8.toNat 0 = 0 := rfl
  rw [h4, h5] at h2
  omega
theorem CipherTells_all (key : List UInt8) (once : BitVec 64) (head b : List UInt8) (x4 x5 : Int) (_w0 : Wb key) (_w1 : True) (_w2 : Wb head) (_w3 : Wb b) (_w4 : -9223372036854775808 ≤ x4 ∧ x4 ≤ 9223372036854775807) (_w5 : -9223372036854775808 ≤ x5 ∧ x5 ≤ 9223372036854775807) : sealskinlaw08_CipherTells key once head b x4 x5 (fun r => r = true) := by
  unfold sealskinlaw08_CipherTells
  refine long_of (by simp) ⟨fun _ => awake_of rfl, fun h => by cases h⟩ fun hl => ⟨fun h => (by cases h), fun _ => ?_⟩
  have l0 : key.length ≤ 4096 := hl key (by simp)
  have l1 : head.length ≤ 4096 := hl head (by simp)
  have l2 : b.length ≤ 4096 := hl b (by simp)
  refine seal_of (by omega) (by omega) (by omega) (fun _ => ⟨fun _ => awake_of rfl, fun h => absurd (by decide) h⟩) fun hk => ⟨fun h => absurd rfl h, fun _ => ⟨by unfold Ck; omega, ?_⟩⟩
  have hT : (TurnF key once b).length = b.length := TurnF_len ..
  have hG : (tagF key once head (TurnF key once b)).length = 16 := tagF_len ..
  generalize hTd : TurnF key once b = T at hT hG ⊢
  generalize hGd : tagF key once head T = G at hG ⊢
  have hlen : (T ++ G).length = b.length + 16 := by rw [List.length_append, hT, hG]
  refine ⟨fun h => absurd (by omega) h, fun _ => slices_Clone_of (by omega) ?_⟩
  have hj : (BitVec.ofInt 64 x4 % 16#64).toNat < 16 := by rw [BitVec.toNat_umod]; exact Nat.mod_lt _ (by decide)
  generalize (BitVec.ofInt 64 x4 % 16#64).toNat = j at hj ⊢
  have hv := flip_ne x5
  generalize UInt8.ofBitVec (((1#64) + ((BitVec.ofInt 64 x5) % (255#64))).setWidth 8) = v at hv ⊢
  have e1 : (b.length : Int) + (j : Int) = ((b.length + j : Nat) : Int) := by omega
  simp only [e1, put_nat]
  have hi : b.length + j < (T ++ G).length := by omega
  refine ⟨by omega, by unfold Ck; omega, (T ++ G)[b.length + j], At.get hi, (T ++ G)[b.length + j], At.get hi, ?_⟩
  have hs : (T ++ G).set (b.length + j) ((T ++ G)[b.length + j] ^^^ v) = T ++ G.set j (G[j]'(by omega) ^^^ v) := by
    rw [List.set_append_right _ _ (by omega)]
    congr 1
    rw [show b.length + j - T.length = j by omega]
    congr 2
    rw [List.getElem_append_right (by omega)]
    congr 1; omega
  rw [hs]
  generalize hG2 : G.set j (G[j]'(by omega) ^^^ v) = G2
  have hg2 : G2.length = 16 := by rw [← hG2, List.length_set, hG]
  have hne : G2 ≠ G := by
    intro h
    have h2 : G2[j]'(by omega) = G[j]'(by omega) := by simp only [h]
    have h3 : G2[j]'(by omega) = G[j]'(by omega) ^^^ v := by simp only [← hG2, List.getElem_set_self]
    rw [h2] at h3
    have h4 : G[j]'(by omega) ^^^ (G[j]'(by omega)) = G[j]'(by omega) ^^^ (G[j]'(by omega) ^^^ v) := by rw [← h3]
    rw [← UInt8.xor_assoc, UInt8.xor_self, UInt8.zero_xor] at h4
    exact hv h4.symm
  have hl2 : (T ++ G2).length = b.length + 16 := by rw [List.length_append, hT, hg2]
  have ht : (T ++ G2).take ((T ++ G2).length - 16) = T := by rw [hl2, Nat.add_sub_cancel]; exact List.take_left' hT
  have hd : (T ++ G2).drop ((T ++ G2).length - 16) = G2 := by rw [hl2, Nat.add_sub_cancel]; exact List.drop_left' hT
  refine open_of (by omega) (by omega) (by omega) (fun h => absurd hk h) (fun _ h => absurd h (by omega)) (fun _ _ _ => ?_) fun _ _ h => ?_
  · have e2 : min ((T ++ G2).length : Int) 15 = ((15 : Nat) : Int) := by omega
    rw [e2, cut_front]
    refine ⟨by omega, by omega, open_of (by omega) (by omega) (by rw [List.length_take]; omega) (fun h => absurd hk h) (fun _ _ => ?_) (fun _ h => absurd h (by rw [List.length_take]; omega)) (fun _ h => absurd h (by rw [List.length_take]; omega))⟩
    exact ⟨fun _ => ⟨fun _ => awake_of rfl, fun h => absurd rfl h⟩, fun h => absurd rfl h⟩
  · rw [ht, hd, hGd] at h
    exact absurd h hne
end Go.Lx
