/- PLAIN: sums, blocks. -/
import Derived.Test.YtdnpdljnjoegiaaDoorP2a
set_option linter.unusedVariables false
set_option linter.unusedSimpArgs false
namespace Go.Lx
theorem octet_PutBytes_of {b d : List UInt8} {Q : List UInt8 → Prop} (hb : b.length + d.length ≤ 1000000000) (hQ : Q (b ++ be8 d.length ++ d)) : octet_PutBytes b d Q := by
  unfold octet_PutBytes
  refine octet_Put_of (by simp; omega) ⟨?_, ?_⟩
  · unfold Rm; simp [putAll_len]; omega
  · simpa [putAll] using hQ
theorem octet_PutText_of {b : List UInt8} {s : Str} {Q : List UInt8 → Prop} (hb : b.length + s.b.length ≤ 1000000000) (hQ : Q (b ++ be8 s.b.length ++ s.b)) : octet_PutText b s Q := octet_PutBytes_of hb hQ
/-- the sum, bit by bit -/
def bit1 (c : BitVec 32) : BitVec 32 := (c <<< 1) ^^^ ((c >>> 31) * 2168537515#32)
def bitN : Nat → BitVec 32 → BitVec 32
  | 0, c => c
  | j + 1, c => bit1 (bitN j c)
def sumB (c : BitVec 32) (b : UInt8) : BitVec 32 := bitN 8 (c ^^^ ((b.toBitVec.setWidth 32) <<< 24))
def sumOf (bs : List UInt8) : BitVec 32 := bs.foldl sumB 4294967295#32
theorem sumOf_snoc (bs : List UInt8) (b : UInt8) : sumOf (bs ++ [b]) = sumB (sumOf bs) b := by simp [sumOf, List.foldl_append]
theorem octet_Sum_of {b : List UInt8} {Q : BitVec 32 → Prop} (hb : b.length ≤ 1000000000000) (hQ : Q (sumOf b)) : octet_Sum b Q := by
  unfold octet_Sum
  refine ⟨fun x => x = sumOf b, fun x hx => hx ▸ hQ, ?_⟩
  refine lp2_inv b.length (fun k c i => i = (k : Int) ∧ c = sumOf (b.take k)) ⟨rfl, rfl⟩ ?_ ?_
  · rintro k hk c i ⟨rfl, rfl⟩ next hnext
    refine ⟨fun _ => ?_, fun h => absurd (by omega) h⟩
    refine ⟨fun x => x = sumOf (b.take (k + 1)), fun x hx => ⟨by unfold Ck; omega, hnext _ _ ⟨by omega, hx⟩⟩, b[k], At.get hk, ?_⟩
    refine lp2_inv 8 (fun j c i => i = (j : Int) ∧ c = bitN j (sumOf (b.take k) ^^^ (((b[k]).toBitVec.setWidth 32) <<< 24))) ⟨rfl, rfl⟩ ?_ ?_
    · rintro j hj c i ⟨rfl, rfl⟩ next2 hnext2
      exact ⟨fun _ => ⟨by unfold Ck; omega, hnext2 _ _ ⟨by omega, rfl⟩⟩, fun h => absurd (by omega) h⟩
    · rintro c i ⟨rfl, rfl⟩ next2
      refine ⟨fun h => absurd h (by omega), fun _ => ?_⟩
      rw [take_succ' hk, sumOf_snoc]; rfl
  · rintro c i ⟨rfl, rfl⟩ next
    refine ⟨fun h => absurd h (by omega), fun _ => ?_⟩
    rw [List.take_length]
/-- a word as four bytes -/
def be4 (c : BitVec 32) : List UInt8 := [UInt8.ofBitVec ((c >>> 24).setWidth 8), UInt8.ofBitVec ((c >>> 16).setWidth 8), UInt8.ofBitVec ((c >>> 8).setWidth 8), UInt8.ofBitVec (c.setWidth 8)]
/-- a block -/
def blockOf (d : List UInt8) : List UInt8 := be8 d.length ++ d ++ be4 (sumOf (be8 d.length ++ d))
theorem be8_len (n : Nat) : (be8 n).length = 8 := rfl
theorem be4_len (c : BitVec 32) : (be4 c).length = 4 := rfl
theorem blockOf_len (d : List UInt8) : (blockOf d).length = d.length + 12 := by simp [blockOf, be8_len, be4_len]; omega
theorem octet_Seal_of {d : List UInt8} {Q : List UInt8 → Int → Prop} (h1 : 16384 < d.length → Q [] 4) (h2 : d.length ≤ 16384 → Q (blockOf d) 0) : octet_Seal d Q := by
  unfold octet_Seal
  refine ⟨fun h => h1 (by omega), fun h => octet_PutBytes_of (by simp; omega) (octet_Sum_of (by simp [be8_len]; omega) ⟨?_, ?_⟩)⟩
  · unfold Rm; simp [be8_len]; omega
  · have := h2 (by omega)
    simpa [blockOf, be4] using this
end Go.Lx
