/- PLAIN: the laws OctetBack and OctetForm. -/
import Derived.Test.YtdnpdljnjoegiaaDoorP2o
import Derived.Test.YtdnpdljnjoegiaaDoorOmBackp
set_option linter.unusedVariables false
set_option linter.unusedSimpArgs false
namespace Go.Lx
theorem runes_le (b : List UInt8) : Lib.runeCountL b ≤ b.length := by
  have := Lib.runeCountFrom_le ⟨b.toArray⟩ (⟨b.toArray⟩ : ByteArray).size 0
  have e : (⟨b.toArray⟩ : ByteArray).size = b.length := by simp [ByteArray.size]
  rw [Lib.runeCountL, Lib.runeCount]
  omega
theorem width_le (s : ByteArray) (p : Nat) : (Utf8.decode s p).2 ≤ 4 := by
  unfold Utf8.decode
  dsimp only
  repeat' split
  all_goals (dsimp only; omega)
theorem runes_ge (s : ByteArray) : ∀ (f p : Nat), s.size ≤ p + f → s.size ≤ p + 4 * Lib.runeCountFrom s f p
  | 0, p, h => by omega
  | f + 1, p, h => by
    rw [Lib.runeCountFrom]
    split
    · rename_i hp
      have h1 := width_le s p
      have h2 := Lib.decode_width_pos s p hp
      have := runes_ge s f (p + (Utf8.decode s p).2) (by omega)
      omega
    · omega
theorem runes_len (b : List UInt8) : b.length ≤ 4 * Lib.runeCountL b := by
  have := runes_ge ⟨b.toArray⟩ (⟨b.toArray⟩ : ByteArray).size 0 (by omega)
  have e : (⟨b.toArray⟩ : ByteArray).size = b.length := by simp [ByteArray.size]
  rw [Lib.runeCountL, Lib.runeCount]
  omega
theorem OctetBack_all (n : Int) (d : List UInt8) (s : Str) (t : List UInt8) (w0 : -9223372036854775808 ≤ n ∧ n ≤ 9223372036854775807) (w1 : Wb d) (w2 : s.b.length ≤ 9223372036854775807) (w3 : Wb t) : sealskinlaw02_OctetBack n d s t (fun r => r = true) := by
  unfold sealskinlaw02_OctetBack
  refine ⟨fun x => x = false → d.length ≤ 32768 ∧ s.b.length ≤ 32768 ∧ t.length ≤ 32768 ∧ Lib.validD s.b = true, ?_, ⟨fun _ h => (by simp at h), fun h1 => ⟨fun _ h => (by simp at h), fun h2 => ⟨fun _ h => (by simp at h), fun h3 => ⟨by omega, fun h => ⟨by omega, by omega, by omega, by simpa using h⟩⟩⟩⟩⟩⟩
  intro x hx
  refine ⟨fun _ => awake_of rfl, fun h => ?_⟩
  obtain ⟨h1, h2, h3, hv⟩ := hx h
  have hrl := runes_le s.b
  refine octet_Put_of (by simp) (octet_PutBytes_of (by simp [putAll_len]; omega) (octet_PutText_of (by simp [putAll_len, be8_len]; omega) ⟨?_, ?_⟩))
  · unfold Rm; simp [putAll_len, be8_len]; omega
  generalize hm : n.toNat = m
  have hmx : max n 0 = (m : Int) := by omega
  have e0 : [] ++ putAll [n] ++ be8 d.length ++ d ++ be8 s.b.length ++ s.b ++ t = be8 m ++ (be8 d.length ++ (d ++ (be8 s.b.length ++ (s.b ++ t)))) := by simp [putAll, hm]
  rw [e0]
  generalize hb : be8 m ++ (be8 d.length ++ (d ++ (be8 s.b.length ++ (s.b ++ t)))) = b
  have hl : b.length = 8 + (8 + (d.length + (8 + (s.b.length + t.length)))) := by rw [← hb]; simp [be8_len]
  have r1 := numR_be8 (b := b) (p := 0) (n := m) hb.symm (by omega)
  have d2 : b.drop 8 = be8 d.length ++ (d ++ (be8 s.b.length ++ (s.b ++ t))) := by rw [← hb]; exact List.drop_left' rfl
  have r2 := bytesR_be8 (most := (d.length : Int)) d2 (by omega)
  rw [if_neg (by omega), if_neg (by rw [List.length_append]; omega), List.take_left' rfl] at r2
  have d3 : b.drop (8 + 8 + d.length) = be8 s.b.length ++ (s.b ++ t) := by
    rw [Nat.add_assoc, ← List.drop_drop, d2, ← List.append_assoc]; exact List.drop_left' (by rw [List.length_append, be8_len])
  refine octet_Read_of (by omega) (octet_Reader_Number_of (by omega) (by omega) ?_)
  rw [r1]
  refine octet_Reader_Bytes_of (p := 0 + 8) (by omega) (by omega) ?_
  rw [show (0 + 8 : Nat) = 8 from rfl, r2]
  refine ⟨by omega, octet_Reader_Text_of (p := 8 + 8 + d.length) (by omega) (by omega) ?_⟩
  by_cases hbig : (Lib.runeCountL s.b : Int) > 16384
  · exact ⟨by omega, fun _ => ⟨fun _ => bytes_Equal_of ⟨fun _ => awake_of rfl, fun h => by simp at h⟩, fun h => absurd hmx.symm h⟩, fun h => absurd hbig h⟩
  · have r3 := bytesR_be8 (most := 4 * min (max (Lib.runeCountL s.b : Int) 0) 16384) d3 (by omega)
    have hlen : s.b.length ≤ 4 * Lib.runeCountL s.b := runes_len s.b
    rw [if_neg (by omega), if_neg (by rw [List.length_append]; omega), List.take_left' rfl] at r3
    have r4 : textR b (8 + 8 + d.length) 0 (Lib.runeCountL s.b : Int) = (s.b, 8 + 8 + d.length + 8 + s.b.length, 0) := by
      rw [textR, if_neg (by decide), r3]
      dsimp only
      rw [if_neg (by decide), if_neg (by simp [hv]), if_neg (by omega)]
    rw [r4]
    dsimp only
    refine ⟨by omega, fun h => absurd h hbig, fun _ => ⟨fun _ => bytes_Equal_of ⟨fun _ => ⟨fun _ => octet_Reader_Left_of (by omega) (by omega) ⟨fun _ => octet_Reader_Err_of ⟨fun _ => awake_of rfl, fun h => absurd rfl h⟩, fun h => absurd (by omega) h⟩, fun h => absurd rfl h⟩, fun h => by simp at h⟩, fun h => absurd hmx.symm h⟩⟩
end Go.Lx
