/- PLAIN: bytes turned, tags, what is sealed, what is opened. -/
import Derived.Test.YtohneemghiehdaaDoorK2c
import Derived.Test.YtohneemghiehdaaDoorCtBp
set_option linter.unusedVariables false
set_option linter.unusedSimpArgs false
namespace Go.Lx
def sF (key : List UInt8) (once : BitVec 64) (j : Nat) : List UInt8 := streamF (key.take 32) once (BitVec.ofInt 64 (j : Int))
def maskF (key : List UInt8) (once : BitVec 64) (i : Nat) : UInt8 := (sF key once (i / 64)).getD (i % 64) 0
def TurnF (key : List UInt8) (once : BitVec 64) (b : List UInt8) : List UInt8 := b.mapIdx fun i x => x ^^^ maskF key once i
theorem TurnF_len (key : List UInt8) (once : BitVec 64) (b : List UInt8) : (TurnF key once b).length = b.length := by simp [TurnF]
theorem TurnF_snoc (key : List UInt8) (once : BitVec 64) (b : List UInt8) (x : UInt8) : TurnF key once (b ++ [x]) = TurnF key once b ++ [x ^^^ maskF key once b.length] := by simp [TurnF, List.mapIdx_append]
theorem turn_of {key : List UInt8} {once : BitVec 64} {b : List UInt8} {Q : List UInt8 → Int → Prop} (hkl : key.length ≤ 1000000000) (hb : b.length ≤ 1000000000) (h1 : key.length < 32 → Q [] 1) (h2 : 32 ≤ key.length → Q (TurnF key once b) 0) : cipher_Turn key once b Q := by
  unfold cipher_Turn
  refine ⟨fun h => h1 (by omega), fun h => ⟨by omega, by unfold Rm; omega, fun x => x = TurnF key once b, fun x hx => hx ▸ h2 (by omega), ?_⟩⟩
  refine lp3_inv b.length (fun k acc i s => i = (k : Int) ∧ acc = TurnF key once (b.take k) ∧ s.l.length = 64 ∧ (k % 64 ≠ 0 → s.l = sF key once (k / 64))) ⟨rfl, rfl, by simp, fun h => absurd rfl h⟩ ?_ ?_
  · rintro k hk acc i s ⟨rfl, rfl, hs, hs2⟩ next hnext
    have m1 : (k : Int).tmod 64 = ((k % 64 : Nat) : Int) := by rw [show (64 : Int) = ((64 : Nat) : Int) from rfl, ← Int.ofNat_tmod]
    have m2 : (k : Int).tdiv 64 = ((k / 64 : Nat) : Int) := by rw [show (64 : Int) = ((64 : Nat) : Int) from rfl, ← Int.ofNat_tdiv]
    rw [m1, m2]
    refine ⟨fun _ => ⟨b[k], At.get hk, fun s' => s'.l = sF key once (k / 64), ?_, fun h0 => ⟨by omega, by unfold Ck; omega, ?_⟩, fun h0 => hs2 (by omega)⟩, fun h => absurd (by omega) h⟩
    · intro s' hs'
      have hl : s'.l.length = 64 := by rw [hs']; exact streamF_len ..
      have htl : (b.take k).length = k := by rw [List.length_take]; omega
      refine ⟨_, atD (z := 0) (by omega), by unfold Rm; rw [TurnF_len]; simp; omega, by unfold Ck; omega, hnext _ _ _ ⟨by omega, ?_, hl, fun h => ?_⟩⟩
      · rw [take_succ' hk, TurnF_snoc, htl, maskF, hs']
      · rw [hs', show (k + 1) / 64 = k / 64 by omega]
    · rw [show (32 : Int) = ((32 : Nat) : Int) from rfl, cut_front]
      exact stream_of (by rw [List.length_take]; omega) (by rw [List.length_take]; omega) (by simp only [sF])
  · rintro acc i s ⟨rfl, rfl, _, _⟩ next
    refine ⟨fun h => absurd h (by omega), fun _ => ?_⟩
    show _ = _
    rw [List.take_length]
theorem orx {a x y : UInt8} : (a ||| (x ^^^ y)) = 0 ↔ a = 0 ∧ x = y := by
  rw [UInt8.or_eq_zero_iff, UInt8.xor_eq_zero_iff]
theorem equal_of {a b : List UInt8} {Q : Bool → Prop} (ha : a.length ≤ 1000000000) (hQ : Q (decide (a = b))) : hash_Equal a b Q := by
  unfold hash_Equal
  refine ⟨fun h => ?_, fun h => ?_⟩
  · rw [decide_eq_false (fun e => h (by rw [e]))] at hQ; exact hQ
  · have hl : a.length = b.length := by omega
    refine ⟨fun x => (x = 0 ↔ a = b), fun x hx => ?_, ?_⟩
    · replace hx : x = 0 ↔ a = b := hx
      have : decide ((x.toNat : Int) = 0) = decide (a = b) := by
        rw [decide_eq_decide, ← hx]
        exact ⟨fun h => UInt8.toNat_inj.1 (by rw [UInt8.toNat_zero]; omega), fun h => by rw [h]; rfl⟩
      show Q (decide ((x.toNat : Int) = 0))
      rw [this]; exact hQ
    · refine lp2_inv a.length (fun k x i => i = (k : Int) ∧ (x = 0 ↔ ∀ j, j < k → a[j]? = b[j]?)) ⟨rfl, ⟨fun _ j hj => absurd hj (by omega), fun _ => rfl⟩⟩ ?_ ?_
      · rintro k hk x i ⟨rfl, hx⟩ next hnext
        refine ⟨fun _ => ⟨a[k], At.get hk, b[k], At.get (by omega), by unfold Ck; omega, hnext _ _ ⟨by omega, ?_⟩⟩, fun h => absurd (by omega) h⟩
        rw [orx, hx]
        refine ⟨fun h j hj => ?_, fun h => ⟨fun j hj => h j (by omega), ?_⟩⟩
        · rcases Nat.lt_or_eq_of_le (Nat.le_of_lt_succ hj) with h2 | rfl
          · exact h.1 j h2
          · rw [List.getElem?_eq_getElem hk, List.getElem?_eq_getElem (by omega), h.2]
        · have := h k (by omega)
          rw [List.getElem?_eq_getElem hk, List.getElem?_eq_getElem (by omega)] at this
          exact Option.some.inj this
      · rintro x i ⟨rfl, hx⟩ next
        refine ⟨fun h => absurd h (by omega), fun _ => ?_⟩
        show x = 0 ↔ a = b
        rw [hx]
        refine ⟨fun h => List.ext_getElem? fun j => ?_, fun h j _ => by rw [h]⟩
        rcases Nat.lt_or_ge j a.length with h2 | h2
        · exact h j h2
        · rw [List.getElem?_eq_none h2, List.getElem?_eq_none (by omega)]
def preF (once : BitVec 64) (head : List UInt8) : List UInt8 := [] ++ putAll [((once >>> (1 : Nat)).toNat : Int), ((once &&& (1#64)).toNat : Int), (head.length : Int)]
def tagF (key : List UInt8) (once : BitVec 64) (head hidden : List UInt8) : List UInt8 := (Bl.keyed ((key.drop 32).take 32) [preF once head, head, hidden]).take 16
theorem tagF_len (key : List UInt8) (once : BitVec 64) (head hidden : List UInt8) : (tagF key once head hidden).length = 16 := by rw [tagF, List.length_take, Go.Sx.keyed_len]; rfl
theorem sh1 (x : BitVec 64) : ((x >>> (1 : Nat)).toNat : Int) ≤ 9223372036854775807 := by
  have h := x.isLt
  rw [BitVec.toNat_ushiftRight, Nat.shiftRight_eq_div_pow]; omega
theorem an1 (x : BitVec 64) : ((x &&& (1#64)).toNat : Int) ≤ 9223372036854775807 := by
  have h : (x &&& (1#64)).toNat ≤ 1 := by rw [BitVec.toNat_and]; exact Nat.and_le_right
  omega
theorem tag_of {key : List UInt8} {once : BitVec 64} {head hidden : List UInt8} {Q : List UInt8 → Prop} (hk : key.length = 64) (hh : head.length ≤ 1000000000) (hd : hidden.length ≤ 1000000000) (hQ : Q (tagF key once head hidden)) : cipher_tag key once head hidden Q := by
  unfold cipher_tag
  refine ⟨sh1 _, an1 _, octet_Put_of (by simp) ⟨by omega, ?_⟩⟩
  rw [show (32 : Int) = ((32 : Nat) : Int) from rfl, show (64 : Int) = ((64 : Nat) : Int) from rfl, cut_nat]
  refine ⟨by simp only [List.length_take, List.length_drop]; omega, fun bs hbs => ?_, by simp, hQ⟩
  simp only [List.mem_cons, List.not_mem_nil, or_false] at hbs
  rcases hbs with rfl | rfl | rfl
  · rw [List.nil_append, putAll_len]; simp
  · omega
  · omega
theorem seal_of {key : List UInt8} {once : BitVec 64} {head b : List UInt8} {Q : List UInt8 → Int → Prop} (hkl : key.length ≤ 1000000000) (hh : head.length ≤ 1000000000) (hb : b.length ≤ 1000000000) (h1 : key.length ≠ 64 → Q [] 1)
    (h2 : key.length = 64 → Q (TurnF key once b ++ tagF key once head (TurnF key once b)) 0) : cipher_Seal key once head b Q := by
  unfold cipher_Seal
  refine ⟨fun h => h1 (by omega), fun h => turn_of hkl hb (fun h => absurd h (by omega)) fun _ => tag_of (by omega) hh (by rw [TurnF_len]; omega) ⟨?_, h2 (by omega)⟩⟩
  unfold Rm; rw [TurnF_len, tagF_len]; omega
theorem open_of {key : List UInt8} {once : BitVec 64} {head s : List UInt8} {Q : List UInt8 → Int → Prop} (hkl : key.length ≤ 1000000000) (hh : head.length ≤ 1000000000) (hs : s.length ≤ 1000000000) (h1 : key.length ≠ 64 → Q [] 1) (h2 : key.length = 64 → s.length < 16 → Q [] 2)
    (h3 : key.length = 64 → 16 ≤ s.length → s.drop (s.length - 16) ≠ tagF key once head (s.take (s.length - 16)) → Q [] 121) (h4 : key.length = 64 → 16 ≤ s.length → s.drop (s.length - 16) = tagF key once head (s.take (s.length - 16)) → Q (TurnF key once (s.take (s.length - 16))) 0) : cipher_Open key once head s Q := by
  unfold cipher_Open
  refine ⟨fun h => h1 (by omega), fun h => ⟨fun hl => h2 (by omega) (by omega), fun hl => ?_⟩⟩
  have hk : key.length = 64 := by omega
  have hl2 : 16 ≤ s.length := by omega
  rw [show (s.length : Int) - 16 = ((s.length - 16 : Nat) : Int) by omega, cut_front, cut_back]
  refine ⟨by unfold Ck; omega, by omega, by omega, by unfold Ck; omega, by omega, by omega, tag_of hk hh (by rw [List.length_take]; omega) (equal_of (by rw [List.length_drop]; omega) ⟨fun h => ?_, fun h => ?_⟩)⟩
  · exact h3 hk hl2 (by simpa using h)
  · exact turn_of hkl (by rw [List.length_take]; omega) (fun h => absurd h (by omega)) fun _ => h4 hk hl2 (by simpa using h)
end Go.Lx
