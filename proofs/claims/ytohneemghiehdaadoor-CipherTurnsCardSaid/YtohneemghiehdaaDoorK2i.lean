/- PLAIN: CipherTurns. -/
import Derived.Test.YtohneemghiehdaaDoorK2h
set_option linter.unusedVariables false
set_option linter.unusedSimpArgs false
namespace Go.Lx
theorem rturn_of {key : List UInt8} {once : BitVec 64} {b : List UInt8} {Q : List UInt8 → Int → Prop} (hkl : key.length ≤ 1000000000) (hb : b.length ≤ 1000000000) (h1 : key.length < 32 → Q [] 1) (h2 : 32 ≤ key.length → Q (TurnF key once b) 0) : sealskinref08_Turn key once b Q := by
  unfold sealskinref08_Turn
  refine ⟨fun h => h1 (by omega), fun h => ⟨fun x => x = TurnF key once b, fun x hx => hx ▸ h2 (by omega), ?_⟩⟩
  refine lp3_inv b.length (fun k s acc i => i = (k : Int) ∧ acc = TurnF key once (b.take k) ∧ (k % 64 ≠ 0 → s = sF key once (k / 64))) ⟨rfl, rfl, fun h => absurd rfl h⟩ ?_ ?_
  · rintro k hk s acc i ⟨rfl, rfl, hs2⟩ next hnext
    have m1 : (k : Int).tmod 64 = ((k % 64 : Nat) : Int) := by rw [show (64 : Int) = ((64 : Nat) : Int) from rfl, ← Int.ofNat_tmod]
    have m2 : (k : Int).tdiv 64 = ((k / 64 : Nat) : Int) := by rw [show (64 : Int) = ((64 : Nat) : Int) from rfl, ← Int.ofNat_tdiv]
    rw [m1, m2]
    refine ⟨fun _ => ⟨b[k], At.get hk, fun s' => s' = sF key once (k / 64), ?_, fun h0 => ⟨by unfold Ck; omega, ?_⟩, fun h0 => hs2 (by omega)⟩, fun h => absurd (by omega) h⟩
    · intro s' hs'
      have hl : s'.length = 64 := by rw [hs']; exact streamF_len ..
      have htl : (b.take k).length = k := by rw [List.length_take]; omega
      refine ⟨_, atD (z := 0) (by omega), by unfold Rm; rw [TurnF_len]; simp; omega, by unfold Ck; omega, hnext _ _ _ ⟨by omega, ?_, fun h => ?_⟩⟩
      · rw [take_succ' hk, TurnF_snoc, htl, maskF, hs']
      · rw [hs', show (k + 1) / 64 = k / 64 by omega]
    · exact rblock_of (by omega) (by omega) (by simp only [sF])
  · rintro s acc i ⟨rfl, rfl, _⟩ next
    refine ⟨fun h => absurd h (by omega), fun _ => ?_⟩
    show _ = _
    rw [List.take_length]
theorem CipherTurns_all (key : List UInt8) (once : BitVec 64) (b : List UInt8) (_w0 : Wb key) (_w1 : True) (_w2 : Wb b) : sealskinlaw08_CipherTurns key once b (fun r => r = true) := by
  unfold sealskinlaw08_CipherTurns
  refine long_of (by simp) ⟨fun _ => awake_of rfl, fun h => by cases h⟩ fun hl => ⟨fun h => (by cases h), fun _ => ?_⟩
  have l0 : key.length ≤ 4096 := hl key (by simp)
  have l2 : b.length ≤ 4096 := hl b (by simp)
  refine slices_Clone_of (by omega) (slices_Clone_of (by omega) ?_)
  have fin : ∀ (x : List UInt8) (e : Int), bytes_Equal x x fun (r25_0 : Bool) => ((r25_0 = true) → (((e = e) → (bytes_Equal b b fun (r28_0 : Bool) => ((r28_0 = true) → (bytes_Equal key key fun (r30_0 : Bool) => ((r30_0 = true) → (sealskinlaw08_awake fun (r32_0 : Bool) => r32_0 = true)) ∧ ((r30_0 = false) → (false = true)))) ∧ ((r28_0 = false) → (false = true)))) ∧ (¬ (e = e) → (false = true)))) ∧ ((r25_0 = false) → (false = true)) := fun x e =>
    bytes_Equal_of ⟨fun _ => ⟨fun _ => bytes_Equal_of ⟨fun _ => bytes_Equal_of ⟨fun _ => awake_of rfl, fun h => absurd h (by simp)⟩, fun h => absurd h (by simp)⟩, fun h => absurd rfl h⟩, fun h => absurd h (by simp)⟩
  refine turn_of (by omega) (by omega) (fun hk => rturn_of (by omega) (by omega) (fun _ => fin _ _) fun h => absurd h (by omega)) fun hk => rturn_of (by omega) (by omega) (fun h => absurd h (by omega)) fun _ => fin _ _
end Go.Lx
