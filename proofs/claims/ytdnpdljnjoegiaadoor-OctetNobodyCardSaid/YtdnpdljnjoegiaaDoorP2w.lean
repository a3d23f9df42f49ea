/- PLAIN: the examples. -/
import Derived.Test.YtdnpdljnjoegiaaDoorP2d
import Derived.Test.YtdnpdljnjoegiaaDoorOtEp
set_option linter.unusedVariables false
set_option linter.unusedSimpArgs false
namespace Go.Lx
theorem bytes_Equal_of {a b : List UInt8} {Q : Bool → Prop} (hQ : Q (decide (a = b))) : bytes_Equal a b Q := hQ
theorem slices_Clone_of {a : List UInt8} {Q : List UInt8 → Prop} (ha : a.length ≤ 1000000000000) (hQ : Q a) : slices_Clone_sl_byte_byte a Q := by
  intro b hb
  refine ⟨fun h => ?_, fun _ => ⟨by unfold Rm; simp; omega, by simpa using hQ⟩⟩
  rw [hb h] at hQ; exact hQ
theorem awake_of {Q : Bool → Prop} (hQ : Q true) : sealskinlaw02_awake Q := by
  unfold sealskinlaw02_awake
  refine octet_Seal_of (fun h => by simp at h) fun _ => octet_Open_of (by rw [blockOf_len]; simp) ?_
  have e1 : openR (blockOf [97]) = ([97], 13, 0) := by decide +kernel
  rw [e1]
  refine octet_Put_of (by simp) (octet_PutText_of (by simp [putAll_len]) (octet_Read_of (by simp [putAll_len, be8_len]) (octet_Put_of (by simp) (bytes_Equal_of ?_))))
  have e2 : decide (([] ++ putAll [300]) = ([(0 : UInt8), (0 : UInt8), (0 : UInt8), (0 : UInt8), (0 : UInt8), (0 : UInt8), (1 : UInt8), (44 : UInt8)] : List UInt8)) = true := by decide +kernel
  rw [e2]
  refine ⟨fun _ => octet_Sum_of (by simp) ⟨fun _ => ⟨fun _ => ⟨fun _ => ⟨fun _ => ⟨fun _ => ⟨fun _ => ?_, fun h => absurd rfl h⟩, fun h => absurd rfl h⟩, fun h => absurd rfl h⟩, fun h => absurd (by rw [blockOf_len]; rfl) h⟩, fun h => absurd rfl h⟩, fun h => absurd (by decide +kernel) h⟩, fun h => by simp at h⟩
  generalize hb : ([] ++ putAll [300]) ++ be8 (Str.mk [195, 169]).b.length ++ (Str.mk [195, 169]).b = b
  have hl : b.length = 18 := by rw [← hb]; rfl
  have e3 : numR b 0 0 = (300, 8, 0) := by rw [← hb]; decide +kernel
  refine octet_Reader_Number_of (by omega) (by omega) ?_
  rw [e3]
  refine ⟨fun _ => octet_Reader_Text_of (by omega) (by show 8 ≤ b.length; omega) ?_, fun h => absurd rfl h⟩
  have e4 : textR b 8 0 1 = ([195, 169], 18, 0) := by rw [← hb]; decide +kernel
  rw [e4]
  refine ⟨fun _ => octet_Reader_End_of (by omega) (by show 18 ≤ b.length; omega) ?_, fun h => absurd rfl h⟩
  have e5 : endE b 18 0 = 0 := by rw [endE, if_neg (by omega)]
  dsimp only
  rw [e5]
  exact hQ
/-- a loop that turns every byte over -/
theorem put_loop {J : Prop} {n : Nat} {a : List UInt8} (ha : a.length = n) (hn : n ≤ 1000000000000) (hJ : J) (f : UInt8 → UInt8) :
    Lp2 (fun (x6_21 : List UInt8) (x30_21 : Int) next21_ => ((x30_21 < (n : Int)) → (∃ x27_, At x6_21 x30_21 x27_ ∧ ∃ x28_, At x6_21 x30_21 x28_ ∧ Ck (x30_21 + 1) ∧ next21_ (put x6_21 x30_21 (f x27_)) (x30_21 + 1))) ∧ (¬ (x30_21 < (n : Int)) → J)) a 0 := by
  refine lp2_inv n (fun k xs i => i = (k : Int) ∧ xs.length = n) ⟨rfl, ha⟩ ?_ ?_
  · rintro k hk xs i ⟨rfl, hx⟩ next hnext
    exact ⟨fun _ => ⟨xs[k], At.get (by omega), xs[k], At.get (by omega), by unfold Ck; omega, hnext _ _ ⟨by omega, by rw [put, List.length_set, hx]⟩⟩, fun h => absurd (by omega) h⟩
  · rintro xs i ⟨rfl, hx⟩ next
    exact ⟨fun h => absurd h (by omega), fun _ => hJ⟩
end Go.Lx
