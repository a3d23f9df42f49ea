/- PLAIN: the law OctetForm. -/
import Derived.Test.YtdnpdljnjoegiaaDoorP2o
import Derived.Test.YtdnpdljnjoegiaaDoorOmFormp
set_option linter.unusedVariables false
set_option linter.unusedSimpArgs false
namespace Go.Lx
theorem bytes_HasPrefix_of {a b : List UInt8} {Q : Bool → Prop} (hQ : Q (decide (b.length ≤ a.length ∧ a.take b.length = b))) : bytes_HasPrefix a b Q := by
  unfold bytes_HasPrefix
  refine ⟨fun h => ⟨by omega, by omega, bytes_Equal_of ?_⟩, fun h => ?_⟩
  · rw [cut_front]
    have e : decide (b.length ≤ a.length ∧ a.take b.length = b) = decide (a.take b.length = b) := by
      have : b.length ≤ a.length := by omega
      simp [this]
    rwa [e] at hQ
  · have e : decide (b.length ≤ a.length ∧ a.take b.length = b) = false := by
      have : ¬ b.length ≤ a.length := by omega
      simp [this]
    rwa [e] at hQ
theorem numR_cases {b : List UInt8} : (numR b 0 0).2.2 = 0 ∧ b.take 8 = be8 (numR b 0 0).1.toNat ∧ 8 ≤ b.length ∧ (numR b 0 0).2.1 = 8 ∨ (numR b 0 0).2.2 ≠ 0 ∧ (numR b 0 0).2.1 = 0 := by
  by_cases h : (numE (b.drop 0)).2 = 0
  · left
    obtain ⟨h8, hlo, hhi, hn⟩ := numE_ok h
    rw [numR_ok h]
    dsimp only
    rw [List.drop_zero] at hn h8
    rw [List.drop_zero, hn, Int.toNat_natCast, be8_num (by rw [List.length_take]; omega)]
    exact ⟨rfl, rfl, h8, rfl⟩
  · right
    rw [numR_err h]
    exact ⟨h, rfl⟩
theorem OctetForm_all (b : List UInt8) (w0 : Wb b) : sealskinlaw02_OctetForm b (fun r => r = true) := by
  unfold sealskinlaw02_OctetForm
  refine ⟨fun _ => awake_of rfl, fun hb => octet_Read_of (by omega) (octet_Reader_Number_of (by omega) (by omega) ?_)⟩
  refine ⟨fun x => x = false, ?_, ?_⟩
  · rintro x rfl
    refine ⟨fun h => by simp at h, fun _ => octet_Read_of (by omega) (octet_Reader_Bytes_of (by omega) (by omega) ?_)⟩
    refine ⟨fun x => x = false, ?_, ?_⟩
    · rintro x rfl
      refine ⟨fun h => by simp at h, fun _ => octet_Open_of (by omega) ⟨fun h => ?_, fun h => ?_⟩⟩
      · obtain ⟨h1, h2⟩ := openR_bad h
        rw [h1, h2]
        exact ⟨by unfold Ck; simp, fun _ => awake_of rfl, fun h => absurd rfl h⟩
      · have h0 : (openR b).2.2 = 0 := by simpa using h
        obtain ⟨h1, h2, h3, h4⟩ := openR_ok h0
        refine octet_Seal_of (fun h => by omega) fun _ => ⟨fun _ => ⟨by omega, by omega, bytes_Equal_of ?_⟩, fun h => absurd rfl h⟩
        rw [h2, cut_front, h4]
        exact ⟨fun _ => awake_of rfl, fun h => by simp at h⟩
    · have hok := bytesR_ok (b := b) (p := 0) (most := 32768)
      generalize bytesR b 0 0 32768 = r at hok ⊢
      obtain ⟨d, q, e⟩ := r
      dsimp only at hok ⊢
      refine octet_Reader_Err_of ⟨fun h => ?_, fun h => rfl⟩
      obtain ⟨h1, h2, h3, h4, h5⟩ := hok h
      simp only [Nat.zero_add, List.drop_zero] at h1 h2 h4 h5
      refine octet_PutBytes_of (by simp; omega) (bytes_HasPrefix_of ?_)
      have hl : ([] ++ be8 d.length ++ d).length = 8 + d.length := by simp [be8_len]
      have e2 : b.take (8 + d.length) = [] ++ be8 d.length ++ d := by rw [List.take_add, h4, h5]; simp
      rw [hl, e2, decide_eq_true ⟨by omega, rfl⟩]; rfl
  · have hc := numR_cases (b := b)
    generalize numR b 0 0 = r at hc ⊢
    obtain ⟨n, q, e⟩ := r
    dsimp only at hc ⊢
    refine octet_Reader_Err_of ⟨fun h => ?_, fun h => octet_Reader_Err_of ⟨fun _ => ?_, fun h' => absurd h h'⟩⟩
    · rcases hc with ⟨_, h8, hl, _⟩ | ⟨h', _⟩
      · refine octet_Put_of (by simp) (bytes_HasPrefix_of ?_)
        have e1 : [] ++ putAll [n] = be8 n.toNat := by simp [putAll]
        rw [e1, be8_len, h8, decide_eq_true ⟨hl, rfl⟩]
        exact ⟨fun h => by simp at h, fun _ => octet_Reader_Err_of ⟨fun h' => absurd h h', fun _ => rfl⟩⟩
      · exact absurd h h'
    · rcases hc with ⟨h', _⟩ | ⟨_, hq⟩
      · exact absurd h' h
      · subst hq
        refine octet_Reader_Left_of (by omega) (by omega) ?_
        simp
end Go.Lx
