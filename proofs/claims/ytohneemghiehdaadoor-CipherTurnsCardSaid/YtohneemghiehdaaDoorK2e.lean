/- PLAIN: the example; CipherBack, CipherForm. -/
import Derived.Test.YtohneemghiehdaaDoorK2d
set_option linter.unusedVariables false
set_option linter.unusedSimpArgs false
namespace Go.Lx
theorem bytes_Equal_of {a b : List UInt8} {Q : Bool → Prop} (hQ : Q (decide (a = b))) : bytes_Equal a b Q := hQ
theorem slices_Clone_of {a : List UInt8} {Q : List UInt8 → Prop} (ha : a.length ≤ 1000000000000) (hQ : Q a) : slices_Clone_sl_byte_byte a Q := by
  intro b hb
  refine ⟨fun h => ?_, fun _ => ⟨by unfold Rm; simp; omega, by simpa using hQ⟩⟩
  rw [hb h] at hQ; exact hQ
theorem long_of {l : List (List UInt8)} {Q : Bool → Prop} (hl : l.length ≤ 1000000000) (h1 : Q true) (h2 : (∀ b ∈ l, b.length ≤ 4096) → Q false) : sealskinlaw08_long l Q := by
  unfold sealskinlaw08_long slices_ContainsFunc_long slices_IndexFunc_long
  refine ⟨∀ b ∈ l, b.length ≤ 4096, fun h => h2 h, ?_⟩
  refine lp1_inv l.length (fun k i => i = (k : Int) ∧ ∀ j, (h : j < k) → (hj : j < l.length) → (l[j]).length ≤ 4096) ⟨rfl, fun j h => absurd h (by omega)⟩ ?_ ?_
  · rintro k hk i ⟨rfl, hi⟩ next hnext
    refine ⟨fun _ => ⟨l[k], At.get hk, fun h => ?_, fun h => ⟨by unfold Ck; omega, hnext _ ⟨by omega, fun j hj hjl => ?_⟩⟩⟩, fun h => absurd (by omega) h⟩
    · show Q (decide ((k : Int) ≥ 0))
      rw [decide_eq_true (by omega)]; exact h1
    · have h := of_decide_eq_false h
      rcases Nat.lt_or_eq_of_le (Nat.le_of_lt_succ hj) with h3 | rfl
      · exact hi j h3 hjl
      · omega
  · rintro i ⟨rfl, hi⟩ next
    refine ⟨fun h => absurd h (by omega), fun _ b hb => ?_⟩
    obtain ⟨j, hj, rfl⟩ := List.getElem_of_mem hb
    exact hi j hj hj
theorem ex_turn : TurnF (List.replicate 32 0) (0#64) (List.replicate 8 0) = [(118 : UInt8), (184 : UInt8), (224 : UInt8), (173 : UInt8), (160 : UInt8), (241 : UInt8), (61 : UInt8), (144 : UInt8)] := by decide +kernel
theorem turn_twice (key : List UInt8) (once : BitVec 64) (b : List UInt8) : TurnF key once (TurnF key once b) = b := by
  apply List.ext_getElem?
  intro j
  rw [TurnF, TurnF, List.getElem?_mapIdx, List.getElem?_mapIdx]
  cases b[j]? with
  | none => rfl
  | some x => simp [UInt8.xor_assoc]
theorem seal_open {key : List UInt8} {once : BitVec 64} {head b : List UInt8} : (TurnF key once b ++ tagF key once head (TurnF key once b)).take ((TurnF key once b ++ tagF key once head (TurnF key once b)).length - 16) = TurnF key once b ∧ (TurnF key once b ++ tagF key once head (TurnF key once b)).drop ((TurnF key once b ++ tagF key once head (TurnF key once b)).length - 16) = tagF key once head (TurnF key once b) := by
  rw [List.length_append, tagF_len, Nat.add_sub_cancel]
  exact ⟨List.take_left' rfl, List.drop_left' rfl⟩
theorem ex_tag : tagF (List.replicate 64 0) (7#64) [105] (TurnF (List.replicate 64 0) (7#64) [97, 98, 99]) ≠ tagF (List.replicate 64 0) (7#64) [104] (TurnF (List.replicate 64 0) (7#64) [97, 98, 99]) := by decide +kernel
theorem awake_of {Q : Bool → Prop} (hQ : Q true) : sealskinlaw08_awake Q := by
  unfold sealskinlaw08_awake
  refine turn_of (by simp) (by simp) (fun h => absurd h (by simp)) fun _ => seal_of (by simp) (by simp) (by simp) (fun h => absurd (by simp) h) fun _ => ?_
  have so := seal_open (key := List.replicate 64 0) (once := 7#64) (head := [104]) (b := [97, 98, 99])
  have hlen : (TurnF (List.replicate 64 0) (7#64) [97, 98, 99] ++ tagF (List.replicate 64 0) (7#64) [104] (TurnF (List.replicate 64 0) (7#64) [97, 98, 99])).length = 19 := by rw [List.length_append, TurnF_len, tagF_len]; rfl
  refine open_of (by simp) (by simp) (by rw [hlen]; decide) (fun h => absurd (by simp) h) (fun _ h => absurd h (by rw [hlen]; decide)) (fun _ _ h => absurd (by rw [so.1, so.2]) h) fun _ _ _ => ?_
  refine open_of (by simp) (by simp) (by rw [hlen]; decide) (fun h => absurd (by simp) h) (fun _ h => absurd h (by rw [hlen]; decide)) (fun _ _ _ => ?_) fun _ _ h => ?_
  · rw [so.1, turn_twice, ex_turn]
    refine bytes_Equal_of ⟨fun _ => ⟨fun _ => ⟨fun _ => ⟨fun _ => ⟨fun _ => ⟨fun _ => hQ, fun h => absurd rfl h⟩, fun h => absurd rfl h⟩, fun h => absurd (by rw [hlen]; rfl) h⟩, fun h => absurd rfl h⟩, fun h => absurd rfl h⟩, fun h => absurd h (by decide)⟩
  · rw [so.1, so.2] at h
    exact absurd h.symm ex_tag
theorem CipherForm_all (key : List UInt8) (once : BitVec 64) (head s : List UInt8) (_w0 : Wb key) (_w1 : True) (_w2 : Wb head) (_w3 : Wb s) : sealskinlaw08_CipherForm key once head s (fun r => r = true) := by
  unfold sealskinlaw08_CipherForm
  refine long_of (by simp) ⟨fun _ => awake_of rfl, fun h => by cases h⟩ fun hl => ⟨fun h => (by cases h), fun _ => ?_⟩
  have l0 : key.length ≤ 4096 := hl key (by simp)
  have l1 : head.length ≤ 4096 := hl head (by simp)
  have l2 : s.length ≤ 4096 := hl s (by simp)
  refine open_of (by omega) (by omega) (by omega) (fun _ => ⟨fun _ => ⟨fun _ => awake_of rfl, fun h => absurd rfl h⟩, fun h => absurd (by decide) h⟩) (fun _ _ => ⟨fun _ => ⟨fun _ => awake_of rfl, fun h => absurd rfl h⟩, fun h => absurd (by decide) h⟩)
    (fun _ _ _ => ⟨fun _ => ⟨fun _ => awake_of rfl, fun h => absurd rfl h⟩, fun h => absurd (by decide) h⟩) fun hk h16 ht => ⟨fun h => absurd rfl h, fun _ => ?_⟩
  refine seal_of (by omega) (by omega) (by rw [TurnF_len, List.length_take]; omega) (fun h => absurd hk h) fun _ => ⟨fun _ => bytes_Equal_of ?_, fun h => absurd rfl h⟩
  rw [turn_twice, ← ht, List.take_append_drop]
  exact ⟨fun _ => awake_of rfl, fun h => absurd h (by simp)⟩
theorem CipherBack_all (key : List UInt8) (once : BitVec 64) (head b : List UInt8) (_w0 : Wb key) (_w1 : True) (_w2 : Wb head) (_w3 : Wb b) : sealskinlaw08_CipherBack key once head b (fun r => r = true) := by
  unfold sealskinlaw08_CipherBack
  refine long_of (by simp) ⟨fun _ => awake_of rfl, fun h => by cases h⟩ fun hl => ⟨fun h => (by cases h), fun _ => ?_⟩
  have l0 : key.length ≤ 4096 := hl key (by simp)
  have l1 : head.length ≤ 4096 := hl head (by simp)
  have l2 : b.length ≤ 4096 := hl b (by simp)
  have rest : ∀ z : Bool, z = false → ((z = true) → (false = true)) ∧ ((z = false) → (cipher_Seal key once head b fun (r28_0 : List UInt8) (r28_1 : Int) => ((r28_1 ≠ 0) → ((((key.length : Int) ≠ 64) → ((((r28_0.length : Int) = 0) → (sealskinlaw08_awake fun (r37_0 : Bool) => r37_0 = true)) ∧ (¬ ((r28_0.length : Int) = 0) → (false = true)))) ∧ (¬ ((key.length : Int) ≠ 64) → (false = true)))) ∧ (¬ (r28_1 ≠ 0) → (cipher_Open key once head r28_0 fun (r42_0 : List UInt8) (r42_1 : Int) => ((r42_1 = 0) → (bytes_Equal r42_0 b fun (r47_0 : Bool) => ((r47_0 = true) → (Ck ((b.length : Int) + 16) ∧ (((r28_0.length : Int) = ((b.length : Int) + 16)) → (sealskinlaw08_awake fun (r51_0 : Bool) => r51_0 = true)) ∧ (¬ ((r28_0.length : Int) = ((b.length : Int) + 16)) → (false = true)))) ∧ ((r47_0 = false) → (false = true)))) ∧ (¬ (r42_1 = 0) → (false = true)))))) := by
    rintro z rfl
    refine ⟨fun h => (by cases h), fun _ => seal_of (by omega) (by omega) (by omega) (fun hk => ⟨fun _ => ⟨fun _ => ⟨fun _ => awake_of rfl, fun h => absurd rfl h⟩, fun h => absurd (by omega) h⟩, fun h => absurd (by decide) h⟩) fun hk => ⟨fun h => absurd rfl h, fun _ => ?_⟩⟩
    have so := seal_open (key := key) (once := once) (head := head) (b := b)
    have hlen : (TurnF key once b ++ tagF key once head (TurnF key once b)).length = b.length + 16 := by rw [List.length_append, TurnF_len, tagF_len]
    refine open_of (by omega) (by omega) (by omega) (fun h => absurd hk h) (fun _ h => absurd h (by omega)) (fun _ _ h => absurd (by rw [so.1, so.2]) h) fun _ _ _ => ?_
    rw [so.1, turn_twice]
    refine ⟨fun _ => bytes_Equal_of ⟨fun _ => ⟨by unfold Ck; omega, fun _ => awake_of rfl, fun h => absurd (by omega) h⟩, fun h => absurd h (by simp)⟩, fun h => absurd rfl h⟩
  refine turn_of (by omega) (by omega) (fun hk => ?_) fun hk => ?_
  · refine turn_of (by omega) (by simp) (fun _ => ?_) fun h => absurd h (by omega)
    refine ⟨fun z => z = false, fun z hz => rest z hz, fun h => absurd rfl h, fun _ => ⟨fun h => absurd h (by decide), fun _ => ?_⟩⟩
    have : decide ((key.length : Int) ≥ 32) = false := decide_eq_false (by omega)
    show (!(decide ((1 : Int) = 0) == decide ((key.length : Int) ≥ 32))) = false
    rw [this]; rfl
  · refine turn_of (by omega) (by rw [TurnF_len]; omega) (fun h => absurd h (by omega)) fun _ => ?_
    rw [turn_twice]
    refine ⟨fun z => z = false, fun z hz => rest z hz, fun h => absurd rfl h, fun _ => ⟨fun _ => bytes_Equal_of ⟨fun h => absurd h (by simp), fun _ => ?_⟩, fun h => absurd rfl h⟩⟩
    have : decide ((key.length : Int) ≥ 32) = true := decide_eq_true (by omega)
    show (!(decide ((0 : Int) = 0) == decide ((key.length : Int) ≥ 32))) = false
    rw [this]; rfl
end Go.Lx
