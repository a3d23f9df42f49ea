/- PLAIN: numbers and blocks as the document has them. -/
import Derived.Test.YtdnpdljnjoegiaaDoorP2e
import Derived.Test.YtdnpdljnjoegiaaDoorP2w
import Derived.Test.YtdnpdljnjoegiaaDoorOmNumbersp
import Derived.Test.YtdnpdljnjoegiaaDoorOmBlocksp
set_option linter.unusedVariables false
set_option linter.unusedSimpArgs false
namespace Go.Lx
theorem OctetNumbers_pure (b : List UInt8) (l : List Int) (hl : ∀ x ∈ l, x ≤ 9223372036854775807) : sealskinlaw02_OctetNumbers b l (fun r => r = true) := by
  unfold sealskinlaw02_OctetNumbers
  refine ⟨fun x => x = false → b.length ≤ 32768 ∧ l.length ≤ 1000, ?_, ⟨fun _ h => (by simp at h), fun h h' => ⟨by omega, by simp at h'; omega⟩⟩⟩
  intro x hx
  refine ⟨fun _ => awake_of rfl, fun h => ?_⟩
  obtain ⟨h1, h2⟩ := hx h
  refine slices_Clone_of (by omega) (octet_Put_of (by omega) (sealskinref02_Put_of (by omega) hl (bytes_Equal_of ?_)))
  refine ⟨_, fun h => h, put_loop rfl (by rw [List.length_append, putAll_len]; omega) ?_ _⟩
  exact ⟨fun _ => bytes_Equal_of ⟨fun _ => awake_of rfl, fun h => by simp at h⟩, fun h => by simp at h⟩
theorem OctetNumbers_all (x0 : List UInt8) (x1 : List Int) (w0 : Wb x0) (w1 : x1.length ≤ 9223372036854775807 ∧ ∀ x ∈ x1, -9223372036854775808 ≤ x ∧ x ≤ 9223372036854775807) : sealskinlaw02_OctetNumbers x0 x1 (fun r => r = true) := OctetNumbers_pure x0 x1 fun x hx => (w1.2 x hx).2
theorem OctetBlocks_all (b d : List UInt8) (w0 : Wb b) (w1 : Wb d) : sealskinlaw02_OctetBlocks b d (fun r => r = true) := by
  unfold sealskinlaw02_OctetBlocks
  refine ⟨fun x => x = false → b.length ≤ 32768 ∧ d.length ≤ 32768, ?_, ⟨fun _ h => (by simp at h), fun h h' => ⟨by omega, by simp at h'; omega⟩⟩⟩
  intro x hx
  refine ⟨fun _ => awake_of rfl, fun h => ?_⟩
  obtain ⟨h1, h2⟩ := hx h
  refine slices_Clone_of (by omega) ?_
  have key : ∀ (f : List UInt8) (e : Int), Jn1 (fun (x10_18 : Bool) => ((x10_18 = true) → (octet_Sum d fun (r32_0 : BitVec 32) => sealskinref02_Sum d fun (r33_0 : BitVec 32) => (((r32_0.toNat : Int) = (r33_0.toNat : Int)) → (bytes_Equal f f fun (r35_0 : Bool) => ((r35_0 = true) → (((e = e) → (bytes_Equal d d fun (r38_0 : Bool) => ((r38_0 = true) → (sealskinlaw02_awake  fun (r40_0 : Bool) => r40_0 = true)) ∧ ((r38_0 = false) → (false = true)))) ∧ (¬ (e = e) → (false = true)))) ∧ ((r35_0 = false) → (false = true)))) ∧ (¬ ((r32_0.toNat : Int) = (r33_0.toNat : Int)) → (false = true)))) ∧ ((x10_18 = false) → (false = true))) fun J18_ => octet_PutBytes b d fun (r19_0 : List UInt8) => sealskinref02_PutBytes b d fun (r21_0 : List UInt8) => bytes_Equal r19_0 r21_0 fun (r23_0 : Bool) => ((r23_0 = true) → (octet_PutText b (Str.mk d) fun (r25_0 : List UInt8) => sealskinref02_PutBytes b d fun (r27_0 : List UInt8) => bytes_Equal r25_0 r27_0 fun (r29_0 : Bool) => J18_ r29_0)) ∧ ((r23_0 = false) → (J18_ false)) := by
    intro f e
    refine ⟨fun x => x = true, ?_, octet_PutBytes_of (by omega) (sealskinref02_PutBytes_of (by omega) (bytes_Equal_of ⟨fun _ => octet_PutText_of (by show b.length + d.length ≤ _; omega) (sealskinref02_PutBytes_of (by omega) (bytes_Equal_of (by simp))), fun h => by simp at h⟩))⟩
    rintro x rfl
    refine ⟨fun _ => octet_Sum_of (by omega) (sealskinref02_Sum_of (by omega) ⟨fun _ => bytes_Equal_of ⟨fun _ => ⟨fun _ => bytes_Equal_of ⟨fun _ => awake_of rfl, fun h => by simp at h⟩, fun h => absurd rfl h⟩, fun h => by simp at h⟩, fun h => absurd rfl h⟩), fun h => by simp at h⟩
  exact octet_Seal_of (fun h => sealskinref02_Seal_of (fun _ => key _ _) fun h' => by omega) fun h => sealskinref02_Seal_of (fun h' => by omega) fun _ => key _ _
end Go.Lx
