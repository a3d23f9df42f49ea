/- The pure texts of some functions. -/
import Derived.Test.YtdnpdljnjoegiaaDoorOtDp
import Derived.Test.YtdnpdljnjoegiaaDoorOtEp
set_option linter.unusedVariables false
set_option linter.unusedSimpArgs false
namespace Go.Lx
set_option linter.unusedVariables false
def sealskinlaw02_OctetBlocks (x0 : List UInt8) (x1 : List UInt8) (Q : Bool → Prop) : Prop :=
Jn1 (fun (x18_3 : Bool) => ((x18_3 = true) → (sealskinlaw02_awake  fun (r7_0 : Bool) => Q r7_0)) ∧ ((x18_3 = false) → (slices_Clone_sl_byte_byte x1 fun (r9_0 : List UInt8) => octet_Seal r9_0 fun (r12_0 : List UInt8) (r12_1 : Int) => sealskinref02_Seal x1 fun (r16_0 : List UInt8) (r16_1 : Int) => Jn1 (fun (x10_18 : Bool) => ((x10_18 = true) → (octet_Sum x1 fun (r32_0 : BitVec 32) => sealskinref02_Sum x1 fun (r33_0 : BitVec 32) => (((r32_0.toNat : Int) = (r33_0.toNat : Int)) → (bytes_Equal r12_0 r16_0 fun (r35_0 : Bool) => ((r35_0 = true) → (((r12_1 = r16_1) → (bytes_Equal r9_0 x1 fun (r38_0 : Bool) => ((r38_0 = true) → (sealskinlaw02_awake  fun (r40_0 : Bool) => Q r40_0)) ∧ ((r38_0 = false) → (Q false)))) ∧ (¬ (r12_1 = r16_1) → (Q false)))) ∧ ((r35_0 = false) → (Q false)))) ∧ (¬ ((r32_0.toNat : Int) = (r33_0.toNat : Int)) → (Q false)))) ∧ ((x10_18 = false) → (Q false))) fun J18_ => octet_PutBytes x0 r9_0 fun (r19_0 : List UInt8) => sealskinref02_PutBytes x0 x1 fun (r21_0 : List UInt8) => bytes_Equal r19_0 r21_0 fun (r23_0 : Bool) => ((r23_0 = true) → (octet_PutText x0 (Str.mk x1) fun (r25_0 : List UInt8) => sealskinref02_PutBytes x0 x1 fun (r27_0 : List UInt8) => bytes_Equal r25_0 r27_0 fun (r29_0 : Bool) => J18_ r29_0)) ∧ ((r23_0 = false) → (J18_ false))))) fun J3_ => (((x0.length : Int) > 32768) → (J3_ true)) ∧ (¬ ((x0.length : Int) > 32768) → (J3_ (decide ((x1.length : Int) > 32768))))
end Go.Lx
