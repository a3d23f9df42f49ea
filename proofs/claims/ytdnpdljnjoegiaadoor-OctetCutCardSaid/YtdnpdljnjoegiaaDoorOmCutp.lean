/- The pure texts of some functions. -/
import Derived.Test.YtdnpdljnjoegiaaDoorOtEp
set_option linter.unusedVariables false
set_option linter.unusedSimpArgs false
namespace Go.Lx
set_option linter.unusedVariables false
def sealskinlaw02_OctetCut (x0 : List UInt8) (x1 : Int) (Q : Bool → Prop) : Prop :=
octet_Seal x0 fun (r3_0 : List UInt8) (r3_1 : Int) => ((r3_1 ≠ 0) → (sealskinlaw02_awake  fun (r10_0 : Bool) => Q r10_0)) ∧ (¬ (r3_1 ≠ 0) → ((((r3_0.length : Int) < 12) → (Q false)) ∧ (¬ ((r3_0.length : Int) < 12) → (((BitVec.ofInt 64 (r3_0.length : Int)).toNat : Int) ≠ 0 ∧ (((BitVec.ofInt 64 x1) % (BitVec.ofInt 64 (r3_0.length : Int))).toNat : Int) ≤ 9223372036854775807 ∧ 0 ≤ (((BitVec.ofInt 64 x1) % (BitVec.ofInt 64 (r3_0.length : Int))).toNat : Int) ∧ (((BitVec.ofInt 64 x1) % (BitVec.ofInt 64 (r3_0.length : Int))).toNat : Int) ≤ (r3_0.length : Int) ∧ octet_Open (cut r3_0 0 (((BitVec.ofInt 64 x1) % (BitVec.ofInt 64 (r3_0.length : Int))).toNat : Int)) fun (r24_0 : List UInt8) (r24_1 : Int) (r24_2 : Int) => ((r24_2 = 2) → (((r24_1 = 0) → ((((r24_0.length : Int) = 0) → (sealskinlaw02_awake  fun (r31_0 : Bool) => Q r31_0)) ∧ (¬ ((r24_0.length : Int) = 0) → (Q false)))) ∧ (¬ (r24_1 = 0) → (Q false)))) ∧ (¬ (r24_2 = 2) → (Q false))))))
end Go.Lx
