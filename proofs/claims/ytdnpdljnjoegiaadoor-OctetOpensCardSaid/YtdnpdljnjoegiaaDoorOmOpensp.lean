/- The pure texts of some functions. -/
import Derived.Test.YtdnpdljnjoegiaaDoorOtDp
import Derived.Test.YtdnpdljnjoegiaaDoorOtEp
set_option linter.unusedVariables false
set_option linter.unusedSimpArgs false
namespace Go.Lx
set_option linter.unusedVariables false
def sealskinlaw02_OctetOpens (x0 : List UInt8) (Q : Bool → Prop) : Prop :=
(((x0.length : Int) > 32768) → (sealskinlaw02_awake  fun (r6_0 : Bool) => Q r6_0)) ∧ (¬ ((x0.length : Int) > 32768) → (slices_Clone_sl_byte_byte x0 fun (r8_0 : List UInt8) => octet_Open r8_0 fun (r12_0 : List UInt8) (r12_1 : Int) (r12_2 : Int) => sealskinref02_Open x0 fun (r16_0 : List UInt8) (r16_1 : Int) (r16_2 : Int) => octet_All r8_0 fun (r20_0 : List (List UInt8)) (r20_1 : Int) => sealskinref02_All x0 fun (r23_0 : List (List UInt8)) (r23_1 : Int) => bytes_Equal r12_0 r16_0 fun (r27_0 : Bool) => ((r27_0 = true) → (((r12_1 = r16_1) → (((r12_2 = r16_2) → (slices_EqualFunc_bytes r20_0 r23_0 fun (r31_0 : Bool) => ((r31_0 = true) → (((r20_1 = r23_1) → (bytes_Equal r8_0 x0 fun (r34_0 : Bool) => ((r34_0 = true) → (sealskinlaw02_awake  fun (r36_0 : Bool) => Q r36_0)) ∧ ((r34_0 = false) → (Q false)))) ∧ (¬ (r20_1 = r23_1) → (Q false)))) ∧ ((r31_0 = false) → (Q false)))) ∧ (¬ (r12_2 = r16_2) → (Q false)))) ∧ (¬ (r12_1 = r16_1) → (Q false)))) ∧ ((r27_0 = false) → (Q false))))
end Go.Lx
