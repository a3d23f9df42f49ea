/- The pure texts of some functions. -/
import Derived.Test.YtdnpdljnjoegiaaDoorOtEp
import Derived.Test.YtdnpdljnjoegiaaDoorOep
set_option linter.unusedVariables false
set_option linter.unusedSimpArgs false
namespace Go.Lx
set_option linter.unusedVariables false
def sealskinlaw02_OctetOrder (x0 : Int) (x1 : Int) (Q : Bool → Prop) : Prop :=
octet_Put [] ([(max x0 0)] : List Int) fun (r5_0 : List UInt8) => octet_Put [] ([(max x1 0)] : List Int) fun (r8_0 : List UInt8) => bytes_Compare r5_0 r8_0 fun (r10_0 : Int) => ((((decide (r10_0 < 0)) == (decide ((max x0 0) < (max x1 0)))) = true) → (((((decide (r10_0 = 0)) == (decide ((max x0 0) = (max x1 0)))) = true) → (sealskinlaw02_awake  fun (r15_0 : Bool) => Q r15_0)) ∧ ((((decide (r10_0 = 0)) == (decide ((max x0 0) = (max x1 0)))) = false) → (Q false)))) ∧ ((((decide (r10_0 < 0)) == (decide ((max x0 0) < (max x1 0)))) = false) → (Q false))
end Go.Lx
