/- The words for slices.Concat. -/
import Derived.Test.YtohneemghiehdaaDoorLx2
set_option linter.unusedVariables false
set_option linter.unusedSimpArgs false
namespace Go.Lx
def slices_Concat (x0 : List (List UInt8)) (Q : List UInt8 → Prop) : Prop := x0.flatten.length ≤ 1099511627776 ∧ x0.length ≤ 1099511627776 ∧ Q x0.flatten
end Go.Lx
