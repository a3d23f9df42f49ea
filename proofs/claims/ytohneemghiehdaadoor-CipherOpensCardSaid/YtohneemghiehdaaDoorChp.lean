/- The words for the keyed digests. -/
import Derived.Test.YtohneemghiehdaaDoorLx2
import Derived.Test.YtohneemghiehdaaDoorBs
set_option linter.unusedVariables false
set_option linter.unusedSimpArgs false
namespace Go.Lx
def hash_Keyed (x0 : List UInt8) (x1 : List (List UInt8)) (Q : Arr 32 UInt8 → Prop) : Prop := x0.length ≤ 1099511627776 ∧ (∀ bs ∈ x1, bs.length ≤ 1099511627776) ∧ x1.length ≤ 1099511627776 ∧ Q ⟨Bl.keyed x0 x1⟩
def sealskinref07_Keyed (x0 x1 : List UInt8) (Q : Arr 32 UInt8 → Prop) : Prop := x0.length ≤ 1099511627776 ∧ x1.length ≤ 1099511627776 ∧ Q ⟨Bl.keyed x0 [x1]⟩
end Go.Lx
