/- The pure texts of some functions. -/
import Derived.Test.YtohneemghiehdaaDoorCtBp
import Derived.Test.YtohneemghiehdaaDoorCkp
set_option linter.unusedVariables false
set_option linter.unusedSimpArgs false
namespace Go.Lx
set_option linter.unusedVariables false
def sealskinlaw08_CipherFronts (x0 : List UInt8) (x1 : BitVec 64) (x2 : List UInt8) (x3 : List UInt8) (Q : Bool → Prop) : Prop :=
sealskinlaw08_long ([x0, x2, x3] : List (List UInt8)) fun (r5_0 : Bool) => ((r5_0 = true) → (sealskinlaw08_awake  fun (r8_0 : Bool) => Q r8_0)) ∧ ((r5_0 = false) → (cipher_Turn x0 x1 x2 fun (r12_0 : List UInt8) (r12_1 : Int) => slices_Concat ([x2, x3] : List (List UInt8)) fun (r17_0 : List UInt8) => cipher_Turn x0 x1 r17_0 fun (r18_0 : List UInt8) (r18_1 : Int) => ((r12_1 = r18_1) → (bytes_HasPrefix r18_0 r12_0 fun (r23_0 : Bool) => ((r23_0 = true) → (((r12_1 ≠ 0) → (sealskinlaw08_awake  fun (r26_0 : Bool) => Q r26_0)) ∧ (¬ (r12_1 ≠ 0) → ((((r12_0.length : Int) = (x2.length : Int)) → (Ck ((x2.length : Int) + (x3.length : Int)) ∧ (((r18_0.length : Int) = ((x2.length : Int) + (x3.length : Int))) → (sealskinlaw08_awake  fun (r31_0 : Bool) => Q r31_0)) ∧ (¬ ((r18_0.length : Int) = ((x2.length : Int) + (x3.length : Int))) → (Q false)))) ∧ (¬ ((r12_0.length : Int) = (x2.length : Int)) → (Q false)))))) ∧ ((r23_0 = false) → (Q false)))) ∧ (¬ (r12_1 = r18_1) → (Q false))))
end Go.Lx
