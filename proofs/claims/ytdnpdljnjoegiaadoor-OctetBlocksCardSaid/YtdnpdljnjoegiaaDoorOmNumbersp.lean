/- The pure texts of some functions. -/
import Derived.Test.YtdnpdljnjoegiaaDoorOtDp
import Derived.Test.YtdnpdljnjoegiaaDoorOtEp
set_option linter.unusedVariables false
set_option linter.unusedSimpArgs false
namespace Go.Lx
set_option linter.unusedVariables false
def sealskinlaw02_OctetNumbers (x0 : List UInt8) (x1 : List Int) (Q : Bool → Prop) : Prop :=
Jn1 (fun (x16_3 : Bool) => ((x16_3 = true) → (sealskinlaw02_awake  fun (r7_0 : Bool) => Q r7_0)) ∧ ((x16_3 = false) → (slices_Clone_sl_byte_byte x0 fun (r9_0 : List UInt8) => octet_Put r9_0 x1 fun (r12_0 : List UInt8) => sealskinref02_Put x0 x1 fun (r15_0 : List UInt8) => bytes_Equal r12_0 r15_0 fun (r17_0 : Bool) => Jn0 (((r17_0 = true) → (bytes_Equal r9_0 x0 fun (r34_0 : Bool) => ((r34_0 = true) → (sealskinlaw02_awake  fun (r36_0 : Bool) => Q r36_0)) ∧ ((r34_0 = false) → (Q false)))) ∧ ((r17_0 = false) → (Q false))) fun J19_ => Lp2 (fun (x6_21 : List UInt8) (x30_21 : Int) next21_ => ((x30_21 < (r12_0.length : Int)) → (∃ x27_, At x6_21 x30_21 x27_ ∧ ∃ x28_, At x6_21 x30_21 x28_ ∧ Ck (x30_21 + 1) ∧ next21_ (put x6_21 x30_21 (x27_ ^^^ (255 : UInt8))) (x30_21 + 1))) ∧ (¬ (x30_21 < (r12_0.length : Int)) → (J19_))) r12_0 0))) fun J3_ => (((x0.length : Int) > 32768) → (J3_ true)) ∧ (¬ ((x0.length : Int) > 32768) → (J3_ (decide ((x1.length : Int) > 1000))))
end Go.Lx
