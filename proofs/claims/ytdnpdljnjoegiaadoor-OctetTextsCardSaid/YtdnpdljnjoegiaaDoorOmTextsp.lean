/- The pure texts of some functions. -/
import Derived.Test.YtdnpdljnjoegiaaDoorOtVp
import Derived.Test.YtdnpdljnjoegiaaDoorOtEp
set_option linter.unusedVariables false
set_option linter.unusedSimpArgs false
namespace Go.Lx
set_option linter.unusedVariables false
def sealskinlaw02_OctetTexts (x0 : List UInt8) (x1 : Int) (Q : Bool → Prop) : Prop :=
(((x0.length : Int) > 32768) → (sealskinlaw02_awake  fun (r6_0 : Bool) => Q r6_0)) ∧ (¬ ((x0.length : Int) > 32768) → (octet_PutBytes [] x0 fun (r9_0 : List UInt8) => octet_Read r9_0 fun (r11_0 : octet_Reader) => octet_Reader_Text r11_0 x1 fun (r14_0 : Str) (y14_0 : octet_Reader) => octet_Reader_Err y14_0 fun (r17_0 : Int) => ((r17_0 = 0) → (((r14_0.b = (Str.mk x0).b) → (utf8_ValidString r14_0 fun (r22_0 : Bool) => ((r22_0 = true) → (utf8_RuneCountInString r14_0 fun (r24_0 : Int) => ((r24_0 ≤ (max x1 0)) → (sealskinlaw02_awake  fun (r26_0 : Bool) => Q r26_0)) ∧ (¬ (r24_0 ≤ (max x1 0)) → (Q false)))) ∧ ((r22_0 = false) → (Q false)))) ∧ (¬ (r14_0.b = (Str.mk x0).b) → (Q false)))) ∧ (¬ (r17_0 = 0) → (((r14_0.b = (Str.mk []).b) → (utf8_Valid x0 fun (r33_0 : Bool) => (((!r33_0) = true) → (sealskinlaw02_awake  fun (r35_0 : Bool) => Q r35_0)) ∧ (((!r33_0) = false) → (utf8_RuneCount x0 fun (r37_0 : Int) => ((r37_0 > (max x1 0)) → (sealskinlaw02_awake  fun (r39_0 : Bool) => Q r39_0)) ∧ (¬ (r37_0 > (max x1 0)) → ((((x0.length : Int) > 65536) → (sealskinlaw02_awake  fun (r42_0 : Bool) => Q r42_0)) ∧ (¬ ((x0.length : Int) > 65536) → (Q false)))))))) ∧ (¬ (r14_0.b = (Str.mk []).b) → (Q false))))))
end Go.Lx
