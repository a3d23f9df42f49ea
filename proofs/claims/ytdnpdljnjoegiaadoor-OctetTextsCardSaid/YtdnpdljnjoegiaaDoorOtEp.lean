/- The pure texts of some functions. -/
import Derived.Test.YtdnpdljnjoegiaaDoorOtCp
set_option linter.unusedVariables false
set_option linter.unusedSimpArgs false
namespace Go.Lx
set_option linter.unusedVariables false
def sealskinlaw02_awake  (Q : Bool → Prop) : Prop :=
octet_Seal ([(97 : UInt8)] : List UInt8) fun (r5_0 : List UInt8) (r5_1 : Int) => octet_Open r5_0 fun (r9_0 : List UInt8) (r9_1 : Int) (r9_2 : Int) => octet_Put [] ([300] : List Int) fun (r14_0 : List UInt8) => octet_PutText r14_0 (Str.mk [195, 169]) fun (r16_0 : List UInt8) => octet_Read r16_0 fun (r18_0 : octet_Reader) => octet_Put [] ([300] : List Int) fun (r21_0 : List UInt8) => bytes_Equal r21_0 ([(0 : UInt8), (0 : UInt8), (0 : UInt8), (0 : UInt8), (0 : UInt8), (0 : UInt8), (1 : UInt8), (44 : UInt8)] : List UInt8) fun (r24_0 : Bool) => ((r24_0 = true) → (octet_Sum [] fun (r26_0 : BitVec 32) => (((r26_0.toNat : Int) = 4294967295) → (((r5_1 = 0) → ((((r5_0.length : Int) = 13) → ((((Str.mk r9_0).b = (Str.mk [97]).b) → (((r9_1 = 13) → (((r9_2 = 0) → (octet_Reader_Number r18_0 fun (r33_0 : Int) (y33_0 : octet_Reader) => ((r33_0 = 300) → (octet_Reader_Text y33_0 1 fun (r35_0 : Str) (y35_0 : octet_Reader) => ((r35_0.b = (Str.mk [195, 169]).b) → (octet_Reader_End y35_0 fun (r37_0 : Int) => Q (decide (r37_0 = 0)))) ∧ (¬ (r35_0.b = (Str.mk [195, 169]).b) → (Q false)))) ∧ (¬ (r33_0 = 300) → (Q false)))) ∧ (¬ (r9_2 = 0) → (Q false)))) ∧ (¬ (r9_1 = 13) → (Q false)))) ∧ (¬ ((Str.mk r9_0).b = (Str.mk [97]).b) → (Q false)))) ∧ (¬ ((r5_0.length : Int) = 13) → (Q false)))) ∧ (¬ (r5_1 = 0) → (Q false)))) ∧ (¬ ((r26_0.toNat : Int) = 4294967295) → (Q false)))) ∧ ((r24_0 = false) → (Q false))

def slices_EqualFunc_bytes (x0 : List (List UInt8)) (x1 : List (List UInt8)) (Q : Bool → Prop) : Prop :=
(((x0.length : Int) ≠ (x1.length : Int)) → (Q false)) ∧ (¬ ((x0.length : Int) ≠ (x1.length : Int)) → (Jn0 (Q true) fun J8_ => Lp1 (fun (x17_10 : Int) next10_ => ((x17_10 < (x0.length : Int)) → (∃ x16_, At x0 x17_10 x16_ ∧ ∃ x18_, At x1 x17_10 x18_ ∧ bytes_Equal x16_ x18_ fun (r21_0 : Bool) => (((!r21_0) = true) → (Q false)) ∧ (((!r21_0) = false) → (Ck (x17_10 + 1) ∧ next10_ (x17_10 + 1))))) ∧ (¬ (x17_10 < (x0.length : Int)) → (J8_))) 0))
end Go.Lx
