/- The pure texts of some functions. -/
import Derived.Test.YtdnpdljnjoegiaaDoorOtBp
set_option linter.unusedVariables false
set_option linter.unusedSimpArgs false
namespace Go.Lx
set_option linter.unusedVariables false
def octet_Reader_Text (x0 : octet_Reader) (x1 : Int) (Q : Str → octet_Reader → Prop) : Prop :=
Jn1 (fun (x16_3 : Bool) => ((x16_3 = true) → (Q (Str.mk []) x0)) ∧ ((x16_3 = false) → (Ck (4 * (min (max x1 0) 16384)) ∧ octet_Reader_Bytes x0 (4 * (min (max x1 0) 16384)) fun (r12_0 : List UInt8) (y12_0 : octet_Reader) => Jn1 (fun (yd0_15 : octet_Reader) => ((yd0_15.source_.err_ ≠ 0) → (Q (Str.mk []) yd0_15)) ∧ (¬ (yd0_15.source_.err_ ≠ 0) → (Q (Str.mk r12_0) yd0_15))) fun J15_ => ((y12_0.source_.err_ ≠ 0) → (Q (Str.mk []) y12_0)) ∧ (¬ (y12_0.source_.err_ ≠ 0) → (utf8_ValidString (Str.mk r12_0) fun (r21_0 : Bool) => (((!r21_0) = true) → (J15_ (octet_Reader.mk (octet_source.mk y12_0.source_.b_ x0.source_.at_ 21 y12_0.source_.made_)))) ∧ (((!r21_0) = false) → (utf8_RuneCountInString (Str.mk r12_0) fun (r26_0 : Int) => ((r26_0 > (max x1 0)) → (J15_ (octet_Reader.mk (octet_source.mk y12_0.source_.b_ x0.source_.at_ 4 y12_0.source_.made_)))) ∧ (¬ (r26_0 > (max x1 0)) → (J15_ y12_0))))))))) fun J3_ => octet_Reader_dead x0 fun (r4_0 : Bool) => ((r4_0 = true) → (J3_ true)) ∧ ((r4_0 = false) → (J3_ (decide (x0.source_.err_ ≠ 0))))

def octet_Open (x0 : List UInt8) (Q : (List UInt8) → Int → Int → Prop) : Prop :=
octet_Read x0 fun (r3_0 : octet_Reader) => octet_Reader_Bytes r3_0 16384 fun (r5_0 : List UInt8) (y5_0 : octet_Reader) => octet_Reader_Err y5_0 fun (r9_0 : Int) => ((r9_0 ≠ 0) → (octet_Reader_Err y5_0 fun (r12_0 : Int) => Q [] 0 r12_0)) ∧ (¬ (r9_0 ≠ 0) → (octet_Reader_Left y5_0 fun (r15_0 : Int) => Ck ((x0.length : Int) - r15_0) ∧ octet_source_take y5_0.source_ 4 fun (r19_0 : List UInt8) (y19_0 : octet_source) => (((r19_0.length : Int) < 4) → (Q [] 0 2)) ∧ (¬ ((r19_0.length : Int) < 4) → (0 ≤ ((x0.length : Int) - r15_0) ∧ ((x0.length : Int) - r15_0) ≤ (x0.length : Int) ∧ octet_Sum (cut x0 0 ((x0.length : Int) - r15_0)) fun (r30_0 : BitVec 32) => Jn1 (fun (x67_32 : Bool) => ((x67_32 = true) → (Q [] 0 20)) ∧ ((x67_32 = false) → (Ck (((x0.length : Int) - r15_0) + 4) ∧ Q r5_0 (((x0.length : Int) - r15_0) + 4) 0))) fun J32_ => ∃ x33_, At r19_0 0 x33_ ∧ ((((UInt8.ofBitVec ((r30_0 >>> (24 : Nat)).setWidth 8)).toNat : Int) ≠ (x33_.toNat : Int)) → (J32_ true)) ∧ (¬ (((UInt8.ofBitVec ((r30_0 >>> (24 : Nat)).setWidth 8)).toNat : Int) ≠ (x33_.toNat : Int)) → (∃ x35_, At r19_0 1 x35_ ∧ ((((UInt8.ofBitVec ((r30_0 >>> (16 : Nat)).setWidth 8)).toNat : Int) ≠ (x35_.toNat : Int)) → (J32_ true)) ∧ (¬ (((UInt8.ofBitVec ((r30_0 >>> (16 : Nat)).setWidth 8)).toNat : Int) ≠ (x35_.toNat : Int)) → (∃ x37_, At r19_0 2 x37_ ∧ ((((UInt8.ofBitVec ((r30_0 >>> (8 : Nat)).setWidth 8)).toNat : Int) ≠ (x37_.toNat : Int)) → (J32_ true)) ∧ (¬ (((UInt8.ofBitVec ((r30_0 >>> (8 : Nat)).setWidth 8)).toNat : Int) ≠ (x37_.toNat : Int)) → (∃ x39_, At r19_0 3 x39_ ∧ J32_ (decide (((UInt8.ofBitVec (r30_0.setWidth 8)).toNat : Int) ≠ (x39_.toNat : Int)))))))))))))

def octet_All (x0 : List UInt8) (Q : (List (List UInt8)) → Int → Prop) : Prop :=
Lp2 (fun (x4_4 : List (List UInt8)) (x5_4 : Int) next4_ => 0 ≤ x5_4 ∧ x5_4 ≤ (x0.length : Int) ∧ octet_Open (cut x0 x5_4 (x0.length : Int)) fun (r9_0 : List UInt8) (r9_1 : Int) (r9_2 : Int) => ((r9_2 ≠ 0) → (Q x4_4 x5_4)) ∧ (¬ (r9_2 ≠ 0) → (Rm 24 (x4_4.length + ([r9_0] : List (List UInt8)).length) ∧ Ck (x5_4 + r9_1) ∧ next4_ (x4_4 ++ ([r9_0] : List (List UInt8))) (x5_4 + r9_1)))) [] 0

def bytes_Equal (x0 : List UInt8) (x1 : List UInt8) (Q : Bool → Prop) : Prop :=
Q (decide ((Str.mk x0).b = (Str.mk x1).b))

def bytes_HasPrefix (x0 : List UInt8) (x1 : List UInt8) (Q : Bool → Prop) : Prop :=
(((x0.length : Int) ≥ (x1.length : Int)) → (0 ≤ (x1.length : Int) ∧ (x1.length : Int) ≤ (x0.length : Int) ∧ bytes_Equal (cut x0 0 (x1.length : Int)) x1 fun (r7_0 : Bool) => Q r7_0)) ∧ (¬ ((x0.length : Int) ≥ (x1.length : Int)) → (Q false))

def slices_Clone_sl_byte_byte (x0 : List UInt8) (Q : (List UInt8) → Prop) : Prop :=
∀ (b4_ : Bool), (b4_ = true → x0 = []) → ((b4_ = true) → (Q [])) ∧ ((b4_ = false) → (Rm 1 (([] : List UInt8).length + x0.length) ∧ Q (([] : List UInt8) ++ x0)))
end Go.Lx
