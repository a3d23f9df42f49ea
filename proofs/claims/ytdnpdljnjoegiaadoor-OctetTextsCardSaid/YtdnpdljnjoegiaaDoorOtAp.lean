/- The pure texts of some functions. -/
import Derived.Test.YtdnpdljnjoegiaaDoorOup
set_option linter.unusedVariables false
set_option linter.unusedSimpArgs false
namespace Go.Lx
set_option linter.unusedVariables false
def octet_Put (x0 : List UInt8) (x1 : List Int) (Q : (List UInt8) → Prop) : Prop :=
Ck (8 * (x1.length : Int)) ∧ Ck ((x0.length : Int) + (8 * (x1.length : Int))) ∧ 0 ≤ ((x0.length : Int) + (8 * (x1.length : Int))) ∧ Rm 1 ((x0.length : Int) + (8 * (x1.length : Int))).toNat ∧ Rm 1 (([] : List UInt8).length + x0.length) ∧ Jn1 (fun (x5_11 : List UInt8) => Q x5_11) fun J11_ => Lp2 (fun (x5_13 : List UInt8) (x20_13 : Int) next13_ => ((x20_13 < (x1.length : Int)) → (Jn1 (fun (x5_17 : List UInt8) => Ck (x20_13 + 1) ∧ next13_ x5_17 (x20_13 + 1)) fun J17_ => ∃ x19_, At x1 x20_13 x19_ ∧ Lp2 (fun (x5_21 : List UInt8) (x8_21 : Int) next21_ => ((x8_21 ≥ 0) → (Ck (8 * x8_21) ∧ 0 ≤ (8 * x8_21) ∧ Rm 1 (x5_21.length + ([(UInt8.ofBitVec (BitVec.ofInt 8 (shrI (max x19_ 0) (8 * x8_21))))] : List UInt8).length) ∧ Ck (x8_21 - 1) ∧ next21_ (x5_21 ++ ([(UInt8.ofBitVec (BitVec.ofInt 8 (shrI (max x19_ 0) (8 * x8_21))))] : List UInt8)) (x8_21 - 1))) ∧ (¬ (x8_21 ≥ 0) → (J17_ x5_21))) x5_13 7)) ∧ (¬ (x20_13 < (x1.length : Int)) → (J11_ x5_13))) (([] : List UInt8) ++ x0) 0

def octet_Sum (x0 : List UInt8) (Q : (BitVec 32) → Prop) : Prop :=
Jn1 (fun (x3_3 : BitVec 32) => Q x3_3) fun J3_ => Lp2 (fun (x3_5 : BitVec 32) (x9_5 : Int) next5_ => ((x9_5 < (x0.length : Int)) → (Jn1 (fun (x3_9 : BitVec 32) => Ck (x9_5 + 1) ∧ next5_ x3_9 (x9_5 + 1)) fun J9_ => ∃ x11_, At x0 x9_5 x11_ ∧ Lp2 (fun (x3_15 : BitVec 32) (x18_15 : Int) next15_ => ((x18_15 < 8) → (Ck (x18_15 + 1) ∧ next15_ ((x3_15 <<< (1 : Nat)) ^^^ ((x3_15 >>> (31 : Nat)) * (2168537515#32))) (x18_15 + 1))) ∧ (¬ (x18_15 < 8) → (J9_ x3_15))) (x3_5 ^^^ ((x11_.toBitVec.setWidth 32) <<< (24 : Nat))) 0)) ∧ (¬ (x9_5 < (x0.length : Int)) → (J3_ x3_5))) (4294967295#32) 0

def octet_PutBytes (x0 : List UInt8) (x1 : List UInt8) (Q : (List UInt8) → Prop) : Prop :=
octet_Put x0 ([(x1.length : Int)] : List Int) fun (r4_0 : List UInt8) => Rm 1 (r4_0.length + x1.length) ∧ Q (r4_0 ++ x1)

def octet_PutText (x0 : List UInt8) (x1 : Str) (Q : (List UInt8) → Prop) : Prop :=
octet_PutBytes x0 x1.b fun (r4_0 : List UInt8) => Q r4_0

def octet_Seal (x0 : List UInt8) (Q : (List UInt8) → Int → Prop) : Prop :=
(((x0.length : Int) > 16384) → (Q [] 4)) ∧ (¬ ((x0.length : Int) > 16384) → (octet_PutBytes [] x0 fun (r7_0 : List UInt8) => octet_Sum r7_0 fun (r10_0 : BitVec 32) => Rm 1 (r7_0.length + ([(UInt8.ofBitVec ((r10_0 >>> (24 : Nat)).setWidth 8)), (UInt8.ofBitVec ((r10_0 >>> (16 : Nat)).setWidth 8)), (UInt8.ofBitVec ((r10_0 >>> (8 : Nat)).setWidth 8)), (UInt8.ofBitVec (r10_0.setWidth 8))] : List UInt8).length) ∧ Q (r7_0 ++ ([(UInt8.ofBitVec ((r10_0 >>> (24 : Nat)).setWidth 8)), (UInt8.ofBitVec ((r10_0 >>> (16 : Nat)).setWidth 8)), (UInt8.ofBitVec ((r10_0 >>> (8 : Nat)).setWidth 8)), (UInt8.ofBitVec (r10_0.setWidth 8))] : List UInt8)) 0))
end Go.Lx
